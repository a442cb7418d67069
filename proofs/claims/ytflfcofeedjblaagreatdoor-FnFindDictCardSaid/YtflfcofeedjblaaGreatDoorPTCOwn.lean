/- A part of the proof of a statement of this seat: see the text that holds the theorem. No condition. -/
import Derived.Test.YtflfcofeedjblaaGreatDoorNm
set_option linter.unusedVariables false
set_option linter.unusedSimpArgs false
set_option linter.all false
set_option maxRecDepth 100000
set_option maxHeartbeats 4000000
set_option linter.unusedVariables false
namespace Go.Sim
open Go Go.RowKit
namespace Zip
noncomputable abbrev fn:Func:=Go.Proofs.Tryz.f40
def kp:Zco:=[(2000004,[4,6,0,2,3]),(2000005,[2,3]),(4000006,[0,5,4,2,3]),(4000008,[4,5,2,3]),(2000008,[2,3])]
noncomputable def C (p:List Nat):Code:=(cod fn).sub p
def KR (Q:QT):KT:=Zfd pg fn.results.toList Q
def J6 (Q:QT) (a0:Pt) (i5 o5 i4 o4 i2 o2 i3 o3:Nat) (h:Zaa):Prop:=Den pg fn.ntmps (C [1,1,1,1]) [(0,.ptr a0),(5,.ptr (i5,o5)),(4,.ptr (i4,o4)),(2,.ptr (i2,o2)),(3,.ptr (i3,o3))] h (KR Q)
def J8 (Q:QT) (i4 o4 i5 o5 i2 o2 i3 o3:Nat) (h:Zaa):Prop:=Den pg fn.ntmps (C [1,1,1,1,1]) [(4,.ptr (i4,o4)),(5,.ptr (i5,o5)),(2,.ptr (i2,o2)),(3,.ptr (i3,o3))] h (KR Q)
theorem J6i (Q:QT) (a0:Pt) (i5 o5 i4 o4 i2 o2 i3 o3:Nat) (h:Zaa) (ht :
 Zaj pg Zbe [.ptr a0,.int .i64 20] h fun A B=>
 Zdt .i64 A fun A=>bcase ((A:Int) == 0) (Zaj pg Zrn [.ptr a0] B fun A C=>
 Zbc A fun A=>Zbn (Zaz C (.ptr (i5,o5 + 1)) [.str A]) fun A=>J8 Q i4 o4 i5 o5 i2 o2 i3 o3 A) (J8 Q i4 o4 i5 o5 i2 o2 i3 o3 B)):J6 Q a0 i5 o5 i4 o4 i2 o2 i3 o3 h:=
 Zbf (kp:=kp) (cast (by kernel_rfl) ht)
theorem J8i (Q:QT) (i4 o4 i5 o5 i2 o2 i3 o3:Nat) (h:Zaa) (ht :
 Zcn (Zbj h (.ptr (i4,o4)) 2) fun A=>Zai A fun A B=>xSl A fun A C D E=>Zai B fun B F=>xSl B fun B G H I=>Zbu F (Zcn (Zbj h (.ptr (i5,o5)) 2) fun F=>Zai F fun F J=>Zbc F fun F=>Zai J fun J K=>Zbc J fun J=>Zbu K (Zbn (Zaz h (.ptr (i2,o2)) [.slice A C D E,.slice B G H I]) fun A=>(Zbj A (.ptr (i5,o5)) 2=Zbj h (.ptr (i5,o5)) 2)∧Zbn (Zaz A (.ptr (i3,o3)) [.str F,.str J]) fun A=>Zcn (Zbj A (.ptr (i2,o2)) 2) fun B=>Zai B fun B C=>xSl B fun B D E F=>Zai C fun C G=>xSl C fun C H I J=>Zbu G (Zcn (Zbj A (.ptr (i3,o3)) 2) fun G=>Zai G fun G K=>Zbc G fun G=>Zai K fun K L=>Zbc K fun K=>Zbu L (Q (.tup [.agg [.slice B D E F,.slice C H I J],.agg [.str G,.str K]]) A))))):J8 Q i4 o4 i5 o5 i2 o2 i3 o3 h:=
 Zbf (kp:=kp) (cast (by kernel_rfl) ht)
theorem call (a0:Pt) (h:Zaa) (Q:QT) (ht :
 Zch (h ++ [.cells Zad [.slice none 0 0 true,.slice none 0 0 true] false]) fun A=>Zch (A ++ [.cells Zab [.str [],.str []] false]) fun B=>Zaj pg Zqj [.ptr a0] B fun B C=>
 Zob B fun B=>Zai B fun B D=>xSl B fun B E F G=>Zai D fun D H=>xSl D fun D I J K=>Zbu H (Zch (C ++ [.cells Zad [.slice none 0 0 true,.slice none 0 0 true] false]) fun H=>Zbn (Zaz H (.ptr (C.length,0)) [.slice B E F G,.slice D I J K]) fun B=>Zcn (Zbj B (.ptr (C.length,0)) 2) fun D=>Zai D fun D E=>xSl D fun D F G H=>Zai E fun E I=>xSl E fun E J K L=>Zbu I (Zaj pg Zns [.ptr a0,.agg [.slice D F G H,.slice E J K L]] B fun B D=>
 Zbc B fun B=>Zaj pg Zbe [.ptr a0,.int .i64 4] D fun D E=>
 Zdt .i64 D fun D=>Zaj pg Zbe [.ptr a0,.int .i64 4] E fun E F=>
 Zdt .i64 E fun E=>Zaj pg Zeu [.ptr a0,.int .i64 D,.bool (decide ((E:Int) > 0))] F fun D E=>
 Zbc D fun D=>Zch (E ++ [.cells Zab [.str [],.str []] false]) fun F=>Zbn (Zaz F (.ptr (E.length,0)) [.str B,.str D]) fun B=>xSl (Zae B (.ptr (C.length,0 + 1))) fun D D F F=>bcase (decide (((((D:Nat):Int)):Int) > 0)) (Zaj pg Zbe [.ptr a0,.int .i64 2] B fun D F=>
 Zdt .i64 D fun D=>bcase ((D:Int) == 0) (xSl (Zae F (.ptr (C.length,0 + 1))) fun D G H H=>xSl (Zae F (.ptr (C.length,0 + 1))) fun H H I I=>(Zaj pg Zbe [.ptr a0,.int .i64 (((H:Nat):Int))] F fun I J=>
 Zdt .i64 I fun I=>(Zae J (.ptr (C.length,0 + 1))=Zae F (.ptr (C.length,0 + 1)))∧(Zae J (.ptr (C.length,0 + 1))=Zae F (.ptr (C.length,0 + 1)))∧(0≤(I:Int)∧(I:Int) < (G:Nat))∧(Zbg D fun K L=>Zcn (Zbj J (.ptr (K,L + (Int.toNat I) * 3)) 3) fun M=>Zai M fun M N=>Zbc M fun M=>Zai N fun N O=>Zbc N fun N=>Zai O fun O P=>xSl O fun O R S T=>Zbu P (Zch (J ++ [.cells Zac [.str [],.str [],.slice none 0 0 true] false]) fun P=>(Zbj P (.ptr (K,L + (Int.toNat I) * 3)) 3=Zbj J (.ptr (K,L + (Int.toNat I) * 3)) 3)∧(Zae P (.ptr (C.length,0 + 1))=Zae J (.ptr (C.length,0 + 1)))∧(Zae P (.ptr (C.length,0 + 1))=Zae J (.ptr (C.length,0 + 1)))∧Zbn (Zaz P (.ptr (J.length,0)) [.str M,.str N,.slice O R S T]) fun I=>Zcn (Zbj I (.ptr (C.length,0)) 2) fun K=>Zai K fun K L=>xSl K fun K M N O=>Zai L fun L P=>xSl L fun L R S T=>Zbu P (Zbc (Zae I (.ptr (J.length,0 + 0 + 0))) fun P=>Zbc (Zae I (.ptr (J.length,0 + 0 + 1))) fun U=>(Zae I (.ptr (J.length,0 + 0 + 0))=Zae I (.ptr (J.length,0 + 0 + 0)))∧(Zbj I (.ptr (C.length,0)) 2=Zbj I (.ptr (C.length,0)) 2)∧Zaj pg Zld [.ptr a0,.str U] I fun U V=>
 Zbc U fun U=>(Zae V (.ptr (J.length,0 + 0 + 0))=Zae I (.ptr (J.length,0 + 0 + 0)))∧(Zbj V (.ptr (C.length,0)) 2=Zbj I (.ptr (C.length,0)) 2)∧Zbn (Zaz V (.ptr (h.length,0)) [.slice K M N O,.slice L R S T]) fun I=>(Zae I (.ptr (J.length,0 + 0 + 0))=Zae V (.ptr (J.length,0 + 0 + 0)))∧Zbn (Zaz I (.ptr (A.length,0)) [.str P,.str U]) fun I=>Zcn (Zbj I (.ptr (h.length,0)) 2) fun J=>Zai J fun J K=>xSl J fun J L M N=>Zai K fun K O=>xSl K fun K P R S=>Zbu O (Zcn (Zbj I (.ptr (A.length,0)) 2) fun O=>Zai O fun O T=>Zbc O fun O=>Zai T fun T U=>Zbc T fun T=>Zbu U (Q (.tup [.agg [.slice J L M N,.slice K P R S],.agg [.str O,.str T]]) I))))))∧(Zch (F ++ [.cells Zac [.str [],.str [],.slice none 0 0 true] false]) fun I=>(Zae I (.ptr (C.length,0 + 1))=Zae F (.ptr (C.length,0 + 1)))∧(Zae I (.ptr (C.length,0 + 1))=Zae F (.ptr (C.length,0 + 1)))∧Zaj pg Zbe [.ptr a0,.int .i64 (((H:Nat):Int))] I fun H J=>
 Zdt .i64 H fun H=>(Zae J (.ptr (C.length,0 + 1))=Zae I (.ptr (C.length,0 + 1)))∧(Zae J (.ptr (C.length,0 + 1))=Zae I (.ptr (C.length,0 + 1)))∧(0≤(H:Int)∧(H:Int) < (G:Nat))∧(Zbg D fun D G=>Zcn (Zbj J (.ptr (D,G + (Int.toNat H) * 3)) 3) fun D=>Zai D fun D G=>Zbc D fun D=>Zai G fun G H=>Zbc G fun G=>Zai H fun H I=>xSl H fun H K L M=>Zbu I ((Zae J (.ptr (C.length,0 + 1))=Zae J (.ptr (C.length,0 + 1)))∧(Zae J (.ptr (C.length,0 + 1))=Zae J (.ptr (C.length,0 + 1)))∧Zbn (Zaz J (.ptr (F.length,0)) [.str D,.str G,.slice H K L M]) fun D=>Zcn (Zbj D (.ptr (C.length,0)) 2) fun G=>Zai G fun G H=>xSl G fun G I J K=>Zai H fun H L=>xSl H fun H M N O=>Zbu L (Zbc (Zae D (.ptr (F.length,0 + 0 + 0))) fun L=>Zbc (Zae D (.ptr (F.length,0 + 0 + 1))) fun P=>(Zae D (.ptr (F.length,0 + 0 + 0))=Zae D (.ptr (F.length,0 + 0 + 0)))∧(Zbj D (.ptr (C.length,0)) 2=Zbj D (.ptr (C.length,0)) 2)∧Zaj pg Zld [.ptr a0,.str P] D fun P R=>
 Zbc P fun P=>(Zae R (.ptr (F.length,0 + 0 + 0))=Zae D (.ptr (F.length,0 + 0 + 0)))∧(Zbj R (.ptr (C.length,0)) 2=Zbj D (.ptr (C.length,0)) 2)∧Zbn (Zaz R (.ptr (h.length,0)) [.slice G I J K,.slice H M N O]) fun D=>(Zae D (.ptr (F.length,0 + 0 + 0))=Zae R (.ptr (F.length,0 + 0 + 0)))∧Zbn (Zaz D (.ptr (A.length,0)) [.str L,.str P]) fun D=>Zcn (Zbj D (.ptr (h.length,0)) 2) fun G=>Zai G fun G H=>xSl G fun G I J K=>Zai H fun H L=>xSl H fun H M N O=>Zbu L (Zcn (Zbj D (.ptr (A.length,0)) 2) fun L=>Zai L fun L P=>Zbc L fun L=>Zai P fun P R=>Zbc P fun P=>Zbu R (Q (.tup [.agg [.slice G I J K,.slice H M N O],.agg [.str L,.str P]]) D))))))) (J6 Q a0 E.length 0 C.length 0 h.length 0 A.length 0 F)) (J6 Q a0 E.length 0 C.length 0 h.length 0 A.length 0 B)))):Zaj pg Zkn [.ptr a0] h Q:=
 Zaj.of_body kp (c:=cod fn) (fn:=fn) Go.Proofs.Tryz.func40 (by kernel_rfl) (by kernel_rfl) (Nat.le_of_ble_eq_true (by kernel_rfl))
  (cast (by kernel_rfl) ht)
end Zip
end Go.Sim

set_option maxRecDepth 100000
set_option maxHeartbeats 4000000
set_option linter.unusedVariables false
namespace Go.Sim
open Go Go.RowKit
namespace Zij
noncomputable abbrev fn:Func:=Go.Proofs.Tryz.f82
def kp:Zco:=[(3000008,[3,4]),(1000008,[3,4,50]),(4000011,[3,4])]
noncomputable def C (p:List Nat):Code:=(cod fn).sub p
def KR (Q:QT):KT:=Zfd pg fn.results.toList Q
abbrev T8:=Nat→Nat→Nat→Nat→Int→Zaa→Prop
def E8 (R8:T8) (env:Env) (h:Zaa):Prop:=Zce 3 env fun v env=>Zgm v fun a=>Zbg a fun i3 o3=>Zce 4 env fun v env=>Zgm v fun a=>Zbg a fun i4 o4=>Zce 50 env fun v env=>Zew .i64 v fun x50=>Zls env (R8 i3 o3 i4 o4 x50 h)
theorem Yrq {R8:T8} {env:Env} {h:Zaa} (hi:E8 R8 env h):∃ i3,∃ o3,∃ i4,∃ o4,∃ x50,env=[(3,.ptr (i3,o3)),(4,.ptr (i4,o4)),(50,.int .i64 x50)]∧R8 i3 o3 i4 o4 x50 h:=by
 unfold E8 at hi
 have hi0:=hi
 clear hi
 obtain ⟨_,_,rfl,hi1⟩:=Zan hi0
 obtain ⟨a,rfl,hi2⟩:=Zbv hi1
 obtain ⟨i3,o3,rfl,hi3⟩:=Zbr hi2
 obtain ⟨_,_,rfl,hi4⟩:=Zan hi3
 obtain ⟨a,rfl,hi5⟩:=Zbv hi4
 obtain ⟨i4,o4,rfl,hi6⟩:=Zbr hi5
 obtain ⟨_,_,rfl,hi7⟩:=Zan hi6
 obtain ⟨x50,rfl,hi8⟩:=Zay hi7
 obtain ⟨rfl,hi9⟩:=Zbw hi8
 have hi:=hi9
 exact ⟨i3,o3,i4,o4,x50,rfl,hi⟩
def K0 (Q:QT):KT:=andThen (fun env' h'=>(match kp.find 4000011 with | some ks=>Den pg fn.ntmps (C [1,1]) (env'.keep ks) h' (KR Q) | none=>den pg fn.ntmps kp (C [1,1]) env' h' (KR Q))) (KR Q)
def K1 (Q:QT):KT:=Zde 0 (K0 Q)
def K2 (Q:QT):KT:=Zde 1 (K1 Q)
def K3 (Q:QT):KT:=left kp 8 (K2 Q)
def K4 (Q:QT) (R8:T8):KT:=rnd ((kp.find 1000008).getD []) (E8 R8) (K3 Q)
def J11 (Q:QT) (i3 o3 i4 o4:Nat) (h:Zaa):Prop:=Den pg fn.ntmps (C [1,1]) [(3,.ptr (i3,o3)),(4,.ptr (i4,o4))] h (KR Q)
def L8 (Q:QT) (i3 o3 i4 o4:Nat) (x50:Int) (h:Zaa):Prop:=Zff (Den pg fn.ntmps (C [1,0,1,0,1,1,1,1,1,0,1,0,0])) ((kp.find 1000008).getD []) (K3 Q) [(3,.ptr (i3,o3)),(4,.ptr (i4,o4)),(50,.int .i64 x50)] h
def Ywc (Q:QT) (i3 o3 i4 o4:Nat) (h:Zaa):Prop:=At (K2 Q) (.exit 1) [(3,.ptr (i3,o3)),(4,.ptr (i4,o4))] h
theorem J11i (Q:QT) (i3 o3 i4 o4:Nat) (h:Zaa) (ht :
 Zcn (Zbj h (.ptr (i3,o3)) 2) fun A=>Zai A fun A B=>xSl A fun A C D E=>Zai B fun B F=>xSl B fun B G H I=>Zbu F (Zbn (Zaz h (.ptr (i4,o4)) [.slice A C D E,.slice B G H I]) fun A=>Zcn (Zbj A (.ptr (i4,o4)) 2) fun B=>Zai B fun B C=>xSl B fun B D E F=>Zai C fun C G=>xSl C fun C H I J=>Zbu G (Q (.agg [.slice B D E F,.slice C H I J]) A))):J11 Q i3 o3 i4 o4 h:=
 Zbf (kp:=kp) (cast (by kernel_rfl) ht)
def L8t (Q:QT) (R8:T8) (i3 o3 i4 o4:Nat) (x50:Int) (h:Zaa):Prop:=
 bcase (decide ((x50:Int) < 10)) (Zch (h ++ [.cells Zac [] false]) fun A=>xSl (Zae A (.ptr (i3,o3 + 1))) fun B C D E=>Zcf pg Zet A (.slice (h.length,0) 0 0 true) (.slice B C D E) fun A B=>xSl A fun A C D E=>Zch (B ++ [.cells Zab [] false]) fun F=>Zch (F ++ [.cells Zac [.str [69],.str [105],.slice (B.length,0) 0 0 true] false]) fun B=>Zcf pg Zet B (.slice A C D E) (.slice (F.length,0) 1 1 true) fun A B=>xSl A fun A C D E=>Zbn (Zaz B (.ptr (i3,o3 + 1)) [.slice A C D E]) fun A=>R8 i3 o3 i4 o4 (IntKind.wrap .i64 (x50 + 1)) A) (Ywc Q i3 o3 i4 o4 h)
theorem Yvo (Q:QT) (R8:T8) (i3 o3 i4 o4:Nat) (x50:Int) (h:Zaa) (ht:L8t Q R8 i3 o3 i4 o4 x50 h):Den pg fn.ntmps (C [1,0,1,0,1,1,1,1,1,0,1,0,0]) [(3,.ptr (i3,o3)),(4,.ptr (i4,o4)),(50,.int .i64 x50)] h (K4 Q R8):=
 Zbf (kp:=kp) (cast (by kernel_rfl) ht)
theorem L8ind (Q:QT) (i3 o3 i4 o4:Nat) {G:Type} (J:G→Int→Zaa→Prop) (m:G→Nat)
 (hr:∀ (g:G) (x50:Int) (h:Zaa),J g x50 h→∀ (R8:T8),(∀ g' (x50:Int) (h:Zaa),m g' < m g→J g' x50 h→R8 i3 o3 i4 o4 x50 h)→L8t Q R8 i3 o3 i4 o4 x50 h)
 (g:G) (x50:Int) (h:Zaa) (hj:J g x50 h):L8 Q i3 o3 i4 o4 x50 h:=by
 let P:=fun (K:Int→Zaa→Prop) i3' o3' i4' o4' x50 h=>i3=i3'∧o3=o3'∧i4=i4'∧o4=o4'∧K x50 h
 refine Zff.inv2 (fun g=>E8 (P (J g))) (fun g=>E8 (P fun x50 h=>∃ g',m g' < m g∧J g' x50 h)) m ?_ ?_ g ⟨rfl,rfl,rfl,rfl,hj⟩
 ·intro g env h hi
  obtain ⟨i3',o3',i4',o4',x50,rfl,rfl,rfl,rfl,rfl,hj⟩:=Yrq hi
  exact Yvo Q _ i3 o3 i4 o4 x50 h (hr g x50 h hj (P fun x50 h=>∃ g',m g' < m g∧J g' x50 h) fun g' x50 h hlt hj=>⟨rfl,rfl,rfl,rfl,g',hlt,hj⟩)
 ·intro g env h hi
  obtain ⟨i3',o3',i4',o4',x50,rfl,rfl,rfl,rfl,rfl,g',hlt,hj⟩:=Yrq hi
  exact ⟨g',hlt,rfl,rfl,rfl,rfl,hj⟩
theorem A8x1i (Q:QT) (i3 o3 i4 o4:Nat) (h:Zaa) (ht :
 J11 Q i3 o3 i4 o4 h):Ywc Q i3 o3 i4 o4 h:=
 At.mk (cast (by kernel_rfl) ht)
theorem call (a0 a1x0:Pt) (n1x0 c1x0:Nat) (e1x0:Bool) (a1x1:Pt) (n1x1 c1x1:Nat) (e1x1:Bool) (h:Zaa) (Q:QT) (ht :
 Zch (h ++ [.cells Zad [.slice a1x0 n1x0 c1x0 e1x0,.slice a1x1 n1x1 c1x1 e1x1] false]) fun A=>Zch (A ++ [.cells Zad [.slice none 0 0 true,.slice none 0 0 true] false]) fun B=>Zaj pg Zbe [.ptr a0,.int .i64 36] B fun B C=>
 Zdt .i64 B fun B=>bcase ((B:Int) == 0) (Zch (C ++ [.cells Zbi [] false]) fun D=>xSl (Zae D (.ptr (h.length,0 + 0))) fun E F G H=>Zcf pg Zjd D (.slice (C.length,0) 0 0 true) (.slice E F G H) fun D E=>xSl D fun D F G H=>Zch (E ++ [.cells Zbh [.str [69],.str [73],.str [],.str [72]] false]) fun I=>Zaj pg Zcd [.ptr a0,.slice (E.length,0) 4 4 true] I fun E I=>
 Zbc E fun E=>Zch (I ++ [.cells Zbh [.str [],.str [69],.str [72],.str [90]] false]) fun J=>Zaj pg Zcd [.ptr a0,.slice (I.length,0) 4 4 true] J fun I J=>
 Zbc I fun I=>Zch (J ++ [.cells Zbi [.str E,.str I] false]) fun E=>Zcf pg Zjd E (.slice D F G H) (.slice (J.length,0) 1 1 true) fun D E=>xSl D fun D F G H=>Zbn (Zaz E (.ptr (h.length,0 + 0)) [.slice D F G H]) fun D=>J11 Q h.length 0 A.length 0 D) (bcase ((B:Int) == 1) (Zch (C ++ [.cells Zac [] false]) fun D=>xSl (Zae D (.ptr (h.length,0 + 1))) fun E F G H=>Zcf pg Zet D (.slice (C.length,0) 0 0 true) (.slice E F G H) fun D E=>xSl D fun D F G H=>Zch (E ++ [.cells Zbh [.str [69],.str [72],.str [65]] false]) fun I=>Zaj pg Zcd [.ptr a0,.slice (E.length,0) 3 3 true] I fun E I=>
 Zbc E fun E=>Zch (I ++ [.cells Zbh [.str [120],.str [113],.str [105],.str ([108,40,120,41])] false]) fun J=>Zaj pg Zcd [.ptr a0,.slice (I.length,0) 4 4 true] J fun I J=>
 Zbc I fun I=>Zch (J ++ [.cells Zbh [.str [69],.str [65],.str [72]] false]) fun K=>Zaj pg Zcd [.ptr a0,.slice (J.length,0) 3 3 true] K fun J K=>
 Zbc J fun J=>Zch (K ++ [.cells Zbh [.str [121],.str [105],.str [113]] false]) fun L=>Zaj pg Zcd [.ptr a0,.slice (K.length,0) 3 3 true] L fun K L=>
 Zbc K fun K=>Zch (L ++ [.cells Zab [.str J,.str K] false]) fun J=>Zch (J ++ [.cells Zac [.str E,.str I,.slice (L.length,0) 1 1 true] false]) fun E=>Zcf pg Zet E (.slice D F G H) (.slice (J.length,0) 1 1 true) fun D E=>xSl D fun D F G H=>Zbn (Zaz E (.ptr (h.length,0 + 1)) [.slice D F G H]) fun D=>J11 Q h.length 0 A.length 0 D) (bcase ((B:Int) == 2) (L8 Q h.length 0 A.length 0 0 C) (J11 Q h.length 0 A.length 0 C)))):Zaj pg Zrq [.ptr a0,.agg [.slice a1x0 n1x0 c1x0 e1x0,.slice a1x1 n1x1 c1x1 e1x1]] h Q:=
 Zaj.of_body kp (c:=cod fn) (fn:=fn) Go.Proofs.Tryz.func82 (by kernel_rfl) (by kernel_rfl) (Nat.le_of_ble_eq_true (by kernel_rfl))
  (cast (by kernel_rfl) ht)
end Zij
namespace Ztt
noncomputable abbrev fn:Func:=Go.Proofs.Tryz.f49
def kp:Zco:=[]
noncomputable def C (p:List Nat):Code:=(cod fn).sub p
def KR (Q:QT):KT:=Zfd pg fn.results.toList Q
theorem call (a0:Pt) (h:Zaa) (Q:QT) (ht :
 Zch (h ++ [.cells Zad [.slice none 0 0 true,.slice none 0 0 true] false]) fun A=>Zaj pg Zpu [.ptr a0] A fun A B=>
 Zob A fun A=>Zai A fun A C=>xSl A fun A D E F=>Zai C fun C G=>xSl C fun C H I J=>Zbu G (Zaj pg Zrq [.ptr a0,.agg [.slice A D E F,.slice C H I J]] B fun A B=>
 Zob A fun A=>Zai A fun A C=>xSl A fun A D E F=>Zai C fun C G=>xSl C fun C H I J=>Zbu G (Zbn (Zaz B (.ptr (h.length,0)) [.slice A D E F,.slice C H I J]) fun A=>Zcn (Zbj A (.ptr (h.length,0)) 2) fun B=>Zai B fun B C=>xSl B fun B D E F=>Zai C fun C G=>xSl C fun C H I J=>Zbu G (Q (.agg [.slice B D E F,.slice C H I J]) A)))):Zaj pg Zqj [.ptr a0] h Q:=
 Zaj.of_body kp (c:=cod fn) (fn:=fn) Go.Proofs.Tryz.func49 (by kernel_rfl) (by kernel_rfl) (Nat.le_of_ble_eq_true (by kernel_rfl))
  (cast (by kernel_rfl) ht)
end Ztt
namespace Zne
noncomputable abbrev fn:Func:=Go.Proofs.Tryz.f69
def kp:Zco:=[(4000003,[3,0]),(2000003,[4])]
noncomputable def C (p:List Nat):Code:=(cod fn).sub p
def KR (Q:QT):KT:=Zfd pg fn.results.toList Q
def J3 (Q:QT) (i3 o3:Nat) (a0:Pt) (h:Zaa):Prop:=Den pg fn.ntmps (C [1,1]) [(3,.ptr (i3,o3)),(0,.ptr a0)] h (KR Q)
theorem J3i (Q:QT) (i3 o3:Nat) (a0:Pt) (h:Zaa) (ht :
 xSl (Zae h (.ptr (i3,o3 + 0))) fun A B C C=>xSl (Zae h (.ptr (i3,o3 + 0))) fun C C D D=>(Zae h (.ptr (i3,o3 + 0))=Zae h (.ptr (i3,o3 + 0)))∧Zaj pg Zbe [.ptr a0,.int .i64 (((C:Nat):Int))] h fun C D=>
 Zdt .i64 C fun C=>(Zae D (.ptr (i3,o3 + 0))=Zae h (.ptr (i3,o3 + 0)))∧(0≤(C:Int)∧(C:Int) < (B:Nat))∧(Zbg A fun A B=>Zbc (Zae D (.ptr (A,B + (Int.toNat C) * 2 + 0))) fun A=>(Zae D (.ptr (i3,o3 + 0))=Zae D (.ptr (i3,o3 + 0)))∧Q (.str A) D)):J3 Q i3 o3 a0 h:=
 Zbf (kp:=kp) (cast (by kernel_rfl) ht)
theorem call (a0 a1x0:Pt) (n1x0 c1x0:Nat) (e1x0:Bool) (a1x1:Pt) (n1x1 c1x1:Nat) (e1x1:Bool) (h:Zaa) (Q:QT) (ht :
 Zch (h ++ [.cells Zad [.slice a1x0 n1x0 c1x0 e1x0,.slice a1x1 n1x1 c1x1 e1x1] false]) fun A=>xSl (Zae A (.ptr (h.length,0 + 0))) fun B B C C=>bcase ((((B:Nat):Int):Int) == 0) (Zch (A ++ [.cells Zbh [.str [69],.str [90],.str [],.str ([69,79])] false]) fun B=>Zaj pg Zcd [.ptr a0,.slice (A.length,0) 4 4 true] B fun B C=>
 Zbc B fun B=>Q (.str B) C) (Zaj pg Zbe [.ptr a0,.int .i64 16] A fun A B=>
 Zdt .i64 A fun A=>bcase ((A:Int) == 0) (Zch (B ++ [.cells Zbh [.str [69],.str [90],.str [],.str ([69,79])] false]) fun A=>Zaj pg Zcd [.ptr a0,.slice (B.length,0) 4 4 true] A fun A C=>
 Zbc A fun A=>Q (.str A) C) (J3 Q h.length 0 a0 B))):Zaj pg Zns [.ptr a0,.agg [.slice a1x0 n1x0 c1x0 e1x0,.slice a1x1 n1x1 c1x1 e1x1]] h Q:=
 Zaj.of_body kp (c:=cod fn) (fn:=fn) Go.Proofs.Tryz.func69 (by kernel_rfl) (by kernel_rfl) (Nat.le_of_ble_eq_true (by kernel_rfl))
  (cast (by kernel_rfl) ht)
end Zne
end Go.Sim

set_option maxRecDepth 100000
set_option maxHeartbeats 4000000
set_option linter.unusedVariables false
namespace Go.Sim
open Go Go.RowKit
namespace Zkm
noncomputable abbrev fn:Func:=Go.Proofs.Tryz.f83
def kp:Zco:=[(3000005,[3,2]),(1000005,[0,2,3,20,21]),(2000006,[21,20,3,0,2])]
noncomputable def C (p:List Nat):Code:=(cod fn).sub p
def KR (Q:QT):KT:=Zfd pg fn.results.toList Q
abbrev T5:=Pt→Nat→Nat→Nat→Nat→Int→Int→Zaa→Prop
def E5 (R5:T5) (env:Env) (h:Zaa):Prop:=Zce 0 env fun v env=>Zgm v fun a0=>Zce 2 env fun v env=>Zgm v fun a=>Zbg a fun i2 o2=>Zce 3 env fun v env=>Zgm v fun a=>Zbg a fun i3 o3=>Zce 20 env fun v env=>Zew .i64 v fun x20=>Zce 21 env fun v env=>Zew .i64 v fun x21=>Zls env (R5 a0 i2 o2 i3 o3 x20 x21 h)
theorem Zom {R5:T5} {env:Env} {h:Zaa} (hi:E5 R5 env h):∃ a0,∃ i2,∃ o2,∃ i3,∃ o3,∃ x20,∃ x21,env=[(0,.ptr a0),(2,.ptr (i2,o2)),(3,.ptr (i3,o3)),(20,.int .i64 x20),(21,.int .i64 x21)]∧R5 a0 i2 o2 i3 o3 x20 x21 h:=by
 unfold E5 at hi
 have hi0:=hi
 clear hi
 obtain ⟨_,_,rfl,hi1⟩:=Zan hi0
 obtain ⟨a0,rfl,hi2⟩:=Zbv hi1
 obtain ⟨_,_,rfl,hi3⟩:=Zan hi2
 obtain ⟨a,rfl,hi4⟩:=Zbv hi3
 obtain ⟨i2,o2,rfl,hi5⟩:=Zbr hi4
 obtain ⟨_,_,rfl,hi6⟩:=Zan hi5
 obtain ⟨a,rfl,hi7⟩:=Zbv hi6
 obtain ⟨i3,o3,rfl,hi8⟩:=Zbr hi7
 obtain ⟨_,_,rfl,hi9⟩:=Zan hi8
 obtain ⟨x20,rfl,hi10⟩:=Zay hi9
 obtain ⟨_,_,rfl,hi11⟩:=Zan hi10
 obtain ⟨x21,rfl,hi12⟩:=Zay hi11
 obtain ⟨rfl,hi13⟩:=Zbw hi12
 have hi:=hi13
 exact ⟨a0,i2,o2,i3,o3,x20,x21,rfl,hi⟩
def K0 (Q:QT):KT:=andThen (fun env' h'=>(match kp.find 4000008 with | some ks=>Den pg fn.ntmps (C [1,1,1,1]) (env'.keep ks) h' (KR Q) | none=>den pg fn.ntmps kp (C [1,1,1,1]) env' h' (KR Q))) (KR Q)
def K1 (Q:QT):KT:=Zde 0 (K0 Q)
def K2 (Q:QT):KT:=left kp 5 (K1 Q)
def K3 (Q:QT) (R5:T5):KT:=rnd ((kp.find 1000005).getD []) (E5 R5) (K2 Q)
def L5 (Q:QT) (a0:Pt) (i2 o2 i3 o3:Nat) (x20 x21:Int) (h:Zaa):Prop:=Zff (Den pg fn.ntmps (C [1,1,1,0,1,0,0])) ((kp.find 1000005).getD []) (K2 Q) [(0,.ptr a0),(2,.ptr (i2,o2)),(3,.ptr (i3,o3)),(20,.int .i64 x20),(21,.int .i64 x21)] h
def A5x0 (Q:QT) (i3 o3 i2 o2:Nat) (h:Zaa):Prop:=At (K1 Q) (.exit 0) [(3,.ptr (i3,o3)),(2,.ptr (i2,o2))] h
def L5t (Q:QT) (R5:T5) (a0:Pt) (i2 o2 i3 o3:Nat) (x20 x21:Int) (h:Zaa):Prop:=
 bcase (decide ((x21:Int) < x20)) (xSl (Zae h (.ptr (i3,o3 + 1))) fun A B C D=>Zcn (Zbj h (.ptr (i3,o3)) 2) fun E=>Zai E fun E F=>xSl E fun E G H I=>Zai F fun F J=>xSl F fun F K L M=>Zbu J ((Zae h (.ptr (i3,o3 + 1))=Zae h (.ptr (i3,o3 + 1)))∧Zaj pg Zie [.ptr a0,.agg [.slice E G H I,.slice F K L M]] h fun E F=>
 Zob E fun E=>Zai E fun E G=>Zbc E fun E=>Zai G fun G H=>Zbc G fun G=>Zai H fun H I=>xSl H fun H J K L=>Zbu I ((Zae F (.ptr (i3,o3 + 1))=Zae h (.ptr (i3,o3 + 1)))∧Zch (F ++ [.cells Zac [.str E,.str G,.slice H J K L] false]) fun E=>(Zae E (.ptr (i3,o3 + 1))=Zae F (.ptr (i3,o3 + 1)))∧Zcf pg Zet E (.slice A B C D) (.slice (F.length,0) 1 1 true) fun A B=>xSl A fun A C D E=>Zbn (Zaz B (.ptr (i3,o3 + 1)) [.slice A C D E]) fun A=>R5 a0 i2 o2 i3 o3 x20 (IntKind.wrap .i64 (x21 + 1)) A))) (A5x0 Q i3 o3 i2 o2 h)
theorem Ybi (Q:QT) (R5:T5) (a0:Pt) (i2 o2 i3 o3:Nat) (x20 x21:Int) (h:Zaa) (ht:L5t Q R5 a0 i2 o2 i3 o3 x20 x21 h):Den pg fn.ntmps (C [1,1,1,0,1,0,0]) [(0,.ptr a0),(2,.ptr (i2,o2)),(3,.ptr (i3,o3)),(20,.int .i64 x20),(21,.int .i64 x21)] h (K3 Q R5):=
 Zbf (kp:=kp) (cast (by kernel_rfl) ht)
theorem L5ind (Q:QT) (a0:Pt) (i2 o2 i3 o3:Nat) (x20:Int) {G:Type} (J:G→Int→Zaa→Prop) (m:G→Nat)
 (hr:∀ (g:G) (x21:Int) (h:Zaa),J g x21 h→∀ (R5:T5),(∀ g' (x21:Int) (h:Zaa),m g' < m g→J g' x21 h→R5 a0 i2 o2 i3 o3 x20 x21 h)→L5t Q R5 a0 i2 o2 i3 o3 x20 x21 h)
 (g:G) (x21:Int) (h:Zaa) (hj:J g x21 h):L5 Q a0 i2 o2 i3 o3 x20 x21 h:=by
 let P:=fun (K:Int→Zaa→Prop) a0' i2' o2' i3' o3' x20' x21 h=>a0=a0'∧i2=i2'∧o2=o2'∧i3=i3'∧o3=o3'∧x20=x20'∧K x21 h
 refine Zff.inv2 (fun g=>E5 (P (J g))) (fun g=>E5 (P fun x21 h=>∃ g',m g' < m g∧J g' x21 h)) m ?_ ?_ g ⟨rfl,rfl,rfl,rfl,rfl,rfl,hj⟩
 ·intro g env h hi
  obtain ⟨a0',i2',o2',i3',o3',x20',x21,rfl,rfl,rfl,rfl,rfl,rfl,rfl,hj⟩:=Zom hi
  exact Ybi Q _ a0 i2 o2 i3 o3 x20 x21 h (hr g x21 h hj (P fun x21 h=>∃ g',m g' < m g∧J g' x21 h) fun g' x21 h hlt hj=>⟨rfl,rfl,rfl,rfl,rfl,rfl,g',hlt,hj⟩)
 ·intro g env h hi
  obtain ⟨a0',i2',o2',i3',o3',x20',x21,rfl,rfl,rfl,rfl,rfl,rfl,rfl,g',hlt,hj⟩:=Zom hi
  exact ⟨g',hlt,rfl,rfl,rfl,rfl,rfl,rfl,hj⟩
theorem A5x0i (Q:QT) (i3 o3 i2 o2:Nat) (h:Zaa) (ht :
 Zcn (Zbj h (.ptr (i3,o3)) 2) fun A=>Zai A fun A B=>xSl A fun A C D E=>Zai B fun B F=>xSl B fun B G H I=>Zbu F (Zbn (Zaz h (.ptr (i2,o2)) [.slice A C D E,.slice B G H I]) fun A=>Zcn (Zbj A (.ptr (i2,o2)) 2) fun B=>Zai B fun B C=>xSl B fun B D E F=>Zai C fun C G=>xSl C fun C H I J=>Zbu G (Q (.agg [.slice B D E F,.slice C H I J]) A))):A5x0 Q i3 o3 i2 o2 h:=
 At.mk (cast (by kernel_rfl) ht)
theorem call (a0:Pt) (h:Zaa) (Q:QT) (ht :
 Zch (h ++ [.cells Zad [.slice none 0 0 true,.slice none 0 0 true] false]) fun A=>Zaj pg Zbe [.ptr a0,.int .i64 2] A fun A B=>
 Zdt .i64 A fun A=>bcase ((A:Int) == 0) (Zaj pg Zbe [.ptr a0,.int .i64 9] B fun A C=>
 Zdt .i64 A fun A=>Zaj pg Zos [.int .i64 A] C fun A C=>
 Zob A fun A=>Zai A fun A D=>xSl A fun A E F G=>Zai D fun D H=>xSl D fun D I J K=>Zbu H (Zbn (Zaz C (.ptr (h.length,0)) [.slice A E F G,.slice D I J K]) fun A=>Zcn (Zbj A (.ptr (h.length,0)) 2) fun C=>Zai C fun C D=>xSl C fun C E F G=>Zai D fun D H=>xSl D fun D I J K=>Zbu H (Q (.agg [.slice C E F G,.slice D I J K]) A))) (Zch (B ++ [.cells Zbh [.str [69],.str ([69,32,79,60,69]),.str ([65,32,66]),.str ([65,32,66,60,65,32,67,60,65,66]),.str ([69,32,79,60,69,32,83])] false]) fun A=>Zaj pg Zcd [.ptr a0,.slice (B.length,0) 5 5 true] A fun A B=>
 Zbc A fun A=>Zaj pg Zim [.str A] B fun A B=>
 Zjx A fun A=>Zai A fun A C=>Zob A fun A=>Zai A fun A D=>xSl A fun A E F G=>Zai D fun D H=>xSl D fun D I J K=>Zbu H (Zai C fun C H=>Zck C fun C=>Zbu H (Zch (B ++ [.cells Zad [.slice none 0 0 true,.slice none 0 0 true] false]) fun C=>Zbn (Zaz C (.ptr (B.length,0)) [.slice A E F G,.slice D I J K]) fun A=>Zaj pg Zbe [.ptr a0,.int .i64 6] A fun A C=>
 Zdt .i64 A fun A=>L5 Q a0 h.length 0 B.length 0 (IntKind.wrap .i64 (1 + A)) 0 C)))):Zaj pg Zpu [.ptr a0] h Q:=
 Zaj.of_body kp (c:=cod fn) (fn:=fn) Go.Proofs.Tryz.func83 (by kernel_rfl) (by kernel_rfl) (Nat.le_of_ble_eq_true (by kernel_rfl))
  (cast (by kernel_rfl) ht)
end Zkm
end Go.Sim

set_option maxRecDepth 100000
set_option maxHeartbeats 4000000
set_option linter.unusedVariables false
namespace Go.Sim
open Go Go.RowKit
namespace Zpi
noncomputable abbrev fn:Func:=Go.Proofs.Tryz.f119
def kp:Zco:=[]
noncomputable def C (p:List Nat):Code:=(cod fn).sub p
def KR (Q:QT):KT:=Zfd pg fn.results.toList Q
theorem call (x0:List Nat) (h:Zaa) (Q:QT) (ht :
 Zch (h ++ [.cells Zad [.slice none 0 0 true,.slice none 0 0 true] false]) fun A=>Zaj pg Zht [.str x0] A fun A B=>
 Zjx A fun A=>Zai A fun A C=>Zob A fun A=>Zai A fun A D=>xSl A fun A E F G=>Zai D fun D H=>xSl D fun D I J K=>Zbu H (Zai C fun C H=>Zck C fun C=>Zbu H (Zch (B ++ [.cells Zad [.slice none 0 0 true,.slice none 0 0 true] false]) fun H=>Zbn (Zaz H (.ptr (B.length,0)) [.slice A E F G,.slice D I J K]) fun A=>Zcn (Zbj A (.ptr (B.length,0)) 2) fun B=>Zai B fun B D=>xSl B fun B E F G=>Zai D fun D H=>xSl D fun D I J K=>Zbu H (Zaj pg Zkh [.agg [.slice B E F G,.slice D I J K]] A fun A B=>
 Zob A fun A=>Zai A fun A D=>xSl A fun A E F G=>Zai D fun D H=>xSl D fun D I J K=>Zbu H (Zbn (Zaz B (.ptr (h.length,0)) [.slice A E F G,.slice D I J K]) fun A=>Zcn (Zbj A (.ptr (h.length,0)) 2) fun B=>Zai B fun B D=>xSl B fun B E F G=>Zai D fun D H=>xSl D fun D I J K=>Zbu H (Q (.tup [.agg [.slice B E F G,.slice D I J K],.bool C]) A)))))):Zaj pg Zim [.str x0] h Q:=
 Zaj.of_body kp (c:=cod fn) (fn:=fn) Go.Proofs.Tryz.func119 (by kernel_rfl) (by kernel_rfl) (Nat.le_of_ble_eq_true (by kernel_rfl))
  (cast (by kernel_rfl) ht)
end Zpi
namespace Zsw
noncomputable abbrev fn:Func:=Go.Proofs.Tryz.f118
def kp:Zco:=[]
noncomputable def C (p:List Nat):Code:=(cod fn).sub p
def KR (Q:QT):KT:=Zfd pg fn.results.toList Q
theorem call (x0:Int) (h:Zaa) (Q:QT) (ht :
 Zch (h ++ [.cells Zad [.slice none 0 0 true,.slice none 0 0 true] false]) fun A=>Zch (A ++ [.cells Zbh [.str ([69,32,79,60,69,59,69,32,105,59,69,32,98,59,69,32,108,40,120,41,58,69,32,120,59,69,32,112,40,120,44,121,41,58,69,32,120,38,69,32,121,59,79,32,105,59,79,32,108,40,120,41,58,79,32,120]),.str ([69,32,83,59,69,32,105,59,69,32,108,40,120,41,58,69,32,120,59,69,32,108,40,105,41,59,83,32,112,40,120,44,120,41,58,83,32,120,59,83,32,112,40,105,44,98,41,59,83,32,105,59,83,32,98]),.str ([65,32,66,59,65,32,105,59,65,32,108,40,120,41,58,65,32,120,38,66,32,120,59,66,32,105,59,66,32,108,40,120,41,58,65,32,108,40,120,41]),.str ([65,59,65,32,108,40,120,41,58,65,32,108,40,120,41,59,65,32,109,40,120,41,58,65,32,108,40,109,40,120,41,41,59,65,32,105]),.str ([69,32,79,60,69,32,83,60,69,79,59,69,32,117,59,69,32,105,59,79,32,105,59,83,32,105,59,69,32,109,40,120,41,58,69,32,120,59,79,32,109,40,120,41,58,79,32,120,59,83,32,109,40,120,41,58,83,32,120,38,69,32,109,40,120,41]),.str ([69,32,70,59,69,32,105,59,69,32,98,59,70,32,108,40,120,41,58,69,32,120,59,70,32,109,40,120,41,58,70,32,120,38,69,32,120,59,70,32,112,40,108,40,120,41,44,121,41,58,69,32,120,38,70,32,121,59,70,32,105]),.str ([69,32,79,60,69,59,79,32,105,59,69,32,98,59,69,32,108,40,120,41,58,69,32,120]),.str ([65,32,66,60,65,32,67,60,65,66,59,65,32,105,59,66,32,105,59,67,32,105,59,65,32,108,40,120,41,58,67,32,120,59,66,32,108,40,120,41,58,67,32,120,59,67,32,108,40,120,41,58,67,32,120,59,65,32,117]),.str ([69,59,69,32,112,40,120,44,105,41,58,69,32,120,59,69,32,112,40,105,44,120,41,58,69,32,120,59,69,32,105,59,69,32,98])] false]) fun B=>((((9:Nat):Int)):Int)≠0∧((0≤(Int.tmod x0 (((9:Nat):Int)):Int)∧(Int.tmod x0 (((9:Nat):Int)):Int) < (9:Nat))∧(Zbc (Zae B (.ptr (A.length,0 + (Int.toNat (Int.tmod x0 (((9:Nat):Int)))) * 1))) fun A=>Zaj pg Zim [.str A] B fun A B=>
 Zjx A fun A=>Zai A fun A C=>Zob A fun A=>Zai A fun A D=>xSl A fun A E F G=>Zai D fun D H=>xSl D fun D I J K=>Zbu H (Zai C fun C H=>Zck C fun C=>Zbu H (Zch (B ++ [.cells Zad [.slice none 0 0 true,.slice none 0 0 true] false]) fun C=>Zbn (Zaz C (.ptr (B.length,0)) [.slice A E F G,.slice D I J K]) fun A=>Zcn (Zbj A (.ptr (B.length,0)) 2) fun B=>Zai B fun B C=>xSl B fun B D E F=>Zai C fun C G=>xSl C fun C H I J=>Zbu G (Zbn (Zaz A (.ptr (h.length,0)) [.slice B D E F,.slice C H I J]) fun A=>Zcn (Zbj A (.ptr (h.length,0)) 2) fun B=>Zai B fun B C=>xSl B fun B D E F=>Zai C fun C G=>xSl C fun C H I J=>Zbu G (Q (.agg [.slice B D E F,.slice C H I J]) A))))))):Zaj pg Zos [.int .i64 x0] h Q:=
 Zaj.of_body kp (c:=cod fn) (fn:=fn) Go.Proofs.Tryz.func118 (by kernel_rfl) (by kernel_rfl) (Nat.le_of_ble_eq_true (by kernel_rfl))
  (cast (by kernel_rfl) ht)
end Zsw
namespace Zpe
noncomputable abbrev fn:Func:=Go.Proofs.Tryz.f141
def kp:Zco:=[(2000001,[2,7,0,6])]
noncomputable def C (p:List Nat):Code:=(cod fn).sub p
def KR (Q:QT):KT:=Zfd pg fn.results.toList Q
theorem call (a0 a1x0:Pt) (n1x0 c1x0:Nat) (e1x0:Bool) (a1x1:Pt) (n1x1 c1x1:Nat) (e1x1:Bool) (x2:List Nat) (h:Zaa) (Q:QT) (ht :
 Zch (h ++ [.cells Zad [.slice a1x0 n1x0 c1x0 e1x0,.slice a1x1 n1x1 c1x1 e1x1] false]) fun A=>Zch (A ++ [.cells Zab [.str [],.str []] false]) fun B=>xSl (Zae B (.ptr (h.length,0 + 0))) fun C D E E=>xSl (Zae B (.ptr (h.length,0 + 0))) fun E E F F=>(Zae B (.ptr (h.length,0 + 0))=Zae B (.ptr (h.length,0 + 0)))∧Zaj pg Zbe [.ptr a0,.int .i64 (((E:Nat):Int))] B fun E F=>
 Zdt .i64 E fun E=>(Zae F (.ptr (h.length,0 + 0))=Zae B (.ptr (h.length,0 + 0)))∧(0≤(E:Int)∧(E:Int) < (D:Nat))∧(Zbg C fun B C=>Zbc (Zae F (.ptr (B,C + (Int.toNat E) * 2 + 0))) fun B=>(Zae F (.ptr (h.length,0 + 0))=Zae F (.ptr (h.length,0 + 0)))∧bcase (decide (x2=[])) (Zaj pg Zbe [.ptr a0,.int .i64 2] F fun C D=>
 Zdt .i64 C fun C=>Zaj pg Zeu [.ptr a0,.int .i64 C,.bool true] D fun C D=>
 Zbc C fun C=>Zbn (Zaz D (.ptr (A.length,0)) [.str B,.str C]) fun C=>Zcn (Zbj C (.ptr (A.length,0)) 2) fun D=>Zai D fun D E=>Zbc D fun D=>Zai E fun E G=>Zbc E fun E=>Zbu G (Q (.agg [.str D,.str E]) C)) (Zaj pg Zbe [.ptr a0,.int .i64 (((List.length x2:Nat):Int))] F fun C D=>
 Zdt .i64 C fun C=>(0≤(C:Int)∧(C:Int)≤IntKind.wrap .i64 (C + 1)∧(IntKind.wrap .i64 (C + 1):Int)≤(List.length x2:Nat))∧(List.length ([108,40]) + List.length (sub x2 C (IntKind.wrap .i64 (C + 1)))≤9223372036854775807∧(List.length (([108,40]) ++ (sub x2 C (IntKind.wrap .i64 (C + 1)))) + List.length [41]≤9223372036854775807∧(Zch (D ++ [.cells Zbh [.str (sub x2 C (IntKind.wrap .i64 (C + 1))),.str (sub x2 C (IntKind.wrap .i64 (C + 1))),.str (sub x2 C (IntKind.wrap .i64 (C + 1))),.str ((([108,40]) ++ (sub x2 C (IntKind.wrap .i64 (C + 1)))) ++ [41]),.str (sub x2 C (IntKind.wrap .i64 (C + 1)))] false]) fun C=>Zaj pg Zcd [.ptr a0,.slice (D.length,0) 5 5 true] C fun C D=>
 Zbc C fun C=>Zbn (Zaz D (.ptr (A.length,0)) [.str B,.str C]) fun B=>Zcn (Zbj B (.ptr (A.length,0)) 2) fun A=>Zai A fun A C=>Zbc A fun A=>Zai C fun C D=>Zbc C fun C=>Zbu D (Q (.agg [.str A,.str C]) B))))))):Zaj pg Zgu [.ptr a0,.agg [.slice a1x0 n1x0 c1x0 e1x0,.slice a1x1 n1x1 c1x1 e1x1],.str x2] h Q:=
 Zaj.of_body kp (c:=cod fn) (fn:=fn) Go.Proofs.Tryz.func141 (by kernel_rfl) (by kernel_rfl) (Nat.le_of_ble_eq_true (by kernel_rfl))
  (cast (by kernel_rfl) ht)
end Zpe
end Go.Sim

set_option maxRecDepth 100000
set_option linter.unusedVariables false
namespace Go.Sim
open Go Go.RowKit
namespace Zcl
noncomputable abbrev fn:Func:=Go.Proofs.Tryz.f139
def kp:Zco:=[(3000004,[4,2,5]),(1000004,[2,4,5,21,22,23]),(2000008,[5,8,23,22,21,4,2]),(4000009,[5,8,23,22,21,4,2]),(4000010,[23,22,21,5,4,2]),(3000012,[5,2,3]),(1000012,[2,5,50,51,52])]
noncomputable def C (p:List Nat):Code:=(cod fn).sub p
def KR (Q:QT):KT:=Zfd pg fn.results.toList Q
abbrev T4:=Nat→Nat→Pt→Nat→Nat→Bool→Nat→Nat→Pt→Nat→Nat→Bool→Int→Int→Zaa→Prop
def E4 (R4:T4) (env:Env) (h:Zaa):Prop:=Zce 2 env fun v env=>Zgm v fun a=>Zbg a fun i2 o2=>Zce 4 env fun v env=>xSl v fun a4 n4 c4 e4=>Zce 5 env fun v env=>Zgm v fun a=>Zbg a fun i5 o5=>Zce 21 env fun v env=>xSl v fun a21 n21 c21 e21=>Zce 22 env fun v env=>Zew .i64 v fun x22=>Zce 23 env fun v env=>Zew .i64 v fun x23=>Zls env (R4 i2 o2 a4 n4 c4 e4 i5 o5 a21 n21 c21 e21 x22 x23 h)
theorem Zlu {R4:T4} {env:Env} {h:Zaa} (hi:E4 R4 env h):∃ i2,∃ o2,∃ a4,∃ n4,∃ c4,∃ e4,∃ i5,∃ o5,∃ a21,∃ n21,∃ c21,∃ e21,∃ x22,∃ x23,env=[(2,.ptr (i2,o2)),(4,.slice a4 n4 c4 e4),(5,.ptr (i5,o5)),(21,.slice a21 n21 c21 e21),(22,.int .i64 x22),(23,.int .i64 x23)]∧R4 i2 o2 a4 n4 c4 e4 i5 o5 a21 n21 c21 e21 x22 x23 h:=by
 unfold E4 at hi
 have hi0:=hi
 clear hi
 obtain ⟨_,_,rfl,hi1⟩:=Zan hi0
 obtain ⟨a,rfl,hi2⟩:=Zbv hi1
 obtain ⟨i2,o2,rfl,hi3⟩:=Zbr hi2
 obtain ⟨_,_,rfl,hi4⟩:=Zan hi3
 obtain ⟨a4,n4,c4,e4,rfl,hi5⟩:=Zcg hi4
 obtain ⟨_,_,rfl,hi6⟩:=Zan hi5
 obtain ⟨a,rfl,hi7⟩:=Zbv hi6
 obtain ⟨i5,o5,rfl,hi8⟩:=Zbr hi7
 obtain ⟨_,_,rfl,hi9⟩:=Zan hi8
 obtain ⟨a21,n21,c21,e21,rfl,hi10⟩:=Zcg hi9
 obtain ⟨_,_,rfl,hi11⟩:=Zan hi10
 obtain ⟨x22,rfl,hi12⟩:=Zay hi11
 obtain ⟨_,_,rfl,hi13⟩:=Zan hi12
 obtain ⟨x23,rfl,hi14⟩:=Zay hi13
 obtain ⟨rfl,hi15⟩:=Zbw hi14
 have hi:=hi15
 exact ⟨i2,o2,a4,n4,c4,e4,i5,o5,a21,n21,c21,e21,x22,x23,rfl,hi⟩
abbrev T12:=Nat→Nat→Nat→Nat→Pt→Nat→Nat→Bool→Int→Int→Zaa→Prop
def E12 (R12:T12) (env:Env) (h:Zaa):Prop:=Zce 2 env fun v env=>Zgm v fun a=>Zbg a fun i2 o2=>Zce 5 env fun v env=>Zgm v fun a=>Zbg a fun i5 o5=>Zce 50 env fun v env=>xSl v fun a50 n50 c50 e50=>Zce 51 env fun v env=>Zew .i64 v fun x51=>Zce 52 env fun v env=>Zew .i64 v fun x52=>Zls env (R12 i2 o2 i5 o5 a50 n50 c50 e50 x51 x52 h)
theorem Ylw {R12:T12} {env:Env} {h:Zaa} (hi:E12 R12 env h):∃ i2,∃ o2,∃ i5,∃ o5,∃ a50,∃ n50,∃ c50,∃ e50,∃ x51,∃ x52,env=[(2,.ptr (i2,o2)),(5,.ptr (i5,o5)),(50,.slice a50 n50 c50 e50),(51,.int .i64 x51),(52,.int .i64 x52)]∧R12 i2 o2 i5 o5 a50 n50 c50 e50 x51 x52 h:=by
 unfold E12 at hi
 have hi0:=hi
 clear hi
 obtain ⟨_,_,rfl,hi1⟩:=Zan hi0
 obtain ⟨a,rfl,hi2⟩:=Zbv hi1
 obtain ⟨i2,o2,rfl,hi3⟩:=Zbr hi2
 obtain ⟨_,_,rfl,hi4⟩:=Zan hi3
 obtain ⟨a,rfl,hi5⟩:=Zbv hi4
 obtain ⟨i5,o5,rfl,hi6⟩:=Zbr hi5
 obtain ⟨_,_,rfl,hi7⟩:=Zan hi6
 obtain ⟨a50,n50,c50,e50,rfl,hi8⟩:=Zcg hi7
 obtain ⟨_,_,rfl,hi9⟩:=Zan hi8
 obtain ⟨x51,rfl,hi10⟩:=Zay hi9
 obtain ⟨_,_,rfl,hi11⟩:=Zan hi10
 obtain ⟨x52,rfl,hi12⟩:=Zay hi11
 obtain ⟨rfl,hi13⟩:=Zbw hi12
 have hi:=hi13
 exact ⟨i2,o2,i5,o5,a50,n50,c50,e50,x51,x52,rfl,hi⟩
def K0 (Q:QT):KT:=andThen (fun env' h'=>(match kp.find 4000011 with | some ks=>Den pg fn.ntmps (C [1,1,1,1]) (env'.keep ks) h' (KR Q) | none=>den pg fn.ntmps kp (C [1,1,1,1]) env' h' (KR Q))) (KR Q)
def K1 (Q:QT):KT:=Zde 0 (K0 Q)
def K2 (Q:QT):KT:=left kp 4 (K1 Q)
def K3 (Q:QT) (R4:T4):KT:=rnd ((kp.find 1000004).getD []) (E4 R4) (K2 Q)
def K4 (Q:QT) (R4:T4):KT:=andThen (fun env' h'=>(match kp.find 4000010 with | some ks=>Den pg fn.ntmps (C [1,1,1,0,1,0,0,1,1,1]) (env'.keep ks) h' (K3 Q R4) | none=>den pg fn.ntmps kp (C [1,1,1,0,1,0,0,1,1,1]) env' h' (K3 Q R4))) (K3 Q R4)
def K5 (Q:QT) (R4:T4):KT:=Zde 1 (K4 Q R4)
def K6 (Q:QT):KT:=andThen (fun env' h'=>(match kp.find 4000019 with | some ks=>Den pg fn.ntmps (C [1,1,1,1,1]) (env'.keep ks) h' (KR Q) | none=>den pg fn.ntmps kp (C [1,1,1,1,1]) env' h' (KR Q))) (KR Q)
def K7 (Q:QT):KT:=Zde 2 (K6 Q)
def K8 (Q:QT):KT:=left kp 12 (K7 Q)
def K9 (Q:QT) (R12:T12):KT:=rnd ((kp.find 1000012).getD []) (E12 R12) (K8 Q)
def L4 (Q:QT) (i2 o2:Nat) (a4:Pt) (n4 c4:Nat) (e4:Bool) (i5 o5:Nat) (a21:Pt) (n21 c21:Nat) (e21:Bool) (x22 x23:Int) (h:Zaa):Prop:=Zff (Den pg fn.ntmps (C [1,1,1,0,1,0,0])) ((kp.find 1000004).getD []) (K2 Q) [(2,.ptr (i2,o2)),(4,.slice a4 n4 c4 e4),(5,.ptr (i5,o5)),(21,.slice a21 n21 c21 e21),(22,.int .i64 x22),(23,.int .i64 x23)] h
def J9 (Q:QT) (R4:T4) (i5 o5 i8 o8:Nat) (x23 x22:Int) (a21:Pt) (n21 c21:Nat) (e21:Bool) (a4:Pt) (n4 c4:Nat) (e4:Bool) (i2 o2:Nat) (h:Zaa):Prop:=Den pg fn.ntmps (C [1,1,1,0,1,0,0,1,1,0,0,1,1,1]) [(5,.ptr (i5,o5)),(8,.ptr (i8,o8)),(23,.int .i64 x23),(22,.int .i64 x22),(21,.slice a21 n21 c21 e21),(4,.slice a4 n4 c4 e4),(2,.ptr (i2,o2))] h (K5 Q R4)
def Ycm (Q:QT) (a4:Pt) (n4 c4:Nat) (e4:Bool) (i2 o2 i5 o5:Nat) (h:Zaa):Prop:=At (K1 Q) (.exit 0) [(4,.slice a4 n4 c4 e4),(2,.ptr (i2,o2)),(5,.ptr (i5,o5))] h
def J10 (Q:QT) (R4:T4) (x23 x22:Int) (a21:Pt) (n21 c21:Nat) (e21:Bool) (i5 o5:Nat) (a4:Pt) (n4 c4:Nat) (e4:Bool) (i2 o2:Nat) (h:Zaa):Prop:=Den pg fn.ntmps (C [1,1,1,0,1,0,0,1,1,1]) [(23,.int .i64 x23),(22,.int .i64 x22),(21,.slice a21 n21 c21 e21),(5,.ptr (i5,o5)),(4,.slice a4 n4 c4 e4),(2,.ptr (i2,o2))] h (K3 Q R4)
def L12 (Q:QT) (i2 o2 i5 o5:Nat) (a50:Pt) (n50 c50:Nat) (e50:Bool) (x51 x52:Int) (h:Zaa):Prop:=Zff (Den pg fn.ntmps (C [1,1,1,1,0,1,0,0])) ((kp.find 1000012).getD []) (K8 Q) [(2,.ptr (i2,o2)),(5,.ptr (i5,o5)),(50,.slice a50 n50 c50 e50),(51,.int .i64 x51),(52,.int .i64 x52)] h
def Ytr (Q:QT) (i5 o5 i2 o2:Nat) (h:Zaa):Prop:=At (K7 Q) (.exit 2) [(5,.ptr (i5,o5)),(2,.ptr (i2,o2)),(3,.undef)] h
def L4t (Q:QT) (R4:T4) (i2 o2:Nat) (a4:Pt) (n4 c4:Nat) (e4:Bool) (i5 o5:Nat) (a21:Pt) (n21 c21:Nat) (e21:Bool) (x22 x23:Int) (h:Zaa):Prop:=
 bcase (decide ((x23:Int) < x22)) ((0≤(x23:Int)∧(x23:Int) < (n21:Nat))∧(Zbg a21 fun A B=>Zbc (Zae h (.ptr (A,B + (Int.toNat x23) * 1))) fun A=>Zch (h ++ [.cells Zbi [.str [],.str []] false]) fun B=>Zbn (Zaz B (.ptr (h.length,0)) [.str A,.str []]) fun B=>bcase (decide (((((List.length A:Nat):Int)):Int) > 2)) (Zkq A 1 fun C=>bcase ((((C:Nat):Int):Int) == 60) ((0≤(0:Int)∧(0:Int)≤1∧(1:Int)≤(List.length A:Nat))∧((0≤(2:Int)∧(2:Int)≤(List.length A:Int)∧((List.length A:Int):Int)≤(List.length A:Nat))∧(Zbn (Zaz B (.ptr (h.length,0)) [.str (sub A 0 1),.str (sub A 2 ((List.length A:Int)))]) fun A=>J9 Q R4 i5 o5 h.length 0 x23 x22 a21 n21 c21 e21 a4 n4 c4 e4 i2 o2 A))) (J9 Q R4 i5 o5 h.length 0 x23 x22 a21 n21 c21 e21 a4 n4 c4 e4 i2 o2 B)) (J9 Q R4 i5 o5 h.length 0 x23 x22 a21 n21 c21 e21 a4 n4 c4 e4 i2 o2 B))) (Ycm Q a4 n4 c4 e4 i2 o2 i5 o5 h)
theorem Zxi (Q:QT) (R4:T4) (i2 o2:Nat) (a4:Pt) (n4 c4:Nat) (e4:Bool) (i5 o5:Nat) (a21:Pt) (n21 c21:Nat) (e21:Bool) (x22 x23:Int) (h:Zaa) (ht:L4t Q R4 i2 o2 a4 n4 c4 e4 i5 o5 a21 n21 c21 e21 x22 x23 h):Den pg fn.ntmps (C [1,1,1,0,1,0,0]) [(2,.ptr (i2,o2)),(4,.slice a4 n4 c4 e4),(5,.ptr (i5,o5)),(21,.slice a21 n21 c21 e21),(22,.int .i64 x22),(23,.int .i64 x23)] h (K3 Q R4):=
 Zbf (kp:=kp) (cast (by kernel_rfl) ht)
theorem L4ind (Q:QT) (i2 o2:Nat) (a4:Pt) (n4 c4:Nat) (e4:Bool) (i5 o5:Nat) (a21:Pt) (n21 c21:Nat) (e21:Bool) (x22:Int) {G:Type} (J:G→Int→Zaa→Prop) (m:G→Nat)
 (hr:∀ (g:G) (x23:Int) (h:Zaa),J g x23 h→∀ (R4:T4),(∀ g' (x23:Int) (h:Zaa),m g' < m g→J g' x23 h→R4 i2 o2 a4 n4 c4 e4 i5 o5 a21 n21 c21 e21 x22 x23 h)→L4t Q R4 i2 o2 a4 n4 c4 e4 i5 o5 a21 n21 c21 e21 x22 x23 h)
 (g:G) (x23:Int) (h:Zaa) (hj:J g x23 h):L4 Q i2 o2 a4 n4 c4 e4 i5 o5 a21 n21 c21 e21 x22 x23 h:=by
 let P:=fun (K:Int→Zaa→Prop) i2' o2' a4' n4' c4' e4' i5' o5' a21' n21' c21' e21' x22' x23 h=>i2=i2'∧o2=o2'∧a4=a4'∧n4=n4'∧c4=c4'∧e4=e4'∧i5=i5'∧o5=o5'∧a21=a21'∧n21=n21'∧c21=c21'∧e21=e21'∧x22=x22'∧K x23 h
 refine Zff.inv2 (fun g=>E4 (P (J g))) (fun g=>E4 (P fun x23 h=>∃ g',m g' < m g∧J g' x23 h)) m ?_ ?_ g ⟨rfl,rfl,rfl,rfl,rfl,rfl,rfl,rfl,rfl,rfl,rfl,rfl,rfl,hj⟩
 ·intro g env h hi
  obtain ⟨i2',o2',a4',n4',c4',e4',i5',o5',a21',n21',c21',e21',x22',x23,rfl,rfl,rfl,rfl,rfl,rfl,rfl,rfl,rfl,rfl,rfl,rfl,rfl,rfl,hj⟩:=Zlu hi
  exact Zxi Q _ i2 o2 a4 n4 c4 e4 i5 o5 a21 n21 c21 e21 x22 x23 h (hr g x23 h hj (P fun x23 h=>∃ g',m g' < m g∧J g' x23 h) fun g' x23 h hlt hj=>⟨rfl,rfl,rfl,rfl,rfl,rfl,rfl,rfl,rfl,rfl,rfl,rfl,rfl,g',hlt,hj⟩)
 ·intro g env h hi
  obtain ⟨i2',o2',a4',n4',c4',e4',i5',o5',a21',n21',c21',e21',x22',x23,rfl,rfl,rfl,rfl,rfl,rfl,rfl,rfl,rfl,rfl,rfl,rfl,rfl,rfl,g',hlt,hj⟩:=Zlu hi
  exact ⟨g',hlt,rfl,rfl,rfl,rfl,rfl,rfl,rfl,rfl,rfl,rfl,rfl,rfl,rfl,hj⟩
theorem J9i (Q:QT) (R4:T4) (i5 o5 i8 o8:Nat) (x23 x22:Int) (a21:Pt) (n21 c21:Nat) (e21:Bool) (a4:Pt) (n4 c4:Nat) (e4:Bool) (i2 o2:Nat) (h:Zaa) (ht :
 xSl (Zae h (.ptr (i5,o5 + 0))) fun A B C D=>Zcn (Zbj h (.ptr (i8,o8)) 2) fun E=>Zai E fun E F=>Zbc E fun E=>Zai F fun F G=>Zbc F fun F=>Zbu G (Zch (h ++ [.cells Zbi [.str E,.str F] false]) fun E=>Zcf pg Zjd E (.slice A B C D) (.slice (h.length,0) 1 1 true) fun A B=>xSl A fun A C D E=>Zbn (Zaz B (.ptr (i5,o5 + 0)) [.slice A C D E]) fun A=>J10 Q R4 x23 x22 a21 n21 c21 e21 i5 o5 a4 n4 c4 e4 i2 o2 A)):J9 Q R4 i5 o5 i8 o8 x23 x22 a21 n21 c21 e21 a4 n4 c4 e4 i2 o2 h:=
 Zbf (kp:=kp) (cast (by kernel_rfl) ht)
theorem A4x0i (Q:QT) (a4:Pt) (n4 c4:Nat) (e4:Bool) (i2 o2 i5 o5:Nat) (h:Zaa) (ht :
 Zhu a4 n4 c4 e4 1 (some (.int .i64 1)) none none fun A=>xSl A fun A B C D=>L12 Q i2 o2 i5 o5 A B C D (((B:Nat):Int)) 0 h):Ycm Q a4 n4 c4 e4 i2 o2 i5 o5 h:=
 At.mk (cast (by kernel_rfl) ht)
theorem J10i (Q:QT) (R4:T4) (x23 x22:Int) (a21:Pt) (n21 c21:Nat) (e21:Bool) (i5 o5:Nat) (a4:Pt) (n4 c4:Nat) (e4:Bool) (i2 o2:Nat) (h:Zaa) (ht :
 R4 i2 o2 a4 n4 c4 e4 i5 o5 a21 n21 c21 e21 x22 (IntKind.wrap .i64 (x23 + 1)) h):J10 Q R4 x23 x22 a21 n21 c21 e21 i5 o5 a4 n4 c4 e4 i2 o2 h:=
 Zbf (kp:=kp) (cast (by kernel_rfl) ht)
def L12t (Q:QT) (R12:T12) (i2 o2 i5 o5:Nat) (a50:Pt) (n50 c50:Nat) (e50:Bool) (x51 x52:Int) (h:Zaa):Prop:=
 bcase (decide ((x52:Int) < x51)) ((0≤(x52:Int)∧(x52:Int) < (n50:Nat))∧(Zbg a50 fun A B=>Zbc (Zae h (.ptr (A,B + (Int.toNat x52) * 1))) fun A=>Zaj pg Ziv [.str A] h fun A B=>
 Zjx A fun A=>Zai A fun A C=>Zob A fun A=>Zai A fun A D=>Zbc A fun A=>Zai D fun D E=>Zbc D fun D=>Zai E fun E F=>xSl E fun E G H I=>Zbu F (Zai C fun C F=>Zck C fun C=>Zbu F (Zch (B ++ [.cells Zac [.str [],.str [],.slice none 0 0 true] false]) fun F=>Zbn (Zaz F (.ptr (B.length,0)) [.str A,.str D,.slice E G H I]) fun A=>bcase (!C) (Zbn (Zaz A (.ptr (i2,o2)) [.slice none 0 0 true,.slice none 0 0 true]) fun C=>Zcn (Zbj C (.ptr (i2,o2)) 2) fun D=>Zai D fun D E=>xSl D fun D F G H=>Zai E fun E I=>xSl E fun E J K L=>Zbu I (Q (.tup [.agg [.slice D F G H,.slice E J K L],.bool false]) C)) (xSl (Zae A (.ptr (i5,o5 + 1))) fun C D E F=>Zcn (Zbj A (.ptr (B.length,0)) 3) fun B=>Zai B fun B G=>Zbc B fun B=>Zai G fun G H=>Zbc G fun G=>Zai H fun H I=>xSl H fun H J K L=>Zbu I (Zch (A ++ [.cells Zac [.str B,.str G,.slice H J K L] false]) fun B=>Zcf pg Zet B (.slice C D E F) (.slice (A.length,0) 1 1 true) fun A B=>xSl A fun A C D E=>Zbn (Zaz B (.ptr (i5,o5 + 1)) [.slice A C D E]) fun A=>R12 i2 o2 i5 o5 a50 n50 c50 e50 x51 (IntKind.wrap .i64 (x52 + 1)) A)))))) (Ytr Q i5 o5 i2 o2 h)
theorem Yud (Q:QT) (R12:T12) (i2 o2 i5 o5:Nat) (a50:Pt) (n50 c50:Nat) (e50:Bool) (x51 x52:Int) (h:Zaa) (ht:L12t Q R12 i2 o2 i5 o5 a50 n50 c50 e50 x51 x52 h):Den pg fn.ntmps (C [1,1,1,1,0,1,0,0]) [(2,.ptr (i2,o2)),(5,.ptr (i5,o5)),(50,.slice a50 n50 c50 e50),(51,.int .i64 x51),(52,.int .i64 x52)] h (K9 Q R12):=
 Zbf (kp:=kp) (cast (by kernel_rfl) ht)
theorem L12ind (Q:QT) (i2 o2 i5 o5:Nat) (a50:Pt) (n50 c50:Nat) (e50:Bool) (x51:Int) {G:Type} (J:G→Int→Zaa→Prop) (m:G→Nat)
 (hr:∀ (g:G) (x52:Int) (h:Zaa),J g x52 h→∀ (R12:T12),(∀ g' (x52:Int) (h:Zaa),m g' < m g→J g' x52 h→R12 i2 o2 i5 o5 a50 n50 c50 e50 x51 x52 h)→L12t Q R12 i2 o2 i5 o5 a50 n50 c50 e50 x51 x52 h)
 (g:G) (x52:Int) (h:Zaa) (hj:J g x52 h):L12 Q i2 o2 i5 o5 a50 n50 c50 e50 x51 x52 h:=by
 let P:=fun (K:Int→Zaa→Prop) i2' o2' i5' o5' a50' n50' c50' e50' x51' x52 h=>i2=i2'∧o2=o2'∧i5=i5'∧o5=o5'∧a50=a50'∧n50=n50'∧c50=c50'∧e50=e50'∧x51=x51'∧K x52 h
 refine Zff.inv2 (fun g=>E12 (P (J g))) (fun g=>E12 (P fun x52 h=>∃ g',m g' < m g∧J g' x52 h)) m ?_ ?_ g ⟨rfl,rfl,rfl,rfl,rfl,rfl,rfl,rfl,rfl,hj⟩
 ·intro g env h hi
  obtain ⟨i2',o2',i5',o5',a50',n50',c50',e50',x51',x52,rfl,rfl,rfl,rfl,rfl,rfl,rfl,rfl,rfl,rfl,hj⟩:=Ylw hi
  exact Yud Q _ i2 o2 i5 o5 a50 n50 c50 e50 x51 x52 h (hr g x52 h hj (P fun x52 h=>∃ g',m g' < m g∧J g' x52 h) fun g' x52 h hlt hj=>⟨rfl,rfl,rfl,rfl,rfl,rfl,rfl,rfl,rfl,g',hlt,hj⟩)
 ·intro g env h hi
  obtain ⟨i2',o2',i5',o5',a50',n50',c50',e50',x51',x52,rfl,rfl,rfl,rfl,rfl,rfl,rfl,rfl,rfl,rfl,g',hlt,hj⟩:=Ylw hi
  exact ⟨g',hlt,rfl,rfl,rfl,rfl,rfl,rfl,rfl,rfl,rfl,hj⟩
theorem A12x2i (Q:QT) (i5 o5 i2 o2:Nat) (h:Zaa) (ht :
 Zcn (Zbj h (.ptr (i5,o5)) 2) fun A=>Zai A fun A B=>xSl A fun A C D E=>Zai B fun B F=>xSl B fun B G H I=>Zbu F (Zaj pg Zgx [.agg [.slice A C D E,.slice B G H I]] h fun A B=>
 Zck A fun A=>bcase (!A) (Zbn (Zaz B (.ptr (i2,o2)) [.slice none 0 0 true,.slice none 0 0 true]) fun A=>Zcn (Zbj A (.ptr (i2,o2)) 2) fun C=>Zai C fun C D=>xSl C fun C E F G=>Zai D fun D H=>xSl D fun D I J K=>Zbu H (Q (.tup [.agg [.slice C E F G,.slice D I J K],.bool false]) A)) (Zcn (Zbj B (.ptr (i5,o5)) 2) fun A=>Zai A fun A C=>xSl A fun A D E F=>Zai C fun C G=>xSl C fun C H I J=>Zbu G (Zbn (Zaz B (.ptr (i2,o2)) [.slice A D E F,.slice C H I J]) fun A=>Zcn (Zbj A (.ptr (i2,o2)) 2) fun B=>Zai B fun B C=>xSl B fun B D E F=>Zai C fun C G=>xSl C fun C H I J=>Zbu G (Q (.tup [.agg [.slice B D E F,.slice C H I J],.bool true]) A))))):Ytr Q i5 o5 i2 o2 h:=
 At.mk (cast (by kernel_rfl) ht)
theorem call (x0:List Nat) (h:Zaa) (Q:QT) (ht :
 Zch (h ++ [.cells Zad [.slice none 0 0 true,.slice none 0 0 true] false]) fun A=>Zaj pg Zhf [.str x0,.int .u8 59] A fun A B=>
 xSl A fun A C D E=>Zch (B ++ [.cells Zbi [] false]) fun F=>Zch (F ++ [.cells Zac [] false]) fun G=>Zch (G ++ [.cells Zad [.slice none 0 0 true,.slice none 0 0 true] false]) fun H=>Zbn (Zaz H (.ptr (G.length,0)) [.slice (B.length,0) 0 0 true,.slice (F.length,0) 0 0 true]) fun B=>(0≤(0:Int)∧(0:Int) < (C:Nat))∧(Zbg A fun F H=>Zbc (Zae B (.ptr (F,H + (Int.toNat 0) * 1))) fun F=>Zaj pg Zhf [.str F,.int .u8 32] B fun B F=>
 xSl B fun B H I J=>L4 Q h.length 0 A C D E G.length 0 B H I J (((H:Nat):Int)) 0 F)):Zaj pg Zht [.str x0] h Q:=
 Zaj.of_body kp (c:=cod fn) (fn:=fn) Go.Proofs.Tryz.func139 (by kernel_rfl) (by kernel_rfl) (Nat.le_of_ble_eq_true (by kernel_rfl))
  (cast (by kernel_rfl) ht)
end Zcl
end Go.Sim

set_option maxRecDepth 100000
set_option linter.unusedVariables false
namespace Go.Sim
open Go Go.RowKit
namespace Zdz
noncomputable abbrev fn:Func:=Go.Proofs.Tryz.f160
def kp:Zco:=[(4000006,[6,5,4,2]),(3000009,[5,2,3]),(1000009,[2,5,39,40,41]),(4000016,[5,2])]
noncomputable def C (p:List Nat):Code:=(cod fn).sub p
def KR (Q:QT):KT:=Zfd pg fn.results.toList Q
abbrev T9:=Nat→Nat→Nat→Nat→Pt→Nat→Nat→Bool→Int→Int→Zaa→Prop
def E9 (R9:T9) (env:Env) (h:Zaa):Prop:=Zce 2 env fun v env=>Zgm v fun a=>Zbg a fun i2 o2=>Zce 5 env fun v env=>Zgm v fun a=>Zbg a fun i5 o5=>Zce 39 env fun v env=>xSl v fun a39 n39 c39 e39=>Zce 40 env fun v env=>Zew .i64 v fun x40=>Zce 41 env fun v env=>Zew .i64 v fun x41=>Zls env (R9 i2 o2 i5 o5 a39 n39 c39 e39 x40 x41 h)
theorem Zwe {R9:T9} {env:Env} {h:Zaa} (hi:E9 R9 env h):∃ i2,∃ o2,∃ i5,∃ o5,∃ a39,∃ n39,∃ c39,∃ e39,∃ x40,∃ x41,env=[(2,.ptr (i2,o2)),(5,.ptr (i5,o5)),(39,.slice a39 n39 c39 e39),(40,.int .i64 x40),(41,.int .i64 x41)]∧R9 i2 o2 i5 o5 a39 n39 c39 e39 x40 x41 h:=by
 unfold E9 at hi
 have hi0:=hi
 clear hi
 obtain ⟨_,_,rfl,hi1⟩:=Zan hi0
 obtain ⟨a,rfl,hi2⟩:=Zbv hi1
 obtain ⟨i2,o2,rfl,hi3⟩:=Zbr hi2
 obtain ⟨_,_,rfl,hi4⟩:=Zan hi3
 obtain ⟨a,rfl,hi5⟩:=Zbv hi4
 obtain ⟨i5,o5,rfl,hi6⟩:=Zbr hi5
 obtain ⟨_,_,rfl,hi7⟩:=Zan hi6
 obtain ⟨a39,n39,c39,e39,rfl,hi8⟩:=Zcg hi7
 obtain ⟨_,_,rfl,hi9⟩:=Zan hi8
 obtain ⟨x40,rfl,hi10⟩:=Zay hi9
 obtain ⟨_,_,rfl,hi11⟩:=Zan hi10
 obtain ⟨x41,rfl,hi12⟩:=Zay hi11
 obtain ⟨rfl,hi13⟩:=Zbw hi12
 have hi:=hi13
 exact ⟨i2,o2,i5,o5,a39,n39,c39,e39,x40,x41,rfl,hi⟩
def K0 (Q:QT):KT:=andThen (fun env' h'=>(match kp.find 4000016 with | some ks=>Den pg fn.ntmps (C [1,1,1,1,1,1,1]) (env'.keep ks) h' (KR Q) | none=>den pg fn.ntmps kp (C [1,1,1,1,1,1,1]) env' h' (KR Q))) (KR Q)
def K1 (Q:QT):KT:=Zde 0 (K0 Q)
def K2 (Q:QT):KT:=left kp 9 (K1 Q)
def K3 (Q:QT) (R9:T9):KT:=rnd ((kp.find 1000009).getD []) (E9 R9) (K2 Q)
def J6 (Q:QT) (i6 o6 i5 o5:Nat) (a4:Pt) (n4 c4:Nat) (e4:Bool) (i2 o2:Nat) (h:Zaa):Prop:=Den pg fn.ntmps (C [1,1,1,1,1]) [(6,.ptr (i6,o6)),(5,.ptr (i5,o5)),(4,.slice a4 n4 c4 e4),(2,.ptr (i2,o2))] h (KR Q)
def L9 (Q:QT) (i2 o2 i5 o5:Nat) (a39:Pt) (n39 c39:Nat) (e39:Bool) (x40 x41:Int) (h:Zaa):Prop:=Zff (Den pg fn.ntmps (C [1,1,1,1,1,1,0,1,0,1,0,0])) ((kp.find 1000009).getD []) (K2 Q) [(2,.ptr (i2,o2)),(5,.ptr (i5,o5)),(39,.slice a39 n39 c39 e39),(40,.int .i64 x40),(41,.int .i64 x41)] h
def J16 (Q:QT) (i5 o5 i2 o2:Nat) (h:Zaa):Prop:=Den pg fn.ntmps (C [1,1,1,1,1,1,1]) [(5,.ptr (i5,o5)),(2,.ptr (i2,o2))] h (KR Q)
def Ywk (Q:QT) (i5 o5 i2 o2:Nat) (h:Zaa):Prop:=At (K1 Q) (.exit 0) [(5,.ptr (i5,o5)),(2,.ptr (i2,o2)),(3,.undef)] h
theorem J6i (Q:QT) (i6 o6 i5 o5:Nat) (a4:Pt) (n4 c4:Nat) (e4:Bool) (i2 o2:Nat) (h:Zaa) (ht :
 Zcn (Zbj h (.ptr (i6,o6)) 2) fun A=>Zai A fun A B=>Zbc A fun A=>Zai B fun B C=>Zbc B fun B=>Zbu C (Zbn (Zaz h (.ptr (i5,o5 + 0)) [.str A,.str B]) fun A=>bcase ((((n4:Nat):Int):Int) == 2) ((0≤(1:Int)∧(1:Int) < (n4:Nat))∧(Zbg a4 fun B C=>Zbc (Zae A (.ptr (B,C + (Int.toNat 1) * 1))) fun B=>Zaj pg Zhf [.str B,.int .u8 38] A fun B C=>
 xSl B fun B D E F=>L9 Q i2 o2 i5 o5 B D E F (((D:Nat):Int)) 0 C)) (J16 Q i5 o5 i2 o2 A))):J6 Q i6 o6 i5 o5 a4 n4 c4 e4 i2 o2 h:=
 Zbf (kp:=kp) (cast (by kernel_rfl) ht)
def L9t (Q:QT) (R9:T9) (i2 o2 i5 o5:Nat) (a39:Pt) (n39 c39:Nat) (e39:Bool) (x40 x41:Int) (h:Zaa):Prop:=
 bcase (decide ((x41:Int) < x40)) ((0≤(x41:Int)∧(x41:Int) < (n39:Nat))∧(Zbg a39 fun A B=>Zbc (Zae h (.ptr (A,B + (Int.toNat x41) * 1))) fun A=>Zaj pg Zjv [.str A] h fun A B=>
 Zjx A fun A=>Zai A fun A C=>Zob A fun A=>Zai A fun A D=>Zbc A fun A=>Zai D fun D E=>Zbc D fun D=>Zbu E (Zai C fun C E=>Zck C fun C=>Zbu E (Zch (B ++ [.cells Zab [.str [],.str []] false]) fun E=>Zbn (Zaz E (.ptr (B.length,0)) [.str A,.str D]) fun A=>bcase (!C) (Zbn (Zaz A (.ptr (i2,o2)) [.str [],.str [],.slice none 0 0 true]) fun C=>Zcn (Zbj C (.ptr (i2,o2)) 3) fun D=>Zai D fun D E=>Zbc D fun D=>Zai E fun E F=>Zbc E fun E=>Zai F fun F G=>xSl F fun F H I J=>Zbu G (Q (.tup [.agg [.str D,.str E,.slice F H I J],.bool false]) C)) (xSl (Zae A (.ptr (i5,o5 + 2))) fun C D E F=>Zcn (Zbj A (.ptr (B.length,0)) 2) fun B=>Zai B fun B G=>Zbc B fun B=>Zai G fun G H=>Zbc G fun G=>Zbu H (Zch (A ++ [.cells Zab [.str B,.str G] false]) fun B=>Zcf pg Zbm B (.slice C D E F) (.slice (A.length,0) 1 1 true) fun A B=>xSl A fun A C D E=>Zbn (Zaz B (.ptr (i5,o5 + 2)) [.slice A C D E]) fun A=>R9 i2 o2 i5 o5 a39 n39 c39 e39 x40 (IntKind.wrap .i64 (x41 + 1)) A)))))) (Ywk Q i5 o5 i2 o2 h)
theorem Ymw (Q:QT) (R9:T9) (i2 o2 i5 o5:Nat) (a39:Pt) (n39 c39:Nat) (e39:Bool) (x40 x41:Int) (h:Zaa) (ht:L9t Q R9 i2 o2 i5 o5 a39 n39 c39 e39 x40 x41 h):Den pg fn.ntmps (C [1,1,1,1,1,1,0,1,0,1,0,0]) [(2,.ptr (i2,o2)),(5,.ptr (i5,o5)),(39,.slice a39 n39 c39 e39),(40,.int .i64 x40),(41,.int .i64 x41)] h (K3 Q R9):=
 Zbf (kp:=kp) (cast (by kernel_rfl) ht)
theorem L9ind (Q:QT) (i2 o2 i5 o5:Nat) (a39:Pt) (n39 c39:Nat) (e39:Bool) (x40:Int) {G:Type} (J:G→Int→Zaa→Prop) (m:G→Nat)
 (hr:∀ (g:G) (x41:Int) (h:Zaa),J g x41 h→∀ (R9:T9),(∀ g' (x41:Int) (h:Zaa),m g' < m g→J g' x41 h→R9 i2 o2 i5 o5 a39 n39 c39 e39 x40 x41 h)→L9t Q R9 i2 o2 i5 o5 a39 n39 c39 e39 x40 x41 h)
 (g:G) (x41:Int) (h:Zaa) (hj:J g x41 h):L9 Q i2 o2 i5 o5 a39 n39 c39 e39 x40 x41 h:=by
 let P:=fun (K:Int→Zaa→Prop) i2' o2' i5' o5' a39' n39' c39' e39' x40' x41 h=>i2=i2'∧o2=o2'∧i5=i5'∧o5=o5'∧a39=a39'∧n39=n39'∧c39=c39'∧e39=e39'∧x40=x40'∧K x41 h
 refine Zff.inv2 (fun g=>E9 (P (J g))) (fun g=>E9 (P fun x41 h=>∃ g',m g' < m g∧J g' x41 h)) m ?_ ?_ g ⟨rfl,rfl,rfl,rfl,rfl,rfl,rfl,rfl,rfl,hj⟩
 ·intro g env h hi
  obtain ⟨i2',o2',i5',o5',a39',n39',c39',e39',x40',x41,rfl,rfl,rfl,rfl,rfl,rfl,rfl,rfl,rfl,rfl,hj⟩:=Zwe hi
  exact Ymw Q _ i2 o2 i5 o5 a39 n39 c39 e39 x40 x41 h (hr g x41 h hj (P fun x41 h=>∃ g',m g' < m g∧J g' x41 h) fun g' x41 h hlt hj=>⟨rfl,rfl,rfl,rfl,rfl,rfl,rfl,rfl,rfl,g',hlt,hj⟩)
 ·intro g env h hi
  obtain ⟨i2',o2',i5',o5',a39',n39',c39',e39',x40',x41,rfl,rfl,rfl,rfl,rfl,rfl,rfl,rfl,rfl,rfl,g',hlt,hj⟩:=Zwe hi
  exact ⟨g',hlt,rfl,rfl,rfl,rfl,rfl,rfl,rfl,rfl,rfl,hj⟩
theorem J16i (Q:QT) (i5 o5 i2 o2:Nat) (h:Zaa) (ht :
 Zcn (Zbj h (.ptr (i5,o5)) 3) fun A=>Zai A fun A B=>Zbc A fun A=>Zai B fun B C=>Zbc B fun B=>Zai C fun C D=>xSl C fun C E F G=>Zbu D (Zbn (Zaz h (.ptr (i2,o2)) [.str A,.str B,.slice C E F G]) fun A=>Zcn (Zbj A (.ptr (i2,o2)) 3) fun B=>Zai B fun B C=>Zbc B fun B=>Zai C fun C D=>Zbc C fun C=>Zai D fun D E=>xSl D fun D F G H=>Zbu E (Q (.tup [.agg [.str B,.str C,.slice D F G H],.bool true]) A))):J16 Q i5 o5 i2 o2 h:=
 Zbf (kp:=kp) (cast (by kernel_rfl) ht)
theorem A9x0i (Q:QT) (i5 o5 i2 o2:Nat) (h:Zaa) (ht :
 J16 Q i5 o5 i2 o2 h):Ywk Q i5 o5 i2 o2 h:=
 At.mk (cast (by kernel_rfl) ht)
theorem call (x0:List Nat) (h:Zaa) (Q:QT) (ht :
 Zch (h ++ [.cells Zac [.str [],.str [],.slice none 0 0 true] false]) fun A=>Zaj pg Zhf [.str x0,.int .u8 58] A fun A B=>
 xSl A fun A C D E=>Zch (B ++ [.cells Zab [] false]) fun F=>Zch (F ++ [.cells Zac [.str [],.str [],.slice none 0 0 true] false]) fun G=>Zbn (Zaz G (.ptr (F.length,0)) [.str [],.str [],.slice (B.length,0) 0 0 true]) fun B=>(0≤(0:Int)∧(0:Int) < (C:Nat))∧(Zbg A fun G H=>Zbc (Zae B (.ptr (G,H + (Int.toNat 0) * 1))) fun G=>Zaj pg Zjv [.str G] B fun B G=>
 Zjx B fun B=>Zai B fun B H=>Zob B fun B=>Zai B fun B I=>Zbc B fun B=>Zai I fun I J=>Zbc I fun I=>Zbu J (Zai H fun H J=>Zck H fun H=>Zbu J (Zch (G ++ [.cells Zab [.str [],.str []] false]) fun J=>Zbn (Zaz J (.ptr (G.length,0)) [.str B,.str I]) fun B=>bcase (!H) (Zbn (Zaz B (.ptr (h.length,0)) [.str [],.str [],.slice none 0 0 true]) fun H=>Zcn (Zbj H (.ptr (h.length,0)) 3) fun I=>Zai I fun I J=>Zbc I fun I=>Zai J fun J K=>Zbc J fun J=>Zai K fun K L=>xSl K fun K M N O=>Zbu L (Q (.tup [.agg [.str I,.str J,.slice K M N O],.bool false]) H)) (bcase (decide (((((C:Nat):Int)):Int) > 2)) (Zbn (Zaz B (.ptr (h.length,0)) [.str [],.str [],.slice none 0 0 true]) fun H=>Zcn (Zbj H (.ptr (h.length,0)) 3) fun I=>Zai I fun I J=>Zbc I fun I=>Zai J fun J K=>Zbc J fun J=>Zai K fun K L=>xSl K fun K M N O=>Zbu L (Q (.tup [.agg [.str I,.str J,.slice K M N O],.bool false]) H)) (J6 Q G.length 0 F.length 0 A C D E h.length 0 B)))))):Zaj pg Ziv [.str x0] h Q:=
 Zaj.of_body kp (c:=cod fn) (fn:=fn) Go.Proofs.Tryz.func160 (by kernel_rfl) (by kernel_rfl) (Nat.le_of_ble_eq_true (by kernel_rfl))
  (cast (by kernel_rfl) ht)
end Zdz
end Go.Sim

set_option maxRecDepth 100000
set_option linter.unusedVariables false
namespace Go.Sim
open Go Go.RowKit
namespace Zmw
noncomputable abbrev fn:Func:=Go.Proofs.Tryz.f70
def kp:Zco:=[(4000005,[0,1,2])]
noncomputable def C (p:List Nat):Code:=(cod fn).sub p
def KR (Q:QT):KT:=Zfd pg fn.results.toList Q
def J5 (Q:QT) (a0:Pt) (x1:Int) (x2:Bool) (h:Zaa):Prop:=Den pg fn.ntmps (C [1,1]) [(0,.ptr a0),(1,.int .i64 x1),(2,.bool x2)] h (KR Q)
theorem J5i (Q:QT) (a0:Pt) (x1:Int) (x2:Bool) (h:Zaa) (ht :
 Zaj pg Zbe [.ptr a0,.int .i64 4] h fun A B=>
 Zdt .i64 A fun A=>bcase ((A:Int) == 0) (Zaj pg Zeu [.ptr a0,.int .i64 (IntKind.wrap .i64 (x1 - 1)),.bool x2] B fun C D=>
 Zbc C fun C=>List.length ([112,40]) + List.length C≤9223372036854775807∧(List.length (([112,40]) ++ C) + List.length [44]≤9223372036854775807∧(Zaj pg Zeu [.ptr a0,.int .i64 (IntKind.wrap .i64 (x1 - 1)),.bool x2] D fun D E=>
 Zbc D fun D=>List.length ((([112,40]) ++ C) ++ [44]) + List.length D≤9223372036854775807∧(List.length (((([112,40]) ++ C) ++ [44]) ++ D) + List.length [41]≤9223372036854775807∧(Q (.str ((((([112,40]) ++ C) ++ [44]) ++ D) ++ [41])) E))))) (bcase ((A:Int) == 1) (Zaj pg Zeu [.ptr a0,.int .i64 (IntKind.wrap .i64 (x1 - 1)),.bool x2] B fun A C=>
 Zbc A fun A=>List.length ([109,40]) + List.length A≤9223372036854775807∧(List.length (([109,40]) ++ A) + List.length [41]≤9223372036854775807∧(Q (.str ((([109,40]) ++ A) ++ [41])) C))) (Zaj pg Zeu [.ptr a0,.int .i64 (IntKind.wrap .i64 (x1 - 1)),.bool x2] B fun A B=>
 Zbc A fun A=>List.length ([108,40]) + List.length A≤9223372036854775807∧(List.length (([108,40]) ++ A) + List.length [41]≤9223372036854775807∧(Q (.str ((([108,40]) ++ A) ++ [41])) B))))):J5 Q a0 x1 x2 h:=
 Zbf (kp:=kp) (cast (by kernel_rfl) ht)
theorem call (a0:Pt) (x1:Int) (x2:Bool) (h:Zaa) (Q:QT) (ht :
 bcase ((x1:Int) == 0) (bcase x2 (Zch (h ++ [.cells Zbh [.str [105],.str [98],.str [105],.str [117]] false]) fun A=>Zaj pg Zcd [.ptr a0,.slice (h.length,0) 4 4 true] A fun A B=>
 Zbc A fun A=>Q (.str A) B) (Zch (h ++ [.cells Zbh [.str [120],.str [105],.str [121],.str [98],.str [120],.str [122],.str [117]] false]) fun A=>Zaj pg Zcd [.ptr a0,.slice (h.length,0) 7 7 true] A fun A B=>
 Zbc A fun A=>Q (.str A) B)) (Zaj pg Zbe [.ptr a0,.int .i64 3] h fun A B=>
 Zdt .i64 A fun A=>bcase ((A:Int) == 0) (bcase x2 (Zch (B ++ [.cells Zbh [.str [105],.str [98],.str [105],.str [117]] false]) fun A=>Zaj pg Zcd [.ptr a0,.slice (B.length,0) 4 4 true] A fun A C=>
 Zbc A fun A=>Q (.str A) C) (Zch (B ++ [.cells Zbh [.str [120],.str [105],.str [121],.str [98],.str [120],.str [122],.str [117]] false]) fun A=>Zaj pg Zcd [.ptr a0,.slice (B.length,0) 7 7 true] A fun A C=>
 Zbc A fun A=>Q (.str A) C)) (J5 Q a0 x1 x2 B))):Zaj pg Zeu [.ptr a0,.int .i64 x1,.bool x2] h Q:=
 Zaj.of_body kp (c:=cod fn) (fn:=fn) Go.Proofs.Tryz.func70 (by kernel_rfl) (by kernel_rfl) (Nat.le_of_ble_eq_true (by kernel_rfl))
  (cast (by kernel_rfl) ht)
end Zmw
namespace Zvy
noncomputable abbrev fn:Func:=Go.Proofs.Tryz.f73
def kp:Zco:=[(2000005,[2])]
noncomputable def C (p:List Nat):Code:=(cod fn).sub p
def KR (Q:QT):KT:=Zfd pg fn.results.toList Q
theorem call (a0:Pt) (h:Zaa) (Q:QT) (ht :
 Zaj pg Zbe [.ptr a0,.int .i64 4] h fun A B=>
 Zdt .i64 A fun A=>Zaj pg Zbe [.ptr a0,.int .i64 2] B fun B C=>
 Zdt .i64 B fun B=>Zaj pg Zeu [.ptr a0,.int .i64 A,.bool ((B:Int) == 0)] C fun A B=>
 Zbc A fun A=>Zaj pg Zbe [.ptr a0,.int .i64 16] B fun B C=>
 Zdt .i64 B fun B=>bcase (decide ((B:Int) > 0)) (Q (.str A) C) (Zaj pg Zbe [.ptr a0,.int .i64 (((List.length A:Nat):Int))] C fun B C=>
 Zdt .i64 B fun B=>(0≤(0:Int)∧(0:Int)≤B∧(B:Int)≤(List.length A:Nat))∧(Zch (C ++ [.cells Zbh [.str [],.str [40],.str [41],.str [44],.str [105],.str [113],.str [88]] false]) fun D=>Zaj pg Zcd [.ptr a0,.slice (C.length,0) 7 7 true] D fun C D=>
 Zbc C fun C=>List.length (sub A 0 B) + List.length C≤9223372036854775807∧(Zaj pg Zbe [.ptr a0,.int .i64 2] D fun D E=>
 Zdt .i64 D fun D=>(0≤(IntKind.wrap .i64 (B + D):Int)∧(IntKind.wrap .i64 (B + D):Int)≤(List.length A:Int)∧((List.length A:Int):Int)≤(List.length A:Nat))∧(List.length ((sub A 0 B) ++ C) + List.length (sub A (IntKind.wrap .i64 (B + D)) ((List.length A:Int)))≤9223372036854775807∧(Q (.str (((sub A 0 B) ++ C) ++ (sub A (IntKind.wrap .i64 (B + D)) ((List.length A:Int))))) E)))))):Zaj pg Zrn [.ptr a0] h Q:=
 Zaj.of_body kp (c:=cod fn) (fn:=fn) Go.Proofs.Tryz.func73 (by kernel_rfl) (by kernel_rfl) (Nat.le_of_ble_eq_true (by kernel_rfl))
  (cast (by kernel_rfl) ht)
end Zvy
namespace Zkj
noncomputable abbrev fn:Func:=Go.Proofs.Tryz.f72
def kp:Zco:=[(3000006,[7,5]),(1000006,[0,5,7,19]),(2000008,[19,7,0,5])]
noncomputable def C (p:List Nat):Code:=(cod fn).sub p
def KR (Q:QT):KT:=Zfd pg fn.results.toList Q
abbrev T6:=Pt→Nat→Nat→Nat→Nat→Int→Zaa→Prop
def E6 (R6:T6) (env:Env) (h:Zaa):Prop:=Zce 0 env fun v env=>Zgm v fun a0=>Zce 5 env fun v env=>Zgm v fun a=>Zbg a fun i5 o5=>Zce 7 env fun v env=>Zgm v fun a=>Zbg a fun i7 o7=>Zce 19 env fun v env=>Zew .i64 v fun x19=>Zls env (R6 a0 i5 o5 i7 o7 x19 h)
theorem Zma {R6:T6} {env:Env} {h:Zaa} (hi:E6 R6 env h):∃ a0,∃ i5,∃ o5,∃ i7,∃ o7,∃ x19,env=[(0,.ptr a0),(5,.ptr (i5,o5)),(7,.ptr (i7,o7)),(19,.int .i64 x19)]∧R6 a0 i5 o5 i7 o7 x19 h:=by
 unfold E6 at hi
 have hi0:=hi
 clear hi
 obtain ⟨_,_,rfl,hi1⟩:=Zan hi0
 obtain ⟨a0,rfl,hi2⟩:=Zbv hi1
 obtain ⟨_,_,rfl,hi3⟩:=Zan hi2
 obtain ⟨a,rfl,hi4⟩:=Zbv hi3
 obtain ⟨i5,o5,rfl,hi5⟩:=Zbr hi4
 obtain ⟨_,_,rfl,hi6⟩:=Zan hi5
 obtain ⟨a,rfl,hi7⟩:=Zbv hi6
 obtain ⟨i7,o7,rfl,hi8⟩:=Zbr hi7
 obtain ⟨_,_,rfl,hi9⟩:=Zan hi8
 obtain ⟨x19,rfl,hi10⟩:=Zay hi9
 obtain ⟨rfl,hi11⟩:=Zbw hi10
 have hi:=hi11
 exact ⟨a0,i5,o5,i7,o7,x19,rfl,hi⟩
def K0 (Q:QT):KT:=andThen (fun env' h'=>(match kp.find 4000010 with | some ks=>Den pg fn.ntmps (C [1,1,1,1,1]) (env'.keep ks) h' (KR Q) | none=>den pg fn.ntmps kp (C [1,1,1,1,1]) env' h' (KR Q))) (KR Q)
def K1 (Q:QT):KT:=Zde 0 (K0 Q)
def K2 (Q:QT):KT:=left kp 6 (K1 Q)
def K3 (Q:QT) (R6:T6):KT:=rnd ((kp.find 1000006).getD []) (E6 R6) (K2 Q)
def L6 (Q:QT) (a0:Pt) (i5 o5 i7 o7:Nat) (x19:Int) (h:Zaa):Prop:=Zff (Den pg fn.ntmps (C [1,1,1,1,0,1,0,0])) ((kp.find 1000006).getD []) (K2 Q) [(0,.ptr a0),(5,.ptr (i5,o5)),(7,.ptr (i7,o7)),(19,.int .i64 x19)] h
def Yck (Q:QT) (i7 o7 i5 o5:Nat) (h:Zaa):Prop:=At (K1 Q) (.exit 0) [(7,.ptr (i7,o7)),(5,.ptr (i5,o5))] h
def L6t (Q:QT) (R6:T6) (a0:Pt) (i5 o5 i7 o7:Nat) (x19:Int) (h:Zaa):Prop:=
 bcase (decide ((x19:Int) < 12)) (Zaj pg Zbe [.ptr a0,.int .i64 2] h fun A B=>
 Zdt .i64 A fun A=>Zaj pg Zbe [.ptr a0,.int .i64 2] B fun B C=>
 Zdt .i64 B fun B=>Zaj pg Zeu [.ptr a0,.int .i64 A,.bool ((B:Int) == 0)] C fun A B=>
 Zbc A fun A=>Zaj pg Zfw [.str A] B fun A B=>
 Zjx A fun A=>Zai A fun A C=>Zob A fun A=>Zai A fun A D=>Zdt .u8 A fun A=>Zai D fun D E=>xSl D fun D F G H=>Zbu E (Zai C fun C E=>Zck C fun C=>Zbu E ((0≤(x19:Int)∧(x19:Int) < (12:Nat))∧(Zbn (Zaz B (.ptr (i7,o7 + (Int.toNat x19) * 2)) [.int .u8 A,.slice D F G H]) fun A=>R6 a0 i5 o5 i7 o7 (IntKind.wrap .i64 (x19 + 1)) A)))) (Yck Q i7 o7 i5 o5 h)
theorem Zyu (Q:QT) (R6:T6) (a0:Pt) (i5 o5 i7 o7:Nat) (x19:Int) (h:Zaa) (ht:L6t Q R6 a0 i5 o5 i7 o7 x19 h):Den pg fn.ntmps (C [1,1,1,1,0,1,0,0]) [(0,.ptr a0),(5,.ptr (i5,o5)),(7,.ptr (i7,o7)),(19,.int .i64 x19)] h (K3 Q R6):=
 Zbf (kp:=kp) (cast (by kernel_rfl) ht)
theorem L6ind (Q:QT) (a0:Pt) (i5 o5 i7 o7:Nat) {G:Type} (J:G→Int→Zaa→Prop) (m:G→Nat)
 (hr:∀ (g:G) (x19:Int) (h:Zaa),J g x19 h→∀ (R6:T6),(∀ g' (x19:Int) (h:Zaa),m g' < m g→J g' x19 h→R6 a0 i5 o5 i7 o7 x19 h)→L6t Q R6 a0 i5 o5 i7 o7 x19 h)
 (g:G) (x19:Int) (h:Zaa) (hj:J g x19 h):L6 Q a0 i5 o5 i7 o7 x19 h:=by
 let P:=fun (K:Int→Zaa→Prop) a0' i5' o5' i7' o7' x19 h=>a0=a0'∧i5=i5'∧o5=o5'∧i7=i7'∧o7=o7'∧K x19 h
 refine Zff.inv2 (fun g=>E6 (P (J g))) (fun g=>E6 (P fun x19 h=>∃ g',m g' < m g∧J g' x19 h)) m ?_ ?_ g ⟨rfl,rfl,rfl,rfl,rfl,hj⟩
 ·intro g env h hi
  obtain ⟨a0',i5',o5',i7',o7',x19,rfl,rfl,rfl,rfl,rfl,rfl,hj⟩:=Zma hi
  exact Zyu Q _ a0 i5 o5 i7 o7 x19 h (hr g x19 h hj (P fun x19 h=>∃ g',m g' < m g∧J g' x19 h) fun g' x19 h hlt hj=>⟨rfl,rfl,rfl,rfl,rfl,g',hlt,hj⟩)
 ·intro g env h hi
  obtain ⟨a0',i5',o5',i7',o7',x19,rfl,rfl,rfl,rfl,rfl,rfl,g',hlt,hj⟩:=Zma hi
  exact ⟨g',hlt,rfl,rfl,rfl,rfl,rfl,hj⟩
theorem A6x0i (Q:QT) (i7 o7 i5 o5:Nat) (h:Zaa) (ht :
 Zcn (Zbj h (.ptr (i5,o5)) 2) fun A=>Zai A fun A B=>Zdt .u8 A fun A=>Zai B fun B C=>xSl B fun B D E F=>Zbu C (Zaj pg Zlv [.ptr (i7,o7),.agg [.int .u8 A,.slice B D E F]] h fun A B=>
 Zob A fun A=>Zai A fun A C=>Zdt .u8 A fun A=>Zai C fun C D=>xSl C fun C E F G=>Zbu D (Zch (B ++ [.cells Zak [.int .u8 0,.slice none 0 0 true] false]) fun D=>Zbn (Zaz D (.ptr (B.length,0)) [.int .u8 A,.slice C E F G]) fun A=>Zcn (Zbj A (.ptr (B.length,0)) 2) fun C=>Zai C fun C D=>Zdt .u8 C fun C=>Zai D fun D E=>xSl D fun D F G H=>Zbu E (Zaj pg Zgt [.agg [.int .u8 C,.slice D F G H]] A fun A C=>
 Zdt .i64 A fun A=>bcase (decide ((A:Int) > 60)) (Q (.str [105]) C) (Zcn (Zbj C (.ptr (B.length,0)) 2) fun A=>Zai A fun A B=>Zdt .u8 A fun A=>Zai B fun B D=>xSl B fun B E F G=>Zbu D (Zaj pg Zgf [.agg [.int .u8 A,.slice B E F G]] C fun A B=>
 Zbc A fun A=>Q (.str A) B)))))):Yck Q i7 o7 i5 o5 h:=
 At.mk (cast (by kernel_rfl) ht)
theorem call (a0:Pt) (x1:List Nat) (h:Zaa) (Q:QT) (ht :
 Zaj pg Zfw [.str x1] h fun A B=>
 Zjx A fun A=>Zai A fun A C=>Zob A fun A=>Zai A fun A D=>Zdt .u8 A fun A=>Zai D fun D E=>xSl D fun D F G H=>Zbu E (Zai C fun C E=>Zck C fun C=>Zbu E (Zch (B ++ [.cells Zak [.int .u8 0,.slice none 0 0 true] false]) fun E=>Zbn (Zaz E (.ptr (B.length,0)) [.int .u8 A,.slice D F G H]) fun A=>bcase (!C) (Q (.str [105]) A) (Zch (A ++ [.cells Zdi [.int .u8 0,.slice none 0 0 true,.int .u8 0,.slice none 0 0 true,.int .u8 0,.slice none 0 0 true,.int .u8 0,.slice none 0 0 true,.int .u8 0,.slice none 0 0 true,.int .u8 0,.slice none 0 0 true,.int .u8 0,.slice none 0 0 true,.int .u8 0,.slice none 0 0 true,.int .u8 0,.slice none 0 0 true,.int .u8 0,.slice none 0 0 true,.int .u8 0,.slice none 0 0 true,.int .u8 0,.slice none 0 0 true] false]) fun C=>L6 Q a0 B.length 0 A.length 0 0 C)))):Zaj pg Zld [.ptr a0,.str x1] h Q:=
 Zaj.of_body kp (c:=cod fn) (fn:=fn) Go.Proofs.Tryz.func72 (by kernel_rfl) (by kernel_rfl) (Nat.le_of_ble_eq_true (by kernel_rfl))
  (cast (by kernel_rfl) ht)
end Zkj
end Go.Sim

set_option maxRecDepth 100000
set_option linter.unusedVariables false
namespace Go.Sim
open Go Go.RowKit
namespace Zlr
noncomputable abbrev fn:Func:=Go.Proofs.Tryz.f41
def kp:Zco:=[(4000003,[0])]
noncomputable def C (p:List Nat):Code:=(cod fn).sub p
def KR (Q:QT):KT:=Zfd pg fn.results.toList Q
def J3 (Q:QT) (a0:Pt) (n0 c0:Nat) (e0:Bool) (h:Zaa):Prop:=Den pg fn.ntmps (C [1,1]) [(0,.slice a0 n0 c0 e0)] h (KR Q)
theorem J3i (Q:QT) (a0:Pt) (n0 c0:Nat) (e0:Bool) (h:Zaa) (ht :
 Zch (h ++ [.cells Zof [.slice a0 n0 c0 e0,.int .i64 0] false]) fun A=>Q (.ptr (h.length,0)) A):J3 Q a0 n0 c0 e0 h:=
 Zbf (kp:=kp) (cast (by kernel_rfl) ht)
theorem call (a0:Pt) (n0 c0:Nat) (e0:Bool) (h:Zaa) (Q:QT) (ht :
 bcase (decide (((((n0:Nat):Int)):Int) > 2000)) (Zhu a0 n0 c0 e0 1 none (some (.int .i64 2000)) none fun A=>xSl A fun A B C D=>J3 Q A B C D h) (J3 Q a0 n0 c0 e0 h)):Zaj pg Zjj [.slice a0 n0 c0 e0] h Q:=
 Zaj.of_body kp (c:=cod fn) (fn:=fn) Go.Proofs.Tryz.func41 (by kernel_rfl) (by kernel_rfl) (Nat.le_of_ble_eq_true (by kernel_rfl))
  (cast (by kernel_rfl) ht)
end Zlr
namespace Zlm
noncomputable abbrev fn:Func:=Go.Proofs.Tryz.f71
def kp:Zco:=[(4000004,[0,1]),(2000007,[6,1])]
noncomputable def C (p:List Nat):Code:=(cod fn).sub p
def KR (Q:QT):KT:=Zfd pg fn.results.toList Q
def J4 (Q:QT) (a0:Pt) (x1:Int) (h:Zaa):Prop:=Den pg fn.ntmps (C [1,1,1]) [(0,.ptr a0),(1,.int .i64 x1)] h (KR Q)
theorem J4i (Q:QT) (a0:Pt) (x1:Int) (h:Zaa) (ht :
 Zbg a0 fun A B=>Zdt .i64 (Zae h (.ptr (A,B + 1))) fun A=>Zbg a0 fun B C=>xSl (Zae h (.ptr (B,C + 0))) fun B B C C=>bcase (decide (((IntKind.wrap .i64 (A - 1)):Int) < (((B:Nat):Int)))) (Zbg a0 fun B C=>xSl (Zae h (.ptr (B,C + 0))) fun B C D D=>(0≤(IntKind.wrap .i64 (A - 1):Int)∧(IntKind.wrap .i64 (A - 1):Int) < (C:Nat))∧(Zbg B fun B C=>Zdt .u8 (Zae h (.ptr (B,C + (Int.toNat (IntKind.wrap .i64 (A - 1))) * 1))) fun B=>(x1:Int)≠0∧(Q (.int .i64 (Int.tmod (IntKind.wrap .i64 (B)) x1)) h))) (Zbg a0 fun B C=>Zbg a0 fun D E=>Zbg a0 fun F G=>Zbg a0 fun H I=>Zbg a0 fun J K=>xSl (Zae h (.ptr (B,C + 0))) fun L M N N=>xSl (Zae h (.ptr (D,E + 0))) fun N N O O=>((((N:Nat):Int)):Int)≠0∧((0≤(Int.tmod (IntKind.wrap .i64 (A - 1)) (((N:Nat):Int)):Int)∧(Int.tmod (IntKind.wrap .i64 (A - 1)) (((N:Nat):Int)):Int) < (M:Nat))∧(Zbg L fun L M=>Zdt .u8 (Zae h (.ptr (L,M + (Int.toNat (Int.tmod (IntKind.wrap .i64 (A - 1)) (((N:Nat):Int)))) * 1))) fun O=>xSl (Zae h (.ptr (F,G + 0))) fun P R S S=>xSl (Zae h (.ptr (H,I + 0))) fun S S T T=>((((S:Nat):Int)):Int)≠0∧((0≤(Int.tmod (IntKind.wrap .i64 ((IntKind.wrap .i64 ((IntKind.wrap .i64 (A - 1)) * 7)) + 3)) (((S:Nat):Int)):Int)∧(Int.tmod (IntKind.wrap .i64 ((IntKind.wrap .i64 ((IntKind.wrap .i64 (A - 1)) * 7)) + 3)) (((S:Nat):Int)):Int) < (R:Nat))∧(Zbg P fun P R=>Zdt .u8 (Zae h (.ptr (P,R + (Int.toNat (Int.tmod (IntKind.wrap .i64 ((IntKind.wrap .i64 ((IntKind.wrap .i64 (A - 1)) * 7)) + 3)) (((S:Nat):Int)))) * 1))) fun T=>xSl (Zae h (.ptr (J,K + 0))) fun J J K K=>(Zae h (.ptr (P,R + (Int.toNat (Int.tmod (IntKind.wrap .i64 ((IntKind.wrap .i64 ((IntKind.wrap .i64 (A - 1)) * 7)) + 3)) (((S:Nat):Int)))) * 1))=Zae h (.ptr (P,R + (Int.toNat (Int.tmod (IntKind.wrap .i64 ((IntKind.wrap .i64 ((IntKind.wrap .i64 (A - 1)) * 7)) + 3)) (((S:Nat):Int)))) * 1)))∧(Zae h (.ptr (H,I + 0))=Zae h (.ptr (H,I + 0)))∧(Zae h (.ptr (F,G + 0))=Zae h (.ptr (F,G + 0)))∧(Zae h (.ptr (L,M + (Int.toNat (Int.tmod (IntKind.wrap .i64 (A - 1)) (((N:Nat):Int)))) * 1))=Zae h (.ptr (L,M + (Int.toNat (Int.tmod (IntKind.wrap .i64 (A - 1)) (((N:Nat):Int)))) * 1)))∧(Zae h (.ptr (D,E + 0))=Zae h (.ptr (D,E + 0)))∧(Zae h (.ptr (B,C + 0))=Zae h (.ptr (B,C + 0)))∧((((J:Nat):Int)):Int)≠0∧((64:Int)≠0∧((x1:Int)≠0∧(Q (.int .i64 (Int.tmod (IntKind.wrap .i64 (BitVec.ofInt (IntKind.bits .i64) (IntKind.wrap .i64 ((IntKind.wrap .i64 ((IntKind.wrap .i64 ((IntKind.wrap .i64 ((IntKind.wrap .i64 (O)) * 131)) + (IntKind.wrap .i64 ((IntKind.wrap .i64 (T)) * 1117)))) + (IntKind.wrap .i64 ((IntKind.wrap .i64 (A - 1)) * 29)))) + (IntKind.wrap .i64 ((IntKind.wrap .i64 (Int.tdiv (IntKind.wrap .i64 (A - 1)) (((J:Nat):Int)))) * 53)))) ^^^ BitVec.ofInt (IntKind.bits .i64) (IntKind.wrap .i64 (Int.tdiv (IntKind.wrap .i64 ((IntKind.wrap .i64 ((IntKind.wrap .i64 ((IntKind.wrap .i64 ((IntKind.wrap .i64 (O)) * 131)) + (IntKind.wrap .i64 ((IntKind.wrap .i64 (T)) * 1117)))) + (IntKind.wrap .i64 ((IntKind.wrap .i64 (A - 1)) * 29)))) + (IntKind.wrap .i64 ((IntKind.wrap .i64 (Int.tdiv (IntKind.wrap .i64 (A - 1)) (((J:Nat):Int)))) * 53)))) 64))).toNat) x1)) h))))))))):J4 Q a0 x1 h:=
 Zbf (kp:=kp) (cast (by kernel_rfl) ht)
theorem call (a0:Pt) (x1:Int) (h:Zaa) (Q:QT) (ht :
 Zbg a0 fun A B=>Zdt .i64 (Zae h (.ptr (A,B + 1))) fun A=>Zbg a0 fun B C=>Zbn (Zaz h (.ptr (B,C + 1)) [.int .i64 (IntKind.wrap .i64 (A + 1))]) fun A=>bcase (decide ((x1:Int) < 1)) (Q (.int .i64 0) A) (Zbg a0 fun B C=>xSl (Zae A (.ptr (B,C + 0))) fun B B C C=>bcase ((((B:Nat):Int):Int) == 0) (Q (.int .i64 0) A) (J4 Q a0 x1 A))):Zaj pg Zbe [.ptr a0,.int .i64 x1] h Q:=
 Zaj.of_body kp (c:=cod fn) (fn:=fn) Go.Proofs.Tryz.func71 (by kernel_rfl) (by kernel_rfl) (Nat.le_of_ble_eq_true (by kernel_rfl))
  (cast (by kernel_rfl) ht)
end Zlm
namespace Zqx
noncomputable abbrev fn:Func:=Go.Proofs.Tryz.f140
def kp:Zco:=[]
noncomputable def C (p:List Nat):Code:=(cod fn).sub p
def KR (Q:QT):KT:=Zfd pg fn.results.toList Q
theorem call (a0 a1:Pt) (n1 c1:Nat) (e1:Bool) (h:Zaa) (Q:QT) (ht :
 Zaj pg Zbe [.ptr a0,.int .i64 (((n1:Nat):Int))] h fun A B=>
 Zdt .i64 A fun A=>(0≤(A:Int)∧(A:Int) < (n1:Nat))∧(Zbg a1 fun C D=>Zdt .i64 (Zae B (.ptr (C,D + (Int.toNat A) * 1))) fun A=>Q (.int .i64 A) B)):Zaj pg Zep [.ptr a0,.slice a1 n1 c1 e1] h Q:=
 Zaj.of_body kp (c:=cod fn) (fn:=fn) Go.Proofs.Tryz.func140 (by kernel_rfl) (by kernel_rfl) (Nat.le_of_ble_eq_true (by kernel_rfl))
  (cast (by kernel_rfl) ht)
end Zqx
namespace Zrp
noncomputable abbrev fn:Func:=Go.Proofs.Tryz.f84
def kp:Zco:=[]
noncomputable def C (p:List Nat):Code:=(cod fn).sub p
def KR (Q:QT):KT:=Zfd pg fn.results.toList Q
theorem call (a0 a1:Pt) (n1 c1:Nat) (e1:Bool) (h:Zaa) (Q:QT) (ht :
 Zaj pg Zbe [.ptr a0,.int .i64 (((n1:Nat):Int))] h fun A B=>
 Zdt .i64 A fun A=>(0≤(A:Int)∧(A:Int) < (n1:Nat))∧(Zbg a1 fun C D=>Zbc (Zae B (.ptr (C,D + (Int.toNat A) * 1))) fun A=>Q (.str A) B)):Zaj pg Zcd [.ptr a0,.slice a1 n1 c1 e1] h Q:=
 Zaj.of_body kp (c:=cod fn) (fn:=fn) Go.Proofs.Tryz.func84 (by kernel_rfl) (by kernel_rfl) (Nat.le_of_ble_eq_true (by kernel_rfl))
  (cast (by kernel_rfl) ht)
end Zrp
end Go.Sim

set_option maxRecDepth 100000
set_option linter.unusedVariables false
namespace Go.Sim
open Go Go.RowKit
namespace Zmd
noncomputable abbrev fn:Func:=Go.Proofs.Tryz.f117
def kp:Zco:=[]
noncomputable def C (p:List Nat):Code:=(cod fn).sub p
def KR (Q:QT):KT:=Zfd pg fn.results.toList Q
theorem call (x0x0 x0x1:List Nat) (a0x2:Pt) (n0x2 c0x2:Nat) (e0x2:Bool) (h:Zaa) (Q:QT) (ht :
 Zch (h ++ [.cells Zac [.str x0x0,.str x0x1,.slice a0x2 n0x2 c0x2 e0x2] false]) fun A=>Zch (A ++ [.cells Zac [.str [],.str [],.slice none 0 0 true] false]) fun B=>Zch (B ++ [.cells Zab [] false]) fun C=>xSl (Zae C (.ptr (h.length,0 + 2))) fun D E F G=>Zcf pg Zbm C (.slice (B.length,0) 0 0 true) (.slice D E F G) fun B C=>xSl B fun B D E F=>Zbn (Zaz C (.ptr (h.length,0 + 2)) [.slice B D E F]) fun B=>Zcn (Zbj B (.ptr (h.length,0)) 3) fun C=>Zai C fun C D=>Zbc C fun C=>Zai D fun D E=>Zbc D fun D=>Zai E fun E F=>xSl E fun E G H I=>Zbu F (Zbn (Zaz B (.ptr (A.length,0)) [.str C,.str D,.slice E G H I]) fun B=>Zcn (Zbj B (.ptr (A.length,0)) 3) fun A=>Zai A fun A C=>Zbc A fun A=>Zai C fun C D=>Zbc C fun C=>Zai D fun D E=>xSl D fun D F G H=>Zbu E (Q (.agg [.str A,.str C,.slice D F G H]) B))):Zaj pg Zia [.agg [.str x0x0,.str x0x1,.slice a0x2 n0x2 c0x2 e0x2]] h Q:=
 Zaj.of_body kp (c:=cod fn) (fn:=fn) Go.Proofs.Tryz.func117 (by kernel_rfl) (by kernel_rfl) (Nat.le_of_ble_eq_true (by kernel_rfl))
  (cast (by kernel_rfl) ht)
end Zmd
namespace Zen
noncomputable abbrev fn:Func:=Go.Proofs.Tryz.f81
def kp:Zco:=[(3000003,[3]),(1000003,[3,7,8,9])]
noncomputable def C (p:List Nat):Code:=(cod fn).sub p
def KR (Q:QT):KT:=Zfd pg fn.results.toList Q
abbrev T3:=Pt→Nat→Nat→Bool→Pt→Nat→Nat→Bool→Int→Int→Zaa→Prop
def E3 (R3:T3) (env:Env) (h:Zaa):Prop:=Zce 3 env fun v env=>xSl v fun a3 n3 c3 e3=>Zce 7 env fun v env=>xSl v fun a7 n7 c7 e7=>Zce 8 env fun v env=>Zew .i64 v fun x8=>Zce 9 env fun v env=>Zew .i64 v fun x9=>Zls env (R3 a3 n3 c3 e3 a7 n7 c7 e7 x8 x9 h)
theorem Zgj {R3:T3} {env:Env} {h:Zaa} (hi:E3 R3 env h):∃ a3,∃ n3,∃ c3,∃ e3,∃ a7,∃ n7,∃ c7,∃ e7,∃ x8,∃ x9,env=[(3,.slice a3 n3 c3 e3),(7,.slice a7 n7 c7 e7),(8,.int .i64 x8),(9,.int .i64 x9)]∧R3 a3 n3 c3 e3 a7 n7 c7 e7 x8 x9 h:=by
 unfold E3 at hi
 repeat ((first | (have k:=Zan hi; clear hi; obtain ⟨_,_,e,hi⟩:=k) | (have k:=Zay hi; clear hi; obtain ⟨_,e,hi⟩:=k) | (have k:=Zcg hi; clear hi; obtain ⟨_,_,_,_,e,hi⟩:=k)); subst e)
 obtain ⟨rfl,hi⟩:=Zbw hi
 exact ⟨_,_,_,_,_,_,_,_,_,_,rfl,hi⟩
def K0 (Q:QT):KT:=andThen (fun env' h'=>(match kp.find 4000007 with | some ks=>Den pg fn.ntmps (C [1,1,1]) (env'.keep ks) h' (KR Q) | none=>den pg fn.ntmps kp (C [1,1,1]) env' h' (KR Q))) (KR Q)
def K1 (Q:QT):KT:=Zde 0 (K0 Q)
def K2 (Q:QT):KT:=left kp 3 (K1 Q)
def K3 (Q:QT) (R3:T3):KT:=rnd ((kp.find 1000003).getD []) (E3 R3) (K2 Q)
def L3 (Q:QT) (a3:Pt) (n3 c3:Nat) (e3:Bool) (a7:Pt) (n7 c7:Nat) (e7:Bool) (x8 x9:Int) (h:Zaa):Prop:=Zff (Den pg fn.ntmps (C [1,1,0,1,0,0])) ((kp.find 1000003).getD []) (K2 Q) [(3,.slice a3 n3 c3 e3),(7,.slice a7 n7 c7 e7),(8,.int .i64 x8),(9,.int .i64 x9)] h
def Zua (Q:QT) (a3:Pt) (n3 c3:Nat) (e3:Bool) (h:Zaa):Prop:=At (K1 Q) (.exit 0) [(3,.slice a3 n3 c3 e3)] h
def L3t (Q:QT) (R3:T3) (a3:Pt) (n3 c3:Nat) (e3:Bool) (a7:Pt) (n7 c7:Nat) (e7:Bool) (x8 x9:Int) (h:Zaa):Prop:=
 bcase (decide ((x9:Int) < x8)) ((0≤(x9:Int)∧(x9:Int) < (n7:Nat))∧(Zbg a7 fun A B=>Zcn (Zbj h (.ptr (A,B + (Int.toNat x9) * 3)) 3) fun A=>Zai A fun A B=>Zbc A fun A=>Zai B fun B C=>Zbc B fun B=>Zai C fun C D=>xSl C fun C E F G=>Zbu D (Zch (h ++ [.cells Zac [.str [],.str [],.slice none 0 0 true] false]) fun D=>Zbn (Zaz D (.ptr (h.length,0)) [.str A,.str B,.slice C E F G]) fun A=>Zcn (Zbj A (.ptr (h.length,0)) 3) fun B=>Zai B fun B C=>Zbc B fun B=>Zai C fun C D=>Zbc C fun C=>Zai D fun D E=>xSl D fun D F G H=>Zbu E (Zaj pg Zia [.agg [.str B,.str C,.slice D F G H]] A fun A B=>
 Zob A fun A=>Zai A fun A C=>Zbc A fun A=>Zai C fun C D=>Zbc C fun C=>Zai D fun D E=>xSl D fun D F G H=>Zbu E (Zch (B ++ [.cells Zac [.str A,.str C,.slice D F G H] false]) fun A=>Zcf pg Zet A (.slice a3 n3 c3 e3) (.slice (B.length,0) 1 1 true) fun A B=>xSl A fun A C D E=>R3 A C D E a7 n7 c7 e7 x8 (IntKind.wrap .i64 (x9 + 1)) B))))) (Zua Q a3 n3 c3 e3 h)
theorem Zqi (Q:QT) (R3:T3) (a3:Pt) (n3 c3:Nat) (e3:Bool) (a7:Pt) (n7 c7:Nat) (e7:Bool) (x8 x9:Int) (h:Zaa) (ht:L3t Q R3 a3 n3 c3 e3 a7 n7 c7 e7 x8 x9 h):Den pg fn.ntmps (C [1,1,0,1,0,0]) [(3,.slice a3 n3 c3 e3),(7,.slice a7 n7 c7 e7),(8,.int .i64 x8),(9,.int .i64 x9)] h (K3 Q R3):=
 Zbf (kp:=kp) (cast (by kernel_rfl) ht)
theorem L3ind (Q:QT) (a7:Pt) (n7 c7:Nat) (e7:Bool) (x8:Int) {G:Type} (J:G→Pt→Nat→Nat→Bool→Int→Zaa→Prop) (m:G→Nat)
 (hr:∀ (g:G) (a3:Pt) (n3 c3:Nat) (e3:Bool) (x9:Int) (h:Zaa),J g a3 n3 c3 e3 x9 h→∀ (R3:T3),(∀ g' (a3:Pt) (n3 c3:Nat) (e3:Bool) (x9:Int) (h:Zaa),m g' < m g→J g' a3 n3 c3 e3 x9 h→R3 a3 n3 c3 e3 a7 n7 c7 e7 x8 x9 h)→L3t Q R3 a3 n3 c3 e3 a7 n7 c7 e7 x8 x9 h)
 (g:G) (a3:Pt) (n3 c3:Nat) (e3:Bool) (x9:Int) (h:Zaa) (hj:J g a3 n3 c3 e3 x9 h):L3 Q a3 n3 c3 e3 a7 n7 c7 e7 x8 x9 h:=by
 let P:=fun (K:Pt→Nat→Nat→Bool→Int→Zaa→Prop) a3 n3 c3 e3 a7' n7' c7' e7' x8' x9 h=>a7=a7'∧n7=n7'∧c7=c7'∧e7=e7'∧x8=x8'∧K a3 n3 c3 e3 x9 h
 refine Zff.inv2 (fun g=>E3 (P (J g))) (fun g=>E3 (P fun a3 n3 c3 e3 x9 h=>∃ g',m g' < m g∧J g' a3 n3 c3 e3 x9 h)) m ?_ ?_ g ⟨rfl,rfl,rfl,rfl,rfl,hj⟩
 ·intro g env h hi
  obtain ⟨a3,n3,c3,e3,a7',n7',c7',e7',x8',x9,rfl,rfl,rfl,rfl,rfl,rfl,hj⟩:=Zgj hi
  exact Zqi Q _ a3 n3 c3 e3 a7 n7 c7 e7 x8 x9 h (hr g a3 n3 c3 e3 x9 h hj (P fun a3 n3 c3 e3 x9 h=>∃ g',m g' < m g∧J g' a3 n3 c3 e3 x9 h) fun g' a3 n3 c3 e3 x9 h hlt hj=>⟨rfl,rfl,rfl,rfl,rfl,g',hlt,hj⟩)
 ·intro g env h hi
  obtain ⟨a3,n3,c3,e3,a7',n7',c7',e7',x8',x9,rfl,rfl,rfl,rfl,rfl,rfl,g',hlt,hj⟩:=Zgj hi
  exact ⟨g',hlt,rfl,rfl,rfl,rfl,rfl,hj⟩
theorem A3x0i (Q:QT) (a3:Pt) (n3 c3:Nat) (e3:Bool) (h:Zaa) (ht :
 Q (.slice a3 n3 c3 e3) h):Zua Q a3 n3 c3 e3 h:=
 At.mk (cast (by kernel_rfl) ht)
theorem call (a0:Pt) (n0 c0:Nat) (e0:Bool) (h:Zaa) (Q:QT) (ht :
 Zch (h ++ [.cells Zac [] false]) fun A=>L3 Q (h.length,0) 0 0 true a0 n0 c0 e0 (((n0:Nat):Int)) 0 A):Zaj pg Zgo [.slice a0 n0 c0 e0] h Q:=
 Zaj.of_body kp (c:=cod fn) (fn:=fn) Go.Proofs.Tryz.func81 (by kernel_rfl) (by kernel_rfl) (Nat.le_of_ble_eq_true (by kernel_rfl))
  (cast (by kernel_rfl) ht)
end Zen
namespace Zoo
noncomputable abbrev fn:Func:=Go.Proofs.Tryz.f48
def kp:Zco:=[]
noncomputable def C (p:List Nat):Code:=(cod fn).sub p
def KR (Q:QT):KT:=Zfd pg fn.results.toList Q
theorem call (a0x0:Pt) (n0x0 c0x0:Nat) (e0x0:Bool) (a0x1:Pt) (n0x1 c0x1:Nat) (e0x1:Bool) (h:Zaa) (Q:QT) (ht :
 Zch (h ++ [.cells Zad [.slice a0x0 n0x0 c0x0 e0x0,.slice a0x1 n0x1 c0x1 e0x1] false]) fun A=>Zch (A ++ [.cells Zad [.slice none 0 0 true,.slice none 0 0 true] false]) fun B=>Zch (B ++ [.cells Zbi [] false]) fun C=>xSl (Zae C (.ptr (h.length,0 + 0))) fun D E F G=>Zcf pg Zjd C (.slice (B.length,0) 0 0 true) (.slice D E F G) fun B C=>xSl B fun B D E F=>Zbn (Zaz C (.ptr (h.length,0 + 0)) [.slice B D E F]) fun B=>xSl (Zae B (.ptr (h.length,0 + 1))) fun C D E F=>Zaj pg Zgo [.slice C D E F] B fun B C=>
 xSl B fun B D E F=>Zbn (Zaz C (.ptr (h.length,0 + 1)) [.slice B D E F]) fun B=>Zcn (Zbj B (.ptr (h.length,0)) 2) fun C=>Zai C fun C D=>xSl C fun C E F G=>Zai D fun D H=>xSl D fun D I J K=>Zbu H (Zbn (Zaz B (.ptr (A.length,0)) [.slice C E F G,.slice D I J K]) fun B=>Zcn (Zbj B (.ptr (A.length,0)) 2) fun A=>Zai A fun A C=>xSl A fun A D E F=>Zai C fun C G=>xSl C fun C H I J=>Zbu G (Q (.agg [.slice A D E F,.slice C H I J]) B))):Zaj pg Zkh [.agg [.slice a0x0 n0x0 c0x0 e0x0,.slice a0x1 n0x1 c0x1 e0x1]] h Q:=
 Zaj.of_body kp (c:=cod fn) (fn:=fn) Go.Proofs.Tryz.func48 (by kernel_rfl) (by kernel_rfl) (Nat.le_of_ble_eq_true (by kernel_rfl))
  (cast (by kernel_rfl) ht)
end Zoo
end Go.Sim
