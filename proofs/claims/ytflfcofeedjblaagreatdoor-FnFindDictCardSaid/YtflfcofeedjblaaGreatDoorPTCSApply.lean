/- A part of the proof of a statement of this seat: see the text that holds the theorem. No condition. -/
import Derived.Test.YtflfcofeedjblaaGreatDoorNm
set_option linter.unusedVariables false
set_option linter.unusedSimpArgs false
set_option linter.all false
set_option maxRecDepth 100000
set_option maxHeartbeats 0
set_option linter.unusedVariables false
namespace Go.Sim
open Go Go.RowKit
namespace Zdy
noncomputable abbrev fn:Func:=Go.Proofs.Tryz.f5
def kp:Zco:=[(4000008,[6,5,3,4]),(2000013,[9,11,3,5,12]),(2000014,[11,3,5,12,13]),(3000016,[11,13,12,5,2]),(1000016,[3,5,11,12,13,85,86,87]),(4000024,[87,86,85,3,13,11,12,5]),(4000027,[12,13,5])]
noncomputable def C (p:List Nat):Code:=(cod fn).sub p
def KR (Q:QT):KT:=Zfd pg fn.results.toList Q
abbrev T16:=Nat→Nat→List Nat→Pt→Nat→Nat→Bool→Bool→List Nat→Pt→Nat→Nat→Bool→Int→Int→Zaa→Prop
def E16 (R16:T16) (env:Env) (h:Zaa):Prop:=Zce 3 env fun v env=>Zgm v fun a=>Zbg a fun i3 o3=>Zce 5 env fun v env=>Zbc v fun x5=>Zce 11 env fun v env=>xSl v fun a11 n11 c11 e11=>Zce 12 env fun v env=>Zck v fun x12=>Zce 13 env fun v env=>Zbc v fun x13=>Zce 85 env fun v env=>xSl v fun a85 n85 c85 e85=>Zce 86 env fun v env=>Zew .i64 v fun x86=>Zce 87 env fun v env=>Zew .i64 v fun x87=>Zls env (R16 i3 o3 x5 a11 n11 c11 e11 x12 x13 a85 n85 c85 e85 x86 x87 h)
theorem Yng {R16:T16} {env:Env} {h:Zaa} (hi:E16 R16 env h):∃ i3,∃ o3,∃ x5,∃ a11,∃ n11,∃ c11,∃ e11,∃ x12,∃ x13,∃ a85,∃ n85,∃ c85,∃ e85,∃ x86,∃ x87,env=[(3,.ptr (i3,o3)),(5,.str x5),(11,.slice a11 n11 c11 e11),(12,.bool x12),(13,.str x13),(85,.slice a85 n85 c85 e85),(86,.int .i64 x86),(87,.int .i64 x87)]∧R16 i3 o3 x5 a11 n11 c11 e11 x12 x13 a85 n85 c85 e85 x86 x87 h:=by
 unfold E16 at hi
 have hi0:=hi
 clear hi
 obtain ⟨_,_,rfl,hi1⟩:=Zan hi0
 obtain ⟨a,rfl,hi2⟩:=Zbv hi1
 obtain ⟨i3,o3,rfl,hi3⟩:=Zbr hi2
 obtain ⟨_,_,rfl,hi4⟩:=Zan hi3
 obtain ⟨x5,rfl,hi5⟩:=Zfc hi4
 obtain ⟨_,_,rfl,hi6⟩:=Zan hi5
 obtain ⟨a11,n11,c11,e11,rfl,hi7⟩:=Zcg hi6
 obtain ⟨_,_,rfl,hi8⟩:=Zan hi7
 obtain ⟨x12,rfl,hi9⟩:=Zuy hi8
 obtain ⟨_,_,rfl,hi10⟩:=Zan hi9
 obtain ⟨x13,rfl,hi11⟩:=Zfc hi10
 obtain ⟨_,_,rfl,hi12⟩:=Zan hi11
 obtain ⟨a85,n85,c85,e85,rfl,hi13⟩:=Zcg hi12
 obtain ⟨_,_,rfl,hi14⟩:=Zan hi13
 obtain ⟨x86,rfl,hi15⟩:=Zay hi14
 obtain ⟨_,_,rfl,hi16⟩:=Zan hi15
 obtain ⟨x87,rfl,hi17⟩:=Zay hi16
 obtain ⟨rfl,hi18⟩:=Zbw hi17
 have hi:=hi18
 exact ⟨i3,o3,x5,a11,n11,c11,e11,x12,x13,a85,n85,c85,e85,x86,x87,rfl,hi⟩
def K0 (Q:QT):KT:=andThen (fun env' h'=>(match kp.find 4000025 with | some ks=>Den pg fn.ntmps (C [1,1,1,1,1,1,1,1,1,1,1,1]) (env'.keep ks) h' (KR Q) | none=>den pg fn.ntmps kp (C [1,1,1,1,1,1,1,1,1,1,1,1]) env' h' (KR Q))) (KR Q)
def K1 (Q:QT):KT:=Zde 0 (K0 Q)
def K2 (Q:QT):KT:=left kp 16 (K1 Q)
def K3 (Q:QT) (R16:T16):KT:=rnd ((kp.find 1000016).getD []) (E16 R16) (K2 Q)
def J8 (Q:QT) (x6 x5:List Nat) (i3 o3 i4 o4:Nat) (h:Zaa):Prop:=Den pg fn.ntmps (C [1,1,1,1,1,1]) [(6,.str x6),(5,.str x5),(3,.ptr (i3,o3)),(4,.ptr (i4,o4))] h (KR Q)
def L16 (Q:QT) (i3 o3:Nat) (x5:List Nat) (a11:Pt) (n11 c11:Nat) (e11 x12:Bool) (x13:List Nat) (a85:Pt) (n85 c85:Nat) (e85:Bool) (x86 x87:Int) (h:Zaa):Prop:=Zff (Den pg fn.ntmps (C [1,1,1,1,1,1,1,1,1,1,1,0,1,0,0])) ((kp.find 1000016).getD []) (K2 Q) [(3,.ptr (i3,o3)),(5,.str x5),(11,.slice a11 n11 c11 e11),(12,.bool x12),(13,.str x13),(85,.slice a85 n85 c85 e85),(86,.int .i64 x86),(87,.int .i64 x87)] h
def J24 (Q:QT) (R16:T16) (x87 x86:Int) (a85:Pt) (n85 c85:Nat) (e85:Bool) (i3 o3:Nat) (x13:List Nat) (a11:Pt) (n11 c11:Nat) (e11 x12:Bool) (x5:List Nat) (h:Zaa):Prop:=Den pg fn.ntmps (C [1,1,1,1,1,1,1,1,1,1,1,0,1,0,0,1,1,1]) [(87,.int .i64 x87),(86,.int .i64 x86),(85,.slice a85 n85 c85 e85),(3,.ptr (i3,o3)),(13,.str x13),(11,.slice a11 n11 c11 e11),(12,.bool x12),(5,.str x5)] h (K3 Q R16)
def Yts (Q:QT) (a11:Pt) (n11 c11:Nat) (e11:Bool) (x13:List Nat) (x12:Bool) (x5:List Nat) (h:Zaa):Prop:=At (K1 Q) (.exit 0) [(11,.slice a11 n11 c11 e11),(13,.str x13),(12,.bool x12),(5,.str x5),(2,.undef)] h
def J27 (Q:QT) (x12:Bool) (x13 x5:List Nat) (h:Zaa):Prop:=Den pg fn.ntmps (C [1,1,1,1,1,1,1,1,1,1,1,1,1]) [(12,.bool x12),(13,.str x13),(5,.str x5)] h (KR Q)
theorem J8i (Q:QT) (x6 x5:List Nat) (i3 o3 i4 o4:Nat) (h:Zaa) (ht :
 bcase (!(decide (x6=[]))) (Q (.bool (decide (x5=[]))) h) (Zcn (Zbj h (.ptr (i3,o3)) 2) fun A=>Zai A fun A B=>xSl A fun A C D E=>Zai B fun B F=>xSl B fun B G H I=>Zbu F (Zcn (Zbj h (.ptr (i4,o4)) 2) fun F=>Zai F fun F J=>Zbc F fun F=>Zai J fun J K=>Zbc J fun J=>Zbu K (Zaj pg Zjy [.agg [.slice A C D E,.slice B G H I],.agg [.str F,.str J]] h fun A B=>
 Zjx A fun A=>Zai A fun A C=>xSl A fun A D E E=>Zai C fun C E=>Zck C fun C=>Zbu E (bcase (!((((D:Nat):Int):Int) == 1)) (Q (.bool false) B) ((0≤(0:Int)∧(0:Int) < (D:Nat))∧(Zbg A fun C E=>Zcn (Zbj B (.ptr (i3,o3)) 2) fun F=>Zai F fun F G=>xSl F fun F H I J=>Zai G fun G K=>xSl G fun G L M N=>Zbu K (Zdt .i64 (Zae B (.ptr (C,E + (Int.toNat 0) * 1))) fun K=>Zbc (Zae B (.ptr (i4,o4 + 1))) fun O=>(Zae B (.ptr (C,E + (Int.toNat 0) * 1))=Zae B (.ptr (C,E + (Int.toNat 0) * 1)))∧(Zbj B (.ptr (i3,o3)) 2=Zbj B (.ptr (i3,o3)) 2)∧Zaj pg Zoq [.agg [.slice F H I J,.slice G L M N],.int .i64 K,.str O] B fun B C=>
 Zjx B fun B=>Zai B fun B E=>xSl B fun B F G H=>Zai E fun E I=>Zck E fun E=>Zbu I ((0≤(0:Int)∧(0:Int) < (D:Nat))∧(Zbg A fun I J=>(0≤(0:Int)∧(0:Int) < (D:Nat))∧(Zbg A fun A D=>Zdt .i64 (Zae C (.ptr (I,J + (Int.toNat 0) * 1))) fun K=>Zdt .i64 (Zae C (.ptr (A,D + (Int.toNat 0) * 1))) fun A=>(Zae C (.ptr (I,J + (Int.toNat 0) * 1))=Zae C (.ptr (I,J + (Int.toNat 0) * 1)))∧(0≤(K:Int)∧(K:Int)≤IntKind.wrap .i64 (A + 1)∧(IntKind.wrap .i64 (A + 1):Int)≤(List.length ([48,49,50,51,52,53,54,55,56,57]):Nat))∧(L16 Q i3 o3 x5 B F G H E (sub ([48,49,50,51,52,53,54,55,56,57]) K (IntKind.wrap .i64 (A + 1))) B F G H (((F:Nat):Int)) 0 C)))))))))))):J8 Q x6 x5 i3 o3 i4 o4 h:=
 Zbf (kp:=kp) (cast (by kernel_rfl) ht)
def L16t (Q:QT) (R16:T16) (i3 o3:Nat) (x5:List Nat) (a11:Pt) (n11 c11:Nat) (e11 x12:Bool) (x13:List Nat) (a85:Pt) (n85 c85:Nat) (e85:Bool) (x86 x87:Int) (h:Zaa):Prop:=
 bcase (decide ((x87:Int) < x86)) ((0≤(x87:Int)∧(x87:Int) < (n85:Nat))∧(Zbg a85 fun A B=>Zcn (Zbj h (.ptr (A,B + (Int.toNat x87) * 2)) 2) fun A=>Zai A fun A B=>Zbc A fun A=>Zai B fun B C=>Zbc B fun B=>Zbu C (Zch (h ++ [.cells Zab [.str [],.str []] false]) fun C=>Zbn (Zaz C (.ptr (h.length,0)) [.str A,.str B]) fun A=>Zcn (Zbj A (.ptr (i3,o3)) 2) fun B=>Zai B fun B C=>xSl B fun B D E F=>Zai C fun C G=>xSl C fun C H I J=>Zbu G (Zcn (Zbj A (.ptr (h.length,0)) 2) fun G=>Zai G fun G K=>Zbc G fun G=>Zai K fun K L=>Zbc K fun K=>Zbu L (Zaj pg Zgs [.agg [.slice B D E F,.slice C H I J],.agg [.str G,.str K]] A fun A B=>
 Zjx A fun A=>Zai A fun A C=>Zbc A fun A=>Zai C fun C D=>Zbc C fun C=>Zbu D (bcase (!(decide (C=[]))) (Q (.bool false) B) (bcase ((x87:Int) == 0) (List.length x13 + List.length [40]≤9223372036854775807∧(List.length (x13 ++ [40]) + List.length A≤9223372036854775807∧(J24 Q R16 x87 x86 a85 n85 c85 e85 i3 o3 ((x13 ++ [40]) ++ A) a11 n11 c11 e11 x12 x5 B))) (List.length x13 + List.length [44]≤9223372036854775807∧(List.length (x13 ++ [44]) + List.length A≤9223372036854775807∧(J24 Q R16 x87 x86 a85 n85 c85 e85 i3 o3 ((x13 ++ [44]) ++ A) a11 n11 c11 e11 x12 x5 B)))))))))) (Yts Q a11 n11 c11 e11 x13 x12 x5 h)
theorem Ytp (Q:QT) (R16:T16) (i3 o3:Nat) (x5:List Nat) (a11:Pt) (n11 c11:Nat) (e11 x12:Bool) (x13:List Nat) (a85:Pt) (n85 c85:Nat) (e85:Bool) (x86 x87:Int) (h:Zaa) (ht:L16t Q R16 i3 o3 x5 a11 n11 c11 e11 x12 x13 a85 n85 c85 e85 x86 x87 h):Den pg fn.ntmps (C [1,1,1,1,1,1,1,1,1,1,1,0,1,0,0]) [(3,.ptr (i3,o3)),(5,.str x5),(11,.slice a11 n11 c11 e11),(12,.bool x12),(13,.str x13),(85,.slice a85 n85 c85 e85),(86,.int .i64 x86),(87,.int .i64 x87)] h (K3 Q R16):=
 Zbf (kp:=kp) (cast (by kernel_rfl) ht)
theorem L16ind (Q:QT) (i3 o3:Nat) (x5:List Nat) (a11:Pt) (n11 c11:Nat) (e11 x12:Bool) (a85:Pt) (n85 c85:Nat) (e85:Bool) (x86:Int) {G:Type} (J:G→List Nat→Int→Zaa→Prop) (m:G→Nat)
 (hr:∀ (g:G) (x13:List Nat) (x87:Int) (h:Zaa),J g x13 x87 h→∀ (R16:T16),(∀ g' (x13:List Nat) (x87:Int) (h:Zaa),m g' < m g→J g' x13 x87 h→R16 i3 o3 x5 a11 n11 c11 e11 x12 x13 a85 n85 c85 e85 x86 x87 h)→L16t Q R16 i3 o3 x5 a11 n11 c11 e11 x12 x13 a85 n85 c85 e85 x86 x87 h)
 (g:G) (x13:List Nat) (x87:Int) (h:Zaa) (hj:J g x13 x87 h):L16 Q i3 o3 x5 a11 n11 c11 e11 x12 x13 a85 n85 c85 e85 x86 x87 h:=by
 let P:=fun (K:List Nat→Int→Zaa→Prop) i3' o3' x5' a11' n11' c11' e11' x12' x13 a85' n85' c85' e85' x86' x87 h=>i3=i3'∧o3=o3'∧x5=x5'∧a11=a11'∧n11=n11'∧c11=c11'∧e11=e11'∧x12=x12'∧a85=a85'∧n85=n85'∧c85=c85'∧e85=e85'∧x86=x86'∧K x13 x87 h
 refine Zff.inv2 (fun g=>E16 (P (J g))) (fun g=>E16 (P fun x13 x87 h=>∃ g',m g' < m g∧J g' x13 x87 h)) m ?_ ?_ g ⟨rfl,rfl,rfl,rfl,rfl,rfl,rfl,rfl,rfl,rfl,rfl,rfl,rfl,hj⟩
 ·intro g env h hi
  obtain ⟨i3',o3',x5',a11',n11',c11',e11',x12',x13,a85',n85',c85',e85',x86',x87,rfl,rfl,rfl,rfl,rfl,rfl,rfl,rfl,rfl,rfl,rfl,rfl,rfl,rfl,hj⟩:=Yng hi
  exact Ytp Q _ i3 o3 x5 a11 n11 c11 e11 x12 x13 a85 n85 c85 e85 x86 x87 h (hr g x13 x87 h hj (P fun x13 x87 h=>∃ g',m g' < m g∧J g' x13 x87 h) fun g' x13 x87 h hlt hj=>⟨rfl,rfl,rfl,rfl,rfl,rfl,rfl,rfl,rfl,rfl,rfl,rfl,rfl,g',hlt,hj⟩)
 ·intro g env h hi
  obtain ⟨i3',o3',x5',a11',n11',c11',e11',x12',x13,a85',n85',c85',e85',x86',x87,rfl,rfl,rfl,rfl,rfl,rfl,rfl,rfl,rfl,rfl,rfl,rfl,rfl,rfl,g',hlt,hj⟩:=Yng hi
  exact ⟨g',hlt,rfl,rfl,rfl,rfl,rfl,rfl,rfl,rfl,rfl,rfl,rfl,rfl,rfl,hj⟩
theorem J24i (Q:QT) (R16:T16) (x87 x86:Int) (a85:Pt) (n85 c85:Nat) (e85:Bool) (i3 o3:Nat) (x13:List Nat) (a11:Pt) (n11 c11:Nat) (e11 x12:Bool) (x5:List Nat) (h:Zaa) (ht :
 R16 i3 o3 x5 a11 n11 c11 e11 x12 x13 a85 n85 c85 e85 x86 (IntKind.wrap .i64 (x87 + 1)) h):J24 Q R16 x87 x86 a85 n85 c85 e85 i3 o3 x13 a11 n11 c11 e11 x12 x5 h:=
 Zbf (kp:=kp) (cast (by kernel_rfl) ht)
theorem A16x0i (Q:QT) (a11:Pt) (n11 c11:Nat) (e11:Bool) (x13:List Nat) (x12:Bool) (x5:List Nat) (h:Zaa) (ht :
 bcase (decide (((((n11:Nat):Int)):Int) > 0)) (List.length x13 + List.length [41]≤9223372036854775807∧(J27 Q x12 (x13 ++ [41]) x5 h)) (J27 Q x12 x13 x5 h)):Yts Q a11 n11 c11 e11 x13 x12 x5 h:=
 At.mk (cast (by kernel_rfl) ht)
theorem J27i (Q:QT) (x12:Bool) (x13 x5:List Nat) (h:Zaa) (ht :
 bcase x12 (Q (.bool (decide (x13=x5))) h) (Q (.bool false) h)):J27 Q x12 x13 x5 h:=
 Zbf (kp:=kp) (cast (by kernel_rfl) ht)
theorem call (a0:Pt) (n0 c0:Nat) (e0:Bool) (h:Zaa) (Q:QT) (ht :
 bcase (decide (((((n0:Nat):Int)):Int) > 1048576)) (Q (.bool true) h) (Zaj pg Zjz [.slice a0 n0 c0 e0] h fun A B=>
 Zjx A fun A=>Zai A fun A C=>Zob A fun A=>Zai A fun A D=>xSl A fun A E F G=>Zai D fun D H=>xSl D fun D I J K=>Zbu H (Zai C fun C H=>Zob C fun C=>Zai C fun C L=>Zbc C fun C=>Zai L fun L M=>Zbc L fun L=>Zbu M (Zbu H (Zch (B ++ [.cells Zad [.slice none 0 0 true,.slice none 0 0 true] false]) fun H=>Zch (H ++ [.cells Zab [.str [],.str []] false]) fun M=>Zbn (Zaz M (.ptr (B.length,0)) [.slice A E F G,.slice D I J K]) fun A=>Zbn (Zaz A (.ptr (H.length,0)) [.str C,.str L]) fun A=>Zcn (Zbj A (.ptr (B.length,0)) 2) fun C=>Zai C fun C D=>xSl C fun C E F G=>Zai D fun D I=>xSl D fun D J K L=>Zbu I (Zcn (Zbj A (.ptr (H.length,0)) 2) fun I=>Zai I fun I M=>Zbc I fun I=>Zai M fun M N=>Zbc M fun M=>Zbu N (Zaj pg Zgs [.agg [.slice C E F G,.slice D J K L],.agg [.str I,.str M]] A fun A C=>
 Zjx A fun A=>Zai A fun A D=>Zbc A fun A=>Zai D fun D E=>Zbc D fun D=>Zbu E (Zcn (Zbj C (.ptr (B.length,0)) 2) fun E=>Zai E fun E F=>xSl E fun E G I J=>Zai F fun F K=>xSl F fun F L M N=>Zbu K (Zcn (Zbj C (.ptr (H.length,0)) 2) fun K=>Zai K fun K O=>Zbc K fun K=>Zai O fun O P=>Zbc O fun O=>Zbu P (Zaj pg Znj [.agg [.slice E G I J,.slice F L M N],.agg [.str K,.str O]] C fun C E=>
 Zjx C fun C=>Zai C fun C F=>Zbc C fun C=>Zai F fun F G=>Zbc F fun F=>Zbu G (bcase (!(decide (A=C))) (Q (.bool false) E) (bcase (!(decide (D=F))) (Q (.bool false) E) (Zcn (Zbj E (.ptr (B.length,0)) 2) fun C=>Zai C fun C F=>xSl C fun C G I J=>Zai F fun F K=>xSl F fun F L M N=>Zbu K (Zcn (Zbj E (.ptr (H.length,0)) 2) fun K=>Zai K fun K O=>Zbc K fun K=>Zai O fun O P=>Zbc O fun O=>Zbu P (Zaj pg Zkx [.agg [.slice C G I J,.slice F L M N],.agg [.str K,.str O]] E fun C E=>
 Zck C fun C=>bcase (!(C == (decide (D=[])))) (Q (.bool false) E) (J8 Q D A B.length 0 H.length 0 E)))))))))))))))):Zaj pg Zpk [.slice a0 n0 c0 e0] h Q:=
 Zaj.of_body kp (c:=cod fn) (fn:=fn) Go.Proofs.Tryz.func5 (by kernel_rfl) (by kernel_rfl) (Nat.le_of_ble_eq_true (by kernel_rfl))
  (cast (by kernel_rfl) ht)
end Zdy
end Go.Sim

set_option maxRecDepth 100000
set_option maxHeartbeats 4000000
set_option linter.unusedVariables false
namespace Go.Sim
open Go Go.RowKit
namespace Zng
noncomputable abbrev fn:Func:=Go.Proofs.Tryz.f19
def kp:Zco:=[]
noncomputable def C (p:List Nat):Code:=(cod fn).sub p
def KR (Q:QT):KT:=Zfd pg fn.results.toList Q
theorem call (a0:Pt) (n0 c0:Nat) (e0:Bool) (h:Zaa) (Q:QT) (ht :
 Zch (h ++ [.cells Zad [.slice none 0 0 true,.slice none 0 0 true] false]) fun A=>Zch (A ++ [.cells Zab [.str [],.str []] false]) fun B=>Zaj pg Zjj [.slice a0 n0 c0 e0] B fun B C=>
 Zgm B fun B=>Zaj pg Zkn [.ptr B] C fun B C=>
 Zjx B fun B=>Zai B fun B D=>Zob B fun B=>Zai B fun B E=>xSl B fun B F G H=>Zai E fun E I=>xSl E fun E J K L=>Zbu I (Zai D fun D I=>Zob D fun D=>Zai D fun D M=>Zbc D fun D=>Zai M fun M N=>Zbc M fun M=>Zbu N (Zbu I (Zbn (Zaz C (.ptr (h.length,0)) [.slice B F G H,.slice E J K L]) fun B=>Zbn (Zaz B (.ptr (A.length,0)) [.str D,.str M]) fun B=>Zcn (Zbj B (.ptr (h.length,0)) 2) fun C=>Zai C fun C D=>xSl C fun C E F G=>Zai D fun D H=>xSl D fun D I J K=>Zbu H (Zcn (Zbj B (.ptr (A.length,0)) 2) fun A=>Zai A fun A H=>Zbc A fun A=>Zai H fun H L=>Zbc H fun H=>Zbu L (Q (.tup [.agg [.slice C E F G,.slice D I J K],.agg [.str A,.str H]]) B)))))):Zaj pg Zjz [.slice a0 n0 c0 e0] h Q:=
 Zaj.of_body kp (c:=cod fn) (fn:=fn) Go.Proofs.Tryz.func19 (by kernel_rfl) (by kernel_rfl) (Nat.le_of_ble_eq_true (by kernel_rfl))
  (cast (by kernel_rfl) ht)
end Zng
namespace Zli
noncomputable abbrev fn:Func:=Go.Proofs.Tryz.f15
def kp:Zco:=[]
noncomputable def C (p:List Nat):Code:=(cod fn).sub p
def KR (Q:QT):KT:=Zfd pg fn.results.toList Q
theorem call (a0:Pt) (n0 c0:Nat) (e0:Bool) (h:Zaa) (Q:QT) (ht :
 Zch (h ++ [.cells Zad [.slice none 0 0 true,.slice none 0 0 true] false]) fun A=>Zch (A ++ [.cells Zab [.str [],.str []] false]) fun B=>Zaj pg Zjj [.slice a0 n0 c0 e0] B fun B C=>
 Zgm B fun B=>Zaj pg Zkn [.ptr B] C fun B C=>
 Zjx B fun B=>Zai B fun B D=>Zob B fun B=>Zai B fun B E=>xSl B fun B F G H=>Zai E fun E I=>xSl E fun E J K L=>Zbu I (Zai D fun D I=>Zob D fun D=>Zai D fun D M=>Zbc D fun D=>Zai M fun M N=>Zbc M fun M=>Zbu N (Zbu I (Zbn (Zaz C (.ptr (h.length,0)) [.slice B F G H,.slice E J K L]) fun B=>Zbn (Zaz B (.ptr (A.length,0)) [.str D,.str M]) fun B=>Zcn (Zbj B (.ptr (h.length,0)) 2) fun C=>Zai C fun C D=>xSl C fun C E F G=>Zai D fun D H=>xSl D fun D I J K=>Zbu H (Zcn (Zbj B (.ptr (A.length,0)) 2) fun A=>Zai A fun A H=>Zbc A fun A=>Zai H fun H L=>Zbc H fun H=>Zbu L (Q (.tup [.agg [.slice C E F G,.slice D I J K],.agg [.str A,.str H]]) B)))))):Zaj pg Zhr [.slice a0 n0 c0 e0] h Q:=
 Zaj.of_body kp (c:=cod fn) (fn:=fn) Go.Proofs.Tryz.func15 (by kernel_rfl) (by kernel_rfl) (Nat.le_of_ble_eq_true (by kernel_rfl))
  (cast (by kernel_rfl) ht)
end Zli
end Go.Sim

set_option maxRecDepth 100000
set_option maxHeartbeats 4000000
set_option linter.unusedVariables false
namespace Go.Sim
open Go Go.RowKit
namespace Zrf
noncomputable abbrev fn:Func:=Go.Proofs.Tryz.f42
def kp:Zco:=[]
noncomputable def C (p:List Nat):Code:=(cod fn).sub p
def KR (Q:QT):KT:=Zfd pg fn.results.toList Q
theorem call (a0x0:Pt) (n0x0 c0x0:Nat) (e0x0:Bool) (a0x1:Pt) (n0x1 c0x1:Nat) (e0x1:Bool) (x1x0 x1x1:List Nat) (x2:Bool) (h:Zaa) (Q:QT) (ht :
 Zch (h ++ [.cells Zad [.slice a0x0 n0x0 c0x0 e0x0,.slice a0x1 n0x1 c0x1 e0x1] false]) fun A=>Zch (A ++ [.cells Zab [.str x1x0,.str x1x1] false]) fun B=>Zcn (Zbj B (.ptr (h.length,0)) 2) fun C=>Zai C fun C D=>xSl C fun C E F G=>Zai D fun D H=>xSl D fun D I J K=>Zbu H (Zch (B ++ [.cells Zfi [.slice C E F G,.slice D I J K,.bool x2,.fn Zcx [],.slice none 0 0 true,.str [],.str [],.slice none 0 0 true] false]) fun C=>Zcn (Zbj C (.ptr (h.length,0)) 2) fun D=>Zai D fun D E=>xSl D fun D F G H=>Zai E fun E I=>xSl E fun E J K L=>Zbu I (Zcn (Zbj C (.ptr (A.length,0)) 2) fun I=>Zai I fun I M=>Zbc I fun I=>Zai M fun M N=>Zbc M fun M=>Zbu N (Zaj pg Zjq [.agg [.slice D F G H,.slice E J K L],.agg [.str I,.str M]] C fun C D=>
 Zck C fun C=>bcase (!C) (Q (.tup [.ptr (B.length,0),.str [],.str ([119,114,111,110,103])]) D) (Zcn (Zbj D (.ptr (A.length,0)) 2) fun A=>Zai A fun A C=>Zbc A fun A=>Zai C fun C E=>Zbc C fun C=>Zbu E (Zaj pg Ziq [.ptr (B.length,0),.agg [.str A,.str C],.slice none 0 0 true] D fun A C=>
 Zjx A fun A=>Zai A fun A D=>Zbc A fun A=>Zai D fun D E=>Zbc D fun D=>Zbu E (Q (.tup [.ptr (B.length,0),.str A,.str D]) C))))))):Zaj pg Zkr [.agg [.slice a0x0 n0x0 c0x0 e0x0,.slice a0x1 n0x1 c0x1 e0x1],.agg [.str x1x0,.str x1x1],.bool x2] h Q:=
 Zaj.of_body kp (c:=cod fn) (fn:=fn) Go.Proofs.Tryz.func42 (by kernel_rfl) (by kernel_rfl) (Nat.le_of_ble_eq_true (by kernel_rfl))
  (cast (by kernel_rfl) ht)
end Zrf
namespace Zrv
noncomputable abbrev fn:Func:=Go.Proofs.Tryz.f18
def kp:Zco:=[]
noncomputable def C (p:List Nat):Code:=(cod fn).sub p
def KR (Q:QT):KT:=Zfd pg fn.results.toList Q
theorem call (a0x0:Pt) (n0x0 c0x0:Nat) (e0x0:Bool) (a0x1:Pt) (n0x1 c0x1:Nat) (e0x1:Bool) (x1x0 x1x1:List Nat) (h:Zaa) (Q:QT) (ht :
 Zch (h ++ [.cells Zad [.slice a0x0 n0x0 c0x0 e0x0,.slice a0x1 n0x1 c0x1 e0x1] false]) fun A=>Zch (A ++ [.cells Zab [.str x1x0,.str x1x1] false]) fun B=>Zcn (Zbj B (.ptr (h.length,0)) 2) fun C=>Zai C fun C D=>xSl C fun C E F G=>Zai D fun D H=>xSl D fun D I J K=>Zbu H (Zcn (Zbj B (.ptr (A.length,0)) 2) fun A=>Zai A fun A H=>Zbc A fun A=>Zai H fun H L=>Zbc H fun H=>Zbu L (Zaj pg Zkr [.agg [.slice C E F G,.slice D I J K],.agg [.str A,.str H],.bool false] B fun A B=>
 Zjx A fun A=>Zai A fun A C=>Zgm A fun A=>Zai C fun A C=>Zbc A fun A=>Zai C fun C D=>Zbc C fun C=>Zbu D (Q (.tup [.str A,.str C]) B)))):Zaj pg Zgs [.agg [.slice a0x0 n0x0 c0x0 e0x0,.slice a0x1 n0x1 c0x1 e0x1],.agg [.str x1x0,.str x1x1]] h Q:=
 Zaj.of_body kp (c:=cod fn) (fn:=fn) Go.Proofs.Tryz.func18 (by kernel_rfl) (by kernel_rfl) (Nat.le_of_ble_eq_true (by kernel_rfl))
  (cast (by kernel_rfl) ht)
end Zrv
namespace Zoe
noncomputable abbrev fn:Func:=Go.Proofs.Tryz.f16
def kp:Zco:=[]
noncomputable def C (p:List Nat):Code:=(cod fn).sub p
def KR (Q:QT):KT:=Zfd pg fn.results.toList Q
theorem call (a0x0:Pt) (n0x0 c0x0:Nat) (e0x0:Bool) (a0x1:Pt) (n0x1 c0x1:Nat) (e0x1:Bool) (x1x0 x1x1:List Nat) (h:Zaa) (Q:QT) (ht :
 Zch (h ++ [.cells Zad [.slice a0x0 n0x0 c0x0 e0x0,.slice a0x1 n0x1 c0x1 e0x1] false]) fun A=>Zch (A ++ [.cells Zab [.str x1x0,.str x1x1] false]) fun B=>Zcn (Zbj B (.ptr (h.length,0)) 2) fun C=>Zai C fun C D=>xSl C fun C E F G=>Zai D fun D H=>xSl D fun D I J K=>Zbu H (Zcn (Zbj B (.ptr (A.length,0)) 2) fun A=>Zai A fun A H=>Zbc A fun A=>Zai H fun H L=>Zbc H fun H=>Zbu L (Zaj pg Zkr [.agg [.slice C E F G,.slice D I J K],.agg [.str A,.str H],.bool true] B fun A B=>
 Zjx A fun A=>Zai A fun A C=>Zgm A fun A=>Zai C fun A C=>Zbc A fun A=>Zai C fun C D=>Zbc C fun C=>Zbu D (Q (.tup [.str A,.str C]) B)))):Zaj pg Zle [.agg [.slice a0x0 n0x0 c0x0 e0x0,.slice a0x1 n0x1 c0x1 e0x1],.agg [.str x1x0,.str x1x1]] h Q:=
 Zaj.of_body kp (c:=cod fn) (fn:=fn) Go.Proofs.Tryz.func16 (by kernel_rfl) (by kernel_rfl) (Nat.le_of_ble_eq_true (by kernel_rfl))
  (cast (by kernel_rfl) ht)
end Zoe
namespace Zol
noncomputable abbrev fn:Func:=Go.Proofs.Tryz.f21
def kp:Zco:=[]
noncomputable def C (p:List Nat):Code:=(cod fn).sub p
def KR (Q:QT):KT:=Zfd pg fn.results.toList Q
theorem call (a0x0:Pt) (n0x0 c0x0:Nat) (e0x0:Bool) (a0x1:Pt) (n0x1 c0x1:Nat) (e0x1:Bool) (x1x0 x1x1:List Nat) (h:Zaa) (Q:QT) (ht :
 Zch (h ++ [.cells Zad [.slice a0x0 n0x0 c0x0 e0x0,.slice a0x1 n0x1 c0x1 e0x1] false]) fun A=>Zch (A ++ [.cells Zab [.str x1x0,.str x1x1] false]) fun B=>Zcn (Zbj B (.ptr (h.length,0)) 2) fun C=>Zai C fun C D=>xSl C fun C E F G=>Zai D fun D H=>xSl D fun D I J K=>Zbu H (Zcn (Zbj B (.ptr (A.length,0)) 2) fun A=>Zai A fun A H=>Zbc A fun A=>Zai H fun H L=>Zbc H fun H=>Zbu L (Zaj pg Zgs [.agg [.slice C E F G,.slice D I J K],.agg [.str A,.str H]] B fun A B=>
 Zjx A fun A=>Zai A fun A C=>Zbc A fun A=>Zai C fun A C=>Zbc A fun A=>Zbu C (Q (.bool (decide (A=[]))) B)))):Zaj pg Zkx [.agg [.slice a0x0 n0x0 c0x0 e0x0,.slice a0x1 n0x1 c0x1 e0x1],.agg [.str x1x0,.str x1x1]] h Q:=
 Zaj.of_body kp (c:=cod fn) (fn:=fn) Go.Proofs.Tryz.func21 (by kernel_rfl) (by kernel_rfl) (Nat.le_of_ble_eq_true (by kernel_rfl))
  (cast (by kernel_rfl) ht)
end Zol
end Go.Sim

set_option maxRecDepth 100000
set_option linter.unusedVariables false
namespace Go.Sim
open Go Go.RowKit
namespace Zfy
noncomputable abbrev fn:Func:=Go.Proofs.Tryz.f104
def kp:Zco:=[]
noncomputable def C (p:List Nat):Code:=(cod fn).sub p
def KR (Q:QT):KT:=Zfd pg fn.results.toList Q
theorem call (a0:Pt) (n0 c0:Nat) (e0:Bool) (h:Zaa) (Q:QT) (ht :
 (a0=none→e0=true)∧(bcase (Option.isNone a0) (Q (.slice none 0 0 true) h) (Zch (h ++ [.cells Zab [] false]) fun A=>Zcf pg Zbm A (.slice (h.length,0) 0 0 true) (.slice a0 n0 c0 e0) fun A B=>xSl A fun A C D E=>Q (.slice A C D E) B))):Zaj pg Zdf [.slice a0 n0 c0 e0] h Q:=
 Zaj.of_body kp (c:=cod fn) (fn:=fn) Go.Proofs.Tryz.func104 (by kernel_rfl) (by kernel_rfl) (Nat.le_of_ble_eq_true (by kernel_rfl))
  (cast (by kernel_rfl) ht)
end Zfy
namespace Zlj
noncomputable abbrev fn:Func:=Go.Proofs.Tryz.f103
def kp:Zco:=[(2000001,[0])]
noncomputable def C (p:List Nat):Code:=(cod fn).sub p
def KR (Q:QT):KT:=Zfd pg fn.results.toList Q
theorem call (x0:List Nat) (v1 v2 v3:Zat) (h:Zaa) (Q:QT) (ht :
 Zgm (Zae h (v3)) fun A=>Zgm (Zae h (v3)) fun B=>Zcn (Zbj h (v1) 2) fun C=>Zai C fun C D=>Zbc C fun C=>Zai D fun D E=>Zbc D fun D=>Zbu E (xSl (Zae h (v2)) fun E F G H=>(Zbj h (v1) 2=Zbj h (v1) 2)∧(Zae h (v3)=Zae h (v3))∧(Zae h (v3)=Zae h (v3))∧Zaj pg Zdf [.slice E F G H] h fun E F=>
 xSl E fun E G H I=>(Zbj F (v1) 2=Zbj h (v1) 2)∧(Zae F (v3)=Zae h (v3))∧(Zae F (v3)=Zae h (v3))∧Zbg A fun A J=>Zbn (Zaz F (.ptr (A,J + 5)) [.str C,.str D]) fun A=>(Zae A (v3)=Zae F (v3))∧Zbg B fun B C=>Zbn (Zaz A (.ptr (B,C + 7)) [.slice E G H I]) fun A=>Q (.tup [.str [],.str x0]) A)):Zaj pg Zcv [.str x0,v1,v2,v3] h Q:=
 Zaj.of_body kp (c:=cod fn) (fn:=fn) Go.Proofs.Tryz.func103 (by kernel_rfl) (by kernel_rfl) (Nat.le_of_ble_eq_true (by kernel_rfl))
  (cast (by kernel_rfl) ht)
end Zlj
namespace Zct
noncomputable abbrev fn:Func:=Go.Proofs.Tryz.f68
def kp:Zco:=[(2000001,[9,8,4,5,3]),(2000007,[5,10,3,4]),(2000010,[11,10,3,4,5]),(4000018,[3,12,4,10,5]),(2000018,[14,10,12,5,4,13,3]),(2000022,[13,3,15,16]),(3000024,[13,15,6,7]),(1000024,[3,13,15,16,126,127,128]),(4000032,[15,21,19,128,127,126,3,16,13]),(4000033,[128,127,126,3,16,15,13]),(4000036,[15])]
noncomputable def C (p:List Nat):Code:=(cod fn).sub p
def KR (Q:QT):KT:=Zfd pg fn.results.toList Q
abbrev T24:=Nat→Nat→Pt→Nat→Nat→Bool→List Nat→Pt→Nat→Nat→Bool→Pt→Nat→Nat→Bool→Int→Int→Zaa→Prop
def E24 (R24:T24) (env:Env) (h:Zaa):Prop:=Zce 3 env fun v env=>Zgm v fun a=>Zbg a fun i3 o3=>Zce 13 env fun v env=>xSl v fun a13 n13 c13 e13=>Zce 15 env fun v env=>Zbc v fun x15=>Zce 16 env fun v env=>xSl v fun a16 n16 c16 e16=>Zce 126 env fun v env=>xSl v fun a126 n126 c126 e126=>Zce 127 env fun v env=>Zew .i64 v fun x127=>Zce 128 env fun v env=>Zew .i64 v fun x128=>Zls env (R24 i3 o3 a13 n13 c13 e13 x15 a16 n16 c16 e16 a126 n126 c126 e126 x127 x128 h)
theorem Yof {R24:T24} {env:Env} {h:Zaa} (hi:E24 R24 env h):∃ i3,∃ o3,∃ a13,∃ n13,∃ c13,∃ e13,∃ x15,∃ a16,∃ n16,∃ c16,∃ e16,∃ a126,∃ n126,∃ c126,∃ e126,∃ x127,∃ x128,env=[(3,.ptr (i3,o3)),(13,.slice a13 n13 c13 e13),(15,.str x15),(16,.slice a16 n16 c16 e16),(126,.slice a126 n126 c126 e126),(127,.int .i64 x127),(128,.int .i64 x128)]∧R24 i3 o3 a13 n13 c13 e13 x15 a16 n16 c16 e16 a126 n126 c126 e126 x127 x128 h:=by
 unfold E24 at hi
 have hi0:=hi
 clear hi
 obtain ⟨_,_,rfl,hi1⟩:=Zan hi0
 obtain ⟨a,rfl,hi2⟩:=Zbv hi1
 obtain ⟨i3,o3,rfl,hi3⟩:=Zbr hi2
 obtain ⟨_,_,rfl,hi4⟩:=Zan hi3
 obtain ⟨a13,n13,c13,e13,rfl,hi5⟩:=Zcg hi4
 obtain ⟨_,_,rfl,hi6⟩:=Zan hi5
 obtain ⟨x15,rfl,hi7⟩:=Zfc hi6
 obtain ⟨_,_,rfl,hi8⟩:=Zan hi7
 obtain ⟨a16,n16,c16,e16,rfl,hi9⟩:=Zcg hi8
 obtain ⟨_,_,rfl,hi10⟩:=Zan hi9
 obtain ⟨a126,n126,c126,e126,rfl,hi11⟩:=Zcg hi10
 obtain ⟨_,_,rfl,hi12⟩:=Zan hi11
 obtain ⟨x127,rfl,hi13⟩:=Zay hi12
 obtain ⟨_,_,rfl,hi14⟩:=Zan hi13
 obtain ⟨x128,rfl,hi15⟩:=Zay hi14
 obtain ⟨rfl,hi16⟩:=Zbw hi15
 have hi:=hi16
 exact ⟨i3,o3,a13,n13,c13,e13,x15,a16,n16,c16,e16,a126,n126,c126,e126,x127,x128,rfl,hi⟩
def K0 (Q:QT):KT:=andThen (fun env' h'=>(match kp.find 4000034 with | some ks=>Den pg fn.ntmps (C [1,1,1,1,1,1,1,1,1,1,1,1,1,1,1]) (env'.keep ks) h' (KR Q) | none=>den pg fn.ntmps kp (C [1,1,1,1,1,1,1,1,1,1,1,1,1,1,1]) env' h' (KR Q))) (KR Q)
def K1 (Q:QT):KT:=Zde 0 (K0 Q)
def K2 (Q:QT):KT:=left kp 24 (K1 Q)
def K3 (Q:QT) (R24:T24):KT:=rnd ((kp.find 1000024).getD []) (E24 R24) (K2 Q)
def K4 (Q:QT) (R24:T24):KT:=andThen (fun env' h'=>(match kp.find 4000033 with | some ks=>Den pg fn.ntmps (C [1,1,1,1,1,1,1,1,1,1,1,1,1,1,0,1,0,0,1,1,1]) (env'.keep ks) h' (K3 Q R24) | none=>den pg fn.ntmps kp (C [1,1,1,1,1,1,1,1,1,1,1,1,1,1,0,1,0,0,1,1,1]) env' h' (K3 Q R24))) (K3 Q R24)
def K5 (Q:QT) (R24:T24):KT:=Zde 1 (K4 Q R24)
def J18 (Q:QT) (i3 o3:Nat) (x12:Int) (i4 o4 i10x0 o10x0 i10x1 o10x1 i10x2 o10x2 i5 o5:Nat) (h:Zaa):Prop:=Den pg fn.ntmps (C [1,1,1,1,1,1,1,1,1,1]) [(3,.ptr (i3,o3)),(12,.int .i64 x12),(4,.ptr (i4,o4)),(10,.fn Zcv [.ptr (i10x0,o10x0),.ptr (i10x1,o10x1),.ptr (i10x2,o10x2)]),(5,.ptr (i5,o5))] h (KR Q)
def L24 (Q:QT) (i3 o3:Nat) (a13:Pt) (n13 c13:Nat) (e13:Bool) (x15:List Nat) (a16:Pt) (n16 c16:Nat) (e16:Bool) (a126:Pt) (n126 c126:Nat) (e126:Bool) (x127 x128:Int) (h:Zaa):Prop:=Zff (Den pg fn.ntmps (C [1,1,1,1,1,1,1,1,1,1,1,1,1,1,0,1,0,0])) ((kp.find 1000024).getD []) (K2 Q) [(3,.ptr (i3,o3)),(13,.slice a13 n13 c13 e13),(15,.str x15),(16,.slice a16 n16 c16 e16),(126,.slice a126 n126 c126 e126),(127,.int .i64 x127),(128,.int .i64 x128)] h
def J32 (Q:QT) (R24:T24) (x15 x21 x19:List Nat) (x128 x127:Int) (a126:Pt) (n126 c126:Nat) (e126:Bool) (i3 o3:Nat) (a16:Pt) (n16 c16:Nat) (e16:Bool) (a13:Pt) (n13 c13:Nat) (e13:Bool) (h:Zaa):Prop:=Den pg fn.ntmps (C [1,1,1,1,1,1,1,1,1,1,1,1,1,1,0,1,0,0,1,1,0,0,1,1,1,1,1]) [(15,.str x15),(21,.str x21),(19,.str x19),(128,.int .i64 x128),(127,.int .i64 x127),(126,.slice a126 n126 c126 e126),(3,.ptr (i3,o3)),(16,.slice a16 n16 c16 e16),(13,.slice a13 n13 c13 e13)] h (K5 Q R24)
def Yuy (Q:QT) (a13:Pt) (n13 c13:Nat) (e13:Bool) (x15:List Nat) (h:Zaa):Prop:=At (K1 Q) (.exit 0) [(13,.slice a13 n13 c13 e13),(15,.str x15),(6,.undef),(7,.undef)] h
def J33 (Q:QT) (R24:T24) (x128 x127:Int) (a126:Pt) (n126 c126:Nat) (e126:Bool) (i3 o3:Nat) (a16:Pt) (n16 c16:Nat) (e16:Bool) (x15:List Nat) (a13:Pt) (n13 c13:Nat) (e13:Bool) (h:Zaa):Prop:=Den pg fn.ntmps (C [1,1,1,1,1,1,1,1,1,1,1,1,1,1,0,1,0,0,1,1,1]) [(128,.int .i64 x128),(127,.int .i64 x127),(126,.slice a126 n126 c126 e126),(3,.ptr (i3,o3)),(16,.slice a16 n16 c16 e16),(15,.str x15),(13,.slice a13 n13 c13 e13)] h (K3 Q R24)
def J36 (Q:QT) (x15:List Nat) (h:Zaa):Prop:=Den pg fn.ntmps (C [1,1,1,1,1,1,1,1,1,1,1,1,1,1,1,1]) [(15,.str x15)] h (KR Q)
theorem J18i (Q:QT) (i3 o3:Nat) (x12:Int) (i4 o4 i10x0 o10x0 i10x1 o10x1 i10x2 o10x2 i5 o5:Nat) (h:Zaa) (ht :
 Zgm (Zae h (.ptr (i3,o3))) fun A=>Zbg A fun A B=>xSl (Zae h (.ptr (A,B + 0 + 1))) fun C D E E=>(0≤(x12:Int)∧(x12:Int) < (D:Nat))∧(Zbg C fun C D=>Zcn (Zbj h (.ptr (C,D + (Int.toNat x12) * 3)) 3) fun E=>Zai E fun E F=>Zbc E fun E=>Zai F fun F G=>Zbc F fun F=>Zai G fun G H=>xSl G fun G I J K=>Zbu H (Zbc (Zae h (.ptr (i4,o4 + 1))) fun H=>(Zbj h (.ptr (C,D + (Int.toNat x12) * 3)) 3=Zbj h (.ptr (C,D + (Int.toNat x12) * 3)) 3)∧(Zae h (.ptr (A,B + 0 + 1))=Zae h (.ptr (A,B + 0 + 1)))∧(Zae h (.ptr (i3,o3))=Zae h (.ptr (i3,o3)))∧Zaj pg Zgl [.agg [.str E,.str F,.slice G I J K],.str H] h fun C D=>
 Zjx C fun C=>Zai C fun C E=>xSl C fun C F G H=>Zai E fun E I=>Zck E fun E=>Zbu I ((Zae D (.ptr (A,B + 0 + 1))=Zae h (.ptr (A,B + 0 + 1)))∧(Zae D (.ptr (i3,o3))=Zae h (.ptr (i3,o3)))∧bcase (!E) (Zaj pg Zcv [.str ([98,105,103]),.ptr (i10x0,o10x0),.ptr (i10x1,o10x1),.ptr (i10x2,o10x2)] D fun A B=>
 Zjx A fun A=>Zai A fun A E=>Zbc A fun A=>Zai E fun E I=>Zbc E fun E=>Zbu I (Q (.tup [.str A,.str E]) B)) (Zaj pg Ztc [.int .i64 x12] D fun A B=>
 Zbc A fun A=>xSl (Zae B (.ptr (i5,o5))) fun D E I J=>Zcn (Zbj B (.ptr (i4,o4)) 2) fun K=>Zai K fun K L=>Zbc K fun K=>Zai L fun L M=>Zbc L fun L=>Zbu M ((Zaj pg Zdf [.slice D E I J] B fun M N=>
 xSl M fun M O P R=>(Zbj N (.ptr (i4,o4)) 2=Zbj B (.ptr (i4,o4)) 2)∧Zch (N ++ [.cells Zab [.str K,.str L] false]) fun S=>(Zae S (.ptr (i5,o5))=Zae N (.ptr (i5,o5)))∧Zcf pg Zbm S (.slice M O P R) (.slice (N.length,0) 1 1 true) fun M N=>xSl M fun M O P R=>(Zbj N (.ptr (i4,o4)) 2=Zbj S (.ptr (i4,o4)) 2)∧(Zae N (.ptr (i5,o5))=Zae S (.ptr (i5,o5)))∧L24 Q i3 o3 C F G H A M O P R C F G H (((F:Nat):Int)) 0 N)∧(Zch (B ++ [.cells Zab [.str K,.str L] false]) fun K=>(Zae K (.ptr (i5,o5))=Zae B (.ptr (i5,o5)))∧Zaj pg Zdf [.slice D E I J] K fun D E=>
 xSl D fun D I J L=>(Zbj E (.ptr (i4,o4)) 2=Zbj K (.ptr (i4,o4)) 2)∧Zcf pg Zbm E (.slice D I J L) (.slice (B.length,0) 1 1 true) fun B D=>xSl B fun B I J K=>(Zbj D (.ptr (i4,o4)) 2=Zbj E (.ptr (i4,o4)) 2)∧(Zae D (.ptr (i5,o5))=Zae E (.ptr (i5,o5)))∧L24 Q i3 o3 C F G H A B I J K C F G H (((F:Nat):Int)) 0 D))))))):J18 Q i3 o3 x12 i4 o4 i10x0 o10x0 i10x1 o10x1 i10x2 o10x2 i5 o5 h:=
 Zbf (kp:=kp) (cast (by kernel_rfl) ht)
def L24t (Q:QT) (R24:T24) (i3 o3:Nat) (a13:Pt) (n13 c13:Nat) (e13:Bool) (x15:List Nat) (a16:Pt) (n16 c16:Nat) (e16:Bool) (a126:Pt) (n126 c126:Nat) (e126:Bool) (x127 x128:Int) (h:Zaa):Prop:=
 bcase (decide ((x128:Int) < x127)) ((0≤(x128:Int)∧(x128:Int) < (n126:Nat))∧(Zbg a126 fun A B=>Zcn (Zbj h (.ptr (A,B + (Int.toNat x128) * 2)) 2) fun A=>Zai A fun A B=>Zbc A fun A=>Zai B fun B C=>Zbc B fun B=>Zbu C (Zch (h ++ [.cells Zab [.str [],.str []] false]) fun C=>Zbn (Zaz C (.ptr (h.length,0)) [.str A,.str B]) fun A=>Zgm (Zae A (.ptr (i3,o3))) fun B=>Zcn (Zbj A (.ptr (h.length,0)) 2) fun C=>Zai C fun C D=>Zbc C fun C=>Zai D fun D E=>Zbc D fun D=>Zbu E (Zaj pg Ziq [.ptr B,.agg [.str C,.str D],.slice a16 n16 c16 e16] A fun A B=>
 Zjx A fun A=>Zai A fun A C=>Zbc A fun A=>Zai C fun C D=>Zbc C fun C=>Zbu D (bcase (!(decide (C=[]))) (Q (.tup [.str [],.str C]) B) (bcase ((x128:Int) == 0) (J32 Q R24 x15 [40] A x128 x127 a126 n126 c126 e126 i3 o3 a16 n16 c16 e16 a13 n13 c13 e13 B) (J32 Q R24 x15 [44] A x128 x127 a126 n126 c126 e126 i3 o3 a16 n16 c16 e16 a13 n13 c13 e13 B))))))) (Yuy Q a13 n13 c13 e13 x15 h)
theorem Yup (Q:QT) (R24:T24) (i3 o3:Nat) (a13:Pt) (n13 c13:Nat) (e13:Bool) (x15:List Nat) (a16:Pt) (n16 c16:Nat) (e16:Bool) (a126:Pt) (n126 c126:Nat) (e126:Bool) (x127 x128:Int) (h:Zaa) (ht:L24t Q R24 i3 o3 a13 n13 c13 e13 x15 a16 n16 c16 e16 a126 n126 c126 e126 x127 x128 h):Den pg fn.ntmps (C [1,1,1,1,1,1,1,1,1,1,1,1,1,1,0,1,0,0]) [(3,.ptr (i3,o3)),(13,.slice a13 n13 c13 e13),(15,.str x15),(16,.slice a16 n16 c16 e16),(126,.slice a126 n126 c126 e126),(127,.int .i64 x127),(128,.int .i64 x128)] h (K3 Q R24):=
 Zbf (kp:=kp) (cast (by kernel_rfl) ht)
theorem L24ind (Q:QT) (i3 o3:Nat) (a13:Pt) (n13 c13:Nat) (e13:Bool) (a16:Pt) (n16 c16:Nat) (e16:Bool) (a126:Pt) (n126 c126:Nat) (e126:Bool) (x127:Int) {G:Type} (J:G→List Nat→Int→Zaa→Prop) (m:G→Nat)
 (hr:∀ (g:G) (x15:List Nat) (x128:Int) (h:Zaa),J g x15 x128 h→∀ (R24:T24),(∀ g' (x15:List Nat) (x128:Int) (h:Zaa),m g' < m g→J g' x15 x128 h→R24 i3 o3 a13 n13 c13 e13 x15 a16 n16 c16 e16 a126 n126 c126 e126 x127 x128 h)→L24t Q R24 i3 o3 a13 n13 c13 e13 x15 a16 n16 c16 e16 a126 n126 c126 e126 x127 x128 h)
 (g:G) (x15:List Nat) (x128:Int) (h:Zaa) (hj:J g x15 x128 h):L24 Q i3 o3 a13 n13 c13 e13 x15 a16 n16 c16 e16 a126 n126 c126 e126 x127 x128 h:=by
 let P:=fun (K:List Nat→Int→Zaa→Prop) i3' o3' a13' n13' c13' e13' x15 a16' n16' c16' e16' a126' n126' c126' e126' x127' x128 h=>i3=i3'∧o3=o3'∧a13=a13'∧n13=n13'∧c13=c13'∧e13=e13'∧a16=a16'∧n16=n16'∧c16=c16'∧e16=e16'∧a126=a126'∧n126=n126'∧c126=c126'∧e126=e126'∧x127=x127'∧K x15 x128 h
 refine Zff.inv2 (fun g=>E24 (P (J g))) (fun g=>E24 (P fun x15 x128 h=>∃ g',m g' < m g∧J g' x15 x128 h)) m ?_ ?_ g ⟨rfl,rfl,rfl,rfl,rfl,rfl,rfl,rfl,rfl,rfl,rfl,rfl,rfl,rfl,rfl,hj⟩
 ·intro g env h hi
  obtain ⟨i3',o3',a13',n13',c13',e13',x15,a16',n16',c16',e16',a126',n126',c126',e126',x127',x128,rfl,rfl,rfl,rfl,rfl,rfl,rfl,rfl,rfl,rfl,rfl,rfl,rfl,rfl,rfl,rfl,hj⟩:=Yof hi
  exact Yup Q _ i3 o3 a13 n13 c13 e13 x15 a16 n16 c16 e16 a126 n126 c126 e126 x127 x128 h (hr g x15 x128 h hj (P fun x15 x128 h=>∃ g',m g' < m g∧J g' x15 x128 h) fun g' x15 x128 h hlt hj=>⟨rfl,rfl,rfl,rfl,rfl,rfl,rfl,rfl,rfl,rfl,rfl,rfl,rfl,rfl,rfl,g',hlt,hj⟩)
 ·intro g env h hi
  obtain ⟨i3',o3',a13',n13',c13',e13',x15,a16',n16',c16',e16',a126',n126',c126',e126',x127',x128,rfl,rfl,rfl,rfl,rfl,rfl,rfl,rfl,rfl,rfl,rfl,rfl,rfl,rfl,rfl,rfl,g',hlt,hj⟩:=Yof hi
  exact ⟨g',hlt,rfl,rfl,rfl,rfl,rfl,rfl,rfl,rfl,rfl,rfl,rfl,rfl,rfl,rfl,rfl,hj⟩
theorem J32i (Q:QT) (R24:T24) (x15 x21 x19:List Nat) (x128 x127:Int) (a126:Pt) (n126 c126:Nat) (e126:Bool) (i3 o3:Nat) (a16:Pt) (n16 c16:Nat) (e16:Bool) (a13:Pt) (n13 c13:Nat) (e13:Bool) (h:Zaa) (ht :
 List.length x21 + List.length x19≤9223372036854775807∧(List.length x15 + List.length (x21 ++ x19)≤9223372036854775807∧(J33 Q R24 x128 x127 a126 n126 c126 e126 i3 o3 a16 n16 c16 e16 (x15 ++ (x21 ++ x19)) a13 n13 c13 e13 h))):J32 Q R24 x15 x21 x19 x128 x127 a126 n126 c126 e126 i3 o3 a16 n16 c16 e16 a13 n13 c13 e13 h:=
 Zbf (kp:=kp) (cast (by kernel_rfl) ht)
theorem A24x0i (Q:QT) (a13:Pt) (n13 c13:Nat) (e13:Bool) (x15:List Nat) (h:Zaa) (ht :
 bcase (decide (((((n13:Nat):Int)):Int) > 0)) (List.length x15 + List.length [41]≤9223372036854775807∧(J36 Q (x15 ++ [41]) h)) (J36 Q x15 h)):Yuy Q a13 n13 c13 e13 x15 h:=
 At.mk (cast (by kernel_rfl) ht)
theorem J33i (Q:QT) (R24:T24) (x128 x127:Int) (a126:Pt) (n126 c126:Nat) (e126:Bool) (i3 o3:Nat) (a16:Pt) (n16 c16:Nat) (e16:Bool) (x15:List Nat) (a13:Pt) (n13 c13:Nat) (e13:Bool) (h:Zaa) (ht :
 R24 i3 o3 a13 n13 c13 e13 x15 a16 n16 c16 e16 a126 n126 c126 e126 x127 (IntKind.wrap .i64 (x128 + 1)) h):J33 Q R24 x128 x127 a126 n126 c126 e126 i3 o3 a16 n16 c16 e16 x15 a13 n13 c13 e13 h:=
 Zbf (kp:=kp) (cast (by kernel_rfl) ht)
theorem J36i (Q:QT) (x15:List Nat) (h:Zaa) (ht :
 Q (.tup [.str x15,.str []]) h):J36 Q x15 h:=
 Zbf (kp:=kp) (cast (by kernel_rfl) ht)
theorem call (a0:Pt) (x1x0 x1x1:List Nat) (a2:Pt) (n2 c2:Nat) (e2:Bool) (h:Zaa) (Q:QT) (ht :
 Zch (h ++ [.cells Zga [.ptr a0] false]) fun A=>Zch (A ++ [.cells Zab [.str x1x0,.str x1x1] false]) fun B=>Zch (B ++ [.cells Zbm [.slice a2 n2 c2 e2] false]) fun C=>Zgm (Zae C (.ptr (h.length,0))) fun D=>Zbg D fun D E=>Zzn (Zae C (.ptr (D,E + 3))) fun F=>Zcn (Zbj C (.ptr (A.length,0)) 2) fun G=>Zai G fun G H=>Zbc G fun G=>Zai H fun H I=>Zbc H fun H=>Zbu I ((Zae C (.ptr (D,E + 3))=Zae C (.ptr (D,E + 3)))∧(Zae C (.ptr (h.length,0))=Zae C (.ptr (h.length,0)))∧Yus F fun D E=>Zaj pg D ([.agg [.str G,.str H]] ++ E) C fun D E=>
 Zjx D fun D=>Zai D fun D F=>Zbc D fun D=>Zai F fun F G=>Zck F fun F=>Zbu G ((Zae E (.ptr (h.length,0))=Zae C (.ptr (h.length,0)))∧bcase F (Q (.tup [.str D,.str []]) E) (Zgm (Zae E (.ptr (h.length,0))) fun C=>Zbg C fun C D=>xSl (Zae E (.ptr (C,D + 4))) fun C C D D=>bcase (decide (((((C:Nat):Int)):Int) ≥ 300)) (Zaj pg Zcv [.str ([108,111,110,103]),.ptr (A.length,0),.ptr (B.length,0),.ptr (h.length,0)] E fun C D=>
 Zjx C fun C=>Zai C fun C F=>Zbc C fun C=>Zai F fun F G=>Zbc F fun F=>Zbu G (Q (.tup [.str C,.str F]) D)) (Zgm (Zae E (.ptr (h.length,0))) fun C=>Zgm (Zae E (.ptr (h.length,0))) fun D=>Zbg D fun D F=>xSl (Zae E (.ptr (D,F + 4))) fun G H I J=>Zcn (Zbj E (.ptr (A.length,0)) 2) fun K=>Zai K fun K L=>Zbc K fun K=>Zai L fun L M=>Zbc L fun L=>Zbu M ((Zae E (.ptr (D,F + 4))=Zae E (.ptr (D,F + 4)))∧(Zae E (.ptr (h.length,0))=Zae E (.ptr (h.length,0)))∧(Zae E (.ptr (h.length,0))=Zae E (.ptr (h.length,0)))∧Zch (E ++ [.cells Zab [.str K,.str L] false]) fun K=>(Zae K (.ptr (D,F + 4))=Zae E (.ptr (D,F + 4)))∧(Zae K (.ptr (h.length,0))=Zae E (.ptr (h.length,0)))∧(Zae K (.ptr (h.length,0))=Zae E (.ptr (h.length,0)))∧Zcf pg Zbm K (.slice G H I J) (.slice (E.length,0) 1 1 true) fun D E=>xSl D fun D F G H=>(Zae E (.ptr (h.length,0))=Zae K (.ptr (h.length,0)))∧(Zae E (.ptr (h.length,0))=Zae K (.ptr (h.length,0)))∧Zbg C fun C I=>Zbn (Zaz E (.ptr (C,I + 4)) [.slice D F G H]) fun C=>xSl (Zae C (.ptr (B.length,0))) fun D D E E=>bcase (decide (((((D:Nat):Int)):Int) > 30)) (Zaj pg Zcv [.str ([100,101,101,112]),.ptr (A.length,0),.ptr (B.length,0),.ptr (h.length,0)] C fun D E=>
 Zjx D fun D=>Zai D fun D F=>Zbc D fun D=>Zai F fun F G=>Zbc F fun F=>Zbu G (Q (.tup [.str D,.str F]) E)) (Zgm (Zae C (.ptr (h.length,0))) fun D=>Zbg D fun D E=>Zcn (Zbj C (.ptr (D,E + 0)) 2) fun F=>Zai F fun F G=>xSl F fun F H I J=>Zai G fun G K=>xSl G fun G L M N=>Zbu K (Zcn (Zbj C (.ptr (A.length,0)) 2) fun K=>Zai K fun K O=>Zbc K fun K=>Zai O fun O P=>Zbc O fun O=>Zbu P ((Zbj C (.ptr (D,E + 0)) 2=Zbj C (.ptr (D,E + 0)) 2)∧(Zae C (.ptr (h.length,0))=Zae C (.ptr (h.length,0)))∧Zaj pg Zis [.agg [.slice F H I J,.slice G L M N],.agg [.str K,.str O]] C fun D E=>
 xSl D fun D F G H=>(Zae E (.ptr (h.length,0))=Zae C (.ptr (h.length,0)))∧bcase ((((F:Nat):Int):Int) == 0) (Zaj pg Zcv [.str ([110,111,110,101]),.ptr (A.length,0),.ptr (B.length,0),.ptr (h.length,0)] E fun C I=>
 Zjx C fun C=>Zai C fun C J=>Zbc C fun C=>Zai J fun J K=>Zbc J fun J=>Zbu K (Q (.tup [.str C,.str J]) I)) ((0≤(0:Int)∧(0:Int) < (F:Nat))∧(Zbg D fun C I=>Zdt .i64 (Zae E (.ptr (C,I + (Int.toNat 0) * 1))) fun C=>bcase (decide (((((F:Nat):Int)):Int) > 1)) (Zgm (Zae E (.ptr (h.length,0))) fun I=>Zbg I fun I J=>Zcn (Zbj E (.ptr (I,J + 0)) 2) fun I=>Zai I fun I J=>xSl I fun I K L M=>Zai J fun J N=>xSl J fun J O P R=>Zbu N (Zaj pg Zki [.agg [.slice I K L M,.slice J O P R],.slice D F G H] E fun D F=>
 Zdt .i64 D fun D=>Zgm (Zae F (.ptr (h.length,0))) fun G=>Zbg G fun G H=>Zck (Zae F (.ptr (G,H + 2))) fun G=>bcase (!G) (Zaj pg Zcv [.str ([109,97,110,121]),.ptr (A.length,0),.ptr (B.length,0),.ptr (h.length,0)] F fun G H=>
 Zjx G fun G=>Zai G fun G I=>Zbc G fun G=>Zai I fun I J=>Zbc I fun I=>Zbu J (Q (.tup [.str G,.str I]) H)) (bcase (decide ((D:Int) < 0)) (Zaj pg Zcv [.str ([109,97,110,121]),.ptr (A.length,0),.ptr (B.length,0),.ptr (h.length,0)] F fun G H=>
 Zjx G fun G=>Zai G fun G I=>Zbc G fun G=>Zai I fun I J=>Zbc I fun I=>Zbu J (Q (.tup [.str G,.str I]) H)) (J18 Q h.length 0 D A.length 0 A.length 0 B.length 0 h.length 0 B.length 0 F)))) (J18 Q h.length 0 C A.length 0 A.length 0 B.length 0 h.length 0 B.length 0 E)))))))))))):Zaj pg Ziq [.ptr a0,.agg [.str x1x0,.str x1x1],.slice a2 n2 c2 e2] h Q:=
 Zaj.of_body kp (c:=cod fn) (fn:=fn) Go.Proofs.Tryz.func68 (by kernel_rfl) (by kernel_rfl) (Nat.le_of_ble_eq_true (by kernel_rfl))
  (cast (by kernel_rfl) ht)
end Zct
namespace Zmp
noncomputable abbrev fn:Func:=Go.Proofs.Tryz.f74
def kp:Zco:=[]
noncomputable def C (p:List Nat):Code:=(cod fn).sub p
def KR (Q:QT):KT:=Zfd pg fn.results.toList Q
theorem call (x0x0 x0x1:List Nat) (h:Zaa) (Q:QT) (ht :
 Zch (h ++ [.cells Zab [.str x0x0,.str x0x1] false]) fun A=>Q (.tup [.str [],.bool false]) A):Zaj pg Zcx [.agg [.str x0x0,.str x0x1]] h Q:=
 Zaj.of_body kp (c:=cod fn) (fn:=fn) Go.Proofs.Tryz.func74 (by kernel_rfl) (by kernel_rfl) (Nat.le_of_ble_eq_true (by kernel_rfl))
  (cast (by kernel_rfl) ht)
end Zmp
end Go.Sim

set_option maxRecDepth 100000
set_option linter.unusedVariables false
namespace Go.Sim
open Go Go.RowKit
namespace Zez
noncomputable abbrev fn:Func:=Go.Proofs.Tryz.f135
def kp:Zco:=[(4000004,[0,6]),(3000006,[8,6]),(1000006,[6,8,26,27,28]),(2000008,[28,27,26,8,6])]
noncomputable def C (p:List Nat):Code:=(cod fn).sub p
def KR (Q:QT):KT:=Zfd pg fn.results.toList Q
abbrev T6:=Nat→Nat→Nat→Nat→Pt→Nat→Nat→Bool→Int→Int→Zaa→Prop
def E6 (R6:T6) (env:Env) (h:Zaa):Prop:=Zce 6 env fun v env=>Zgm v fun a=>Zbg a fun i6 o6=>Zce 8 env fun v env=>Zgm v fun a=>Zbg a fun i8 o8=>Zce 26 env fun v env=>xSl v fun a26 n26 c26 e26=>Zce 27 env fun v env=>Zew .i64 v fun x27=>Zce 28 env fun v env=>Zew .i64 v fun x28=>Zls env (R6 i6 o6 i8 o8 a26 n26 c26 e26 x27 x28 h)
theorem Zma {R6:T6} {env:Env} {h:Zaa} (hi:E6 R6 env h):∃ i6,∃ o6,∃ i8,∃ o8,∃ a26,∃ n26,∃ c26,∃ e26,∃ x27,∃ x28,env=[(6,.ptr (i6,o6)),(8,.ptr (i8,o8)),(26,.slice a26 n26 c26 e26),(27,.int .i64 x27),(28,.int .i64 x28)]∧R6 i6 o6 i8 o8 a26 n26 c26 e26 x27 x28 h:=by
 unfold E6 at hi
 have hi0:=hi
 clear hi
 obtain ⟨_,_,rfl,hi1⟩:=Zan hi0
 obtain ⟨a,rfl,hi2⟩:=Zbv hi1
 obtain ⟨i6,o6,rfl,hi3⟩:=Zbr hi2
 obtain ⟨_,_,rfl,hi4⟩:=Zan hi3
 obtain ⟨a,rfl,hi5⟩:=Zbv hi4
 obtain ⟨i8,o8,rfl,hi6⟩:=Zbr hi5
 obtain ⟨_,_,rfl,hi7⟩:=Zan hi6
 obtain ⟨a26,n26,c26,e26,rfl,hi8⟩:=Zcg hi7
 obtain ⟨_,_,rfl,hi9⟩:=Zan hi8
 obtain ⟨x27,rfl,hi10⟩:=Zay hi9
 obtain ⟨_,_,rfl,hi11⟩:=Zan hi10
 obtain ⟨x28,rfl,hi12⟩:=Zay hi11
 obtain ⟨rfl,hi13⟩:=Zbw hi12
 have hi:=hi13
 exact ⟨i6,o6,i8,o8,a26,n26,c26,e26,x27,x28,rfl,hi⟩
def K0 (Q:QT):KT:=andThen (fun env' h'=>(match kp.find 4000010 with | some ks=>Den pg fn.ntmps (C [1,1,1,1,1]) (env'.keep ks) h' (KR Q) | none=>den pg fn.ntmps kp (C [1,1,1,1,1]) env' h' (KR Q))) (KR Q)
def K1 (Q:QT):KT:=Zde 0 (K0 Q)
def K2 (Q:QT):KT:=left kp 6 (K1 Q)
def K3 (Q:QT) (R6:T6):KT:=rnd ((kp.find 1000006).getD []) (E6 R6) (K2 Q)
def J4 (Q:QT) (a0:Pt) (n0 c0:Nat) (e0:Bool) (i6 o6:Nat) (h:Zaa):Prop:=Den pg fn.ntmps (C [1,1,1]) [(0,.slice a0 n0 c0 e0),(6,.ptr (i6,o6))] h (KR Q)
def L6 (Q:QT) (i6 o6 i8 o8:Nat) (a26:Pt) (n26 c26:Nat) (e26:Bool) (x27 x28:Int) (h:Zaa):Prop:=Zff (Den pg fn.ntmps (C [1,1,1,1,0,1,0,0])) ((kp.find 1000006).getD []) (K2 Q) [(6,.ptr (i6,o6)),(8,.ptr (i8,o8)),(26,.slice a26 n26 c26 e26),(27,.int .i64 x27),(28,.int .i64 x28)] h
def Yck (Q:QT) (i8 o8 i6 o6:Nat) (h:Zaa):Prop:=At (K1 Q) (.exit 0) [(8,.ptr (i8,o8)),(6,.ptr (i6,o6))] h
theorem J4i (Q:QT) (a0:Pt) (n0 c0:Nat) (e0:Bool) (i6 o6:Nat) (h:Zaa) (ht :
 Zch (h ++ [.cells Zdi [.int .u8 0,.slice none 0 0 true,.int .u8 0,.slice none 0 0 true,.int .u8 0,.slice none 0 0 true,.int .u8 0,.slice none 0 0 true,.int .u8 0,.slice none 0 0 true,.int .u8 0,.slice none 0 0 true,.int .u8 0,.slice none 0 0 true,.int .u8 0,.slice none 0 0 true,.int .u8 0,.slice none 0 0 true,.int .u8 0,.slice none 0 0 true,.int .u8 0,.slice none 0 0 true,.int .u8 0,.slice none 0 0 true] false]) fun A=>L6 Q i6 o6 h.length 0 a0 n0 c0 e0 (((n0:Nat):Int)) 0 A):J4 Q a0 n0 c0 e0 i6 o6 h:=
 Zbf (kp:=kp) (cast (by kernel_rfl) ht)
def L6t (Q:QT) (R6:T6) (i6 o6 i8 o8:Nat) (a26:Pt) (n26 c26:Nat) (e26:Bool) (x27 x28:Int) (h:Zaa):Prop:=
 bcase (decide ((x28:Int) < x27)) ((0≤(x28:Int)∧(x28:Int) < (n26:Nat))∧(Zbg a26 fun A B=>Zcn (Zbj h (.ptr (A,B + (Int.toNat x28) * 2)) 2) fun A=>Zai A fun A B=>Zbc A fun A=>Zai B fun B C=>Zbc B fun B=>Zbu C (Zch (h ++ [.cells Zbl [.str [],.str []] false]) fun C=>Zbn (Zaz C (.ptr (h.length,0)) [.str A,.str B]) fun A=>Zbc (Zae A (.ptr (h.length,0 + 0))) fun B=>Zkq B 0 fun B=>Zbc (Zae A (.ptr (h.length,0 + 1))) fun C=>Zaj pg Zjf [.int .u8 (((B:Nat):Int))] A fun B D=>
 Zdt .i64 B fun B=>(Zae D (.ptr (h.length,0 + 1))=Zae A (.ptr (h.length,0 + 1)))∧(Zae D (.ptr (h.length,0 + 0))=Zae A (.ptr (h.length,0 + 0)))∧Zaj pg Zfw [.str C] D fun A C=>
 Zjx A fun A=>Zai A fun A E=>Zob A fun A=>Zai A fun A F=>Zdt .u8 A fun A=>Zai F fun F G=>xSl F fun F H I J=>Zbu G (Zai E fun E G=>Zck E fun E=>Zbu G ((Zae C (.ptr (h.length,0 + 0))=Zae D (.ptr (h.length,0 + 0)))∧(0≤(B:Int)∧(B:Int) < (12:Nat))∧(Zbn (Zaz C (.ptr (i8,o8 + (Int.toNat B) * 2)) [.int .u8 A,.slice F H I J]) fun A=>R6 i6 o6 i8 o8 a26 n26 c26 e26 x27 (IntKind.wrap .i64 (x28 + 1)) A)))))) (Yck Q i8 o8 i6 o6 h)
theorem Zyu (Q:QT) (R6:T6) (i6 o6 i8 o8:Nat) (a26:Pt) (n26 c26:Nat) (e26:Bool) (x27 x28:Int) (h:Zaa) (ht:L6t Q R6 i6 o6 i8 o8 a26 n26 c26 e26 x27 x28 h):Den pg fn.ntmps (C [1,1,1,1,0,1,0,0]) [(6,.ptr (i6,o6)),(8,.ptr (i8,o8)),(26,.slice a26 n26 c26 e26),(27,.int .i64 x27),(28,.int .i64 x28)] h (K3 Q R6):=
 Zbf (kp:=kp) (cast (by kernel_rfl) ht)
theorem L6ind (Q:QT) (i6 o6 i8 o8:Nat) (a26:Pt) (n26 c26:Nat) (e26:Bool) (x27:Int) {G:Type} (J:G→Int→Zaa→Prop) (m:G→Nat)
 (hr:∀ (g:G) (x28:Int) (h:Zaa),J g x28 h→∀ (R6:T6),(∀ g' (x28:Int) (h:Zaa),m g' < m g→J g' x28 h→R6 i6 o6 i8 o8 a26 n26 c26 e26 x27 x28 h)→L6t Q R6 i6 o6 i8 o8 a26 n26 c26 e26 x27 x28 h)
 (g:G) (x28:Int) (h:Zaa) (hj:J g x28 h):L6 Q i6 o6 i8 o8 a26 n26 c26 e26 x27 x28 h:=by
 let P:=fun (K:Int→Zaa→Prop) i6' o6' i8' o8' a26' n26' c26' e26' x27' x28 h=>i6=i6'∧o6=o6'∧i8=i8'∧o8=o8'∧a26=a26'∧n26=n26'∧c26=c26'∧e26=e26'∧x27=x27'∧K x28 h
 refine Zff.inv2 (fun g=>E6 (P (J g))) (fun g=>E6 (P fun x28 h=>∃ g',m g' < m g∧J g' x28 h)) m ?_ ?_ g ⟨rfl,rfl,rfl,rfl,rfl,rfl,rfl,rfl,rfl,hj⟩
 ·intro g env h hi
  obtain ⟨i6',o6',i8',o8',a26',n26',c26',e26',x27',x28,rfl,rfl,rfl,rfl,rfl,rfl,rfl,rfl,rfl,rfl,hj⟩:=Zma hi
  exact Zyu Q _ i6 o6 i8 o8 a26 n26 c26 e26 x27 x28 h (hr g x28 h hj (P fun x28 h=>∃ g',m g' < m g∧J g' x28 h) fun g' x28 h hlt hj=>⟨rfl,rfl,rfl,rfl,rfl,rfl,rfl,rfl,rfl,g',hlt,hj⟩)
 ·intro g env h hi
  obtain ⟨i6',o6',i8',o8',a26',n26',c26',e26',x27',x28,rfl,rfl,rfl,rfl,rfl,rfl,rfl,rfl,rfl,rfl,g',hlt,hj⟩:=Zma hi
  exact ⟨g',hlt,rfl,rfl,rfl,rfl,rfl,rfl,rfl,rfl,rfl,hj⟩
theorem A6x0i (Q:QT) (i8 o8 i6 o6:Nat) (h:Zaa) (ht :
 Zcn (Zbj h (.ptr (i6,o6)) 2) fun A=>Zai A fun A B=>Zdt .u8 A fun A=>Zai B fun B C=>xSl B fun B D E F=>Zbu C (Zaj pg Zlv [.ptr (i8,o8),.agg [.int .u8 A,.slice B D E F]] h fun A B=>
 Zob A fun A=>Zai A fun A C=>Zdt .u8 A fun A=>Zai C fun C D=>xSl C fun C E F G=>Zbu D (Zch (B ++ [.cells Zak [.int .u8 0,.slice none 0 0 true] false]) fun D=>Zbn (Zaz D (.ptr (B.length,0)) [.int .u8 A,.slice C E F G]) fun A=>Zcn (Zbj A (.ptr (B.length,0)) 2) fun C=>Zai C fun C D=>Zdt .u8 C fun C=>Zai D fun D E=>xSl D fun D F G H=>Zbu E (Zaj pg Zgt [.agg [.int .u8 C,.slice D F G H]] A fun A C=>
 Zdt .i64 A fun A=>bcase (decide ((A:Int) > 60)) (Q (.tup [.str [],.bool false]) C) (Zcn (Zbj C (.ptr (B.length,0)) 2) fun A=>Zai A fun A B=>Zdt .u8 A fun A=>Zai B fun B D=>xSl B fun B E F G=>Zbu D (Zaj pg Zgf [.agg [.int .u8 A,.slice B E F G]] C fun A B=>
 Zbc A fun A=>Q (.tup [.str A,.bool true]) B)))))):Yck Q i8 o8 i6 o6 h:=
 At.mk (cast (by kernel_rfl) ht)
theorem call (a0:Pt) (n0 c0:Nat) (e0:Bool) (x1:List Nat) (h:Zaa) (Q:QT) (ht :
 Zaj pg Zfw [.str x1] h fun A B=>
 Zjx A fun A=>Zai A fun A C=>Zob A fun A=>Zai A fun A D=>Zdt .u8 A fun A=>Zai D fun D E=>xSl D fun D F G H=>Zbu E (Zai C fun C E=>Zck C fun C=>Zbu E (Zch (B ++ [.cells Zak [.int .u8 0,.slice none 0 0 true] false]) fun E=>Zbn (Zaz E (.ptr (B.length,0)) [.int .u8 A,.slice D F G H]) fun A=>bcase (!C) (Q (.tup [.str [],.bool false]) A) (Zaj pg Zja [.slice a0 n0 c0 e0] A fun A C=>
 Zck A fun A=>bcase (!A) (Q (.tup [.str [],.bool false]) C) (J4 Q a0 n0 c0 e0 B.length 0 C))))):Zaj pg Ziw [.slice a0 n0 c0 e0,.str x1] h Q:=
 Zaj.of_body kp (c:=cod fn) (fn:=fn) Go.Proofs.Tryz.func135 (by kernel_rfl) (by kernel_rfl) (Nat.le_of_ble_eq_true (by kernel_rfl))
  (cast (by kernel_rfl) ht)
end Zez
namespace Zji
noncomputable abbrev fn:Func:=Go.Proofs.Tryz.f112
def kp:Zco:=[(3000006,[6,4,5]),(1000006,[6,7,26,27,28])]
noncomputable def C (p:List Nat):Code:=(cod fn).sub p
def KR (Q:QT):KT:=Zfd pg fn.results.toList Q
abbrev T6:=Pt→Nat→Nat→Bool→Pt→Nat→Nat→Bool→Pt→Nat→Nat→Bool→Int→Int→Zaa→Prop
def E6 (R6:T6) (env:Env) (h:Zaa):Prop:=Zce 6 env fun v env=>xSl v fun a6 n6 c6 e6=>Zce 7 env fun v env=>xSl v fun a7 n7 c7 e7=>Zce 26 env fun v env=>xSl v fun a26 n26 c26 e26=>Zce 27 env fun v env=>Zew .i64 v fun x27=>Zce 28 env fun v env=>Zew .i64 v fun x28=>Zls env (R6 a6 n6 c6 e6 a7 n7 c7 e7 a26 n26 c26 e26 x27 x28 h)
theorem Zma {R6:T6} {env:Env} {h:Zaa} (hi:E6 R6 env h):∃ a6,∃ n6,∃ c6,∃ e6,∃ a7,∃ n7,∃ c7,∃ e7,∃ a26,∃ n26,∃ c26,∃ e26,∃ x27,∃ x28,env=[(6,.slice a6 n6 c6 e6),(7,.slice a7 n7 c7 e7),(26,.slice a26 n26 c26 e26),(27,.int .i64 x27),(28,.int .i64 x28)]∧R6 a6 n6 c6 e6 a7 n7 c7 e7 a26 n26 c26 e26 x27 x28 h:=by
 unfold E6 at hi
 repeat ((first | (have k:=Zan hi; clear hi; obtain ⟨_,_,e,hi⟩:=k) | (have k:=Zay hi; clear hi; obtain ⟨_,e,hi⟩:=k) | (have k:=Zcg hi; clear hi; obtain ⟨_,_,_,_,e,hi⟩:=k)); subst e)
 obtain ⟨rfl,hi⟩:=Zbw hi
 exact ⟨_,_,_,_,_,_,_,_,_,_,_,_,_,_,rfl,hi⟩
def K0 (Q:QT):KT:=andThen (fun env' h'=>(match kp.find 4000013 with | some ks=>Den pg fn.ntmps (C [1,1,1,1,1]) (env'.keep ks) h' (KR Q) | none=>den pg fn.ntmps kp (C [1,1,1,1,1]) env' h' (KR Q))) (KR Q)
def K1 (Q:QT):KT:=Zde 0 (K0 Q)
def K2 (Q:QT):KT:=left kp 6 (K1 Q)
def K3 (Q:QT) (R6:T6):KT:=rnd ((kp.find 1000006).getD []) (E6 R6) (K2 Q)
def L6 (Q:QT) (a6:Pt) (n6 c6:Nat) (e6:Bool) (a7:Pt) (n7 c7:Nat) (e7:Bool) (a26:Pt) (n26 c26:Nat) (e26:Bool) (x27 x28:Int) (h:Zaa):Prop:=Zff (Den pg fn.ntmps (C [1,1,1,1,0,1,0,0])) ((kp.find 1000006).getD []) (K2 Q) [(6,.slice a6 n6 c6 e6),(7,.slice a7 n7 c7 e7),(26,.slice a26 n26 c26 e26),(27,.int .i64 x27),(28,.int .i64 x28)] h
def Yck (Q:QT) (a6:Pt) (n6 c6:Nat) (e6:Bool) (h:Zaa):Prop:=At (K1 Q) (.exit 0) [(6,.slice a6 n6 c6 e6),(4,.undef),(5,.undef)] h
def L6t (Q:QT) (R6:T6) (a6:Pt) (n6 c6:Nat) (e6:Bool) (a7:Pt) (n7 c7:Nat) (e7:Bool) (a26:Pt) (n26 c26:Nat) (e26:Bool) (x27 x28:Int) (h:Zaa):Prop:=
 bcase (decide ((x28:Int) < x27)) ((0≤(x28:Int)∧(x28:Int) < (n26:Nat))∧(Zbg a26 fun A B=>Zcn (Zbj h (.ptr (A,B + (Int.toNat x28) * 2)) 2) fun A=>Zai A fun A B=>Zbc A fun A=>Zai B fun B C=>Zbc B fun B=>Zbu C (Zch (h ++ [.cells Zab [.str [],.str []] false]) fun C=>Zbn (Zaz C (.ptr (h.length,0)) [.str A,.str B]) fun A=>Zbc (Zae A (.ptr (h.length,0 + 1))) fun B=>Zaj pg Ziw [.slice a7 n7 c7 e7,.str B] A fun A B=>
 Zjx A fun A=>Zai A fun A C=>Zbc A fun A=>Zai C fun C D=>Zck C fun C=>Zbu D (bcase (!C) (Zch (B ++ [.cells Zab [] false]) fun C=>Q (.tup [.slice (B.length,0) 0 0 true,.bool false]) C) (Zbc (Zae B (.ptr (h.length,0 + 0))) fun C=>Zch (B ++ [.cells Zab [.str C,.str A] false]) fun A=>Zcf pg Zbm A (.slice a6 n6 c6 e6) (.slice (B.length,0) 1 1 true) fun A B=>xSl A fun A C D E=>R6 A C D E a7 n7 c7 e7 a26 n26 c26 e26 x27 (IntKind.wrap .i64 (x28 + 1)) B))))) (Yck Q a6 n6 c6 e6 h)
theorem Zyu (Q:QT) (R6:T6) (a6:Pt) (n6 c6:Nat) (e6:Bool) (a7:Pt) (n7 c7:Nat) (e7:Bool) (a26:Pt) (n26 c26:Nat) (e26:Bool) (x27 x28:Int) (h:Zaa) (ht:L6t Q R6 a6 n6 c6 e6 a7 n7 c7 e7 a26 n26 c26 e26 x27 x28 h):Den pg fn.ntmps (C [1,1,1,1,0,1,0,0]) [(6,.slice a6 n6 c6 e6),(7,.slice a7 n7 c7 e7),(26,.slice a26 n26 c26 e26),(27,.int .i64 x27),(28,.int .i64 x28)] h (K3 Q R6):=
 Zbf (kp:=kp) (cast (by kernel_rfl) ht)
theorem L6ind (Q:QT) (a7:Pt) (n7 c7:Nat) (e7:Bool) (a26:Pt) (n26 c26:Nat) (e26:Bool) (x27:Int) {G:Type} (J:G→Pt→Nat→Nat→Bool→Int→Zaa→Prop) (m:G→Nat)
 (hr:∀ (g:G) (a6:Pt) (n6 c6:Nat) (e6:Bool) (x28:Int) (h:Zaa),J g a6 n6 c6 e6 x28 h→∀ (R6:T6),(∀ g' (a6:Pt) (n6 c6:Nat) (e6:Bool) (x28:Int) (h:Zaa),m g' < m g→J g' a6 n6 c6 e6 x28 h→R6 a6 n6 c6 e6 a7 n7 c7 e7 a26 n26 c26 e26 x27 x28 h)→L6t Q R6 a6 n6 c6 e6 a7 n7 c7 e7 a26 n26 c26 e26 x27 x28 h)
 (g:G) (a6:Pt) (n6 c6:Nat) (e6:Bool) (x28:Int) (h:Zaa) (hj:J g a6 n6 c6 e6 x28 h):L6 Q a6 n6 c6 e6 a7 n7 c7 e7 a26 n26 c26 e26 x27 x28 h:=by
 let P:=fun (K:Pt→Nat→Nat→Bool→Int→Zaa→Prop) a6 n6 c6 e6 a7' n7' c7' e7' a26' n26' c26' e26' x27' x28 h=>a7=a7'∧n7=n7'∧c7=c7'∧e7=e7'∧a26=a26'∧n26=n26'∧c26=c26'∧e26=e26'∧x27=x27'∧K a6 n6 c6 e6 x28 h
 refine Zff.inv2 (fun g=>E6 (P (J g))) (fun g=>E6 (P fun a6 n6 c6 e6 x28 h=>∃ g',m g' < m g∧J g' a6 n6 c6 e6 x28 h)) m ?_ ?_ g ⟨rfl,rfl,rfl,rfl,rfl,rfl,rfl,rfl,rfl,hj⟩
 ·intro g env h hi
  obtain ⟨a6,n6,c6,e6,a7',n7',c7',e7',a26',n26',c26',e26',x27',x28,rfl,rfl,rfl,rfl,rfl,rfl,rfl,rfl,rfl,rfl,hj⟩:=Zma hi
  exact Zyu Q _ a6 n6 c6 e6 a7 n7 c7 e7 a26 n26 c26 e26 x27 x28 h (hr g a6 n6 c6 e6 x28 h hj (P fun a6 n6 c6 e6 x28 h=>∃ g',m g' < m g∧J g' a6 n6 c6 e6 x28 h) fun g' a6 n6 c6 e6 x28 h hlt hj=>⟨rfl,rfl,rfl,rfl,rfl,rfl,rfl,rfl,rfl,g',hlt,hj⟩)
 ·intro g env h hi
  obtain ⟨a6,n6,c6,e6,a7',n7',c7',e7',a26',n26',c26',e26',x27',x28,rfl,rfl,rfl,rfl,rfl,rfl,rfl,rfl,rfl,rfl,g',hlt,hj⟩:=Zma hi
  exact ⟨g',hlt,rfl,rfl,rfl,rfl,rfl,rfl,rfl,rfl,rfl,hj⟩
theorem A6x0i (Q:QT) (a6:Pt) (n6 c6:Nat) (e6:Bool) (h:Zaa) (ht :
 Q (.tup [.slice a6 n6 c6 e6,.bool true]) h):Yck Q a6 n6 c6 e6 h:=
 At.mk (cast (by kernel_rfl) ht)
theorem call (x0x0 x0x1:List Nat) (a0x2:Pt) (n0x2 c0x2:Nat) (e0x2:Bool) (x1:List Nat) (h:Zaa) (Q:QT) (ht :
 Zch (h ++ [.cells Zac [.str x0x0,.str x0x1,.slice a0x2 n0x2 c0x2 e0x2] false]) fun A=>Zch (A ++ [.cells Zab [] false]) fun B=>Zbc (Zae B (.ptr (h.length,0 + 0 + 1))) fun C=>Zaj pg Zjr [.str C,.str x1] B fun B C=>
 Zjx B fun B=>Zai B fun B D=>xSl B fun B E F G=>Zai D fun D H=>Zck D fun D=>Zbu H (bcase (!D) (Q (.tup [.slice (A.length,0) 0 0 true,.bool false]) C) (xSl (Zae C (.ptr (h.length,0 + 2))) fun D H I J=>L6 Q (A.length,0) 0 0 true B E F G D H I J (((H:Nat):Int)) 0 C))):Zaj pg Zhm [.agg [.str x0x0,.str x0x1,.slice a0x2 n0x2 c0x2 e0x2],.str x1] h Q:=
 Zaj.of_body kp (c:=cod fn) (fn:=fn) Go.Proofs.Tryz.func112 (by kernel_rfl) (by kernel_rfl) (Nat.le_of_ble_eq_true (by kernel_rfl))
  (cast (by kernel_rfl) ht)
end Zji
namespace Zou
noncomputable abbrev fn:Func:=Go.Proofs.Tryz.f23
def kp:Zco:=[(4000003,[3,1,2])]
noncomputable def C (p:List Nat):Code:=(cod fn).sub p
def KR (Q:QT):KT:=Zfd pg fn.results.toList Q
def J3 (Q:QT) (i3 o3:Nat) (x1:Int) (x2:List Nat) (h:Zaa):Prop:=Den pg fn.ntmps (C [1,1]) [(3,.ptr (i3,o3)),(1,.int .i64 x1),(2,.str x2)] h (KR Q)
theorem J3i (Q:QT) (i3 o3:Nat) (x1:Int) (x2:List Nat) (h:Zaa) (ht :
 xSl (Zae h (.ptr (i3,o3 + 1))) fun A B C C=>(0≤(x1:Int)∧(x1:Int) < (B:Nat))∧(Zbg A fun A B=>Zcn (Zbj h (.ptr (A,B + (Int.toNat x1) * 3)) 3) fun A=>Zai A fun A B=>Zbc A fun A=>Zai B fun B C=>Zbc B fun B=>Zai C fun C D=>xSl C fun C E F G=>Zbu D (Zaj pg Zgl [.agg [.str A,.str B,.slice C E F G],.str x2] h fun A B=>
 Zjx A fun A=>Zai A fun A C=>xSl A fun A D E F=>Zai C fun C G=>Zck C fun C=>Zbu G (Q (.tup [.slice A D E F,.bool C]) B)))):J3 Q i3 o3 x1 x2 h:=
 Zbf (kp:=kp) (cast (by kernel_rfl) ht)
theorem call (a0x0:Pt) (n0x0 c0x0:Nat) (e0x0:Bool) (a0x1:Pt) (n0x1 c0x1:Nat) (e0x1:Bool) (x1:Int) (x2:List Nat) (h:Zaa) (Q:QT) (ht :
 Zch (h ++ [.cells Zad [.slice a0x0 n0x0 c0x0 e0x0,.slice a0x1 n0x1 c0x1 e0x1] false]) fun A=>Zcn (Zbj A (.ptr (h.length,0)) 2) fun B=>Zai B fun B C=>xSl B fun B D E F=>Zai C fun C G=>xSl C fun C H I J=>Zbu G (Zaj pg Zil [.agg [.slice B D E F,.slice C H I J]] A fun A B=>
 Zck A fun A=>bcase (!A) (Q (.tup [.slice none 0 0 true,.bool false]) B) (bcase (decide ((x1:Int) < 0)) (Q (.tup [.slice none 0 0 true,.bool false]) B) (xSl (Zae B (.ptr (h.length,0 + 1))) fun A A C C=>bcase (decide ((x1:Int) ≥ (((A:Nat):Int)))) (Q (.tup [.slice none 0 0 true,.bool false]) B) (J3 Q h.length 0 x1 x2 B))))):Zaj pg Zoq [.agg [.slice a0x0 n0x0 c0x0 e0x0,.slice a0x1 n0x1 c0x1 e0x1],.int .i64 x1,.str x2] h Q:=
 Zaj.of_body kp (c:=cod fn) (fn:=fn) Go.Proofs.Tryz.func23 (by kernel_rfl) (by kernel_rfl) (Nat.le_of_ble_eq_true (by kernel_rfl))
  (cast (by kernel_rfl) ht)
end Zou
end Go.Sim

set_option maxRecDepth 100000
set_option linter.unusedVariables false
namespace Go.Sim
open Go Go.RowKit
namespace Zek
noncomputable abbrev fn:Func:=Go.Proofs.Tryz.f154
def kp:Zco:=[(3000002,[2]),(1000002,[0,5,6,7]),(2000004,[43,7,6,5,0]),(4000006,[7,6,5,0])]
noncomputable def C (p:List Nat):Code:=(cod fn).sub p
def KR (Q:QT):KT:=Zfd pg fn.results.toList Q
abbrev T2:=Pt→Nat→Nat→Bool→Pt→Nat→Nat→Bool→Int→Int→Zaa→Prop
def E2 (R2:T2) (env:Env) (h:Zaa):Prop:=Zce 0 env fun v env=>xSl v fun a0 n0 c0 e0=>Zce 5 env fun v env=>xSl v fun a5 n5 c5 e5=>Zce 6 env fun v env=>Zew .i64 v fun x6=>Zce 7 env fun v env=>Zew .i64 v fun x7=>Zls env (R2 a0 n0 c0 e0 a5 n5 c5 e5 x6 x7 h)
theorem Zfj {R2:T2} {env:Env} {h:Zaa} (hi:E2 R2 env h):∃ a0,∃ n0,∃ c0,∃ e0,∃ a5,∃ n5,∃ c5,∃ e5,∃ x6,∃ x7,env=[(0,.slice a0 n0 c0 e0),(5,.slice a5 n5 c5 e5),(6,.int .i64 x6),(7,.int .i64 x7)]∧R2 a0 n0 c0 e0 a5 n5 c5 e5 x6 x7 h:=by
 unfold E2 at hi
 repeat ((first | (have k:=Zan hi; clear hi; obtain ⟨_,_,e,hi⟩:=k) | (have k:=Zay hi; clear hi; obtain ⟨_,e,hi⟩:=k) | (have k:=Zcg hi; clear hi; obtain ⟨_,_,_,_,e,hi⟩:=k)); subst e)
 obtain ⟨rfl,hi⟩:=Zbw hi
 exact ⟨_,_,_,_,_,_,_,_,_,_,rfl,hi⟩
def K0 (Q:QT):KT:=andThen (fun env' h'=>(match kp.find 4000007 with | some ks=>Den pg fn.ntmps (C [1,1]) (env'.keep ks) h' (KR Q) | none=>den pg fn.ntmps kp (C [1,1]) env' h' (KR Q))) (KR Q)
def K1 (Q:QT):KT:=Zde 0 (K0 Q)
def K2 (Q:QT):KT:=left kp 2 (K1 Q)
def K3 (Q:QT) (R2:T2):KT:=rnd ((kp.find 1000002).getD []) (E2 R2) (K2 Q)
def L2 (Q:QT) (a0:Pt) (n0 c0:Nat) (e0:Bool) (a5:Pt) (n5 c5:Nat) (e5:Bool) (x6 x7:Int) (h:Zaa):Prop:=Zff (Den pg fn.ntmps (C [1,0,1,0,0])) ((kp.find 1000002).getD []) (K2 Q) [(0,.slice a0 n0 c0 e0),(5,.slice a5 n5 c5 e5),(6,.int .i64 x6),(7,.int .i64 x7)] h
def J6 (Q:QT) (R2:T2) (x7 x6:Int) (a5:Pt) (n5 c5:Nat) (e5:Bool) (a0:Pt) (n0 c0:Nat) (e0:Bool) (h:Zaa):Prop:=Den pg fn.ntmps (C [1,0,1,0,0,1,1,1]) [(7,.int .i64 x7),(6,.int .i64 x6),(5,.slice a5 n5 c5 e5),(0,.slice a0 n0 c0 e0)] h (K3 Q R2)
def Zrj (Q:QT) (h:Zaa):Prop:=At (K1 Q) (.exit 0) [(2,.undef)] h
def L2t (Q:QT) (R2:T2) (a0:Pt) (n0 c0:Nat) (e0:Bool) (a5:Pt) (n5 c5:Nat) (e5:Bool) (x6 x7:Int) (h:Zaa):Prop:=
 bcase (decide ((x7:Int) < x6)) ((0≤(x7:Int)∧(x7:Int) < (n5:Nat))∧(Zbg a5 fun A B=>Zcn (Zbj h (.ptr (A,B + (Int.toNat x7) * 2)) 2) fun A=>Zai A fun A B=>Zbc A fun A=>Zai B fun B C=>Zbc B fun B=>Zbu C (Zch (h ++ [.cells Zbl [.str [],.str []] false]) fun C=>Zbn (Zaz C (.ptr (h.length,0)) [.str A,.str B]) fun A=>Zbc (Zae A (.ptr (h.length,0 + 0))) fun B=>bcase (!((((List.length B:Nat):Int):Int) == 1)) ((Zae A (.tup [])=Zae A (.tup []))∧Q (.bool false) A) (Zbc (Zae A (.ptr (h.length,0 + 0))) fun B=>Zkq B 0 fun B=>Zaj pg Zgv [.int .u8 (((B:Nat):Int))] A fun A B=>
 Zck A fun A=>bcase (!A) ((Zae B (.tup [])=Zae B (.tup []))∧Q (.bool false) B) (Zbc (Zae B (.ptr (h.length,0 + 1))) fun A=>Zaj pg Zfb [.str A] B fun A B=>
 Zck A fun A=>bcase (!A) ((Zae B (.tup [])=Zae B (.tup []))∧Q (.bool false) B) (bcase (decide ((x7:Int) > 0)) ((0≤(IntKind.wrap .i64 (x7 - 1):Int)∧(IntKind.wrap .i64 (x7 - 1):Int) < (n0:Nat))∧(Zbg a0 fun A C=>Zbc (Zae B (.ptr (A,C + (Int.toNat (IntKind.wrap .i64 (x7 - 1))) * 2 + 0))) fun D=>Zbc (Zae B (.ptr (h.length,0 + 0))) fun E=>(Zae B (.ptr (A,C + (Int.toNat (IntKind.wrap .i64 (x7 - 1))) * 2 + 0))=Zae B (.ptr (A,C + (Int.toNat (IntKind.wrap .i64 (x7 - 1))) * 2 + 0)))∧bcase (!Zer D E) (Q (.bool false) B) (J6 Q R2 x7 x6 a5 n5 c5 e5 a0 n0 c0 e0 B))) ((Zae B (.tup [])=Zae B (.tup []))∧J6 Q R2 x7 x6 a5 n5 c5 e5 a0 n0 c0 e0 B))))))) (Zrj Q h)
theorem Zno (Q:QT) (R2:T2) (a0:Pt) (n0 c0:Nat) (e0:Bool) (a5:Pt) (n5 c5:Nat) (e5:Bool) (x6 x7:Int) (h:Zaa) (ht:L2t Q R2 a0 n0 c0 e0 a5 n5 c5 e5 x6 x7 h):Den pg fn.ntmps (C [1,0,1,0,0]) [(0,.slice a0 n0 c0 e0),(5,.slice a5 n5 c5 e5),(6,.int .i64 x6),(7,.int .i64 x7)] h (K3 Q R2):=
 Zbf (kp:=kp) (cast (by kernel_rfl) ht)
theorem L2ind (Q:QT) (a0:Pt) (n0 c0:Nat) (e0:Bool) (a5:Pt) (n5 c5:Nat) (e5:Bool) (x6:Int) {G:Type} (J:G→Int→Zaa→Prop) (m:G→Nat)
 (hr:∀ (g:G) (x7:Int) (h:Zaa),J g x7 h→∀ (R2:T2),(∀ g' (x7:Int) (h:Zaa),m g' < m g→J g' x7 h→R2 a0 n0 c0 e0 a5 n5 c5 e5 x6 x7 h)→L2t Q R2 a0 n0 c0 e0 a5 n5 c5 e5 x6 x7 h)
 (g:G) (x7:Int) (h:Zaa) (hj:J g x7 h):L2 Q a0 n0 c0 e0 a5 n5 c5 e5 x6 x7 h:=by
 let P:=fun (K:Int→Zaa→Prop) a0' n0' c0' e0' a5' n5' c5' e5' x6' x7 h=>a0=a0'∧n0=n0'∧c0=c0'∧e0=e0'∧a5=a5'∧n5=n5'∧c5=c5'∧e5=e5'∧x6=x6'∧K x7 h
 refine Zff.inv2 (fun g=>E2 (P (J g))) (fun g=>E2 (P fun x7 h=>∃ g',m g' < m g∧J g' x7 h)) m ?_ ?_ g ⟨rfl,rfl,rfl,rfl,rfl,rfl,rfl,rfl,rfl,hj⟩
 ·intro g env h hi
  obtain ⟨a0',n0',c0',e0',a5',n5',c5',e5',x6',x7,rfl,rfl,rfl,rfl,rfl,rfl,rfl,rfl,rfl,rfl,hj⟩:=Zfj hi
  exact Zno Q _ a0 n0 c0 e0 a5 n5 c5 e5 x6 x7 h (hr g x7 h hj (P fun x7 h=>∃ g',m g' < m g∧J g' x7 h) fun g' x7 h hlt hj=>⟨rfl,rfl,rfl,rfl,rfl,rfl,rfl,rfl,rfl,g',hlt,hj⟩)
 ·intro g env h hi
  obtain ⟨a0',n0',c0',e0',a5',n5',c5',e5',x6',x7,rfl,rfl,rfl,rfl,rfl,rfl,rfl,rfl,rfl,rfl,g',hlt,hj⟩:=Zfj hi
  exact ⟨g',hlt,rfl,rfl,rfl,rfl,rfl,rfl,rfl,rfl,rfl,hj⟩
theorem J6i (Q:QT) (R2:T2) (x7 x6:Int) (a5:Pt) (n5 c5:Nat) (e5:Bool) (a0:Pt) (n0 c0:Nat) (e0:Bool) (h:Zaa) (ht :
 R2 a0 n0 c0 e0 a5 n5 c5 e5 x6 (IntKind.wrap .i64 (x7 + 1)) h):J6 Q R2 x7 x6 a5 n5 c5 e5 a0 n0 c0 e0 h:=
 Zbf (kp:=kp) (cast (by kernel_rfl) ht)
theorem A2x0i (Q:QT) (h:Zaa) (ht :
 Q (.bool true) h):Zrj Q h:=
 At.mk (cast (by kernel_rfl) ht)
theorem call (a0:Pt) (n0 c0:Nat) (e0:Bool) (h:Zaa) (Q:QT) (ht :
 L2 Q a0 n0 c0 e0 a0 n0 c0 e0 (((n0:Nat):Int)) 0 h):Zaj pg Zja [.slice a0 n0 c0 e0] h Q:=
 Zaj.of_body kp (c:=cod fn) (fn:=fn) Go.Proofs.Tryz.func154 (by kernel_rfl) (by kernel_rfl) (Nat.le_of_ble_eq_true (by kernel_rfl))
  (cast (by kernel_rfl) ht)
end Zek
namespace Zhy
noncomputable abbrev fn:Func:=Go.Proofs.Tryz.f108
def kp:Zco:=[(4000004,[3,0,4]),(3000006,[6,4]),(1000006,[0,4,6,33,34,35]),(2000008,[35,34,33,6,0,4])]
noncomputable def C (p:List Nat):Code:=(cod fn).sub p
def KR (Q:QT):KT:=Zfd pg fn.results.toList Q
abbrev T6:=Pt→Nat→Nat→Nat→Nat→Pt→Nat→Nat→Bool→Int→Int→Zaa→Prop
def E6 (R6:T6) (env:Env) (h:Zaa):Prop:=Zce 0 env fun v env=>Zgm v fun a0=>Zce 4 env fun v env=>Zgm v fun a=>Zbg a fun i4 o4=>Zce 6 env fun v env=>Zgm v fun a=>Zbg a fun i6 o6=>Zce 33 env fun v env=>xSl v fun a33 n33 c33 e33=>Zce 34 env fun v env=>Zew .i64 v fun x34=>Zce 35 env fun v env=>Zew .i64 v fun x35=>Zls env (R6 a0 i4 o4 i6 o6 a33 n33 c33 e33 x34 x35 h)
theorem Zma {R6:T6} {env:Env} {h:Zaa} (hi:E6 R6 env h):∃ a0,∃ i4,∃ o4,∃ i6,∃ o6,∃ a33,∃ n33,∃ c33,∃ e33,∃ x34,∃ x35,env=[(0,.ptr a0),(4,.ptr (i4,o4)),(6,.ptr (i6,o6)),(33,.slice a33 n33 c33 e33),(34,.int .i64 x34),(35,.int .i64 x35)]∧R6 a0 i4 o4 i6 o6 a33 n33 c33 e33 x34 x35 h:=by
 unfold E6 at hi
 have hi0:=hi
 clear hi
 obtain ⟨_,_,rfl,hi1⟩:=Zan hi0
 obtain ⟨a0,rfl,hi2⟩:=Zbv hi1
 obtain ⟨_,_,rfl,hi3⟩:=Zan hi2
 obtain ⟨a,rfl,hi4⟩:=Zbv hi3
 obtain ⟨i4,o4,rfl,hi5⟩:=Zbr hi4
 obtain ⟨_,_,rfl,hi6⟩:=Zan hi5
 obtain ⟨a,rfl,hi7⟩:=Zbv hi6
 obtain ⟨i6,o6,rfl,hi8⟩:=Zbr hi7
 obtain ⟨_,_,rfl,hi9⟩:=Zan hi8
 obtain ⟨a33,n33,c33,e33,rfl,hi10⟩:=Zcg hi9
 obtain ⟨_,_,rfl,hi11⟩:=Zan hi10
 obtain ⟨x34,rfl,hi12⟩:=Zay hi11
 obtain ⟨_,_,rfl,hi13⟩:=Zan hi12
 obtain ⟨x35,rfl,hi14⟩:=Zay hi13
 obtain ⟨rfl,hi15⟩:=Zbw hi14
 have hi:=hi15
 exact ⟨a0,i4,o4,i6,o6,a33,n33,c33,e33,x34,x35,rfl,hi⟩
def K0 (Q:QT):KT:=andThen (fun env' h'=>(match kp.find 4000010 with | some ks=>Den pg fn.ntmps (C [1,1,1,1]) (env'.keep ks) h' (KR Q) | none=>den pg fn.ntmps kp (C [1,1,1,1]) env' h' (KR Q))) (KR Q)
def K1 (Q:QT):KT:=Zde 0 (K0 Q)
def K2 (Q:QT):KT:=left kp 6 (K1 Q)
def K3 (Q:QT) (R6:T6):KT:=rnd ((kp.find 1000006).getD []) (E6 R6) (K2 Q)
def J4 (Q:QT) (i3 o3:Nat) (a0:Pt) (i4 o4:Nat) (h:Zaa):Prop:=Den pg fn.ntmps (C [1,1]) [(3,.ptr (i3,o3)),(0,.ptr a0),(4,.ptr (i4,o4))] h (KR Q)
def L6 (Q:QT) (a0:Pt) (i4 o4 i6 o6:Nat) (a33:Pt) (n33 c33:Nat) (e33:Bool) (x34 x35:Int) (h:Zaa):Prop:=Zff (Den pg fn.ntmps (C [1,1,1,0,1,0,0])) ((kp.find 1000006).getD []) (K2 Q) [(0,.ptr a0),(4,.ptr (i4,o4)),(6,.ptr (i6,o6)),(33,.slice a33 n33 c33 e33),(34,.int .i64 x34),(35,.int .i64 x35)] h
def Yck (Q:QT) (i6 o6 i4 o4:Nat) (h:Zaa):Prop:=At (K1 Q) (.exit 0) [(6,.ptr (i6,o6)),(4,.ptr (i4,o4))] h
theorem J4i (Q:QT) (i3 o3:Nat) (a0:Pt) (i4 o4:Nat) (h:Zaa) (ht :
 Zdt .u8 (Zae h (.ptr (i3,o3 + 0))) fun A=>Zch (h ++ [.cells Zak [] false]) fun B=>Zch (B ++ [.cells Zak [.int .u8 0,.slice none 0 0 true] false]) fun C=>Zbn (Zaz C (.ptr (B.length,0)) [.int .u8 A,.slice (h.length,0) 0 0 true]) fun A=>xSl (Zae A (.ptr (i3,o3 + 1))) fun C D E F=>L6 Q a0 i4 o4 B.length 0 C D E F (((D:Nat):Int)) 0 A):J4 Q i3 o3 a0 i4 o4 h:=
 Zbf (kp:=kp) (cast (by kernel_rfl) ht)
def L6t (Q:QT) (R6:T6) (a0:Pt) (i4 o4 i6 o6:Nat) (a33:Pt) (n33 c33:Nat) (e33:Bool) (x34 x35:Int) (h:Zaa):Prop:=
 bcase (decide ((x35:Int) < x34)) ((0≤(x35:Int)∧(x35:Int) < (n33:Nat))∧(Zbg a33 fun A B=>Zcn (Zbj h (.ptr (A,B + (Int.toNat x35) * 2)) 2) fun A=>Zai A fun A B=>Zdt .u8 A fun A=>Zai B fun B C=>xSl B fun B D E F=>Zbu C (Zch (h ++ [.cells Zak [.int .u8 0,.slice none 0 0 true] false]) fun C=>Zbn (Zaz C (.ptr (h.length,0)) [.int .u8 A,.slice B D E F]) fun A=>xSl (Zae A (.ptr (i6,o6 + 1))) fun B C D E=>Zcn (Zbj A (.ptr (h.length,0)) 2) fun F=>Zai F fun F G=>Zdt .u8 F fun F=>Zai G fun G H=>xSl G fun G I J K=>Zbu H ((Zae A (.ptr (i6,o6 + 1))=Zae A (.ptr (i6,o6 + 1)))∧Zaj pg Zlv [.ptr a0,.agg [.int .u8 F,.slice G I J K]] A fun F G=>
 Zob F fun F=>Zai F fun F H=>Zdt .u8 F fun F=>Zai H fun H I=>xSl H fun H J K L=>Zbu I ((Zae G (.ptr (i6,o6 + 1))=Zae A (.ptr (i6,o6 + 1)))∧Zch (G ++ [.cells Zak [.int .u8 F,.slice H J K L] false]) fun A=>(Zae A (.ptr (i6,o6 + 1))=Zae G (.ptr (i6,o6 + 1)))∧Zcf pg Zkl A (.slice B C D E) (.slice (G.length,0) 1 1 true) fun A B=>xSl A fun A C D E=>Zbn (Zaz B (.ptr (i6,o6 + 1)) [.slice A C D E]) fun A=>R6 a0 i4 o4 i6 o6 a33 n33 c33 e33 x34 (IntKind.wrap .i64 (x35 + 1)) A))))) (Yck Q i6 o6 i4 o4 h)
theorem Zyu (Q:QT) (R6:T6) (a0:Pt) (i4 o4 i6 o6:Nat) (a33:Pt) (n33 c33:Nat) (e33:Bool) (x34 x35:Int) (h:Zaa) (ht:L6t Q R6 a0 i4 o4 i6 o6 a33 n33 c33 e33 x34 x35 h):Den pg fn.ntmps (C [1,1,1,0,1,0,0]) [(0,.ptr a0),(4,.ptr (i4,o4)),(6,.ptr (i6,o6)),(33,.slice a33 n33 c33 e33),(34,.int .i64 x34),(35,.int .i64 x35)] h (K3 Q R6):=
 Zbf (kp:=kp) (cast (by kernel_rfl) ht)
theorem L6ind (Q:QT) (a0:Pt) (i4 o4 i6 o6:Nat) (a33:Pt) (n33 c33:Nat) (e33:Bool) (x34:Int) {G:Type} (J:G→Int→Zaa→Prop) (m:G→Nat)
 (hr:∀ (g:G) (x35:Int) (h:Zaa),J g x35 h→∀ (R6:T6),(∀ g' (x35:Int) (h:Zaa),m g' < m g→J g' x35 h→R6 a0 i4 o4 i6 o6 a33 n33 c33 e33 x34 x35 h)→L6t Q R6 a0 i4 o4 i6 o6 a33 n33 c33 e33 x34 x35 h)
 (g:G) (x35:Int) (h:Zaa) (hj:J g x35 h):L6 Q a0 i4 o4 i6 o6 a33 n33 c33 e33 x34 x35 h:=by
 let P:=fun (K:Int→Zaa→Prop) a0' i4' o4' i6' o6' a33' n33' c33' e33' x34' x35 h=>a0=a0'∧i4=i4'∧o4=o4'∧i6=i6'∧o6=o6'∧a33=a33'∧n33=n33'∧c33=c33'∧e33=e33'∧x34=x34'∧K x35 h
 refine Zff.inv2 (fun g=>E6 (P (J g))) (fun g=>E6 (P fun x35 h=>∃ g',m g' < m g∧J g' x35 h)) m ?_ ?_ g ⟨rfl,rfl,rfl,rfl,rfl,rfl,rfl,rfl,rfl,rfl,hj⟩
 ·intro g env h hi
  obtain ⟨a0',i4',o4',i6',o6',a33',n33',c33',e33',x34',x35,rfl,rfl,rfl,rfl,rfl,rfl,rfl,rfl,rfl,rfl,rfl,hj⟩:=Zma hi
  exact Zyu Q _ a0 i4 o4 i6 o6 a33 n33 c33 e33 x34 x35 h (hr g x35 h hj (P fun x35 h=>∃ g',m g' < m g∧J g' x35 h) fun g' x35 h hlt hj=>⟨rfl,rfl,rfl,rfl,rfl,rfl,rfl,rfl,rfl,rfl,g',hlt,hj⟩)
 ·intro g env h hi
  obtain ⟨a0',i4',o4',i6',o6',a33',n33',c33',e33',x34',x35,rfl,rfl,rfl,rfl,rfl,rfl,rfl,rfl,rfl,rfl,rfl,g',hlt,hj⟩:=Zma hi
  exact ⟨g',hlt,rfl,rfl,rfl,rfl,rfl,rfl,rfl,rfl,rfl,rfl,hj⟩
theorem A6x0i (Q:QT) (i6 o6 i4 o4:Nat) (h:Zaa) (ht :
 Zcn (Zbj h (.ptr (i6,o6)) 2) fun A=>Zai A fun A B=>Zdt .u8 A fun A=>Zai B fun B C=>xSl B fun B D E F=>Zbu C (Zbn (Zaz h (.ptr (i4,o4)) [.int .u8 A,.slice B D E F]) fun A=>Zcn (Zbj A (.ptr (i4,o4)) 2) fun B=>Zai B fun B C=>Zdt .u8 B fun B=>Zai C fun C D=>xSl C fun C E F G=>Zbu D (Q (.agg [.int .u8 B,.slice C E F G]) A))):Yck Q i6 o6 i4 o4 h:=
 At.mk (cast (by kernel_rfl) ht)
theorem call (a0:Pt) (x1x0:Int) (a1x1:Pt) (n1x1 c1x1:Nat) (e1x1:Bool) (h:Zaa) (Q:QT) (ht :
 Zch (h ++ [.cells Zak [.int .u8 x1x0,.slice a1x1 n1x1 c1x1 e1x1] false]) fun A=>Zch (A ++ [.cells Zak [.int .u8 0,.slice none 0 0 true] false]) fun B=>Zdt .u8 (Zae B (.ptr (h.length,0 + 0))) fun C=>Zaj pg Zjf [.int .u8 C] B fun B C=>
 Zdt .i64 B fun B=>bcase (decide ((B:Int) ≥ 0)) (Zbg a0 fun D E=>(0≤(B:Int)∧(B:Int) < (12:Nat))∧(Zdt .u8 (Zae C (.ptr (D,E + (Int.toNat B) * 2 + 0))) fun D=>bcase (!((D:Int) == 0)) (Zbg a0 fun D E=>(0≤(B:Int)∧(B:Int) < (12:Nat))∧(Zcn (Zbj C (.ptr (D,E + (Int.toNat B) * 2)) 2) fun B=>Zai B fun B D=>Zdt .u8 B fun B=>Zai D fun D E=>xSl D fun D F G H=>Zbu E (Zbn (Zaz C (.ptr (A.length,0)) [.int .u8 B,.slice D F G H]) fun B=>Zcn (Zbj B (.ptr (A.length,0)) 2) fun D=>Zai D fun D E=>Zdt .u8 D fun D=>Zai E fun E F=>xSl E fun E G H I=>Zbu F (Q (.agg [.int .u8 D,.slice E G H I]) B)))) (J4 Q h.length 0 a0 A.length 0 C))) (J4 Q h.length 0 a0 A.length 0 C)):Zaj pg Zlv [.ptr a0,.agg [.int .u8 x1x0,.slice a1x1 n1x1 c1x1 e1x1]] h Q:=
 Zaj.of_body kp (c:=cod fn) (fn:=fn) Go.Proofs.Tryz.func108 (by kernel_rfl) (by kernel_rfl) (Nat.le_of_ble_eq_true (by kernel_rfl))
  (cast (by kernel_rfl) ht)
end Zhy
end Go.Sim
