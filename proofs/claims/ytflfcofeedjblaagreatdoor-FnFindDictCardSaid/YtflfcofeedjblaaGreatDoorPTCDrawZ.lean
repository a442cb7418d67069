/- A part of the proof of a statement of this seat: see the text that holds the theorem. No condition. -/
import Derived.Test.YtflfcofeedjblaaGreatDoorNm
set_option linter.unusedVariables false
set_option linter.unusedSimpArgs false
set_option linter.all false
set_option maxRecDepth 100000
set_option maxHeartbeats 0
set_option linter.unusedVariables false
namespace Go.Sim
open Go Go.RowKit
namespace Zdc
noncomputable abbrev fn:Func:=Go.Proofs.Tryz.f120
def kp:Zco:=[(2000002,[0,3,4,5,6]),(3000004,[6,4]),(1000004,[0,3,4,5,6,26,27]),(2000006,[27,26,5,0,6,3,4]),(4000007,[27,26,5,0,6,3,4])]
noncomputable def C (p:List Nat):Code:=(cod fn).sub p
def KR (Q:QT):KT:=Zfd pg fn.results.toList Q
abbrev T4:=Pt→Nat→Nat→Nat→Nat→List Nat→Nat→Nat→Int→Int→Zaa→Prop
def E4 (R4:T4) (env:Env) (h:Zaa):Prop:=Zce 0 env fun v env=>Zgm v fun a0=>Zce 3 env fun v env=>Zgm v fun a=>Zbg a fun i3 o3=>Zce 4 env fun v env=>Zgm v fun a=>Zbg a fun i4 o4=>Zce 5 env fun v env=>Zbc v fun x5=>Zce 6 env fun v env=>Zgm v fun a=>Zbg a fun i6 o6=>Zce 26 env fun v env=>Zew .i64 v fun x26=>Zce 27 env fun v env=>Zew .i64 v fun x27=>Zls env (R4 a0 i3 o3 i4 o4 x5 i6 o6 x26 x27 h)
theorem Zlu {R4:T4} {env:Env} {h:Zaa} (hi:E4 R4 env h):∃ a0,∃ i3,∃ o3,∃ i4,∃ o4,∃ x5,∃ i6,∃ o6,∃ x26,∃ x27,env=[(0,.ptr a0),(3,.ptr (i3,o3)),(4,.ptr (i4,o4)),(5,.str x5),(6,.ptr (i6,o6)),(26,.int .i64 x26),(27,.int .i64 x27)]∧R4 a0 i3 o3 i4 o4 x5 i6 o6 x26 x27 h:=by
 unfold E4 at hi
 have hi0:=hi
 clear hi
 obtain ⟨_,_,rfl,hi1⟩:=Zan hi0
 obtain ⟨a0,rfl,hi2⟩:=Zbv hi1
 obtain ⟨_,_,rfl,hi3⟩:=Zan hi2
 obtain ⟨a,rfl,hi4⟩:=Zbv hi3
 obtain ⟨i3,o3,rfl,hi5⟩:=Zbr hi4
 obtain ⟨_,_,rfl,hi6⟩:=Zan hi5
 obtain ⟨a,rfl,hi7⟩:=Zbv hi6
 obtain ⟨i4,o4,rfl,hi8⟩:=Zbr hi7
 obtain ⟨_,_,rfl,hi9⟩:=Zan hi8
 obtain ⟨x5,rfl,hi10⟩:=Zfc hi9
 obtain ⟨_,_,rfl,hi11⟩:=Zan hi10
 obtain ⟨a,rfl,hi12⟩:=Zbv hi11
 obtain ⟨i6,o6,rfl,hi13⟩:=Zbr hi12
 obtain ⟨_,_,rfl,hi14⟩:=Zan hi13
 obtain ⟨x26,rfl,hi15⟩:=Zay hi14
 obtain ⟨_,_,rfl,hi16⟩:=Zan hi15
 obtain ⟨x27,rfl,hi17⟩:=Zay hi16
 obtain ⟨rfl,hi18⟩:=Zbw hi17
 have hi:=hi18
 exact ⟨a0,i3,o3,i4,o4,x5,i6,o6,x26,x27,rfl,hi⟩
def K0 (Q:QT):KT:=andThen (fun env' h'=>(match kp.find 4000008 with | some ks=>Den pg fn.ntmps (C [1,1,1,1]) (env'.keep ks) h' (KR Q) | none=>den pg fn.ntmps kp (C [1,1,1,1]) env' h' (KR Q))) (KR Q)
def K1 (Q:QT):KT:=Zde 0 (K0 Q)
def K2 (Q:QT):KT:=left kp 4 (K1 Q)
def K3 (Q:QT) (R4:T4):KT:=rnd ((kp.find 1000004).getD []) (E4 R4) (K2 Q)
def L4 (Q:QT) (a0:Pt) (i3 o3 i4 o4:Nat) (x5:List Nat) (i6 o6:Nat) (x26 x27:Int) (h:Zaa):Prop:=Zff (Den pg fn.ntmps (C [1,1,1,0,1,0,0])) ((kp.find 1000004).getD []) (K2 Q) [(0,.ptr a0),(3,.ptr (i3,o3)),(4,.ptr (i4,o4)),(5,.str x5),(6,.ptr (i6,o6)),(26,.int .i64 x26),(27,.int .i64 x27)] h
def J7 (Q:QT) (R4:T4) (x27 x26:Int) (x5:List Nat) (a0:Pt) (i6 o6 i3 o3 i4 o4:Nat) (h:Zaa):Prop:=Den pg fn.ntmps (C [1,1,1,0,1,0,0,1,1,1]) [(27,.int .i64 x27),(26,.int .i64 x26),(5,.str x5),(0,.ptr a0),(6,.ptr (i6,o6)),(3,.ptr (i3,o3)),(4,.ptr (i4,o4))] h (K3 Q R4)
def Ycm (Q:QT) (i6 o6 i4 o4:Nat) (h:Zaa):Prop:=At (K1 Q) (.exit 0) [(6,.ptr (i6,o6)),(4,.ptr (i4,o4))] h
def L4t (Q:QT) (R4:T4) (a0:Pt) (i3 o3 i4 o4:Nat) (x5:List Nat) (i6 o6:Nat) (x26 x27:Int) (h:Zaa):Prop:=
 bcase (decide ((x27:Int) < x26)) (Zaj pg Zgh [.str x5] h fun A B=>
 Zbc A fun A=>bcase (!(decide (A=[]))) (xSl (Zae B (.ptr (i6,o6 + 2))) fun A C D E=>Zcn (Zbj B (.ptr (i3,o3)) 2) fun F=>Zai F fun F G=>xSl F fun F H I J=>Zai G fun G K=>xSl G fun G L M N=>Zbu K (Zaj pg Zgh [.str x5] B fun K O=>
 Zbc K fun K=>(Zbj O (.ptr (i3,o3)) 2=Zbj B (.ptr (i3,o3)) 2)∧(Zae O (.ptr (i6,o6 + 2))=Zae B (.ptr (i6,o6 + 2)))∧Zaj pg Zgu [.ptr a0,.agg [.slice F H I J,.slice G L M N],.str K] O fun F G=>
 Zob F fun F=>Zai F fun F H=>Zbc F fun F=>Zai H fun H I=>Zbc H fun H=>Zbu I ((Zae G (.ptr (i6,o6 + 2))=Zae O (.ptr (i6,o6 + 2)))∧Zch (G ++ [.cells Zab [.str F,.str H] false]) fun F=>(Zbj F (.ptr (i3,o3)) 2=Zbj G (.ptr (i3,o3)) 2)∧(Zae F (.ptr (i6,o6 + 2))=Zae G (.ptr (i6,o6 + 2)))∧Zcf pg Zbm F (.slice A C D E) (.slice (G.length,0) 1 1 true) fun A C=>xSl A fun A D E G=>(Zbj C (.ptr (i3,o3)) 2=Zbj F (.ptr (i3,o3)) 2)∧Zbn (Zaz C (.ptr (i6,o6 + 2)) [.slice A D E G]) fun A=>J7 Q R4 x27 x26 x5 a0 i6 o6 i3 o3 i4 o4 A))) (Zaj pg Zbe [.ptr a0,.int .i64 4] B fun A B=>
 Zdt .i64 A fun A=>bcase ((A:Int) == 0) (xSl (Zae B (.ptr (i6,o6 + 2))) fun A C D E=>Zcn (Zbj B (.ptr (i3,o3)) 2) fun F=>Zai F fun F G=>xSl F fun F H I J=>Zai G fun G K=>xSl G fun G L M N=>Zbu K (Zaj pg Zgh [.str x5] B fun K O=>
 Zbc K fun K=>(Zbj O (.ptr (i3,o3)) 2=Zbj B (.ptr (i3,o3)) 2)∧(Zae O (.ptr (i6,o6 + 2))=Zae B (.ptr (i6,o6 + 2)))∧Zaj pg Zgu [.ptr a0,.agg [.slice F H I J,.slice G L M N],.str K] O fun F G=>
 Zob F fun F=>Zai F fun F H=>Zbc F fun F=>Zai H fun H I=>Zbc H fun H=>Zbu I ((Zae G (.ptr (i6,o6 + 2))=Zae O (.ptr (i6,o6 + 2)))∧Zch (G ++ [.cells Zab [.str F,.str H] false]) fun F=>(Zbj F (.ptr (i3,o3)) 2=Zbj G (.ptr (i3,o3)) 2)∧(Zae F (.ptr (i6,o6 + 2))=Zae G (.ptr (i6,o6 + 2)))∧Zcf pg Zbm F (.slice A C D E) (.slice (G.length,0) 1 1 true) fun A C=>xSl A fun A D E G=>(Zbj C (.ptr (i3,o3)) 2=Zbj F (.ptr (i3,o3)) 2)∧Zbn (Zaz C (.ptr (i6,o6 + 2)) [.slice A D E G]) fun A=>J7 Q R4 x27 x26 x5 a0 i6 o6 i3 o3 i4 o4 A))) (J7 Q R4 x27 x26 x5 a0 i6 o6 i3 o3 i4 o4 B))) (Ycm Q i6 o6 i4 o4 h)
theorem Zxi (Q:QT) (R4:T4) (a0:Pt) (i3 o3 i4 o4:Nat) (x5:List Nat) (i6 o6:Nat) (x26 x27:Int) (h:Zaa) (ht:L4t Q R4 a0 i3 o3 i4 o4 x5 i6 o6 x26 x27 h):Den pg fn.ntmps (C [1,1,1,0,1,0,0]) [(0,.ptr a0),(3,.ptr (i3,o3)),(4,.ptr (i4,o4)),(5,.str x5),(6,.ptr (i6,o6)),(26,.int .i64 x26),(27,.int .i64 x27)] h (K3 Q R4):=
 Zbf (kp:=kp) (cast (by kernel_rfl) ht)
theorem L4ind (Q:QT) (a0:Pt) (i3 o3 i4 o4:Nat) (x5:List Nat) (i6 o6:Nat) (x26:Int) {G:Type} (J:G→Int→Zaa→Prop) (m:G→Nat)
 (hr:∀ (g:G) (x27:Int) (h:Zaa),J g x27 h→∀ (R4:T4),(∀ g' (x27:Int) (h:Zaa),m g' < m g→J g' x27 h→R4 a0 i3 o3 i4 o4 x5 i6 o6 x26 x27 h)→L4t Q R4 a0 i3 o3 i4 o4 x5 i6 o6 x26 x27 h)
 (g:G) (x27:Int) (h:Zaa) (hj:J g x27 h):L4 Q a0 i3 o3 i4 o4 x5 i6 o6 x26 x27 h:=by
 let P:=fun (K:Int→Zaa→Prop) a0' i3' o3' i4' o4' x5' i6' o6' x26' x27 h=>a0=a0'∧i3=i3'∧o3=o3'∧i4=i4'∧o4=o4'∧x5=x5'∧i6=i6'∧o6=o6'∧x26=x26'∧K x27 h
 refine Zff.inv2 (fun g=>E4 (P (J g))) (fun g=>E4 (P fun x27 h=>∃ g',m g' < m g∧J g' x27 h)) m ?_ ?_ g ⟨rfl,rfl,rfl,rfl,rfl,rfl,rfl,rfl,rfl,hj⟩
 ·intro g env h hi
  obtain ⟨a0',i3',o3',i4',o4',x5',i6',o6',x26',x27,rfl,rfl,rfl,rfl,rfl,rfl,rfl,rfl,rfl,rfl,hj⟩:=Zlu hi
  exact Zxi Q _ a0 i3 o3 i4 o4 x5 i6 o6 x26 x27 h (hr g x27 h hj (P fun x27 h=>∃ g',m g' < m g∧J g' x27 h) fun g' x27 h hlt hj=>⟨rfl,rfl,rfl,rfl,rfl,rfl,rfl,rfl,rfl,g',hlt,hj⟩)
 ·intro g env h hi
  obtain ⟨a0',i3',o3',i4',o4',x5',i6',o6',x26',x27,rfl,rfl,rfl,rfl,rfl,rfl,rfl,rfl,rfl,rfl,g',hlt,hj⟩:=Zlu hi
  exact ⟨g',hlt,rfl,rfl,rfl,rfl,rfl,rfl,rfl,rfl,rfl,hj⟩
theorem J7i (Q:QT) (R4:T4) (x27 x26:Int) (x5:List Nat) (a0:Pt) (i6 o6 i3 o3 i4 o4:Nat) (h:Zaa) (ht :
 R4 a0 i3 o3 i4 o4 x5 i6 o6 x26 (IntKind.wrap .i64 (x27 + 1)) h):J7 Q R4 x27 x26 x5 a0 i6 o6 i3 o3 i4 o4 h:=
 Zbf (kp:=kp) (cast (by kernel_rfl) ht)
theorem A4x0i (Q:QT) (i6 o6 i4 o4:Nat) (h:Zaa) (ht :
 Zcn (Zbj h (.ptr (i6,o6)) 3) fun A=>Zai A fun A B=>Zbc A fun A=>Zai B fun B C=>Zbc B fun B=>Zai C fun C D=>xSl C fun C E F G=>Zbu D (Zbn (Zaz h (.ptr (i4,o4)) [.str A,.str B,.slice C E F G]) fun A=>Zcn (Zbj A (.ptr (i4,o4)) 3) fun B=>Zai B fun B C=>Zbc B fun B=>Zai C fun C D=>Zbc C fun C=>Zai D fun D E=>xSl D fun D F G H=>Zbu E (Q (.agg [.str B,.str C,.slice D F G H]) A))):Ycm Q i6 o6 i4 o4 h:=
 At.mk (cast (by kernel_rfl) ht)
theorem call (a0 a1x0:Pt) (n1x0 c1x0:Nat) (e1x0:Bool) (a1x1:Pt) (n1x1 c1x1:Nat) (e1x1:Bool) (h:Zaa) (Q:QT) (ht :
 Zch (h ++ [.cells Zad [.slice a1x0 n1x0 c1x0 e1x0,.slice a1x1 n1x1 c1x1 e1x1] false]) fun A=>Zch (A ++ [.cells Zac [.str [],.str [],.slice none 0 0 true] false]) fun B=>Zch (B ++ [.cells Zbh [.str [105],.str [98],.str ([108,40,120,41]),.str ([112,40,120,44,121,41]),.str ([109,40,120,41]),.str ([108,40,105,41]),.str ([112,40,120,44,120,41]),.str ([112,40,105,44,120,41]),.str ([108,40,108,40,120,41,41]),.str [117],.str ([108,40,120,41])] false]) fun C=>Zaj pg Zcd [.ptr a0,.slice (B.length,0) 11 11 true] C fun B C=>
 Zbc B fun B=>xSl (Zae C (.ptr (h.length,0 + 0))) fun D E F F=>xSl (Zae C (.ptr (h.length,0 + 0))) fun F F G G=>(Zaj pg Zbe [.ptr a0,.int .i64 (((F:Nat):Int))] C fun G H=>
 Zdt .i64 G fun G=>(Zae H (.ptr (h.length,0 + 0))=Zae C (.ptr (h.length,0 + 0)))∧(Zae H (.ptr (h.length,0 + 0))=Zae C (.ptr (h.length,0 + 0)))∧(0≤(G:Int)∧(G:Int) < (E:Nat))∧(Zbg D fun I J=>Zbc (Zae H (.ptr (I,J + (Int.toNat G) * 2 + 0))) fun K=>(Zch (H ++ [.cells Zab [] false]) fun L=>(Zae L (.ptr (I,J + (Int.toNat G) * 2 + 0))=Zae H (.ptr (I,J + (Int.toNat G) * 2 + 0)))∧(Zae L (.ptr (h.length,0 + 0))=Zae H (.ptr (h.length,0 + 0)))∧(Zae L (.ptr (h.length,0 + 0))=Zae H (.ptr (h.length,0 + 0)))∧Zch (L ++ [.cells Zac [.str [],.str [],.slice none 0 0 true] false]) fun M=>(Zae M (.ptr (I,J + (Int.toNat G) * 2 + 0))=Zae L (.ptr (I,J + (Int.toNat G) * 2 + 0)))∧(Zae M (.ptr (h.length,0 + 0))=Zae L (.ptr (h.length,0 + 0)))∧(Zae M (.ptr (h.length,0 + 0))=Zae L (.ptr (h.length,0 + 0)))∧Zbn (Zaz M (.ptr (L.length,0)) [.str K,.str B,.slice (H.length,0) 0 0 true]) fun M=>Zch (M ++ [.cells Zix [.int .i64 1,.int .i64 0,.int .i64 1,.int .i64 2] false]) fun N=>Zaj pg Zep [.ptr a0,.slice (M.length,0) 4 4 true] N fun M N=>
 Zdt .i64 M fun M=>L4 Q a0 h.length 0 A.length 0 B L.length 0 M 0 N)∧(Zch (H ++ [.cells Zac [.str [],.str [],.slice none 0 0 true] false]) fun L=>(Zae L (.ptr (I,J + (Int.toNat G) * 2 + 0))=Zae H (.ptr (I,J + (Int.toNat G) * 2 + 0)))∧(Zae L (.ptr (h.length,0 + 0))=Zae H (.ptr (h.length,0 + 0)))∧(Zae L (.ptr (h.length,0 + 0))=Zae H (.ptr (h.length,0 + 0)))∧Zch (L ++ [.cells Zab [] false]) fun M=>(Zae M (.ptr (I,J + (Int.toNat G) * 2 + 0))=Zae L (.ptr (I,J + (Int.toNat G) * 2 + 0)))∧(Zae M (.ptr (h.length,0 + 0))=Zae L (.ptr (h.length,0 + 0)))∧(Zae M (.ptr (h.length,0 + 0))=Zae L (.ptr (h.length,0 + 0)))∧Zbn (Zaz M (.ptr (H.length,0)) [.str K,.str B,.slice (L.length,0) 0 0 true]) fun G=>Zch (G ++ [.cells Zix [.int .i64 1,.int .i64 0,.int .i64 1,.int .i64 2] false]) fun I=>Zaj pg Zep [.ptr a0,.slice (G.length,0) 4 4 true] I fun G I=>
 Zdt .i64 G fun G=>L4 Q a0 h.length 0 A.length 0 B H.length 0 G 0 I)))∧(Zch (C ++ [.cells Zab [] false]) fun G=>(Zae G (.ptr (h.length,0 + 0))=Zae C (.ptr (h.length,0 + 0)))∧(Zae G (.ptr (h.length,0 + 0))=Zae C (.ptr (h.length,0 + 0)))∧(Zaj pg Zbe [.ptr a0,.int .i64 (((F:Nat):Int))] G fun H I=>
 Zdt .i64 H fun H=>(Zae I (.ptr (h.length,0 + 0))=Zae G (.ptr (h.length,0 + 0)))∧(Zae I (.ptr (h.length,0 + 0))=Zae G (.ptr (h.length,0 + 0)))∧(0≤(H:Int)∧(H:Int) < (E:Nat))∧(Zbg D fun J K=>Zbc (Zae I (.ptr (J,K + (Int.toNat H) * 2 + 0))) fun L=>Zch (I ++ [.cells Zac [.str [],.str [],.slice none 0 0 true] false]) fun M=>(Zae M (.ptr (J,K + (Int.toNat H) * 2 + 0))=Zae I (.ptr (J,K + (Int.toNat H) * 2 + 0)))∧(Zae M (.ptr (h.length,0 + 0))=Zae I (.ptr (h.length,0 + 0)))∧(Zae M (.ptr (h.length,0 + 0))=Zae I (.ptr (h.length,0 + 0)))∧Zbn (Zaz M (.ptr (I.length,0)) [.str L,.str B,.slice (C.length,0) 0 0 true]) fun H=>Zch (H ++ [.cells Zix [.int .i64 1,.int .i64 0,.int .i64 1,.int .i64 2] false]) fun J=>Zaj pg Zep [.ptr a0,.slice (H.length,0) 4 4 true] J fun H J=>
 Zdt .i64 H fun H=>L4 Q a0 h.length 0 A.length 0 B I.length 0 H 0 J))∧(Zch (G ++ [.cells Zac [.str [],.str [],.slice none 0 0 true] false]) fun H=>(Zae H (.ptr (h.length,0 + 0))=Zae G (.ptr (h.length,0 + 0)))∧(Zae H (.ptr (h.length,0 + 0))=Zae G (.ptr (h.length,0 + 0)))∧Zaj pg Zbe [.ptr a0,.int .i64 (((F:Nat):Int))] H fun I J=>
 Zdt .i64 I fun I=>(Zae J (.ptr (h.length,0 + 0))=Zae H (.ptr (h.length,0 + 0)))∧(Zae J (.ptr (h.length,0 + 0))=Zae H (.ptr (h.length,0 + 0)))∧(0≤(I:Int)∧(I:Int) < (E:Nat))∧(Zbg D fun H K=>Zbc (Zae J (.ptr (H,K + (Int.toNat I) * 2 + 0))) fun H=>(Zae J (.ptr (h.length,0 + 0))=Zae J (.ptr (h.length,0 + 0)))∧(Zae J (.ptr (h.length,0 + 0))=Zae J (.ptr (h.length,0 + 0)))∧Zbn (Zaz J (.ptr (G.length,0)) [.str H,.str B,.slice (C.length,0) 0 0 true]) fun H=>Zch (H ++ [.cells Zix [.int .i64 1,.int .i64 0,.int .i64 1,.int .i64 2] false]) fun I=>Zaj pg Zep [.ptr a0,.slice (H.length,0) 4 4 true] I fun H I=>
 Zdt .i64 H fun H=>L4 Q a0 h.length 0 A.length 0 B G.length 0 H 0 I)))∧(Zch (C ++ [.cells Zac [.str [],.str [],.slice none 0 0 true] false]) fun G=>(Zae G (.ptr (h.length,0 + 0))=Zae C (.ptr (h.length,0 + 0)))∧(Zae G (.ptr (h.length,0 + 0))=Zae C (.ptr (h.length,0 + 0)))∧(Zaj pg Zbe [.ptr a0,.int .i64 (((F:Nat):Int))] G fun H I=>
 Zdt .i64 H fun H=>(Zae I (.ptr (h.length,0 + 0))=Zae G (.ptr (h.length,0 + 0)))∧(Zae I (.ptr (h.length,0 + 0))=Zae G (.ptr (h.length,0 + 0)))∧(0≤(H:Int)∧(H:Int) < (E:Nat))∧(Zbg D fun J K=>Zbc (Zae I (.ptr (J,K + (Int.toNat H) * 2 + 0))) fun L=>Zch (I ++ [.cells Zab [] false]) fun M=>(Zae M (.ptr (J,K + (Int.toNat H) * 2 + 0))=Zae I (.ptr (J,K + (Int.toNat H) * 2 + 0)))∧(Zae M (.ptr (h.length,0 + 0))=Zae I (.ptr (h.length,0 + 0)))∧(Zae M (.ptr (h.length,0 + 0))=Zae I (.ptr (h.length,0 + 0)))∧Zbn (Zaz M (.ptr (C.length,0)) [.str L,.str B,.slice (I.length,0) 0 0 true]) fun H=>Zch (H ++ [.cells Zix [.int .i64 1,.int .i64 0,.int .i64 1,.int .i64 2] false]) fun I=>Zaj pg Zep [.ptr a0,.slice (H.length,0) 4 4 true] I fun H I=>
 Zdt .i64 H fun H=>L4 Q a0 h.length 0 A.length 0 B C.length 0 H 0 I))∧(Zch (G ++ [.cells Zab [] false]) fun H=>(Zae H (.ptr (h.length,0 + 0))=Zae G (.ptr (h.length,0 + 0)))∧(Zae H (.ptr (h.length,0 + 0))=Zae G (.ptr (h.length,0 + 0)))∧Zaj pg Zbe [.ptr a0,.int .i64 (((F:Nat):Int))] H fun F I=>
 Zdt .i64 F fun F=>(Zae I (.ptr (h.length,0 + 0))=Zae H (.ptr (h.length,0 + 0)))∧(Zae I (.ptr (h.length,0 + 0))=Zae H (.ptr (h.length,0 + 0)))∧(0≤(F:Int)∧(F:Int) < (E:Nat))∧(Zbg D fun D E=>Zbc (Zae I (.ptr (D,E + (Int.toNat F) * 2 + 0))) fun D=>(Zae I (.ptr (h.length,0 + 0))=Zae I (.ptr (h.length,0 + 0)))∧(Zae I (.ptr (h.length,0 + 0))=Zae I (.ptr (h.length,0 + 0)))∧Zbn (Zaz I (.ptr (C.length,0)) [.str D,.str B,.slice (G.length,0) 0 0 true]) fun D=>Zch (D ++ [.cells Zix [.int .i64 1,.int .i64 0,.int .i64 1,.int .i64 2] false]) fun E=>Zaj pg Zep [.ptr a0,.slice (D.length,0) 4 4 true] E fun D E=>
 Zdt .i64 D fun D=>L4 Q a0 h.length 0 A.length 0 B C.length 0 D 0 E)))):Zaj pg Zie [.ptr a0,.agg [.slice a1x0 n1x0 c1x0 e1x0,.slice a1x1 n1x1 c1x1 e1x1]] h Q:=
 Zaj.of_body kp (c:=cod fn) (fn:=fn) Go.Proofs.Tryz.func120 (by kernel_rfl) (by kernel_rfl) (Nat.le_of_ble_eq_true (by kernel_rfl))
  (cast (by kernel_rfl) ht)
end Zdc
end Go.Sim
