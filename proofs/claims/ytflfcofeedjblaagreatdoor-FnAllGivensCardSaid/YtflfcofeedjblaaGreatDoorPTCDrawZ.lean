/- A part of the proof of a statement of this seat: see the text that holds the theorem. No condition. -/
import Derived.Test.YtflfcofeedjblaaGreatDoorNm
set_option linter.unusedVariables false
set_option linter.unusedSimpArgs false
set_option linter.all false
set_option maxRecDepth 100000
set_option maxHeartbeats 0
set_option linter.unusedVariables false
namespace Go.Sim
open Go Go.RowKit
namespace Zdm
noncomputable abbrev fn:Func:=Go.Proofs.Tryz.f120
def kp:Zch:=[(2000002,[0,3,4,5,6]),(3000004,[6,4]),(1000004,[0,3,4,5,6,26,27]),(2000006,[27,26,5,0,6,3,4]),(4000007,[27,26,5,0,6,3,4])]
noncomputable def C (p:List Nat):Code:=(cod fn).sub p
def KR (Q:QT):KT:=Zfd pg fn.results.toList Q
abbrev T4:=Pt→Nat→Nat→Nat→Nat→List Nat→Nat→Nat→Int→Int→Zaa→Prop
def E4 (R4:T4) (env:Env) (h:Zaa):Prop:=Zbu 0 env fun v env=>Zgn v fun a0=>Zbu 3 env fun v env=>Zgn v fun a=>Zbf a fun i3 o3=>Zbu 4 env fun v env=>Zgn v fun a=>Zbf a fun i4 o4=>Zbu 5 env fun v env=>Zbd v fun x5=>Zbu 6 env fun v env=>Zgn v fun a=>Zbf a fun i6 o6=>Zbu 26 env fun v env=>Zdz .i64 v fun x26=>Zbu 27 env fun v env=>Zdz .i64 v fun x27=>Zil env (R4 a0 i3 o3 i4 o4 x5 i6 o6 x26 x27 h)
theorem Zob {R4:T4} {env:Env} {h:Zaa} (hi:E4 R4 env h):∃ a0,∃ i3,∃ o3,∃ i4,∃ o4,∃ x5,∃ i6,∃ o6,∃ x26,∃ x27,env=[(0,.ptr a0),(3,.ptr (i3,o3)),(4,.ptr (i4,o4)),(5,.str x5),(6,.ptr (i6,o6)),(26,.int .i64 x26),(27,.int .i64 x27)]∧R4 a0 i3 o3 i4 o4 x5 i6 o6 x26 x27 h:=by
 unfold E4 at hi
 have hi0:=hi
 clear hi
 obtain ⟨_,_,rfl,hi1⟩:=Zaf hi0
 obtain ⟨a0,rfl,hi2⟩:=Zbn hi1
 obtain ⟨_,_,rfl,hi3⟩:=Zaf hi2
 obtain ⟨a,rfl,hi4⟩:=Zbn hi3
 obtain ⟨i3,o3,rfl,hi5⟩:=Zbk hi4
 obtain ⟨_,_,rfl,hi6⟩:=Zaf hi5
 obtain ⟨a,rfl,hi7⟩:=Zbn hi6
 obtain ⟨i4,o4,rfl,hi8⟩:=Zbk hi7
 obtain ⟨_,_,rfl,hi9⟩:=Zaf hi8
 obtain ⟨x5,rfl,hi10⟩:=Zed hi9
 obtain ⟨_,_,rfl,hi11⟩:=Zaf hi10
 obtain ⟨a,rfl,hi12⟩:=Zbn hi11
 obtain ⟨i6,o6,rfl,hi13⟩:=Zbk hi12
 obtain ⟨_,_,rfl,hi14⟩:=Zaf hi13
 obtain ⟨x26,rfl,hi15⟩:=Zav hi14
 obtain ⟨_,_,rfl,hi16⟩:=Zaf hi15
 obtain ⟨x27,rfl,hi17⟩:=Zav hi16
 obtain ⟨rfl,hi18⟩:=Zbl hi17
 have hi:=hi18
 exact ⟨a0,i3,o3,i4,o4,x5,i6,o6,x26,x27,rfl,hi⟩
def K0 (Q:QT):KT:=andThen (fun env' h'=>(match kp.find 4000008 with | some ks=>Den pg fn.ntmps (C [1,1,1,1]) (env'.keep ks) h' (KR Q) | none=>den pg fn.ntmps kp (C [1,1,1,1]) env' h' (KR Q))) (KR Q)
def K1 (Q:QT):KT:=Zcj 0 (K0 Q)
def K2 (Q:QT):KT:=left kp 4 (K1 Q)
def K3 (Q:QT) (R4:T4):KT:=rnd ((kp.find 1000004).getD []) (E4 R4) (K2 Q)
def L4 (Q:QT) (a0:Pt) (i3 o3 i4 o4:Nat) (x5:List Nat) (i6 o6:Nat) (x26 x27:Int) (h:Zaa):Prop:=Zej (Den pg fn.ntmps (C [1,1,1,0,1,0,0])) ((kp.find 1000004).getD []) (K2 Q) [(0,.ptr a0),(3,.ptr (i3,o3)),(4,.ptr (i4,o4)),(5,.str x5),(6,.ptr (i6,o6)),(26,.int .i64 x26),(27,.int .i64 x27)] h
def J7 (Q:QT) (R4:T4) (x27 x26:Int) (x5:List Nat) (a0:Pt) (i6 o6 i3 o3 i4 o4:Nat) (h:Zaa):Prop:=Den pg fn.ntmps (C [1,1,1,0,1,0,0,1,1,1]) [(27,.int .i64 x27),(26,.int .i64 x26),(5,.str x5),(0,.ptr a0),(6,.ptr (i6,o6)),(3,.ptr (i3,o3)),(4,.ptr (i4,o4))] h (K3 Q R4)
def Yiq (Q:QT) (i6 o6 i4 o4:Nat) (h:Zaa):Prop:=At (K1 Q) (.exit 0) [(6,.ptr (i6,o6)),(4,.ptr (i4,o4))] h
def L4t (Q:QT) (R4:T4) (a0:Pt) (i3 o3 i4 o4:Nat) (x5:List Nat) (i6 o6:Nat) (x26 x27:Int) (h:Zaa):Prop:=
 bcase (decide ((x27:Int) < x26)) (Zak pg Zho [.str x5] h fun A B=>
 Zbd A fun A=>bcase (!(decide (A=[]))) (xSl (Zag B (.ptr (i6,o6 + 2))) fun A C D E=>Zcd (Zbe B (.ptr (i3,o3)) 2) fun F=>Zai F fun F G=>xSl F fun F H I J=>Zai G fun G K=>xSl G fun G L M N=>Zbq K (Zak pg Zho [.str x5] B fun K O=>
 Zbd K fun K=>(Zbe O (.ptr (i3,o3)) 2=Zbe B (.ptr (i3,o3)) 2)∧(Zag O (.ptr (i6,o6 + 2))=Zag B (.ptr (i6,o6 + 2)))∧Zak pg Zii [.ptr a0,.agg [.slice F H I J,.slice G L M N],.str K] O fun F G=>
 Zqi F fun F=>Zai F fun F H=>Zbd F fun F=>Zai H fun H I=>Zbd H fun H=>Zbq I ((Zag G (.ptr (i6,o6 + 2))=Zag O (.ptr (i6,o6 + 2)))∧Zcf (G ++ [.cells Zab [.str F,.str H] false]) fun F=>(Zbe F (.ptr (i3,o3)) 2=Zbe G (.ptr (i3,o3)) 2)∧(Zag F (.ptr (i6,o6 + 2))=Zag G (.ptr (i6,o6 + 2)))∧Zci pg Zbo F (.slice A C D E) (.slice (G.length,0) 1 1 true) fun A C=>xSl A fun A D E G=>(Zbe C (.ptr (i3,o3)) 2=Zbe F (.ptr (i3,o3)) 2)∧Zbt (Zbb C (.ptr (i6,o6 + 2)) [.slice A D E G]) fun A=>J7 Q R4 x27 x26 x5 a0 i6 o6 i3 o3 i4 o4 A))) (Zak pg Zbh [.ptr a0,.int .i64 4] B fun A B=>
 Zec .i64 A fun A=>bcase ((A:Int) == 0) (xSl (Zag B (.ptr (i6,o6 + 2))) fun A C D E=>Zcd (Zbe B (.ptr (i3,o3)) 2) fun F=>Zai F fun F G=>xSl F fun F H I J=>Zai G fun G K=>xSl G fun G L M N=>Zbq K (Zak pg Zho [.str x5] B fun K O=>
 Zbd K fun K=>(Zbe O (.ptr (i3,o3)) 2=Zbe B (.ptr (i3,o3)) 2)∧(Zag O (.ptr (i6,o6 + 2))=Zag B (.ptr (i6,o6 + 2)))∧Zak pg Zii [.ptr a0,.agg [.slice F H I J,.slice G L M N],.str K] O fun F G=>
 Zqi F fun F=>Zai F fun F H=>Zbd F fun F=>Zai H fun H I=>Zbd H fun H=>Zbq I ((Zag G (.ptr (i6,o6 + 2))=Zag O (.ptr (i6,o6 + 2)))∧Zcf (G ++ [.cells Zab [.str F,.str H] false]) fun F=>(Zbe F (.ptr (i3,o3)) 2=Zbe G (.ptr (i3,o3)) 2)∧(Zag F (.ptr (i6,o6 + 2))=Zag G (.ptr (i6,o6 + 2)))∧Zci pg Zbo F (.slice A C D E) (.slice (G.length,0) 1 1 true) fun A C=>xSl A fun A D E G=>(Zbe C (.ptr (i3,o3)) 2=Zbe F (.ptr (i3,o3)) 2)∧Zbt (Zbb C (.ptr (i6,o6 + 2)) [.slice A D E G]) fun A=>J7 Q R4 x27 x26 x5 a0 i6 o6 i3 o3 i4 o4 A))) (J7 Q R4 x27 x26 x5 a0 i6 o6 i3 o3 i4 o4 B))) (Yiq Q i6 o6 i4 o4 h)
theorem Ybp (Q:QT) (R4:T4) (a0:Pt) (i3 o3 i4 o4:Nat) (x5:List Nat) (i6 o6:Nat) (x26 x27:Int) (h:Zaa) (ht:L4t Q R4 a0 i3 o3 i4 o4 x5 i6 o6 x26 x27 h):Den pg fn.ntmps (C [1,1,1,0,1,0,0]) [(0,.ptr a0),(3,.ptr (i3,o3)),(4,.ptr (i4,o4)),(5,.str x5),(6,.ptr (i6,o6)),(26,.int .i64 x26),(27,.int .i64 x27)] h (K3 Q R4):=
 Zba (kp:=kp) (cast (by kernel_rfl) ht)
theorem L4ind (Q:QT) (a0:Pt) (i3 o3 i4 o4:Nat) (x5:List Nat) (i6 o6:Nat) (x26:Int) {G:Type} (J:G→Int→Zaa→Prop) (m:G→Nat)
 (hr:∀ (g:G) (x27:Int) (h:Zaa),J g x27 h→∀ (R4:T4),(∀ g' (x27:Int) (h:Zaa),m g' < m g→J g' x27 h→R4 a0 i3 o3 i4 o4 x5 i6 o6 x26 x27 h)→L4t Q R4 a0 i3 o3 i4 o4 x5 i6 o6 x26 x27 h)
 (g:G) (x27:Int) (h:Zaa) (hj:J g x27 h):L4 Q a0 i3 o3 i4 o4 x5 i6 o6 x26 x27 h:=by
 let P:=fun (K:Int→Zaa→Prop) a0' i3' o3' i4' o4' x5' i6' o6' x26' x27 h=>a0=a0'∧i3=i3'∧o3=o3'∧i4=i4'∧o4=o4'∧x5=x5'∧i6=i6'∧o6=o6'∧x26=x26'∧K x27 h
 refine Zej.inv2 (fun g=>E4 (P (J g))) (fun g=>E4 (P fun x27 h=>∃ g',m g' < m g∧J g' x27 h)) m ?_ ?_ g ⟨rfl,rfl,rfl,rfl,rfl,rfl,rfl,rfl,rfl,hj⟩
 ·intro g env h hi
  obtain ⟨a0',i3',o3',i4',o4',x5',i6',o6',x26',x27,rfl,rfl,rfl,rfl,rfl,rfl,rfl,rfl,rfl,rfl,hj⟩:=Zob hi
  exact Ybp Q _ a0 i3 o3 i4 o4 x5 i6 o6 x26 x27 h (hr g x27 h hj (P fun x27 h=>∃ g',m g' < m g∧J g' x27 h) fun g' x27 h hlt hj=>⟨rfl,rfl,rfl,rfl,rfl,rfl,rfl,rfl,rfl,g',hlt,hj⟩)
 ·intro g env h hi
  obtain ⟨a0',i3',o3',i4',o4',x5',i6',o6',x26',x27,rfl,rfl,rfl,rfl,rfl,rfl,rfl,rfl,rfl,rfl,g',hlt,hj⟩:=Zob hi
  exact ⟨g',hlt,rfl,rfl,rfl,rfl,rfl,rfl,rfl,rfl,rfl,hj⟩
theorem J7i (Q:QT) (R4:T4) (x27 x26:Int) (x5:List Nat) (a0:Pt) (i6 o6 i3 o3 i4 o4:Nat) (h:Zaa) (ht :
 R4 a0 i3 o3 i4 o4 x5 i6 o6 x26 (IntKind.wrap .i64 (x27 + 1)) h):J7 Q R4 x27 x26 x5 a0 i6 o6 i3 o3 i4 o4 h:=
 Zba (kp:=kp) (cast (by kernel_rfl) ht)
theorem A4x0i (Q:QT) (i6 o6 i4 o4:Nat) (h:Zaa) (ht :
 Zcd (Zbe h (.ptr (i6,o6)) 3) fun A=>Zai A fun A B=>Zbd A fun A=>Zai B fun B C=>Zbd B fun B=>Zai C fun C D=>xSl C fun C E F G=>Zbq D (Zbt (Zbb h (.ptr (i4,o4)) [.str A,.str B,.slice C E F G]) fun A=>Zcd (Zbe A (.ptr (i4,o4)) 3) fun B=>Zai B fun B C=>Zbd B fun B=>Zai C fun C D=>Zbd C fun C=>Zai D fun D E=>xSl D fun D F G H=>Zbq E (Q (.agg [.str B,.str C,.slice D F G H]) A))):Yiq Q i6 o6 i4 o4 h:=
 At.mk (cast (by kernel_rfl) ht)
theorem call (a0 a1x0:Pt) (n1x0 c1x0:Nat) (e1x0:Bool) (a1x1:Pt) (n1x1 c1x1:Nat) (e1x1:Bool) (h:Zaa) (Q:QT) (ht :
 Zcf (h ++ [.cells Zac [.slice a1x0 n1x0 c1x0 e1x0,.slice a1x1 n1x1 c1x1 e1x1] false]) fun A=>Zcf (A ++ [.cells Zad [.str [],.str [],.slice none 0 0 true] false]) fun B=>Zcf (B ++ [.cells Zbi [.str [105],.str [98],.str ([108,40,120,41]),.str ([112,40,120,44,121,41]),.str ([109,40,120,41]),.str ([108,40,105,41]),.str ([112,40,120,44,120,41]),.str ([112,40,105,44,120,41]),.str ([108,40,108,40,120,41,41]),.str [117],.str ([108,40,120,41])] false]) fun C=>Zak pg Zck [.ptr a0,.slice (B.length,0) 11 11 true] C fun B C=>
 Zbd B fun B=>xSl (Zag C (.ptr (h.length,0 + 0))) fun D E F F=>xSl (Zag C (.ptr (h.length,0 + 0))) fun F F G G=>(Zak pg Zbh [.ptr a0,.int .i64 (((F:Nat):Int))] C fun G H=>
 Zec .i64 G fun G=>(Zag H (.ptr (h.length,0 + 0))=Zag C (.ptr (h.length,0 + 0)))∧(Zag H (.ptr (h.length,0 + 0))=Zag C (.ptr (h.length,0 + 0)))∧(0≤(G:Int)∧(G:Int) < (E:Nat))∧(Zbf D fun I J=>Zbd (Zag H (.ptr (I,J + (Int.toNat G) * 2 + 0))) fun K=>(Zcf (H ++ [.cells Zab [] false]) fun L=>(Zag L (.ptr (I,J + (Int.toNat G) * 2 + 0))=Zag H (.ptr (I,J + (Int.toNat G) * 2 + 0)))∧(Zag L (.ptr (h.length,0 + 0))=Zag H (.ptr (h.length,0 + 0)))∧(Zag L (.ptr (h.length,0 + 0))=Zag H (.ptr (h.length,0 + 0)))∧Zcf (L ++ [.cells Zad [.str [],.str [],.slice none 0 0 true] false]) fun M=>(Zag M (.ptr (I,J + (Int.toNat G) * 2 + 0))=Zag L (.ptr (I,J + (Int.toNat G) * 2 + 0)))∧(Zag M (.ptr (h.length,0 + 0))=Zag L (.ptr (h.length,0 + 0)))∧(Zag M (.ptr (h.length,0 + 0))=Zag L (.ptr (h.length,0 + 0)))∧Zbt (Zbb M (.ptr (L.length,0)) [.str K,.str B,.slice (H.length,0) 0 0 true]) fun M=>Zcf (M ++ [.cells Zkz [.int .i64 1,.int .i64 0,.int .i64 1,.int .i64 2] false]) fun N=>Zak pg Zfm [.ptr a0,.slice (M.length,0) 4 4 true] N fun M N=>
 Zec .i64 M fun M=>L4 Q a0 h.length 0 A.length 0 B L.length 0 M 0 N)∧(Zcf (H ++ [.cells Zad [.str [],.str [],.slice none 0 0 true] false]) fun L=>(Zag L (.ptr (I,J + (Int.toNat G) * 2 + 0))=Zag H (.ptr (I,J + (Int.toNat G) * 2 + 0)))∧(Zag L (.ptr (h.length,0 + 0))=Zag H (.ptr (h.length,0 + 0)))∧(Zag L (.ptr (h.length,0 + 0))=Zag H (.ptr (h.length,0 + 0)))∧Zcf (L ++ [.cells Zab [] false]) fun M=>(Zag M (.ptr (I,J + (Int.toNat G) * 2 + 0))=Zag L (.ptr (I,J + (Int.toNat G) * 2 + 0)))∧(Zag M (.ptr (h.length,0 + 0))=Zag L (.ptr (h.length,0 + 0)))∧(Zag M (.ptr (h.length,0 + 0))=Zag L (.ptr (h.length,0 + 0)))∧Zbt (Zbb M (.ptr (H.length,0)) [.str K,.str B,.slice (L.length,0) 0 0 true]) fun G=>Zcf (G ++ [.cells Zkz [.int .i64 1,.int .i64 0,.int .i64 1,.int .i64 2] false]) fun I=>Zak pg Zfm [.ptr a0,.slice (G.length,0) 4 4 true] I fun G I=>
 Zec .i64 G fun G=>L4 Q a0 h.length 0 A.length 0 B H.length 0 G 0 I)))∧(Zcf (C ++ [.cells Zab [] false]) fun G=>(Zag G (.ptr (h.length,0 + 0))=Zag C (.ptr (h.length,0 + 0)))∧(Zag G (.ptr (h.length,0 + 0))=Zag C (.ptr (h.length,0 + 0)))∧(Zak pg Zbh [.ptr a0,.int .i64 (((F:Nat):Int))] G fun H I=>
 Zec .i64 H fun H=>(Zag I (.ptr (h.length,0 + 0))=Zag G (.ptr (h.length,0 + 0)))∧(Zag I (.ptr (h.length,0 + 0))=Zag G (.ptr (h.length,0 + 0)))∧(0≤(H:Int)∧(H:Int) < (E:Nat))∧(Zbf D fun J K=>Zbd (Zag I (.ptr (J,K + (Int.toNat H) * 2 + 0))) fun L=>Zcf (I ++ [.cells Zad [.str [],.str [],.slice none 0 0 true] false]) fun M=>(Zag M (.ptr (J,K + (Int.toNat H) * 2 + 0))=Zag I (.ptr (J,K + (Int.toNat H) * 2 + 0)))∧(Zag M (.ptr (h.length,0 + 0))=Zag I (.ptr (h.length,0 + 0)))∧(Zag M (.ptr (h.length,0 + 0))=Zag I (.ptr (h.length,0 + 0)))∧Zbt (Zbb M (.ptr (I.length,0)) [.str L,.str B,.slice (C.length,0) 0 0 true]) fun H=>Zcf (H ++ [.cells Zkz [.int .i64 1,.int .i64 0,.int .i64 1,.int .i64 2] false]) fun J=>Zak pg Zfm [.ptr a0,.slice (H.length,0) 4 4 true] J fun H J=>
 Zec .i64 H fun H=>L4 Q a0 h.length 0 A.length 0 B I.length 0 H 0 J))∧(Zcf (G ++ [.cells Zad [.str [],.str [],.slice none 0 0 true] false]) fun H=>(Zag H (.ptr (h.length,0 + 0))=Zag G (.ptr (h.length,0 + 0)))∧(Zag H (.ptr (h.length,0 + 0))=Zag G (.ptr (h.length,0 + 0)))∧Zak pg Zbh [.ptr a0,.int .i64 (((F:Nat):Int))] H fun I J=>
 Zec .i64 I fun I=>(Zag J (.ptr (h.length,0 + 0))=Zag H (.ptr (h.length,0 + 0)))∧(Zag J (.ptr (h.length,0 + 0))=Zag H (.ptr (h.length,0 + 0)))∧(0≤(I:Int)∧(I:Int) < (E:Nat))∧(Zbf D fun H K=>Zbd (Zag J (.ptr (H,K + (Int.toNat I) * 2 + 0))) fun H=>(Zag J (.ptr (h.length,0 + 0))=Zag J (.ptr (h.length,0 + 0)))∧(Zag J (.ptr (h.length,0 + 0))=Zag J (.ptr (h.length,0 + 0)))∧Zbt (Zbb J (.ptr (G.length,0)) [.str H,.str B,.slice (C.length,0) 0 0 true]) fun H=>Zcf (H ++ [.cells Zkz [.int .i64 1,.int .i64 0,.int .i64 1,.int .i64 2] false]) fun I=>Zak pg Zfm [.ptr a0,.slice (H.length,0) 4 4 true] I fun H I=>
 Zec .i64 H fun H=>L4 Q a0 h.length 0 A.length 0 B G.length 0 H 0 I)))∧(Zcf (C ++ [.cells Zad [.str [],.str [],.slice none 0 0 true] false]) fun G=>(Zag G (.ptr (h.length,0 + 0))=Zag C (.ptr (h.length,0 + 0)))∧(Zag G (.ptr (h.length,0 + 0))=Zag C (.ptr (h.length,0 + 0)))∧(Zak pg Zbh [.ptr a0,.int .i64 (((F:Nat):Int))] G fun H I=>
 Zec .i64 H fun H=>(Zag I (.ptr (h.length,0 + 0))=Zag G (.ptr (h.length,0 + 0)))∧(Zag I (.ptr (h.length,0 + 0))=Zag G (.ptr (h.length,0 + 0)))∧(0≤(H:Int)∧(H:Int) < (E:Nat))∧(Zbf D fun J K=>Zbd (Zag I (.ptr (J,K + (Int.toNat H) * 2 + 0))) fun L=>Zcf (I ++ [.cells Zab [] false]) fun M=>(Zag M (.ptr (J,K + (Int.toNat H) * 2 + 0))=Zag I (.ptr (J,K + (Int.toNat H) * 2 + 0)))∧(Zag M (.ptr (h.length,0 + 0))=Zag I (.ptr (h.length,0 + 0)))∧(Zag M (.ptr (h.length,0 + 0))=Zag I (.ptr (h.length,0 + 0)))∧Zbt (Zbb M (.ptr (C.length,0)) [.str L,.str B,.slice (I.length,0) 0 0 true]) fun H=>Zcf (H ++ [.cells Zkz [.int .i64 1,.int .i64 0,.int .i64 1,.int .i64 2] false]) fun I=>Zak pg Zfm [.ptr a0,.slice (H.length,0) 4 4 true] I fun H I=>
 Zec .i64 H fun H=>L4 Q a0 h.length 0 A.length 0 B C.length 0 H 0 I))∧(Zcf (G ++ [.cells Zab [] false]) fun H=>(Zag H (.ptr (h.length,0 + 0))=Zag G (.ptr (h.length,0 + 0)))∧(Zag H (.ptr (h.length,0 + 0))=Zag G (.ptr (h.length,0 + 0)))∧Zak pg Zbh [.ptr a0,.int .i64 (((F:Nat):Int))] H fun F I=>
 Zec .i64 F fun F=>(Zag I (.ptr (h.length,0 + 0))=Zag H (.ptr (h.length,0 + 0)))∧(Zag I (.ptr (h.length,0 + 0))=Zag H (.ptr (h.length,0 + 0)))∧(0≤(F:Int)∧(F:Int) < (E:Nat))∧(Zbf D fun D E=>Zbd (Zag I (.ptr (D,E + (Int.toNat F) * 2 + 0))) fun D=>(Zag I (.ptr (h.length,0 + 0))=Zag I (.ptr (h.length,0 + 0)))∧(Zag I (.ptr (h.length,0 + 0))=Zag I (.ptr (h.length,0 + 0)))∧Zbt (Zbb I (.ptr (C.length,0)) [.str D,.str B,.slice (G.length,0) 0 0 true]) fun D=>Zcf (D ++ [.cells Zkz [.int .i64 1,.int .i64 0,.int .i64 1,.int .i64 2] false]) fun E=>Zak pg Zfm [.ptr a0,.slice (D.length,0) 4 4 true] E fun D E=>
 Zec .i64 D fun D=>L4 Q a0 h.length 0 A.length 0 B C.length 0 D 0 E)))):Zak pg Zju [.ptr a0,.agg [.slice a1x0 n1x0 c1x0 e1x0,.slice a1x1 n1x1 c1x1 e1x1]] h Q:=
 Zak.of_body kp (c:=cod fn) (fn:=fn) Go.Proofs.Tryz.func120 (by kernel_rfl) (by kernel_rfl) (Nat.le_of_ble_eq_true (by kernel_rfl))
  (cast (by kernel_rfl) ht)
end Zdm
end Go.Sim
