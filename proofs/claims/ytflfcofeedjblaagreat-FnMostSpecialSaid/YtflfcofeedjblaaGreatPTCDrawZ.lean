/- A part of the proof of a statement of this seat: see the text that holds the theorem. No condition. -/
import Derived.Test.YtflfcofeedjblaaGreatNm
set_option linter.unusedVariables false
set_option linter.unusedSimpArgs false
set_option linter.all false
set_option maxRecDepth 100000
set_option maxHeartbeats 0
set_option linter.unusedVariables false
namespace Go.Sim
open Go Go.RowKit
namespace Zdb
noncomputable abbrev fn:Func:=Go.Proofs.Tryz.f95
def kp:Zcj:=[(2000002,[0,3,4,5,6]),(3000004,[6,4]),(1000004,[0,3,4,5,6,26,27]),(2000006,[27,26,5,0,6,3,4]),(4000007,[27,26,5,0,6,3,4])]
noncomputable def C (p:List Nat):Code:=(cod fn).sub p
def KR (Q:QT):KT:=Zfb pg fn.results.toList Q
abbrev T4:=Pt→Nat→Nat→Nat→Nat→List Nat→Nat→Nat→Int→Int→Zaa→Prop
def E4 (R4:T4) (env:Env) (h:Zaa):Prop:=Zbw 0 env fun v env=>Zhh v fun a0=>Zbw 3 env fun v env=>Zhh v fun a=>Zbm a fun i3 o3=>Zbw 4 env fun v env=>Zhh v fun a=>Zbm a fun i4 o4=>Zbw 5 env fun v env=>Zbg v fun x5=>Zbw 6 env fun v env=>Zhh v fun a=>Zbm a fun i6 o6=>Zbw 26 env fun v env=>Zee .i64 v fun x26=>Zbw 27 env fun v env=>Zee .i64 v fun x27=>Zkh env (R4 a0 i3 o3 i4 o4 x5 i6 o6 x26 x27 h)
theorem Zly {R4:T4} {env:Env} {h:Zaa} (hi:E4 R4 env h):∃ a0,∃ i3,∃ o3,∃ i4,∃ o4,∃ x5,∃ i6,∃ o6,∃ x26,∃ x27,env=[(0,.ptr a0),(3,.ptr (i3,o3)),(4,.ptr (i4,o4)),(5,.str x5),(6,.ptr (i6,o6)),(26,.int .i64 x26),(27,.int .i64 x27)]∧R4 a0 i3 o3 i4 o4 x5 i6 o6 x26 x27 h:=by
 unfold E4 at hi
 have hi0:=hi
 clear hi
 obtain ⟨_,_,rfl,hi1⟩:=Zak hi0
 obtain ⟨a0,rfl,hi2⟩:=Zbt hi1
 obtain ⟨_,_,rfl,hi3⟩:=Zak hi2
 obtain ⟨a,rfl,hi4⟩:=Zbt hi3
 obtain ⟨i3,o3,rfl,hi5⟩:=Zbn hi4
 obtain ⟨_,_,rfl,hi6⟩:=Zak hi5
 obtain ⟨a,rfl,hi7⟩:=Zbt hi6
 obtain ⟨i4,o4,rfl,hi8⟩:=Zbn hi7
 obtain ⟨_,_,rfl,hi9⟩:=Zak hi8
 obtain ⟨x5,rfl,hi10⟩:=Zfe hi9
 obtain ⟨_,_,rfl,hi11⟩:=Zak hi10
 obtain ⟨a,rfl,hi12⟩:=Zbt hi11
 obtain ⟨i6,o6,rfl,hi13⟩:=Zbn hi12
 obtain ⟨_,_,rfl,hi14⟩:=Zak hi13
 obtain ⟨x26,rfl,hi15⟩:=Zax hi14
 obtain ⟨_,_,rfl,hi16⟩:=Zak hi15
 obtain ⟨x27,rfl,hi17⟩:=Zax hi16
 obtain ⟨rfl,hi18⟩:=Zbp hi17
 have hi:=hi18
 exact ⟨a0,i3,o3,i4,o4,x5,i6,o6,x26,x27,rfl,hi⟩
def K0 (Q:QT):KT:=andThen (fun env' h'=>(match kp.find 4000008 with | some ks=>Den pg fn.ntmps (C [1,1,1,1]) (env'.keep ks) h' (KR Q) | none=>den pg fn.ntmps kp (C [1,1,1,1]) env' h' (KR Q))) (KR Q)
def K1 (Q:QT):KT:=Zcs 0 (K0 Q)
def K2 (Q:QT):KT:=left kp 4 (K1 Q)
def K3 (Q:QT) (R4:T4):KT:=rnd ((kp.find 1000004).getD []) (E4 R4) (K2 Q)
def L4 (Q:QT) (a0:Pt) (i3 o3 i4 o4:Nat) (x5:List Nat) (i6 o6:Nat) (x26 x27:Int) (h:Zaa):Prop:=Zet (Den pg fn.ntmps (C [1,1,1,0,1,0,0])) ((kp.find 1000004).getD []) (K2 Q) [(0,.ptr a0),(3,.ptr (i3,o3)),(4,.ptr (i4,o4)),(5,.str x5),(6,.ptr (i6,o6)),(26,.int .i64 x26),(27,.int .i64 x27)] h
def J7 (Q:QT) (R4:T4) (x27 x26:Int) (x5:List Nat) (a0:Pt) (i6 o6 i3 o3 i4 o4:Nat) (h:Zaa):Prop:=Den pg fn.ntmps (C [1,1,1,0,1,0,0,1,1,1]) [(27,.int .i64 x27),(26,.int .i64 x26),(5,.str x5),(0,.ptr a0),(6,.ptr (i6,o6)),(3,.ptr (i3,o3)),(4,.ptr (i4,o4))] h (K3 Q R4)
def Ydv (Q:QT) (i6 o6 i4 o4:Nat) (h:Zaa):Prop:=At (K1 Q) (.exit 0) [(6,.ptr (i6,o6)),(4,.ptr (i4,o4))] h
def L4t (Q:QT) (R4:T4) (a0:Pt) (i3 o3 i4 o4:Nat) (x5:List Nat) (i6 o6:Nat) (x26 x27:Int) (h:Zaa):Prop:=
 bcase (decide ((x27:Int) < x26)) (Zah pg Zgc [.str x5] h fun A B=>
 Zbg A fun A=>bcase (!(decide (A=[]))) (xSl (Zag B (.ptr (i6,o6 + 2))) fun A C D E=>Zco (Zbj B (.ptr (i3,o3)) 2) fun F=>Zaj F fun F G=>xSl F fun F H I J=>Zaj G fun G K=>xSl G fun G L M N=>Zbv K (Zah pg Zgc [.str x5] B fun K O=>
 Zbg K fun K=>(Zbj O (.ptr (i3,o3)) 2=Zbj B (.ptr (i3,o3)) 2)∧(Zag O (.ptr (i6,o6 + 2))=Zag B (.ptr (i6,o6 + 2)))∧Zah pg Zgk [.ptr a0,.agg [.slice F H I J,.slice G L M N],.str K] O fun F G=>
 Znt F fun F=>Zaj F fun F H=>Zbg F fun F=>Zaj H fun H I=>Zbg H fun H=>Zbv I ((Zag G (.ptr (i6,o6 + 2))=Zag O (.ptr (i6,o6 + 2)))∧Zck (G ++ [.cells Zad [.str F,.str H] false]) fun F=>(Zbj F (.ptr (i3,o3)) 2=Zbj G (.ptr (i3,o3)) 2)∧(Zag F (.ptr (i6,o6 + 2))=Zag G (.ptr (i6,o6 + 2)))∧Zcz pg Zfu F (.slice A C D E) (.slice (G.length,0) 1 1 true) fun A C=>xSl A fun A D E G=>(Zbj C (.ptr (i3,o3)) 2=Zbj F (.ptr (i3,o3)) 2)∧Zbu (Zbb C (.ptr (i6,o6 + 2)) [.slice A D E G]) fun A=>J7 Q R4 x27 x26 x5 a0 i6 o6 i3 o3 i4 o4 A))) (Zah pg Zaz [.ptr a0,.int .i64 4] B fun A B=>
 Zdo .i64 A fun A=>bcase ((A:Int) == 0) (xSl (Zag B (.ptr (i6,o6 + 2))) fun A C D E=>Zco (Zbj B (.ptr (i3,o3)) 2) fun F=>Zaj F fun F G=>xSl F fun F H I J=>Zaj G fun G K=>xSl G fun G L M N=>Zbv K (Zah pg Zgc [.str x5] B fun K O=>
 Zbg K fun K=>(Zbj O (.ptr (i3,o3)) 2=Zbj B (.ptr (i3,o3)) 2)∧(Zag O (.ptr (i6,o6 + 2))=Zag B (.ptr (i6,o6 + 2)))∧Zah pg Zgk [.ptr a0,.agg [.slice F H I J,.slice G L M N],.str K] O fun F G=>
 Znt F fun F=>Zaj F fun F H=>Zbg F fun F=>Zaj H fun H I=>Zbg H fun H=>Zbv I ((Zag G (.ptr (i6,o6 + 2))=Zag O (.ptr (i6,o6 + 2)))∧Zck (G ++ [.cells Zad [.str F,.str H] false]) fun F=>(Zbj F (.ptr (i3,o3)) 2=Zbj G (.ptr (i3,o3)) 2)∧(Zag F (.ptr (i6,o6 + 2))=Zag G (.ptr (i6,o6 + 2)))∧Zcz pg Zfu F (.slice A C D E) (.slice (G.length,0) 1 1 true) fun A C=>xSl A fun A D E G=>(Zbj C (.ptr (i3,o3)) 2=Zbj F (.ptr (i3,o3)) 2)∧Zbu (Zbb C (.ptr (i6,o6 + 2)) [.slice A D E G]) fun A=>J7 Q R4 x27 x26 x5 a0 i6 o6 i3 o3 i4 o4 A))) (J7 Q R4 x27 x26 x5 a0 i6 o6 i3 o3 i4 o4 B))) (Ydv Q i6 o6 i4 o4 h)
theorem Zys (Q:QT) (R4:T4) (a0:Pt) (i3 o3 i4 o4:Nat) (x5:List Nat) (i6 o6:Nat) (x26 x27:Int) (h:Zaa) (ht:L4t Q R4 a0 i3 o3 i4 o4 x5 i6 o6 x26 x27 h):Den pg fn.ntmps (C [1,1,1,0,1,0,0]) [(0,.ptr a0),(3,.ptr (i3,o3)),(4,.ptr (i4,o4)),(5,.str x5),(6,.ptr (i6,o6)),(26,.int .i64 x26),(27,.int .i64 x27)] h (K3 Q R4):=
 Zba (kp:=kp) (cast (by kernel_rfl) ht)
theorem L4ind (Q:QT) (a0:Pt) (i3 o3 i4 o4:Nat) (x5:List Nat) (i6 o6:Nat) (x26:Int) {G:Type} (J:G→Int→Zaa→Prop) (m:G→Nat)
 (hr:∀ (g:G) (x27:Int) (h:Zaa),J g x27 h→∀ (R4:T4),(∀ g' (x27:Int) (h:Zaa),m g' < m g→J g' x27 h→R4 a0 i3 o3 i4 o4 x5 i6 o6 x26 x27 h)→L4t Q R4 a0 i3 o3 i4 o4 x5 i6 o6 x26 x27 h)
 (g:G) (x27:Int) (h:Zaa) (hj:J g x27 h):L4 Q a0 i3 o3 i4 o4 x5 i6 o6 x26 x27 h:=by
 let P:=fun (K:Int→Zaa→Prop) a0' i3' o3' i4' o4' x5' i6' o6' x26' x27 h=>a0=a0'∧i3=i3'∧o3=o3'∧i4=i4'∧o4=o4'∧x5=x5'∧i6=i6'∧o6=o6'∧x26=x26'∧K x27 h
 refine Zet.inv2 (fun g=>E4 (P (J g))) (fun g=>E4 (P fun x27 h=>∃ g',m g' < m g∧J g' x27 h)) m ?_ ?_ g ⟨rfl,rfl,rfl,rfl,rfl,rfl,rfl,rfl,rfl,hj⟩
 ·intro g env h hi
  obtain ⟨a0',i3',o3',i4',o4',x5',i6',o6',x26',x27,rfl,rfl,rfl,rfl,rfl,rfl,rfl,rfl,rfl,rfl,hj⟩:=Zly hi
  exact Zys Q _ a0 i3 o3 i4 o4 x5 i6 o6 x26 x27 h (hr g x27 h hj (P fun x27 h=>∃ g',m g' < m g∧J g' x27 h) fun g' x27 h hlt hj=>⟨rfl,rfl,rfl,rfl,rfl,rfl,rfl,rfl,rfl,g',hlt,hj⟩)
 ·intro g env h hi
  obtain ⟨a0',i3',o3',i4',o4',x5',i6',o6',x26',x27,rfl,rfl,rfl,rfl,rfl,rfl,rfl,rfl,rfl,rfl,g',hlt,hj⟩:=Zly hi
  exact ⟨g',hlt,rfl,rfl,rfl,rfl,rfl,rfl,rfl,rfl,rfl,hj⟩
theorem J7i (Q:QT) (R4:T4) (x27 x26:Int) (x5:List Nat) (a0:Pt) (i6 o6 i3 o3 i4 o4:Nat) (h:Zaa) (ht :
 R4 a0 i3 o3 i4 o4 x5 i6 o6 x26 (IntKind.wrap .i64 (x27 + 1)) h):J7 Q R4 x27 x26 x5 a0 i6 o6 i3 o3 i4 o4 h:=
 Zba (kp:=kp) (cast (by kernel_rfl) ht)
theorem A4x0i (Q:QT) (i6 o6 i4 o4:Nat) (h:Zaa) (ht :
 Zco (Zbj h (.ptr (i6,o6)) 3) fun A=>Zaj A fun A B=>Zbg A fun A=>Zaj B fun B C=>Zbg B fun B=>Zaj C fun C D=>xSl C fun C E F G=>Zbv D (Zbu (Zbb h (.ptr (i4,o4)) [.str A,.str B,.slice C E F G]) fun A=>Zco (Zbj A (.ptr (i4,o4)) 3) fun B=>Zaj B fun B C=>Zbg B fun B=>Zaj C fun C D=>Zbg C fun C=>Zaj D fun D E=>xSl D fun D F G H=>Zbv E (Q (.agg [.str B,.str C,.slice D F G H]) A))):Ydv Q i6 o6 i4 o4 h:=
 At.mk (cast (by kernel_rfl) ht)
theorem call (a0 a1x0:Pt) (n1x0 c1x0:Nat) (e1x0:Bool) (a1x1:Pt) (n1x1 c1x1:Nat) (e1x1:Bool) (h:Zaa) (Q:QT) (ht :
 Zck (h ++ [.cells Zab [.slice a1x0 n1x0 c1x0 e1x0,.slice a1x1 n1x1 c1x1 e1x1] false]) fun A=>Zck (A ++ [.cells Zac [.str [],.str [],.slice none 0 0 true] false]) fun B=>Zck (B ++ [.cells Zbe [.str [105],.str [98],.str ([108,40,120,41]),.str ([112,40,120,44,121,41]),.str ([109,40,120,41]),.str ([108,40,105,41]),.str ([112,40,120,44,120,41]),.str ([112,40,105,44,120,41]),.str ([108,40,108,40,120,41,41]),.str [117],.str ([108,40,120,41])] false]) fun C=>Zah pg Zcf [.ptr a0,.slice (B.length,0) 11 11 true] C fun B C=>
 Zbg B fun B=>xSl (Zag C (.ptr (h.length,0 + 0))) fun D E F F=>xSl (Zag C (.ptr (h.length,0 + 0))) fun F F G G=>(Zah pg Zaz [.ptr a0,.int .i64 (((F:Nat):Int))] C fun G H=>
 Zdo .i64 G fun G=>(Zag H (.ptr (h.length,0 + 0))=Zag C (.ptr (h.length,0 + 0)))∧(Zag H (.ptr (h.length,0 + 0))=Zag C (.ptr (h.length,0 + 0)))∧(0≤(G:Int)∧(G:Int) < (E:Nat))∧(Zbm D fun I J=>Zbg (Zag H (.ptr (I,J + (Int.toNat G) * 2 + 0))) fun K=>(Zck (H ++ [.cells Zad [] false]) fun L=>(Zag L (.ptr (I,J + (Int.toNat G) * 2 + 0))=Zag H (.ptr (I,J + (Int.toNat G) * 2 + 0)))∧(Zag L (.ptr (h.length,0 + 0))=Zag H (.ptr (h.length,0 + 0)))∧(Zag L (.ptr (h.length,0 + 0))=Zag H (.ptr (h.length,0 + 0)))∧Zck (L ++ [.cells Zac [.str [],.str [],.slice none 0 0 true] false]) fun M=>(Zag M (.ptr (I,J + (Int.toNat G) * 2 + 0))=Zag L (.ptr (I,J + (Int.toNat G) * 2 + 0)))∧(Zag M (.ptr (h.length,0 + 0))=Zag L (.ptr (h.length,0 + 0)))∧(Zag M (.ptr (h.length,0 + 0))=Zag L (.ptr (h.length,0 + 0)))∧Zbu (Zbb M (.ptr (L.length,0)) [.str K,.str B,.slice (H.length,0) 0 0 true]) fun M=>Zck (M ++ [.cells Zfw [.int .i64 1,.int .i64 0,.int .i64 1,.int .i64 2] false]) fun N=>Zah pg Zdq [.ptr a0,.slice (M.length,0) 4 4 true] N fun M N=>
 Zdo .i64 M fun M=>L4 Q a0 h.length 0 A.length 0 B L.length 0 M 0 N)∧(Zck (H ++ [.cells Zac [.str [],.str [],.slice none 0 0 true] false]) fun L=>(Zag L (.ptr (I,J + (Int.toNat G) * 2 + 0))=Zag H (.ptr (I,J + (Int.toNat G) * 2 + 0)))∧(Zag L (.ptr (h.length,0 + 0))=Zag H (.ptr (h.length,0 + 0)))∧(Zag L (.ptr (h.length,0 + 0))=Zag H (.ptr (h.length,0 + 0)))∧Zck (L ++ [.cells Zad [] false]) fun M=>(Zag M (.ptr (I,J + (Int.toNat G) * 2 + 0))=Zag L (.ptr (I,J + (Int.toNat G) * 2 + 0)))∧(Zag M (.ptr (h.length,0 + 0))=Zag L (.ptr (h.length,0 + 0)))∧(Zag M (.ptr (h.length,0 + 0))=Zag L (.ptr (h.length,0 + 0)))∧Zbu (Zbb M (.ptr (H.length,0)) [.str K,.str B,.slice (L.length,0) 0 0 true]) fun G=>Zck (G ++ [.cells Zfw [.int .i64 1,.int .i64 0,.int .i64 1,.int .i64 2] false]) fun I=>Zah pg Zdq [.ptr a0,.slice (G.length,0) 4 4 true] I fun G I=>
 Zdo .i64 G fun G=>L4 Q a0 h.length 0 A.length 0 B H.length 0 G 0 I)))∧(Zck (C ++ [.cells Zad [] false]) fun G=>(Zag G (.ptr (h.length,0 + 0))=Zag C (.ptr (h.length,0 + 0)))∧(Zag G (.ptr (h.length,0 + 0))=Zag C (.ptr (h.length,0 + 0)))∧(Zah pg Zaz [.ptr a0,.int .i64 (((F:Nat):Int))] G fun H I=>
 Zdo .i64 H fun H=>(Zag I (.ptr (h.length,0 + 0))=Zag G (.ptr (h.length,0 + 0)))∧(Zag I (.ptr (h.length,0 + 0))=Zag G (.ptr (h.length,0 + 0)))∧(0≤(H:Int)∧(H:Int) < (E:Nat))∧(Zbm D fun J K=>Zbg (Zag I (.ptr (J,K + (Int.toNat H) * 2 + 0))) fun L=>Zck (I ++ [.cells Zac [.str [],.str [],.slice none 0 0 true] false]) fun M=>(Zag M (.ptr (J,K + (Int.toNat H) * 2 + 0))=Zag I (.ptr (J,K + (Int.toNat H) * 2 + 0)))∧(Zag M (.ptr (h.length,0 + 0))=Zag I (.ptr (h.length,0 + 0)))∧(Zag M (.ptr (h.length,0 + 0))=Zag I (.ptr (h.length,0 + 0)))∧Zbu (Zbb M (.ptr (I.length,0)) [.str L,.str B,.slice (C.length,0) 0 0 true]) fun H=>Zck (H ++ [.cells Zfw [.int .i64 1,.int .i64 0,.int .i64 1,.int .i64 2] false]) fun J=>Zah pg Zdq [.ptr a0,.slice (H.length,0) 4 4 true] J fun H J=>
 Zdo .i64 H fun H=>L4 Q a0 h.length 0 A.length 0 B I.length 0 H 0 J))∧(Zck (G ++ [.cells Zac [.str [],.str [],.slice none 0 0 true] false]) fun H=>(Zag H (.ptr (h.length,0 + 0))=Zag G (.ptr (h.length,0 + 0)))∧(Zag H (.ptr (h.length,0 + 0))=Zag G (.ptr (h.length,0 + 0)))∧Zah pg Zaz [.ptr a0,.int .i64 (((F:Nat):Int))] H fun I J=>
 Zdo .i64 I fun I=>(Zag J (.ptr (h.length,0 + 0))=Zag H (.ptr (h.length,0 + 0)))∧(Zag J (.ptr (h.length,0 + 0))=Zag H (.ptr (h.length,0 + 0)))∧(0≤(I:Int)∧(I:Int) < (E:Nat))∧(Zbm D fun H K=>Zbg (Zag J (.ptr (H,K + (Int.toNat I) * 2 + 0))) fun H=>(Zag J (.ptr (h.length,0 + 0))=Zag J (.ptr (h.length,0 + 0)))∧(Zag J (.ptr (h.length,0 + 0))=Zag J (.ptr (h.length,0 + 0)))∧Zbu (Zbb J (.ptr (G.length,0)) [.str H,.str B,.slice (C.length,0) 0 0 true]) fun H=>Zck (H ++ [.cells Zfw [.int .i64 1,.int .i64 0,.int .i64 1,.int .i64 2] false]) fun I=>Zah pg Zdq [.ptr a0,.slice (H.length,0) 4 4 true] I fun H I=>
 Zdo .i64 H fun H=>L4 Q a0 h.length 0 A.length 0 B G.length 0 H 0 I)))∧(Zck (C ++ [.cells Zac [.str [],.str [],.slice none 0 0 true] false]) fun G=>(Zag G (.ptr (h.length,0 + 0))=Zag C (.ptr (h.length,0 + 0)))∧(Zag G (.ptr (h.length,0 + 0))=Zag C (.ptr (h.length,0 + 0)))∧(Zah pg Zaz [.ptr a0,.int .i64 (((F:Nat):Int))] G fun H I=>
 Zdo .i64 H fun H=>(Zag I (.ptr (h.length,0 + 0))=Zag G (.ptr (h.length,0 + 0)))∧(Zag I (.ptr (h.length,0 + 0))=Zag G (.ptr (h.length,0 + 0)))∧(0≤(H:Int)∧(H:Int) < (E:Nat))∧(Zbm D fun J K=>Zbg (Zag I (.ptr (J,K + (Int.toNat H) * 2 + 0))) fun L=>Zck (I ++ [.cells Zad [] false]) fun M=>(Zag M (.ptr (J,K + (Int.toNat H) * 2 + 0))=Zag I (.ptr (J,K + (Int.toNat H) * 2 + 0)))∧(Zag M (.ptr (h.length,0 + 0))=Zag I (.ptr (h.length,0 + 0)))∧(Zag M (.ptr (h.length,0 + 0))=Zag I (.ptr (h.length,0 + 0)))∧Zbu (Zbb M (.ptr (C.length,0)) [.str L,.str B,.slice (I.length,0) 0 0 true]) fun H=>Zck (H ++ [.cells Zfw [.int .i64 1,.int .i64 0,.int .i64 1,.int .i64 2] false]) fun I=>Zah pg Zdq [.ptr a0,.slice (H.length,0) 4 4 true] I fun H I=>
 Zdo .i64 H fun H=>L4 Q a0 h.length 0 A.length 0 B C.length 0 H 0 I))∧(Zck (G ++ [.cells Zad [] false]) fun H=>(Zag H (.ptr (h.length,0 + 0))=Zag G (.ptr (h.length,0 + 0)))∧(Zag H (.ptr (h.length,0 + 0))=Zag G (.ptr (h.length,0 + 0)))∧Zah pg Zaz [.ptr a0,.int .i64 (((F:Nat):Int))] H fun F I=>
 Zdo .i64 F fun F=>(Zag I (.ptr (h.length,0 + 0))=Zag H (.ptr (h.length,0 + 0)))∧(Zag I (.ptr (h.length,0 + 0))=Zag H (.ptr (h.length,0 + 0)))∧(0≤(F:Int)∧(F:Int) < (E:Nat))∧(Zbm D fun D E=>Zbg (Zag I (.ptr (D,E + (Int.toNat F) * 2 + 0))) fun D=>(Zag I (.ptr (h.length,0 + 0))=Zag I (.ptr (h.length,0 + 0)))∧(Zag I (.ptr (h.length,0 + 0))=Zag I (.ptr (h.length,0 + 0)))∧Zbu (Zbb I (.ptr (C.length,0)) [.str D,.str B,.slice (G.length,0) 0 0 true]) fun D=>Zck (D ++ [.cells Zfw [.int .i64 1,.int .i64 0,.int .i64 1,.int .i64 2] false]) fun E=>Zah pg Zdq [.ptr a0,.slice (D.length,0) 4 4 true] E fun D E=>
 Zdo .i64 D fun D=>L4 Q a0 h.length 0 A.length 0 B C.length 0 D 0 E)))):Zah pg Zhx [.ptr a0,.agg [.slice a1x0 n1x0 c1x0 e1x0,.slice a1x1 n1x1 c1x1 e1x1]] h Q:=
 Zah.of_body kp (c:=cod fn) (fn:=fn) Go.Proofs.Tryz.func95 (by kernel_rfl) (by kernel_rfl) (Nat.le_of_ble_eq_true (by kernel_rfl))
  (cast (by kernel_rfl) ht)
end Zdb
end Go.Sim
