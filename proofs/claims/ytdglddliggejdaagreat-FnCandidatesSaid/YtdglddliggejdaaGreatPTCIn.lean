/- A part of the proof of a statement of this seat: see the text that holds the theorem. No condition. -/
import Derived.Test.YtdglddliggejdaaGreatNm
set_option linter.unusedVariables false
set_option linter.unusedSimpArgs false
set_option linter.all false
set_option maxRecDepth 100000
set_option maxHeartbeats 0
set_option linter.unusedVariables false
namespace Go.Sim
open Go Go.RowKit
namespace Zdc
noncomputable abbrev fn:Func:=Go.Proofs.Tryz.f163
def kp:Zcu:=[(2000002,[0,3,4,5,6]),(3000004,[6,4]),(1000004,[0,3,4,5,6,26,27]),(2000006,[27,26,5,0,6,3,4]),(4000007,[27,26,5,0,6,3,4])]
noncomputable def C (p:List Nat):Code:=(cod fn).sub p
def KR (Q:QT):KT:=Zfi pg fn.results.toList Q
abbrev T4:=Pt→Nat→Nat→Nat→Nat→List Nat→Nat→Nat→Int→Int→Zaa→Prop
def E4 (R4:T4) (env:Env) (h:Zaa):Prop:=Zci 0 env fun v env=>Zfc v fun a0=>Zci 3 env fun v env=>Zfc v fun a=>Zbi a fun i3 o3=>Zci 4 env fun v env=>Zfc v fun a=>Zbi a fun i4 o4=>Zci 5 env fun v env=>Zbn v fun x5=>Zci 6 env fun v env=>Zfc v fun a=>Zbi a fun i6 o6=>Zci 26 env fun v env=>Zez .i64 v fun x26=>Zci 27 env fun v env=>Zez .i64 v fun x27=>Zky env (R4 a0 i3 o3 i4 o4 x5 i6 o6 x26 x27 h)
theorem Zlb {R4:T4} {env:Env} {h:Zaa} (hi:E4 R4 env h):∃ a0,∃ i3,∃ o3,∃ i4,∃ o4,∃ x5,∃ i6,∃ o6,∃ x26,∃ x27,env=[(0,.ptr a0),(3,.ptr (i3,o3)),(4,.ptr (i4,o4)),(5,.str x5),(6,.ptr (i6,o6)),(26,.int .i64 x26),(27,.int .i64 x27)]∧R4 a0 i3 o3 i4 o4 x5 i6 o6 x26 x27 h:=by
 unfold E4 at hi
 have hi0:=hi
 clear hi
 obtain ⟨_,_,rfl,hi1⟩:=Zal hi0
 obtain ⟨a0,rfl,hi2⟩:=Zbo hi1
 obtain ⟨_,_,rfl,hi3⟩:=Zal hi2
 obtain ⟨a,rfl,hi4⟩:=Zbo hi3
 obtain ⟨i3,o3,rfl,hi5⟩:=Zbp hi4
 obtain ⟨_,_,rfl,hi6⟩:=Zal hi5
 obtain ⟨a,rfl,hi7⟩:=Zbo hi6
 obtain ⟨i4,o4,rfl,hi8⟩:=Zbp hi7
 obtain ⟨_,_,rfl,hi9⟩:=Zal hi8
 obtain ⟨x5,rfl,hi10⟩:=Zhb hi9
 obtain ⟨_,_,rfl,hi11⟩:=Zal hi10
 obtain ⟨a,rfl,hi12⟩:=Zbo hi11
 obtain ⟨i6,o6,rfl,hi13⟩:=Zbp hi12
 obtain ⟨_,_,rfl,hi14⟩:=Zal hi13
 obtain ⟨x26,rfl,hi15⟩:=Zaz hi14
 obtain ⟨_,_,rfl,hi16⟩:=Zal hi15
 obtain ⟨x27,rfl,hi17⟩:=Zaz hi16
 obtain ⟨rfl,hi18⟩:=Zca hi17
 have hi:=hi18
 exact ⟨a0,i3,o3,i4,o4,x5,i6,o6,x26,x27,rfl,hi⟩
def K0 (Q:QT):KT:=andThen (fun env' h'=>(match kp.find 4000008 with | some ks=>Den pg fn.ntmps (C [1,1,1,1]) (env'.keep ks) h' (KR Q) | none=>den pg fn.ntmps kp (C [1,1,1,1]) env' h' (KR Q))) (KR Q)
def K1 (Q:QT):KT:=Zdg 0 (K0 Q)
def K2 (Q:QT):KT:=left kp 4 (K1 Q)
def K3 (Q:QT) (R4:T4):KT:=rnd ((kp.find 1000004).getD []) (E4 R4) (K2 Q)
def L4 (Q:QT) (a0:Pt) (i3 o3 i4 o4:Nat) (x5:List Nat) (i6 o6:Nat) (x26 x27:Int) (h:Zaa):Prop:=Zfb (Den pg fn.ntmps (C [1,1,1,0,1,0,0])) ((kp.find 1000004).getD []) (K2 Q) [(0,.ptr a0),(3,.ptr (i3,o3)),(4,.ptr (i4,o4)),(5,.str x5),(6,.ptr (i6,o6)),(26,.int .i64 x26),(27,.int .i64 x27)] h
def J7 (Q:QT) (R4:T4) (x27 x26:Int) (x5:List Nat) (a0:Pt) (i6 o6 i3 o3 i4 o4:Nat) (h:Zaa):Prop:=Den pg fn.ntmps (C [1,1,1,0,1,0,0,1,1,1]) [(27,.int .i64 x27),(26,.int .i64 x26),(5,.str x5),(0,.ptr a0),(6,.ptr (i6,o6)),(3,.ptr (i3,o3)),(4,.ptr (i4,o4))] h (K3 Q R4)
def Ycw (Q:QT) (i6 o6 i4 o4:Nat) (h:Zaa):Prop:=At (K1 Q) (.exit 0) [(6,.ptr (i6,o6)),(4,.ptr (i4,o4))] h
def L4t (Q:QT) (R4:T4) (a0:Pt) (i3 o3 i4 o4:Nat) (x5:List Nat) (i6 o6:Nat) (x26 x27:Int) (h:Zaa):Prop:=
 bcase (decide ((x27:Int) < x26)) (Zah pg Zfw [.str x5] h fun A B=>
 Zbn A fun A=>bcase (!(decide (A=[]))) (xSl (Zai B (.ptr (i6,o6 + 2))) fun A C D E=>Zcb (Zan B (.ptr (i3,o3)) 2) fun F=>Zag F fun F G=>xSl F fun F H I J=>Zag G fun G K=>xSl G fun G L M N=>Zbu K (Zah pg Zfw [.str x5] B fun K O=>
 Zbn K fun K=>(Zan O (.ptr (i3,o3)) 2=Zan B (.ptr (i3,o3)) 2)∧(Zai O (.ptr (i6,o6 + 2))=Zai B (.ptr (i6,o6 + 2)))∧Zah pg Zgg [.ptr a0,.agg [.slice F H I J,.slice G L M N],.str K] O fun F G=>
 Zmv F fun F=>Zag F fun F H=>Zbn F fun F=>Zag H fun H I=>Zbn H fun H=>Zbu I ((Zai G (.ptr (i6,o6 + 2))=Zai O (.ptr (i6,o6 + 2)))∧Zco (G ++ [.cells Zae [.str F,.str H] false]) fun F=>(Zan F (.ptr (i3,o3)) 2=Zan G (.ptr (i3,o3)) 2)∧(Zai F (.ptr (i6,o6 + 2))=Zai G (.ptr (i6,o6 + 2)))∧Zcz pg Zhw F (.slice A C D E) (.slice (G.length,0) 1 1 true) fun A C=>xSl A fun A D E G=>(Zan C (.ptr (i3,o3)) 2=Zan F (.ptr (i3,o3)) 2)∧Zbx (Zbb C (.ptr (i6,o6 + 2)) [.slice A D E G]) fun A=>J7 Q R4 x27 x26 x5 a0 i6 o6 i3 o3 i4 o4 A))) (Zah pg Zbc [.ptr a0,.int .i64 4] B fun A B=>
 Zck .i64 A fun A=>bcase ((A:Int) == 0) (xSl (Zai B (.ptr (i6,o6 + 2))) fun A C D E=>Zcb (Zan B (.ptr (i3,o3)) 2) fun F=>Zag F fun F G=>xSl F fun F H I J=>Zag G fun G K=>xSl G fun G L M N=>Zbu K (Zah pg Zfw [.str x5] B fun K O=>
 Zbn K fun K=>(Zan O (.ptr (i3,o3)) 2=Zan B (.ptr (i3,o3)) 2)∧(Zai O (.ptr (i6,o6 + 2))=Zai B (.ptr (i6,o6 + 2)))∧Zah pg Zgg [.ptr a0,.agg [.slice F H I J,.slice G L M N],.str K] O fun F G=>
 Zmv F fun F=>Zag F fun F H=>Zbn F fun F=>Zag H fun H I=>Zbn H fun H=>Zbu I ((Zai G (.ptr (i6,o6 + 2))=Zai O (.ptr (i6,o6 + 2)))∧Zco (G ++ [.cells Zae [.str F,.str H] false]) fun F=>(Zan F (.ptr (i3,o3)) 2=Zan G (.ptr (i3,o3)) 2)∧(Zai F (.ptr (i6,o6 + 2))=Zai G (.ptr (i6,o6 + 2)))∧Zcz pg Zhw F (.slice A C D E) (.slice (G.length,0) 1 1 true) fun A C=>xSl A fun A D E G=>(Zan C (.ptr (i3,o3)) 2=Zan F (.ptr (i3,o3)) 2)∧Zbx (Zbb C (.ptr (i6,o6 + 2)) [.slice A D E G]) fun A=>J7 Q R4 x27 x26 x5 a0 i6 o6 i3 o3 i4 o4 A))) (J7 Q R4 x27 x26 x5 a0 i6 o6 i3 o3 i4 o4 B))) (Ycw Q i6 o6 i4 o4 h)
theorem Zxe (Q:QT) (R4:T4) (a0:Pt) (i3 o3 i4 o4:Nat) (x5:List Nat) (i6 o6:Nat) (x26 x27:Int) (h:Zaa) (ht:L4t Q R4 a0 i3 o3 i4 o4 x5 i6 o6 x26 x27 h):Den pg fn.ntmps (C [1,1,1,0,1,0,0]) [(0,.ptr a0),(3,.ptr (i3,o3)),(4,.ptr (i4,o4)),(5,.str x5),(6,.ptr (i6,o6)),(26,.int .i64 x26),(27,.int .i64 x27)] h (K3 Q R4):=
 Zbf (kp:=kp) (cast (by kernel_rfl) ht)
theorem L4ind (Q:QT) (a0:Pt) (i3 o3 i4 o4:Nat) (x5:List Nat) (i6 o6:Nat) (x26:Int) {G:Type} (J:G→Int→Zaa→Prop) (m:G→Nat)
 (hr:∀ (g:G) (x27:Int) (h:Zaa),J g x27 h→∀ (R4:T4),(∀ g' (x27:Int) (h:Zaa),m g' < m g→J g' x27 h→R4 a0 i3 o3 i4 o4 x5 i6 o6 x26 x27 h)→L4t Q R4 a0 i3 o3 i4 o4 x5 i6 o6 x26 x27 h)
 (g:G) (x27:Int) (h:Zaa) (hj:J g x27 h):L4 Q a0 i3 o3 i4 o4 x5 i6 o6 x26 x27 h:=by
 let P:=fun (K:Int→Zaa→Prop) a0' i3' o3' i4' o4' x5' i6' o6' x26' x27 h=>a0=a0'∧i3=i3'∧o3=o3'∧i4=i4'∧o4=o4'∧x5=x5'∧i6=i6'∧o6=o6'∧x26=x26'∧K x27 h
 refine Zfb.inv2 (fun g=>E4 (P (J g))) (fun g=>E4 (P fun x27 h=>∃ g',m g' < m g∧J g' x27 h)) m ?_ ?_ g ⟨rfl,rfl,rfl,rfl,rfl,rfl,rfl,rfl,rfl,hj⟩
 ·intro g env h hi
  obtain ⟨a0',i3',o3',i4',o4',x5',i6',o6',x26',x27,rfl,rfl,rfl,rfl,rfl,rfl,rfl,rfl,rfl,rfl,hj⟩:=Zlb hi
  exact Zxe Q _ a0 i3 o3 i4 o4 x5 i6 o6 x26 x27 h (hr g x27 h hj (P fun x27 h=>∃ g',m g' < m g∧J g' x27 h) fun g' x27 h hlt hj=>⟨rfl,rfl,rfl,rfl,rfl,rfl,rfl,rfl,rfl,g',hlt,hj⟩)
 ·intro g env h hi
  obtain ⟨a0',i3',o3',i4',o4',x5',i6',o6',x26',x27,rfl,rfl,rfl,rfl,rfl,rfl,rfl,rfl,rfl,rfl,g',hlt,hj⟩:=Zlb hi
  exact ⟨g',hlt,rfl,rfl,rfl,rfl,rfl,rfl,rfl,rfl,rfl,hj⟩
theorem J7i (Q:QT) (R4:T4) (x27 x26:Int) (x5:List Nat) (a0:Pt) (i6 o6 i3 o3 i4 o4:Nat) (h:Zaa) (ht :
 R4 a0 i3 o3 i4 o4 x5 i6 o6 x26 (IntKind.wrap .i64 (x27 + 1)) h):J7 Q R4 x27 x26 x5 a0 i6 o6 i3 o3 i4 o4 h:=
 Zbf (kp:=kp) (cast (by kernel_rfl) ht)
theorem A4x0i (Q:QT) (i6 o6 i4 o4:Nat) (h:Zaa) (ht :
 Zcb (Zan h (.ptr (i6,o6)) 3) fun A=>Zag A fun A B=>Zbn A fun A=>Zag B fun B C=>Zbn B fun B=>Zag C fun C D=>xSl C fun C E F G=>Zbu D (Zbx (Zbb h (.ptr (i4,o4)) [.str A,.str B,.slice C E F G]) fun A=>Zcb (Zan A (.ptr (i4,o4)) 3) fun B=>Zag B fun B C=>Zbn B fun B=>Zag C fun C D=>Zbn C fun C=>Zag D fun D E=>xSl D fun D F G H=>Zbu E (Q (.agg [.str B,.str C,.slice D F G H]) A))):Ycw Q i6 o6 i4 o4 h:=
 At.mk (cast (by kernel_rfl) ht)
theorem call (a0 a1x0:Pt) (n1x0 c1x0:Nat) (e1x0:Bool) (a1x1:Pt) (n1x1 c1x1:Nat) (e1x1:Bool) (h:Zaa) (Q:QT) (ht :
 Zco (h ++ [.cells Zad [.slice a1x0 n1x0 c1x0 e1x0,.slice a1x1 n1x1 c1x1 e1x1] false]) fun A=>Zco (A ++ [.cells Zac [.str [],.str [],.slice none 0 0 true] false]) fun B=>Zco (B ++ [.cells Zbg [.str [105],.str [98],.str ([108,40,120,41]),.str ([112,40,120,44,121,41]),.str ([109,40,120,41]),.str ([108,40,105,41]),.str ([112,40,120,44,120,41]),.str ([112,40,105,44,120,41]),.str ([108,40,108,40,120,41,41]),.str [117],.str ([108,40,120,41])] false]) fun C=>Zah pg Zce [.ptr a0,.slice (B.length,0) 11 11 true] C fun B C=>
 Zbn B fun B=>xSl (Zai C (.ptr (h.length,0 + 0))) fun D E F F=>xSl (Zai C (.ptr (h.length,0 + 0))) fun F F G G=>(Zah pg Zbc [.ptr a0,.int .i64 (((F:Nat):Int))] C fun G H=>
 Zck .i64 G fun G=>(Zai H (.ptr (h.length,0 + 0))=Zai C (.ptr (h.length,0 + 0)))∧(Zai H (.ptr (h.length,0 + 0))=Zai C (.ptr (h.length,0 + 0)))∧(0≤(G:Int)∧(G:Int) < (E:Nat))∧(Zbi D fun I J=>Zbn (Zai H (.ptr (I,J + (Int.toNat G) * 2 + 0))) fun K=>(Zco (H ++ [.cells Zae [] false]) fun L=>(Zai L (.ptr (I,J + (Int.toNat G) * 2 + 0))=Zai H (.ptr (I,J + (Int.toNat G) * 2 + 0)))∧(Zai L (.ptr (h.length,0 + 0))=Zai H (.ptr (h.length,0 + 0)))∧(Zai L (.ptr (h.length,0 + 0))=Zai H (.ptr (h.length,0 + 0)))∧Zco (L ++ [.cells Zac [.str [],.str [],.slice none 0 0 true] false]) fun M=>(Zai M (.ptr (I,J + (Int.toNat G) * 2 + 0))=Zai L (.ptr (I,J + (Int.toNat G) * 2 + 0)))∧(Zai M (.ptr (h.length,0 + 0))=Zai L (.ptr (h.length,0 + 0)))∧(Zai M (.ptr (h.length,0 + 0))=Zai L (.ptr (h.length,0 + 0)))∧Zbx (Zbb M (.ptr (L.length,0)) [.str K,.str B,.slice (H.length,0) 0 0 true]) fun M=>Zco (M ++ [.cells Zgj [.int .i64 1,.int .i64 0,.int .i64 1,.int .i64 2] false]) fun N=>Zah pg Zel [.ptr a0,.slice (M.length,0) 4 4 true] N fun M N=>
 Zck .i64 M fun M=>L4 Q a0 h.length 0 A.length 0 B L.length 0 M 0 N)∧(Zco (H ++ [.cells Zac [.str [],.str [],.slice none 0 0 true] false]) fun L=>(Zai L (.ptr (I,J + (Int.toNat G) * 2 + 0))=Zai H (.ptr (I,J + (Int.toNat G) * 2 + 0)))∧(Zai L (.ptr (h.length,0 + 0))=Zai H (.ptr (h.length,0 + 0)))∧(Zai L (.ptr (h.length,0 + 0))=Zai H (.ptr (h.length,0 + 0)))∧Zco (L ++ [.cells Zae [] false]) fun M=>(Zai M (.ptr (I,J + (Int.toNat G) * 2 + 0))=Zai L (.ptr (I,J + (Int.toNat G) * 2 + 0)))∧(Zai M (.ptr (h.length,0 + 0))=Zai L (.ptr (h.length,0 + 0)))∧(Zai M (.ptr (h.length,0 + 0))=Zai L (.ptr (h.length,0 + 0)))∧Zbx (Zbb M (.ptr (H.length,0)) [.str K,.str B,.slice (L.length,0) 0 0 true]) fun G=>Zco (G ++ [.cells Zgj [.int .i64 1,.int .i64 0,.int .i64 1,.int .i64 2] false]) fun I=>Zah pg Zel [.ptr a0,.slice (G.length,0) 4 4 true] I fun G I=>
 Zck .i64 G fun G=>L4 Q a0 h.length 0 A.length 0 B H.length 0 G 0 I)))∧(Zco (C ++ [.cells Zae [] false]) fun G=>(Zai G (.ptr (h.length,0 + 0))=Zai C (.ptr (h.length,0 + 0)))∧(Zai G (.ptr (h.length,0 + 0))=Zai C (.ptr (h.length,0 + 0)))∧(Zah pg Zbc [.ptr a0,.int .i64 (((F:Nat):Int))] G fun H I=>
 Zck .i64 H fun H=>(Zai I (.ptr (h.length,0 + 0))=Zai G (.ptr (h.length,0 + 0)))∧(Zai I (.ptr (h.length,0 + 0))=Zai G (.ptr (h.length,0 + 0)))∧(0≤(H:Int)∧(H:Int) < (E:Nat))∧(Zbi D fun J K=>Zbn (Zai I (.ptr (J,K + (Int.toNat H) * 2 + 0))) fun L=>Zco (I ++ [.cells Zac [.str [],.str [],.slice none 0 0 true] false]) fun M=>(Zai M (.ptr (J,K + (Int.toNat H) * 2 + 0))=Zai I (.ptr (J,K + (Int.toNat H) * 2 + 0)))∧(Zai M (.ptr (h.length,0 + 0))=Zai I (.ptr (h.length,0 + 0)))∧(Zai M (.ptr (h.length,0 + 0))=Zai I (.ptr (h.length,0 + 0)))∧Zbx (Zbb M (.ptr (I.length,0)) [.str L,.str B,.slice (C.length,0) 0 0 true]) fun H=>Zco (H ++ [.cells Zgj [.int .i64 1,.int .i64 0,.int .i64 1,.int .i64 2] false]) fun J=>Zah pg Zel [.ptr a0,.slice (H.length,0) 4 4 true] J fun H J=>
 Zck .i64 H fun H=>L4 Q a0 h.length 0 A.length 0 B I.length 0 H 0 J))∧(Zco (G ++ [.cells Zac [.str [],.str [],.slice none 0 0 true] false]) fun H=>(Zai H (.ptr (h.length,0 + 0))=Zai G (.ptr (h.length,0 + 0)))∧(Zai H (.ptr (h.length,0 + 0))=Zai G (.ptr (h.length,0 + 0)))∧Zah pg Zbc [.ptr a0,.int .i64 (((F:Nat):Int))] H fun I J=>
 Zck .i64 I fun I=>(Zai J (.ptr (h.length,0 + 0))=Zai H (.ptr (h.length,0 + 0)))∧(Zai J (.ptr (h.length,0 + 0))=Zai H (.ptr (h.length,0 + 0)))∧(0≤(I:Int)∧(I:Int) < (E:Nat))∧(Zbi D fun H K=>Zbn (Zai J (.ptr (H,K + (Int.toNat I) * 2 + 0))) fun H=>(Zai J (.ptr (h.length,0 + 0))=Zai J (.ptr (h.length,0 + 0)))∧(Zai J (.ptr (h.length,0 + 0))=Zai J (.ptr (h.length,0 + 0)))∧Zbx (Zbb J (.ptr (G.length,0)) [.str H,.str B,.slice (C.length,0) 0 0 true]) fun H=>Zco (H ++ [.cells Zgj [.int .i64 1,.int .i64 0,.int .i64 1,.int .i64 2] false]) fun I=>Zah pg Zel [.ptr a0,.slice (H.length,0) 4 4 true] I fun H I=>
 Zck .i64 H fun H=>L4 Q a0 h.length 0 A.length 0 B G.length 0 H 0 I)))∧(Zco (C ++ [.cells Zac [.str [],.str [],.slice none 0 0 true] false]) fun G=>(Zai G (.ptr (h.length,0 + 0))=Zai C (.ptr (h.length,0 + 0)))∧(Zai G (.ptr (h.length,0 + 0))=Zai C (.ptr (h.length,0 + 0)))∧(Zah pg Zbc [.ptr a0,.int .i64 (((F:Nat):Int))] G fun H I=>
 Zck .i64 H fun H=>(Zai I (.ptr (h.length,0 + 0))=Zai G (.ptr (h.length,0 + 0)))∧(Zai I (.ptr (h.length,0 + 0))=Zai G (.ptr (h.length,0 + 0)))∧(0≤(H:Int)∧(H:Int) < (E:Nat))∧(Zbi D fun J K=>Zbn (Zai I (.ptr (J,K + (Int.toNat H) * 2 + 0))) fun L=>Zco (I ++ [.cells Zae [] false]) fun M=>(Zai M (.ptr (J,K + (Int.toNat H) * 2 + 0))=Zai I (.ptr (J,K + (Int.toNat H) * 2 + 0)))∧(Zai M (.ptr (h.length,0 + 0))=Zai I (.ptr (h.length,0 + 0)))∧(Zai M (.ptr (h.length,0 + 0))=Zai I (.ptr (h.length,0 + 0)))∧Zbx (Zbb M (.ptr (C.length,0)) [.str L,.str B,.slice (I.length,0) 0 0 true]) fun H=>Zco (H ++ [.cells Zgj [.int .i64 1,.int .i64 0,.int .i64 1,.int .i64 2] false]) fun I=>Zah pg Zel [.ptr a0,.slice (H.length,0) 4 4 true] I fun H I=>
 Zck .i64 H fun H=>L4 Q a0 h.length 0 A.length 0 B C.length 0 H 0 I))∧(Zco (G ++ [.cells Zae [] false]) fun H=>(Zai H (.ptr (h.length,0 + 0))=Zai G (.ptr (h.length,0 + 0)))∧(Zai H (.ptr (h.length,0 + 0))=Zai G (.ptr (h.length,0 + 0)))∧Zah pg Zbc [.ptr a0,.int .i64 (((F:Nat):Int))] H fun F I=>
 Zck .i64 F fun F=>(Zai I (.ptr (h.length,0 + 0))=Zai H (.ptr (h.length,0 + 0)))∧(Zai I (.ptr (h.length,0 + 0))=Zai H (.ptr (h.length,0 + 0)))∧(0≤(F:Int)∧(F:Int) < (E:Nat))∧(Zbi D fun D E=>Zbn (Zai I (.ptr (D,E + (Int.toNat F) * 2 + 0))) fun D=>(Zai I (.ptr (h.length,0 + 0))=Zai I (.ptr (h.length,0 + 0)))∧(Zai I (.ptr (h.length,0 + 0))=Zai I (.ptr (h.length,0 + 0)))∧Zbx (Zbb I (.ptr (C.length,0)) [.str D,.str B,.slice (G.length,0) 0 0 true]) fun D=>Zco (D ++ [.cells Zgj [.int .i64 1,.int .i64 0,.int .i64 1,.int .i64 2] false]) fun E=>Zah pg Zel [.ptr a0,.slice (D.length,0) 4 4 true] E fun D E=>
 Zck .i64 D fun D=>L4 Q a0 h.length 0 A.length 0 B C.length 0 D 0 E)))):Zah pg Zht [.ptr a0,.agg [.slice a1x0 n1x0 c1x0 e1x0,.slice a1x1 n1x1 c1x1 e1x1]] h Q:=
 Zah.of_body kp (c:=cod fn) (fn:=fn) Go.Proofs.Tryz.func163 (by kernel_rfl) (by kernel_rfl) (Nat.le_of_ble_eq_true (by kernel_rfl))
  (cast (by kernel_rfl) ht)
end Zdc
end Go.Sim

set_option maxRecDepth 100000
set_option maxHeartbeats 0
set_option linter.unusedVariables false
namespace Go.Sim
open Go Go.RowKit
namespace Zob
noncomputable abbrev fn:Func:=Go.Proofs.Tryz.f162
def kp:Zcu:=[]
noncomputable def C (p:List Nat):Code:=(cod fn).sub p
def KR (Q:QT):KT:=Zfi pg fn.results.toList Q
theorem call (x0:List Nat) (h:Zaa) (Q:QT) (ht :
 Zco (h ++ [.cells Zad [.slice none 0 0 true,.slice none 0 0 true] false]) fun A=>Zah pg Zhe [.str x0] A fun A B=>
 Zru A fun A=>Zag A fun A C=>Zmv A fun A=>Zag A fun A D=>xSl A fun A E F G=>Zag D fun D H=>xSl D fun D I J K=>Zbu H (Zag C fun C H=>Zbr C fun C=>Zbu H (Zco (B ++ [.cells Zad [.slice none 0 0 true,.slice none 0 0 true] false]) fun H=>Zbx (Zbb H (.ptr (B.length,0)) [.slice A E F G,.slice D I J K]) fun A=>Zcb (Zan A (.ptr (B.length,0)) 2) fun B=>Zag B fun B D=>xSl B fun B E F G=>Zag D fun D H=>xSl D fun D I J K=>Zbu H (Zah pg Zjr [.agg [.slice B E F G,.slice D I J K]] A fun A B=>
 Zmv A fun A=>Zag A fun A D=>xSl A fun A E F G=>Zag D fun D H=>xSl D fun D I J K=>Zbu H (Zbx (Zbb B (.ptr (h.length,0)) [.slice A E F G,.slice D I J K]) fun A=>Zcb (Zan A (.ptr (h.length,0)) 2) fun B=>Zag B fun B D=>xSl B fun B E F G=>Zag D fun D H=>xSl D fun D I J K=>Zbu H (Q (.tup [.agg [.slice B E F G,.slice D I J K],.bool C]) A)))))):Zah pg Zid [.str x0] h Q:=
 Zah.of_body kp (c:=cod fn) (fn:=fn) Go.Proofs.Tryz.func162 (by kernel_rfl) (by kernel_rfl) (Nat.le_of_ble_eq_true (by kernel_rfl))
  (cast (by kernel_rfl) ht)
end Zob
namespace Zsf
noncomputable abbrev fn:Func:=Go.Proofs.Tryz.f161
def kp:Zcu:=[]
noncomputable def C (p:List Nat):Code:=(cod fn).sub p
def KR (Q:QT):KT:=Zfi pg fn.results.toList Q
theorem call (x0:Int) (h:Zaa) (Q:QT) (ht :
 Zco (h ++ [.cells Zad [.slice none 0 0 true,.slice none 0 0 true] false]) fun A=>Zco (A ++ [.cells Zbg [.str ([69,32,79,60,69,59,69,32,105,59,69,32,98,59,69,32,108,40,120,41,58,69,32,120,59,69,32,112,40,120,44,121,41,58,69,32,120,38,69,32,121,59,79,32,105,59,79,32,108,40,120,41,58,79,32,120]),.str ([69,32,83,59,69,32,105,59,69,32,108,40,120,41,58,69,32,120,59,69,32,108,40,105,41,59,83,32,112,40,120,44,120,41,58,83,32,120,59,83,32,112,40,105,44,98,41,59,83,32,105,59,83,32,98]),.str ([65,32,66,59,65,32,105,59,65,32,108,40,120,41,58,65,32,120,38,66,32,120,59,66,32,105,59,66,32,108,40,120,41,58,65,32,108,40,120,41]),.str ([65,59,65,32,108,40,120,41,58,65,32,108,40,120,41,59,65,32,109,40,120,41,58,65,32,108,40,109,40,120,41,41,59,65,32,105]),.str ([69,32,79,60,69,32,83,60,69,79,59,69,32,117,59,69,32,105,59,79,32,105,59,83,32,105,59,69,32,109,40,120,41,58,69,32,120,59,79,32,109,40,120,41,58,79,32,120,59,83,32,109,40,120,41,58,83,32,120,38,69,32,109,40,120,41]),.str ([69,32,70,59,69,32,105,59,69,32,98,59,70,32,108,40,120,41,58,69,32,120,59,70,32,109,40,120,41,58,70,32,120,38,69,32,120,59,70,32,112,40,108,40,120,41,44,121,41,58,69,32,120,38,70,32,121,59,70,32,105]),.str ([69,32,79,60,69,59,79,32,105,59,69,32,98,59,69,32,108,40,120,41,58,69,32,120]),.str ([65,32,66,60,65,32,67,60,65,66,59,65,32,105,59,66,32,105,59,67,32,105,59,65,32,108,40,120,41,58,67,32,120,59,66,32,108,40,120,41,58,67,32,120,59,67,32,108,40,120,41,58,67,32,120,59,65,32,117]),.str ([69,59,69,32,112,40,120,44,105,41,58,69,32,120,59,69,32,112,40,105,44,120,41,58,69,32,120,59,69,32,105,59,69,32,98])] false]) fun B=>((((9:Nat):Int)):Int)≠0∧((0≤(Int.tmod x0 (((9:Nat):Int)):Int)∧(Int.tmod x0 (((9:Nat):Int)):Int) < (9:Nat))∧(Zbn (Zai B (.ptr (A.length,0 + (Int.toNat (Int.tmod x0 (((9:Nat):Int)))) * 1))) fun A=>Zah pg Zid [.str A] B fun A B=>
 Zru A fun A=>Zag A fun A C=>Zmv A fun A=>Zag A fun A D=>xSl A fun A E F G=>Zag D fun D H=>xSl D fun D I J K=>Zbu H (Zag C fun C H=>Zbr C fun C=>Zbu H (Zco (B ++ [.cells Zad [.slice none 0 0 true,.slice none 0 0 true] false]) fun C=>Zbx (Zbb C (.ptr (B.length,0)) [.slice A E F G,.slice D I J K]) fun A=>Zcb (Zan A (.ptr (B.length,0)) 2) fun B=>Zag B fun B C=>xSl B fun B D E F=>Zag C fun C G=>xSl C fun C H I J=>Zbu G (Zbx (Zbb A (.ptr (h.length,0)) [.slice B D E F,.slice C H I J]) fun A=>Zcb (Zan A (.ptr (h.length,0)) 2) fun B=>Zag B fun B C=>xSl B fun B D E F=>Zag C fun C G=>xSl C fun C H I J=>Zbu G (Q (.agg [.slice B D E F,.slice C H I J]) A))))))):Zah pg Znt [.int .i64 x0] h Q:=
 Zah.of_body kp (c:=cod fn) (fn:=fn) Go.Proofs.Tryz.func161 (by kernel_rfl) (by kernel_rfl) (Nat.le_of_ble_eq_true (by kernel_rfl))
  (cast (by kernel_rfl) ht)
end Zsf
namespace Zoj
noncomputable abbrev fn:Func:=Go.Proofs.Tryz.f184
def kp:Zcu:=[(2000001,[2,7,0,6])]
noncomputable def C (p:List Nat):Code:=(cod fn).sub p
def KR (Q:QT):KT:=Zfi pg fn.results.toList Q
theorem call (a0 a1x0:Pt) (n1x0 c1x0:Nat) (e1x0:Bool) (a1x1:Pt) (n1x1 c1x1:Nat) (e1x1:Bool) (x2:List Nat) (h:Zaa) (Q:QT) (ht :
 Zco (h ++ [.cells Zad [.slice a1x0 n1x0 c1x0 e1x0,.slice a1x1 n1x1 c1x1 e1x1] false]) fun A=>Zco (A ++ [.cells Zae [.str [],.str []] false]) fun B=>xSl (Zai B (.ptr (h.length,0 + 0))) fun C D E E=>xSl (Zai B (.ptr (h.length,0 + 0))) fun E E F F=>(Zai B (.ptr (h.length,0 + 0))=Zai B (.ptr (h.length,0 + 0)))∧Zah pg Zbc [.ptr a0,.int .i64 (((E:Nat):Int))] B fun E F=>
 Zck .i64 E fun E=>(Zai F (.ptr (h.length,0 + 0))=Zai B (.ptr (h.length,0 + 0)))∧(0≤(E:Int)∧(E:Int) < (D:Nat))∧(Zbi C fun B C=>Zbn (Zai F (.ptr (B,C + (Int.toNat E) * 2 + 0))) fun B=>(Zai F (.ptr (h.length,0 + 0))=Zai F (.ptr (h.length,0 + 0)))∧bcase (decide (x2=[])) (Zah pg Zbc [.ptr a0,.int .i64 2] F fun C D=>
 Zck .i64 C fun C=>Zah pg Zes [.ptr a0,.int .i64 C,.bool true] D fun C D=>
 Zbn C fun C=>Zbx (Zbb D (.ptr (A.length,0)) [.str B,.str C]) fun C=>Zcb (Zan C (.ptr (A.length,0)) 2) fun D=>Zag D fun D E=>Zbn D fun D=>Zag E fun E G=>Zbn E fun E=>Zbu G (Q (.agg [.str D,.str E]) C)) (Zah pg Zbc [.ptr a0,.int .i64 (((List.length x2:Nat):Int))] F fun C D=>
 Zck .i64 C fun C=>(0≤(C:Int)∧(C:Int)≤IntKind.wrap .i64 (C + 1)∧(IntKind.wrap .i64 (C + 1):Int)≤(List.length x2:Nat))∧(List.length ([108,40]) + List.length (sub x2 C (IntKind.wrap .i64 (C + 1)))≤9223372036854775807∧(List.length (([108,40]) ++ (sub x2 C (IntKind.wrap .i64 (C + 1)))) + List.length [41]≤9223372036854775807∧(Zco (D ++ [.cells Zbg [.str (sub x2 C (IntKind.wrap .i64 (C + 1))),.str (sub x2 C (IntKind.wrap .i64 (C + 1))),.str (sub x2 C (IntKind.wrap .i64 (C + 1))),.str ((([108,40]) ++ (sub x2 C (IntKind.wrap .i64 (C + 1)))) ++ [41]),.str (sub x2 C (IntKind.wrap .i64 (C + 1)))] false]) fun C=>Zah pg Zce [.ptr a0,.slice (D.length,0) 5 5 true] C fun C D=>
 Zbn C fun C=>Zbx (Zbb D (.ptr (A.length,0)) [.str B,.str C]) fun B=>Zcb (Zan B (.ptr (A.length,0)) 2) fun A=>Zag A fun A C=>Zbn A fun A=>Zag C fun C D=>Zbn C fun C=>Zbu D (Q (.agg [.str A,.str C]) B))))))):Zah pg Zgg [.ptr a0,.agg [.slice a1x0 n1x0 c1x0 e1x0,.slice a1x1 n1x1 c1x1 e1x1],.str x2] h Q:=
 Zah.of_body kp (c:=cod fn) (fn:=fn) Go.Proofs.Tryz.func184 (by kernel_rfl) (by kernel_rfl) (Nat.le_of_ble_eq_true (by kernel_rfl))
  (cast (by kernel_rfl) ht)
end Zoj
end Go.Sim

set_option maxRecDepth 100000
set_option maxHeartbeats 0
set_option linter.unusedVariables false
namespace Go.Sim
open Go Go.RowKit
namespace Zcn
noncomputable abbrev fn:Func:=Go.Proofs.Tryz.f181
def kp:Zcu:=[(3000004,[4,2,5]),(1000004,[2,4,5,21,22,23]),(2000008,[5,8,23,22,21,4,2]),(4000009,[5,8,23,22,21,4,2]),(4000010,[23,22,21,5,4,2]),(3000012,[5,2,3]),(1000012,[2,5,50,51,52])]
noncomputable def C (p:List Nat):Code:=(cod fn).sub p
def KR (Q:QT):KT:=Zfi pg fn.results.toList Q
abbrev T4:=Nat→Nat→Pt→Nat→Nat→Bool→Nat→Nat→Pt→Nat→Nat→Bool→Int→Int→Zaa→Prop
def E4 (R4:T4) (env:Env) (h:Zaa):Prop:=Zci 2 env fun v env=>Zfc v fun a=>Zbi a fun i2 o2=>Zci 4 env fun v env=>xSl v fun a4 n4 c4 e4=>Zci 5 env fun v env=>Zfc v fun a=>Zbi a fun i5 o5=>Zci 21 env fun v env=>xSl v fun a21 n21 c21 e21=>Zci 22 env fun v env=>Zez .i64 v fun x22=>Zci 23 env fun v env=>Zez .i64 v fun x23=>Zky env (R4 i2 o2 a4 n4 c4 e4 i5 o5 a21 n21 c21 e21 x22 x23 h)
theorem Zlb {R4:T4} {env:Env} {h:Zaa} (hi:E4 R4 env h):∃ i2,∃ o2,∃ a4,∃ n4,∃ c4,∃ e4,∃ i5,∃ o5,∃ a21,∃ n21,∃ c21,∃ e21,∃ x22,∃ x23,env=[(2,.ptr (i2,o2)),(4,.slice a4 n4 c4 e4),(5,.ptr (i5,o5)),(21,.slice a21 n21 c21 e21),(22,.int .i64 x22),(23,.int .i64 x23)]∧R4 i2 o2 a4 n4 c4 e4 i5 o5 a21 n21 c21 e21 x22 x23 h:=by
 unfold E4 at hi
 have hi0:=hi
 clear hi
 obtain ⟨_,_,rfl,hi1⟩:=Zal hi0
 obtain ⟨a,rfl,hi2⟩:=Zbo hi1
 obtain ⟨i2,o2,rfl,hi3⟩:=Zbp hi2
 obtain ⟨_,_,rfl,hi4⟩:=Zal hi3
 obtain ⟨a4,n4,c4,e4,rfl,hi5⟩:=Zcp hi4
 obtain ⟨_,_,rfl,hi6⟩:=Zal hi5
 obtain ⟨a,rfl,hi7⟩:=Zbo hi6
 obtain ⟨i5,o5,rfl,hi8⟩:=Zbp hi7
 obtain ⟨_,_,rfl,hi9⟩:=Zal hi8
 obtain ⟨a21,n21,c21,e21,rfl,hi10⟩:=Zcp hi9
 obtain ⟨_,_,rfl,hi11⟩:=Zal hi10
 obtain ⟨x22,rfl,hi12⟩:=Zaz hi11
 obtain ⟨_,_,rfl,hi13⟩:=Zal hi12
 obtain ⟨x23,rfl,hi14⟩:=Zaz hi13
 obtain ⟨rfl,hi15⟩:=Zca hi14
 have hi:=hi15
 exact ⟨i2,o2,a4,n4,c4,e4,i5,o5,a21,n21,c21,e21,x22,x23,rfl,hi⟩
abbrev T12:=Nat→Nat→Nat→Nat→Pt→Nat→Nat→Bool→Int→Int→Zaa→Prop
def E12 (R12:T12) (env:Env) (h:Zaa):Prop:=Zci 2 env fun v env=>Zfc v fun a=>Zbi a fun i2 o2=>Zci 5 env fun v env=>Zfc v fun a=>Zbi a fun i5 o5=>Zci 50 env fun v env=>xSl v fun a50 n50 c50 e50=>Zci 51 env fun v env=>Zez .i64 v fun x51=>Zci 52 env fun v env=>Zez .i64 v fun x52=>Zky env (R12 i2 o2 i5 o5 a50 n50 c50 e50 x51 x52 h)
theorem Zqu {R12:T12} {env:Env} {h:Zaa} (hi:E12 R12 env h):∃ i2,∃ o2,∃ i5,∃ o5,∃ a50,∃ n50,∃ c50,∃ e50,∃ x51,∃ x52,env=[(2,.ptr (i2,o2)),(5,.ptr (i5,o5)),(50,.slice a50 n50 c50 e50),(51,.int .i64 x51),(52,.int .i64 x52)]∧R12 i2 o2 i5 o5 a50 n50 c50 e50 x51 x52 h:=by
 unfold E12 at hi
 have hi0:=hi
 clear hi
 obtain ⟨_,_,rfl,hi1⟩:=Zal hi0
 obtain ⟨a,rfl,hi2⟩:=Zbo hi1
 obtain ⟨i2,o2,rfl,hi3⟩:=Zbp hi2
 obtain ⟨_,_,rfl,hi4⟩:=Zal hi3
 obtain ⟨a,rfl,hi5⟩:=Zbo hi4
 obtain ⟨i5,o5,rfl,hi6⟩:=Zbp hi5
 obtain ⟨_,_,rfl,hi7⟩:=Zal hi6
 obtain ⟨a50,n50,c50,e50,rfl,hi8⟩:=Zcp hi7
 obtain ⟨_,_,rfl,hi9⟩:=Zal hi8
 obtain ⟨x51,rfl,hi10⟩:=Zaz hi9
 obtain ⟨_,_,rfl,hi11⟩:=Zal hi10
 obtain ⟨x52,rfl,hi12⟩:=Zaz hi11
 obtain ⟨rfl,hi13⟩:=Zca hi12
 have hi:=hi13
 exact ⟨i2,o2,i5,o5,a50,n50,c50,e50,x51,x52,rfl,hi⟩
def K0 (Q:QT):KT:=andThen (fun env' h'=>(match kp.find 4000011 with | some ks=>Den pg fn.ntmps (C [1,1,1,1]) (env'.keep ks) h' (KR Q) | none=>den pg fn.ntmps kp (C [1,1,1,1]) env' h' (KR Q))) (KR Q)
def K1 (Q:QT):KT:=Zdg 0 (K0 Q)
def K2 (Q:QT):KT:=left kp 4 (K1 Q)
def K3 (Q:QT) (R4:T4):KT:=rnd ((kp.find 1000004).getD []) (E4 R4) (K2 Q)
def K4 (Q:QT) (R4:T4):KT:=andThen (fun env' h'=>(match kp.find 4000010 with | some ks=>Den pg fn.ntmps (C [1,1,1,0,1,0,0,1,1,1]) (env'.keep ks) h' (K3 Q R4) | none=>den pg fn.ntmps kp (C [1,1,1,0,1,0,0,1,1,1]) env' h' (K3 Q R4))) (K3 Q R4)
def K5 (Q:QT) (R4:T4):KT:=Zdg 1 (K4 Q R4)
def K6 (Q:QT):KT:=andThen (fun env' h'=>(match kp.find 4000019 with | some ks=>Den pg fn.ntmps (C [1,1,1,1,1]) (env'.keep ks) h' (KR Q) | none=>den pg fn.ntmps kp (C [1,1,1,1,1]) env' h' (KR Q))) (KR Q)
def K7 (Q:QT):KT:=Zdg 2 (K6 Q)
def K8 (Q:QT):KT:=left kp 12 (K7 Q)
def K9 (Q:QT) (R12:T12):KT:=rnd ((kp.find 1000012).getD []) (E12 R12) (K8 Q)
def L4 (Q:QT) (i2 o2:Nat) (a4:Pt) (n4 c4:Nat) (e4:Bool) (i5 o5:Nat) (a21:Pt) (n21 c21:Nat) (e21:Bool) (x22 x23:Int) (h:Zaa):Prop:=Zfb (Den pg fn.ntmps (C [1,1,1,0,1,0,0])) ((kp.find 1000004).getD []) (K2 Q) [(2,.ptr (i2,o2)),(4,.slice a4 n4 c4 e4),(5,.ptr (i5,o5)),(21,.slice a21 n21 c21 e21),(22,.int .i64 x22),(23,.int .i64 x23)] h
def J9 (Q:QT) (R4:T4) (i5 o5 i8 o8:Nat) (x23 x22:Int) (a21:Pt) (n21 c21:Nat) (e21:Bool) (a4:Pt) (n4 c4:Nat) (e4:Bool) (i2 o2:Nat) (h:Zaa):Prop:=Den pg fn.ntmps (C [1,1,1,0,1,0,0,1,1,0,0,1,1,1]) [(5,.ptr (i5,o5)),(8,.ptr (i8,o8)),(23,.int .i64 x23),(22,.int .i64 x22),(21,.slice a21 n21 c21 e21),(4,.slice a4 n4 c4 e4),(2,.ptr (i2,o2))] h (K5 Q R4)
def Ycw (Q:QT) (a4:Pt) (n4 c4:Nat) (e4:Bool) (i2 o2 i5 o5:Nat) (h:Zaa):Prop:=At (K1 Q) (.exit 0) [(4,.slice a4 n4 c4 e4),(2,.ptr (i2,o2)),(5,.ptr (i5,o5))] h
def J10 (Q:QT) (R4:T4) (x23 x22:Int) (a21:Pt) (n21 c21:Nat) (e21:Bool) (i5 o5:Nat) (a4:Pt) (n4 c4:Nat) (e4:Bool) (i2 o2:Nat) (h:Zaa):Prop:=Den pg fn.ntmps (C [1,1,1,0,1,0,0,1,1,1]) [(23,.int .i64 x23),(22,.int .i64 x22),(21,.slice a21 n21 c21 e21),(5,.ptr (i5,o5)),(4,.slice a4 n4 c4 e4),(2,.ptr (i2,o2))] h (K3 Q R4)
def L12 (Q:QT) (i2 o2 i5 o5:Nat) (a50:Pt) (n50 c50:Nat) (e50:Bool) (x51 x52:Int) (h:Zaa):Prop:=Zfb (Den pg fn.ntmps (C [1,1,1,1,0,1,0,0])) ((kp.find 1000012).getD []) (K8 Q) [(2,.ptr (i2,o2)),(5,.ptr (i5,o5)),(50,.slice a50 n50 c50 e50),(51,.int .i64 x51),(52,.int .i64 x52)] h
def Ytr (Q:QT) (i5 o5 i2 o2:Nat) (h:Zaa):Prop:=At (K7 Q) (.exit 2) [(5,.ptr (i5,o5)),(2,.ptr (i2,o2)),(3,.undef)] h
def L4t (Q:QT) (R4:T4) (i2 o2:Nat) (a4:Pt) (n4 c4:Nat) (e4:Bool) (i5 o5:Nat) (a21:Pt) (n21 c21:Nat) (e21:Bool) (x22 x23:Int) (h:Zaa):Prop:=
 bcase (decide ((x23:Int) < x22)) ((0≤(x23:Int)∧(x23:Int) < (n21:Nat))∧(Zbi a21 fun A B=>Zbn (Zai h (.ptr (A,B + (Int.toNat x23) * 1))) fun A=>Zco (h ++ [.cells Zbh [.str [],.str []] false]) fun B=>Zbx (Zbb B (.ptr (h.length,0)) [.str A,.str []]) fun B=>bcase (decide (((((List.length A:Nat):Int)):Int) > 2)) (Zjs A 1 fun C=>bcase ((((C:Nat):Int):Int) == 60) ((0≤(0:Int)∧(0:Int)≤1∧(1:Int)≤(List.length A:Nat))∧((0≤(2:Int)∧(2:Int)≤(List.length A:Int)∧((List.length A:Int):Int)≤(List.length A:Nat))∧(Zbx (Zbb B (.ptr (h.length,0)) [.str (sub A 0 1),.str (sub A 2 ((List.length A:Int)))]) fun A=>J9 Q R4 i5 o5 h.length 0 x23 x22 a21 n21 c21 e21 a4 n4 c4 e4 i2 o2 A))) (J9 Q R4 i5 o5 h.length 0 x23 x22 a21 n21 c21 e21 a4 n4 c4 e4 i2 o2 B)) (J9 Q R4 i5 o5 h.length 0 x23 x22 a21 n21 c21 e21 a4 n4 c4 e4 i2 o2 B))) (Ycw Q a4 n4 c4 e4 i2 o2 i5 o5 h)
theorem Zxe (Q:QT) (R4:T4) (i2 o2:Nat) (a4:Pt) (n4 c4:Nat) (e4:Bool) (i5 o5:Nat) (a21:Pt) (n21 c21:Nat) (e21:Bool) (x22 x23:Int) (h:Zaa) (ht:L4t Q R4 i2 o2 a4 n4 c4 e4 i5 o5 a21 n21 c21 e21 x22 x23 h):Den pg fn.ntmps (C [1,1,1,0,1,0,0]) [(2,.ptr (i2,o2)),(4,.slice a4 n4 c4 e4),(5,.ptr (i5,o5)),(21,.slice a21 n21 c21 e21),(22,.int .i64 x22),(23,.int .i64 x23)] h (K3 Q R4):=
 Zbf (kp:=kp) (cast (by kernel_rfl) ht)
theorem L4ind (Q:QT) (i2 o2:Nat) (a4:Pt) (n4 c4:Nat) (e4:Bool) (i5 o5:Nat) (a21:Pt) (n21 c21:Nat) (e21:Bool) (x22:Int) {G:Type} (J:G→Int→Zaa→Prop) (m:G→Nat)
 (hr:∀ (g:G) (x23:Int) (h:Zaa),J g x23 h→∀ (R4:T4),(∀ g' (x23:Int) (h:Zaa),m g' < m g→J g' x23 h→R4 i2 o2 a4 n4 c4 e4 i5 o5 a21 n21 c21 e21 x22 x23 h)→L4t Q R4 i2 o2 a4 n4 c4 e4 i5 o5 a21 n21 c21 e21 x22 x23 h)
 (g:G) (x23:Int) (h:Zaa) (hj:J g x23 h):L4 Q i2 o2 a4 n4 c4 e4 i5 o5 a21 n21 c21 e21 x22 x23 h:=by
 let P:=fun (K:Int→Zaa→Prop) i2' o2' a4' n4' c4' e4' i5' o5' a21' n21' c21' e21' x22' x23 h=>i2=i2'∧o2=o2'∧a4=a4'∧n4=n4'∧c4=c4'∧e4=e4'∧i5=i5'∧o5=o5'∧a21=a21'∧n21=n21'∧c21=c21'∧e21=e21'∧x22=x22'∧K x23 h
 refine Zfb.inv2 (fun g=>E4 (P (J g))) (fun g=>E4 (P fun x23 h=>∃ g',m g' < m g∧J g' x23 h)) m ?_ ?_ g ⟨rfl,rfl,rfl,rfl,rfl,rfl,rfl,rfl,rfl,rfl,rfl,rfl,rfl,hj⟩
 ·intro g env h hi
  obtain ⟨i2',o2',a4',n4',c4',e4',i5',o5',a21',n21',c21',e21',x22',x23,rfl,rfl,rfl,rfl,rfl,rfl,rfl,rfl,rfl,rfl,rfl,rfl,rfl,rfl,hj⟩:=Zlb hi
  exact Zxe Q _ i2 o2 a4 n4 c4 e4 i5 o5 a21 n21 c21 e21 x22 x23 h (hr g x23 h hj (P fun x23 h=>∃ g',m g' < m g∧J g' x23 h) fun g' x23 h hlt hj=>⟨rfl,rfl,rfl,rfl,rfl,rfl,rfl,rfl,rfl,rfl,rfl,rfl,rfl,g',hlt,hj⟩)
 ·intro g env h hi
  obtain ⟨i2',o2',a4',n4',c4',e4',i5',o5',a21',n21',c21',e21',x22',x23,rfl,rfl,rfl,rfl,rfl,rfl,rfl,rfl,rfl,rfl,rfl,rfl,rfl,rfl,g',hlt,hj⟩:=Zlb hi
  exact ⟨g',hlt,rfl,rfl,rfl,rfl,rfl,rfl,rfl,rfl,rfl,rfl,rfl,rfl,rfl,hj⟩
theorem J9i (Q:QT) (R4:T4) (i5 o5 i8 o8:Nat) (x23 x22:Int) (a21:Pt) (n21 c21:Nat) (e21:Bool) (a4:Pt) (n4 c4:Nat) (e4:Bool) (i2 o2:Nat) (h:Zaa) (ht :
 xSl (Zai h (.ptr (i5,o5 + 0))) fun A B C D=>Zcb (Zan h (.ptr (i8,o8)) 2) fun E=>Zag E fun E F=>Zbn E fun E=>Zag F fun F G=>Zbn F fun F=>Zbu G (Zco (h ++ [.cells Zbh [.str E,.str F] false]) fun E=>Zcz pg Zip E (.slice A B C D) (.slice (h.length,0) 1 1 true) fun A B=>xSl A fun A C D E=>Zbx (Zbb B (.ptr (i5,o5 + 0)) [.slice A C D E]) fun A=>J10 Q R4 x23 x22 a21 n21 c21 e21 i5 o5 a4 n4 c4 e4 i2 o2 A)):J9 Q R4 i5 o5 i8 o8 x23 x22 a21 n21 c21 e21 a4 n4 c4 e4 i2 o2 h:=
 Zbf (kp:=kp) (cast (by kernel_rfl) ht)
theorem A4x0i (Q:QT) (a4:Pt) (n4 c4:Nat) (e4:Bool) (i2 o2 i5 o5:Nat) (h:Zaa) (ht :
 Zkm a4 n4 c4 e4 1 (some (.int .i64 1)) none none fun A=>xSl A fun A B C D=>L12 Q i2 o2 i5 o5 A B C D (((B:Nat):Int)) 0 h):Ycw Q a4 n4 c4 e4 i2 o2 i5 o5 h:=
 At.mk (cast (by kernel_rfl) ht)
theorem J10i (Q:QT) (R4:T4) (x23 x22:Int) (a21:Pt) (n21 c21:Nat) (e21:Bool) (i5 o5:Nat) (a4:Pt) (n4 c4:Nat) (e4:Bool) (i2 o2:Nat) (h:Zaa) (ht :
 R4 i2 o2 a4 n4 c4 e4 i5 o5 a21 n21 c21 e21 x22 (IntKind.wrap .i64 (x23 + 1)) h):J10 Q R4 x23 x22 a21 n21 c21 e21 i5 o5 a4 n4 c4 e4 i2 o2 h:=
 Zbf (kp:=kp) (cast (by kernel_rfl) ht)
def L12t (Q:QT) (R12:T12) (i2 o2 i5 o5:Nat) (a50:Pt) (n50 c50:Nat) (e50:Bool) (x51 x52:Int) (h:Zaa):Prop:=
 bcase (decide ((x52:Int) < x51)) ((0≤(x52:Int)∧(x52:Int) < (n50:Nat))∧(Zbi a50 fun A B=>Zbn (Zai h (.ptr (A,B + (Int.toNat x52) * 1))) fun A=>Zah pg Zik [.str A] h fun A B=>
 Zru A fun A=>Zag A fun A C=>Zmv A fun A=>Zag A fun A D=>Zbn A fun A=>Zag D fun D E=>Zbn D fun D=>Zag E fun E F=>xSl E fun E G H I=>Zbu F (Zag C fun C F=>Zbr C fun C=>Zbu F (Zco (B ++ [.cells Zac [.str [],.str [],.slice none 0 0 true] false]) fun F=>Zbx (Zbb F (.ptr (B.length,0)) [.str A,.str D,.slice E G H I]) fun A=>bcase (!C) (Zbx (Zbb A (.ptr (i2,o2)) [.slice none 0 0 true,.slice none 0 0 true]) fun C=>Zcb (Zan C (.ptr (i2,o2)) 2) fun D=>Zag D fun D E=>xSl D fun D F G H=>Zag E fun E I=>xSl E fun E J K L=>Zbu I (Q (.tup [.agg [.slice D F G H,.slice E J K L],.bool false]) C)) (xSl (Zai A (.ptr (i5,o5 + 1))) fun C D E F=>Zcb (Zan A (.ptr (B.length,0)) 3) fun B=>Zag B fun B G=>Zbn B fun B=>Zag G fun G H=>Zbn G fun G=>Zag H fun H I=>xSl H fun H J K L=>Zbu I (Zco (A ++ [.cells Zac [.str B,.str G,.slice H J K L] false]) fun B=>Zcz pg Zen B (.slice C D E F) (.slice (A.length,0) 1 1 true) fun A B=>xSl A fun A C D E=>Zbx (Zbb B (.ptr (i5,o5 + 1)) [.slice A C D E]) fun A=>R12 i2 o2 i5 o5 a50 n50 c50 e50 x51 (IntKind.wrap .i64 (x52 + 1)) A)))))) (Ytr Q i5 o5 i2 o2 h)
theorem Ydd (Q:QT) (R12:T12) (i2 o2 i5 o5:Nat) (a50:Pt) (n50 c50:Nat) (e50:Bool) (x51 x52:Int) (h:Zaa) (ht:L12t Q R12 i2 o2 i5 o5 a50 n50 c50 e50 x51 x52 h):Den pg fn.ntmps (C [1,1,1,1,0,1,0,0]) [(2,.ptr (i2,o2)),(5,.ptr (i5,o5)),(50,.slice a50 n50 c50 e50),(51,.int .i64 x51),(52,.int .i64 x52)] h (K9 Q R12):=
 Zbf (kp:=kp) (cast (by kernel_rfl) ht)
theorem L12ind (Q:QT) (i2 o2 i5 o5:Nat) (a50:Pt) (n50 c50:Nat) (e50:Bool) (x51:Int) {G:Type} (J:G→Int→Zaa→Prop) (m:G→Nat)
 (hr:∀ (g:G) (x52:Int) (h:Zaa),J g x52 h→∀ (R12:T12),(∀ g' (x52:Int) (h:Zaa),m g' < m g→J g' x52 h→R12 i2 o2 i5 o5 a50 n50 c50 e50 x51 x52 h)→L12t Q R12 i2 o2 i5 o5 a50 n50 c50 e50 x51 x52 h)
 (g:G) (x52:Int) (h:Zaa) (hj:J g x52 h):L12 Q i2 o2 i5 o5 a50 n50 c50 e50 x51 x52 h:=by
 let P:=fun (K:Int→Zaa→Prop) i2' o2' i5' o5' a50' n50' c50' e50' x51' x52 h=>i2=i2'∧o2=o2'∧i5=i5'∧o5=o5'∧a50=a50'∧n50=n50'∧c50=c50'∧e50=e50'∧x51=x51'∧K x52 h
 refine Zfb.inv2 (fun g=>E12 (P (J g))) (fun g=>E12 (P fun x52 h=>∃ g',m g' < m g∧J g' x52 h)) m ?_ ?_ g ⟨rfl,rfl,rfl,rfl,rfl,rfl,rfl,rfl,rfl,hj⟩
 ·intro g env h hi
  obtain ⟨i2',o2',i5',o5',a50',n50',c50',e50',x51',x52,rfl,rfl,rfl,rfl,rfl,rfl,rfl,rfl,rfl,rfl,hj⟩:=Zqu hi
  exact Ydd Q _ i2 o2 i5 o5 a50 n50 c50 e50 x51 x52 h (hr g x52 h hj (P fun x52 h=>∃ g',m g' < m g∧J g' x52 h) fun g' x52 h hlt hj=>⟨rfl,rfl,rfl,rfl,rfl,rfl,rfl,rfl,rfl,g',hlt,hj⟩)
 ·intro g env h hi
  obtain ⟨i2',o2',i5',o5',a50',n50',c50',e50',x51',x52,rfl,rfl,rfl,rfl,rfl,rfl,rfl,rfl,rfl,rfl,g',hlt,hj⟩:=Zqu hi
  exact ⟨g',hlt,rfl,rfl,rfl,rfl,rfl,rfl,rfl,rfl,rfl,hj⟩
theorem A12x2i (Q:QT) (i5 o5 i2 o2:Nat) (h:Zaa) (ht :
 Zcb (Zan h (.ptr (i5,o5)) 2) fun A=>Zag A fun A B=>xSl A fun A C D E=>Zag B fun B F=>xSl B fun B G H I=>Zbu F (Zah pg Zie [.agg [.slice A C D E,.slice B G H I]] h fun A B=>
 Zbr A fun A=>bcase (!A) (Zbx (Zbb B (.ptr (i2,o2)) [.slice none 0 0 true,.slice none 0 0 true]) fun A=>Zcb (Zan A (.ptr (i2,o2)) 2) fun C=>Zag C fun C D=>xSl C fun C E F G=>Zag D fun D H=>xSl D fun D I J K=>Zbu H (Q (.tup [.agg [.slice C E F G,.slice D I J K],.bool false]) A)) (Zcb (Zan B (.ptr (i5,o5)) 2) fun A=>Zag A fun A C=>xSl A fun A D E F=>Zag C fun C G=>xSl C fun C H I J=>Zbu G (Zbx (Zbb B (.ptr (i2,o2)) [.slice A D E F,.slice C H I J]) fun A=>Zcb (Zan A (.ptr (i2,o2)) 2) fun B=>Zag B fun B C=>xSl B fun B D E F=>Zag C fun C G=>xSl C fun C H I J=>Zbu G (Q (.tup [.agg [.slice B D E F,.slice C H I J],.bool true]) A))))):Ytr Q i5 o5 i2 o2 h:=
 At.mk (cast (by kernel_rfl) ht)
theorem call (x0:List Nat) (h:Zaa) (Q:QT) (ht :
 Zco (h ++ [.cells Zad [.slice none 0 0 true,.slice none 0 0 true] false]) fun A=>Zah pg Zgq [.str x0,.int .u8 59] A fun A B=>
 xSl A fun A C D E=>Zco (B ++ [.cells Zbh [] false]) fun F=>Zco (F ++ [.cells Zac [] false]) fun G=>Zco (G ++ [.cells Zad [.slice none 0 0 true,.slice none 0 0 true] false]) fun H=>Zbx (Zbb H (.ptr (G.length,0)) [.slice (B.length,0) 0 0 true,.slice (F.length,0) 0 0 true]) fun B=>(0≤(0:Int)∧(0:Int) < (C:Nat))∧(Zbi A fun F H=>Zbn (Zai B (.ptr (F,H + (Int.toNat 0) * 1))) fun F=>Zah pg Zgq [.str F,.int .u8 32] B fun B F=>
 xSl B fun B H I J=>L4 Q h.length 0 A C D E G.length 0 B H I J (((H:Nat):Int)) 0 F)):Zah pg Zhe [.str x0] h Q:=
 Zah.of_body kp (c:=cod fn) (fn:=fn) Go.Proofs.Tryz.func181 (by kernel_rfl) (by kernel_rfl) (Nat.le_of_ble_eq_true (by kernel_rfl))
  (cast (by kernel_rfl) ht)
end Zcn
end Go.Sim

set_option maxRecDepth 100000
set_option maxHeartbeats 0
set_option linter.unusedVariables false
namespace Go.Sim
open Go Go.RowKit
namespace Zdv
noncomputable abbrev fn:Func:=Go.Proofs.Tryz.f194
def kp:Zcu:=[(4000006,[6,5,4,2]),(3000009,[5,2,3]),(1000009,[2,5,39,40,41]),(4000016,[5,2])]
noncomputable def C (p:List Nat):Code:=(cod fn).sub p
def KR (Q:QT):KT:=Zfi pg fn.results.toList Q
abbrev T9:=Nat→Nat→Nat→Nat→Pt→Nat→Nat→Bool→Int→Int→Zaa→Prop
def E9 (R9:T9) (env:Env) (h:Zaa):Prop:=Zci 2 env fun v env=>Zfc v fun a=>Zbi a fun i2 o2=>Zci 5 env fun v env=>Zfc v fun a=>Zbi a fun i5 o5=>Zci 39 env fun v env=>xSl v fun a39 n39 c39 e39=>Zci 40 env fun v env=>Zez .i64 v fun x40=>Zci 41 env fun v env=>Zez .i64 v fun x41=>Zky env (R9 i2 o2 i5 o5 a39 n39 c39 e39 x40 x41 h)
theorem Ycj {R9:T9} {env:Env} {h:Zaa} (hi:E9 R9 env h):∃ i2,∃ o2,∃ i5,∃ o5,∃ a39,∃ n39,∃ c39,∃ e39,∃ x40,∃ x41,env=[(2,.ptr (i2,o2)),(5,.ptr (i5,o5)),(39,.slice a39 n39 c39 e39),(40,.int .i64 x40),(41,.int .i64 x41)]∧R9 i2 o2 i5 o5 a39 n39 c39 e39 x40 x41 h:=by
 unfold E9 at hi
 have hi0:=hi
 clear hi
 obtain ⟨_,_,rfl,hi1⟩:=Zal hi0
 obtain ⟨a,rfl,hi2⟩:=Zbo hi1
 obtain ⟨i2,o2,rfl,hi3⟩:=Zbp hi2
 obtain ⟨_,_,rfl,hi4⟩:=Zal hi3
 obtain ⟨a,rfl,hi5⟩:=Zbo hi4
 obtain ⟨i5,o5,rfl,hi6⟩:=Zbp hi5
 obtain ⟨_,_,rfl,hi7⟩:=Zal hi6
 obtain ⟨a39,n39,c39,e39,rfl,hi8⟩:=Zcp hi7
 obtain ⟨_,_,rfl,hi9⟩:=Zal hi8
 obtain ⟨x40,rfl,hi10⟩:=Zaz hi9
 obtain ⟨_,_,rfl,hi11⟩:=Zal hi10
 obtain ⟨x41,rfl,hi12⟩:=Zaz hi11
 obtain ⟨rfl,hi13⟩:=Zca hi12
 have hi:=hi13
 exact ⟨i2,o2,i5,o5,a39,n39,c39,e39,x40,x41,rfl,hi⟩
def K0 (Q:QT):KT:=andThen (fun env' h'=>(match kp.find 4000016 with | some ks=>Den pg fn.ntmps (C [1,1,1,1,1,1,1]) (env'.keep ks) h' (KR Q) | none=>den pg fn.ntmps kp (C [1,1,1,1,1,1,1]) env' h' (KR Q))) (KR Q)
def K1 (Q:QT):KT:=Zdg 0 (K0 Q)
def K2 (Q:QT):KT:=left kp 9 (K1 Q)
def K3 (Q:QT) (R9:T9):KT:=rnd ((kp.find 1000009).getD []) (E9 R9) (K2 Q)
def J6 (Q:QT) (i6 o6 i5 o5:Nat) (a4:Pt) (n4 c4:Nat) (e4:Bool) (i2 o2:Nat) (h:Zaa):Prop:=Den pg fn.ntmps (C [1,1,1,1,1]) [(6,.ptr (i6,o6)),(5,.ptr (i5,o5)),(4,.slice a4 n4 c4 e4),(2,.ptr (i2,o2))] h (KR Q)
def L9 (Q:QT) (i2 o2 i5 o5:Nat) (a39:Pt) (n39 c39:Nat) (e39:Bool) (x40 x41:Int) (h:Zaa):Prop:=Zfb (Den pg fn.ntmps (C [1,1,1,1,1,1,0,1,0,1,0,0])) ((kp.find 1000009).getD []) (K2 Q) [(2,.ptr (i2,o2)),(5,.ptr (i5,o5)),(39,.slice a39 n39 c39 e39),(40,.int .i64 x40),(41,.int .i64 x41)] h
def J16 (Q:QT) (i5 o5 i2 o2:Nat) (h:Zaa):Prop:=Den pg fn.ntmps (C [1,1,1,1,1,1,1]) [(5,.ptr (i5,o5)),(2,.ptr (i2,o2))] h (KR Q)
def Yvt (Q:QT) (i5 o5 i2 o2:Nat) (h:Zaa):Prop:=At (K1 Q) (.exit 0) [(5,.ptr (i5,o5)),(2,.ptr (i2,o2)),(3,.undef)] h
theorem J6i (Q:QT) (i6 o6 i5 o5:Nat) (a4:Pt) (n4 c4:Nat) (e4:Bool) (i2 o2:Nat) (h:Zaa) (ht :
 Zcb (Zan h (.ptr (i6,o6)) 2) fun A=>Zag A fun A B=>Zbn A fun A=>Zag B fun B C=>Zbn B fun B=>Zbu C (Zbx (Zbb h (.ptr (i5,o5 + 0)) [.str A,.str B]) fun A=>bcase ((((n4:Nat):Int):Int) == 2) ((0≤(1:Int)∧(1:Int) < (n4:Nat))∧(Zbi a4 fun B C=>Zbn (Zai A (.ptr (B,C + (Int.toNat 1) * 1))) fun B=>Zah pg Zgq [.str B,.int .u8 38] A fun B C=>
 xSl B fun B D E F=>L9 Q i2 o2 i5 o5 B D E F (((D:Nat):Int)) 0 C)) (J16 Q i5 o5 i2 o2 A))):J6 Q i6 o6 i5 o5 a4 n4 c4 e4 i2 o2 h:=
 Zbf (kp:=kp) (cast (by kernel_rfl) ht)
def L9t (Q:QT) (R9:T9) (i2 o2 i5 o5:Nat) (a39:Pt) (n39 c39:Nat) (e39:Bool) (x40 x41:Int) (h:Zaa):Prop:=
 bcase (decide ((x41:Int) < x40)) ((0≤(x41:Int)∧(x41:Int) < (n39:Nat))∧(Zbi a39 fun A B=>Zbn (Zai h (.ptr (A,B + (Int.toNat x41) * 1))) fun A=>Zah pg Ziu [.str A] h fun A B=>
 Zru A fun A=>Zag A fun A C=>Zmv A fun A=>Zag A fun A D=>Zbn A fun A=>Zag D fun D E=>Zbn D fun D=>Zbu E (Zag C fun C E=>Zbr C fun C=>Zbu E (Zco (B ++ [.cells Zae [.str [],.str []] false]) fun E=>Zbx (Zbb E (.ptr (B.length,0)) [.str A,.str D]) fun A=>bcase (!C) (Zbx (Zbb A (.ptr (i2,o2)) [.str [],.str [],.slice none 0 0 true]) fun C=>Zcb (Zan C (.ptr (i2,o2)) 3) fun D=>Zag D fun D E=>Zbn D fun D=>Zag E fun E F=>Zbn E fun E=>Zag F fun F G=>xSl F fun F H I J=>Zbu G (Q (.tup [.agg [.str D,.str E,.slice F H I J],.bool false]) C)) (xSl (Zai A (.ptr (i5,o5 + 2))) fun C D E F=>Zcb (Zan A (.ptr (B.length,0)) 2) fun B=>Zag B fun B G=>Zbn B fun B=>Zag G fun G H=>Zbn G fun G=>Zbu H (Zco (A ++ [.cells Zae [.str B,.str G] false]) fun B=>Zcz pg Zhw B (.slice C D E F) (.slice (A.length,0) 1 1 true) fun A B=>xSl A fun A C D E=>Zbx (Zbb B (.ptr (i5,o5 + 2)) [.slice A C D E]) fun A=>R9 i2 o2 i5 o5 a39 n39 c39 e39 x40 (IntKind.wrap .i64 (x41 + 1)) A)))))) (Yvt Q i5 o5 i2 o2 h)
theorem Ysh (Q:QT) (R9:T9) (i2 o2 i5 o5:Nat) (a39:Pt) (n39 c39:Nat) (e39:Bool) (x40 x41:Int) (h:Zaa) (ht:L9t Q R9 i2 o2 i5 o5 a39 n39 c39 e39 x40 x41 h):Den pg fn.ntmps (C [1,1,1,1,1,1,0,1,0,1,0,0]) [(2,.ptr (i2,o2)),(5,.ptr (i5,o5)),(39,.slice a39 n39 c39 e39),(40,.int .i64 x40),(41,.int .i64 x41)] h (K3 Q R9):=
 Zbf (kp:=kp) (cast (by kernel_rfl) ht)
theorem L9ind (Q:QT) (i2 o2 i5 o5:Nat) (a39:Pt) (n39 c39:Nat) (e39:Bool) (x40:Int) {G:Type} (J:G→Int→Zaa→Prop) (m:G→Nat)
 (hr:∀ (g:G) (x41:Int) (h:Zaa),J g x41 h→∀ (R9:T9),(∀ g' (x41:Int) (h:Zaa),m g' < m g→J g' x41 h→R9 i2 o2 i5 o5 a39 n39 c39 e39 x40 x41 h)→L9t Q R9 i2 o2 i5 o5 a39 n39 c39 e39 x40 x41 h)
 (g:G) (x41:Int) (h:Zaa) (hj:J g x41 h):L9 Q i2 o2 i5 o5 a39 n39 c39 e39 x40 x41 h:=by
 let P:=fun (K:Int→Zaa→Prop) i2' o2' i5' o5' a39' n39' c39' e39' x40' x41 h=>i2=i2'∧o2=o2'∧i5=i5'∧o5=o5'∧a39=a39'∧n39=n39'∧c39=c39'∧e39=e39'∧x40=x40'∧K x41 h
 refine Zfb.inv2 (fun g=>E9 (P (J g))) (fun g=>E9 (P fun x41 h=>∃ g',m g' < m g∧J g' x41 h)) m ?_ ?_ g ⟨rfl,rfl,rfl,rfl,rfl,rfl,rfl,rfl,rfl,hj⟩
 ·intro g env h hi
  obtain ⟨i2',o2',i5',o5',a39',n39',c39',e39',x40',x41,rfl,rfl,rfl,rfl,rfl,rfl,rfl,rfl,rfl,rfl,hj⟩:=Ycj hi
  exact Ysh Q _ i2 o2 i5 o5 a39 n39 c39 e39 x40 x41 h (hr g x41 h hj (P fun x41 h=>∃ g',m g' < m g∧J g' x41 h) fun g' x41 h hlt hj=>⟨rfl,rfl,rfl,rfl,rfl,rfl,rfl,rfl,rfl,g',hlt,hj⟩)
 ·intro g env h hi
  obtain ⟨i2',o2',i5',o5',a39',n39',c39',e39',x40',x41,rfl,rfl,rfl,rfl,rfl,rfl,rfl,rfl,rfl,rfl,g',hlt,hj⟩:=Ycj hi
  exact ⟨g',hlt,rfl,rfl,rfl,rfl,rfl,rfl,rfl,rfl,rfl,hj⟩
theorem J16i (Q:QT) (i5 o5 i2 o2:Nat) (h:Zaa) (ht :
 Zcb (Zan h (.ptr (i5,o5)) 3) fun A=>Zag A fun A B=>Zbn A fun A=>Zag B fun B C=>Zbn B fun B=>Zag C fun C D=>xSl C fun C E F G=>Zbu D (Zbx (Zbb h (.ptr (i2,o2)) [.str A,.str B,.slice C E F G]) fun A=>Zcb (Zan A (.ptr (i2,o2)) 3) fun B=>Zag B fun B C=>Zbn B fun B=>Zag C fun C D=>Zbn C fun C=>Zag D fun D E=>xSl D fun D F G H=>Zbu E (Q (.tup [.agg [.str B,.str C,.slice D F G H],.bool true]) A))):J16 Q i5 o5 i2 o2 h:=
 Zbf (kp:=kp) (cast (by kernel_rfl) ht)
theorem A9x0i (Q:QT) (i5 o5 i2 o2:Nat) (h:Zaa) (ht :
 J16 Q i5 o5 i2 o2 h):Yvt Q i5 o5 i2 o2 h:=
 At.mk (cast (by kernel_rfl) ht)
theorem call (x0:List Nat) (h:Zaa) (Q:QT) (ht :
 Zco (h ++ [.cells Zac [.str [],.str [],.slice none 0 0 true] false]) fun A=>Zah pg Zgq [.str x0,.int .u8 58] A fun A B=>
 xSl A fun A C D E=>Zco (B ++ [.cells Zae [] false]) fun F=>Zco (F ++ [.cells Zac [.str [],.str [],.slice none 0 0 true] false]) fun G=>Zbx (Zbb G (.ptr (F.length,0)) [.str [],.str [],.slice (B.length,0) 0 0 true]) fun B=>(0≤(0:Int)∧(0:Int) < (C:Nat))∧(Zbi A fun G H=>Zbn (Zai B (.ptr (G,H + (Int.toNat 0) * 1))) fun G=>Zah pg Ziu [.str G] B fun B G=>
 Zru B fun B=>Zag B fun B H=>Zmv B fun B=>Zag B fun B I=>Zbn B fun B=>Zag I fun I J=>Zbn I fun I=>Zbu J (Zag H fun H J=>Zbr H fun H=>Zbu J (Zco (G ++ [.cells Zae [.str [],.str []] false]) fun J=>Zbx (Zbb J (.ptr (G.length,0)) [.str B,.str I]) fun B=>bcase (!H) (Zbx (Zbb B (.ptr (h.length,0)) [.str [],.str [],.slice none 0 0 true]) fun H=>Zcb (Zan H (.ptr (h.length,0)) 3) fun I=>Zag I fun I J=>Zbn I fun I=>Zag J fun J K=>Zbn J fun J=>Zag K fun K L=>xSl K fun K M N O=>Zbu L (Q (.tup [.agg [.str I,.str J,.slice K M N O],.bool false]) H)) (bcase (decide (((((C:Nat):Int)):Int) > 2)) (Zbx (Zbb B (.ptr (h.length,0)) [.str [],.str [],.slice none 0 0 true]) fun H=>Zcb (Zan H (.ptr (h.length,0)) 3) fun I=>Zag I fun I J=>Zbn I fun I=>Zag J fun J K=>Zbn J fun J=>Zag K fun K L=>xSl K fun K M N O=>Zbu L (Q (.tup [.agg [.str I,.str J,.slice K M N O],.bool false]) H)) (J6 Q G.length 0 F.length 0 A C D E h.length 0 B)))))):Zah pg Zik [.str x0] h Q:=
 Zah.of_body kp (c:=cod fn) (fn:=fn) Go.Proofs.Tryz.func194 (by kernel_rfl) (by kernel_rfl) (Nat.le_of_ble_eq_true (by kernel_rfl))
  (cast (by kernel_rfl) ht)
end Zdv
end Go.Sim

set_option maxRecDepth 100000
set_option maxHeartbeats 0
set_option linter.unusedVariables false
namespace Go.Sim
open Go Go.RowKit
namespace Zlx
noncomputable abbrev fn:Func:=Go.Proofs.Tryz.f103
def kp:Zcu:=[(4000005,[0,1,2])]
noncomputable def C (p:List Nat):Code:=(cod fn).sub p
def KR (Q:QT):KT:=Zfi pg fn.results.toList Q
def J5 (Q:QT) (a0:Pt) (x1:Int) (x2:Bool) (h:Zaa):Prop:=Den pg fn.ntmps (C [1,1]) [(0,.ptr a0),(1,.int .i64 x1),(2,.bool x2)] h (KR Q)
theorem J5i (Q:QT) (a0:Pt) (x1:Int) (x2:Bool) (h:Zaa) (ht :
 Zah pg Zbc [.ptr a0,.int .i64 4] h fun A B=>
 Zck .i64 A fun A=>bcase ((A:Int) == 0) (Zah pg Zes [.ptr a0,.int .i64 (IntKind.wrap .i64 (x1 - 1)),.bool x2] B fun C D=>
 Zbn C fun C=>List.length ([112,40]) + List.length C≤9223372036854775807∧(List.length (([112,40]) ++ C) + List.length [44]≤9223372036854775807∧(Zah pg Zes [.ptr a0,.int .i64 (IntKind.wrap .i64 (x1 - 1)),.bool x2] D fun D E=>
 Zbn D fun D=>List.length ((([112,40]) ++ C) ++ [44]) + List.length D≤9223372036854775807∧(List.length (((([112,40]) ++ C) ++ [44]) ++ D) + List.length [41]≤9223372036854775807∧(Q (.str ((((([112,40]) ++ C) ++ [44]) ++ D) ++ [41])) E))))) (bcase ((A:Int) == 1) (Zah pg Zes [.ptr a0,.int .i64 (IntKind.wrap .i64 (x1 - 1)),.bool x2] B fun A C=>
 Zbn A fun A=>List.length ([109,40]) + List.length A≤9223372036854775807∧(List.length (([109,40]) ++ A) + List.length [41]≤9223372036854775807∧(Q (.str ((([109,40]) ++ A) ++ [41])) C))) (Zah pg Zes [.ptr a0,.int .i64 (IntKind.wrap .i64 (x1 - 1)),.bool x2] B fun A B=>
 Zbn A fun A=>List.length ([108,40]) + List.length A≤9223372036854775807∧(List.length (([108,40]) ++ A) + List.length [41]≤9223372036854775807∧(Q (.str ((([108,40]) ++ A) ++ [41])) B))))):J5 Q a0 x1 x2 h:=
 Zbf (kp:=kp) (cast (by kernel_rfl) ht)
theorem call (a0:Pt) (x1:Int) (x2:Bool) (h:Zaa) (Q:QT) (ht :
 bcase ((x1:Int) == 0) (bcase x2 (Zco (h ++ [.cells Zbg [.str [105],.str [98],.str [105],.str [117]] false]) fun A=>Zah pg Zce [.ptr a0,.slice (h.length,0) 4 4 true] A fun A B=>
 Zbn A fun A=>Q (.str A) B) (Zco (h ++ [.cells Zbg [.str [120],.str [105],.str [121],.str [98],.str [120],.str [122],.str [117]] false]) fun A=>Zah pg Zce [.ptr a0,.slice (h.length,0) 7 7 true] A fun A B=>
 Zbn A fun A=>Q (.str A) B)) (Zah pg Zbc [.ptr a0,.int .i64 3] h fun A B=>
 Zck .i64 A fun A=>bcase ((A:Int) == 0) (bcase x2 (Zco (B ++ [.cells Zbg [.str [105],.str [98],.str [105],.str [117]] false]) fun A=>Zah pg Zce [.ptr a0,.slice (B.length,0) 4 4 true] A fun A C=>
 Zbn A fun A=>Q (.str A) C) (Zco (B ++ [.cells Zbg [.str [120],.str [105],.str [121],.str [98],.str [120],.str [122],.str [117]] false]) fun A=>Zah pg Zce [.ptr a0,.slice (B.length,0) 7 7 true] A fun A C=>
 Zbn A fun A=>Q (.str A) C)) (J5 Q a0 x1 x2 B))):Zah pg Zes [.ptr a0,.int .i64 x1,.bool x2] h Q:=
 Zah.of_body kp (c:=cod fn) (fn:=fn) Go.Proofs.Tryz.func103 (by kernel_rfl) (by kernel_rfl) (Nat.le_of_ble_eq_true (by kernel_rfl))
  (cast (by kernel_rfl) ht)
end Zlx
namespace Zvd
noncomputable abbrev fn:Func:=Go.Proofs.Tryz.f69
def kp:Zcu:=[(2000005,[2])]
noncomputable def C (p:List Nat):Code:=(cod fn).sub p
def KR (Q:QT):KT:=Zfi pg fn.results.toList Q
theorem call (a0:Pt) (h:Zaa) (Q:QT) (ht :
 Zah pg Zbc [.ptr a0,.int .i64 4] h fun A B=>
 Zck .i64 A fun A=>Zah pg Zbc [.ptr a0,.int .i64 2] B fun B C=>
 Zck .i64 B fun B=>Zah pg Zes [.ptr a0,.int .i64 A,.bool ((B:Int) == 0)] C fun A B=>
 Zbn A fun A=>Zah pg Zbc [.ptr a0,.int .i64 16] B fun B C=>
 Zck .i64 B fun B=>bcase (decide ((B:Int) > 0)) (Q (.str A) C) (Zah pg Zbc [.ptr a0,.int .i64 (((List.length A:Nat):Int))] C fun B C=>
 Zck .i64 B fun B=>(0≤(0:Int)∧(0:Int)≤B∧(B:Int)≤(List.length A:Nat))∧(Zco (C ++ [.cells Zbg [.str [],.str [40],.str [41],.str [44],.str [105],.str [113],.str [88]] false]) fun D=>Zah pg Zce [.ptr a0,.slice (C.length,0) 7 7 true] D fun C D=>
 Zbn C fun C=>List.length (sub A 0 B) + List.length C≤9223372036854775807∧(Zah pg Zbc [.ptr a0,.int .i64 2] D fun D E=>
 Zck .i64 D fun D=>(0≤(IntKind.wrap .i64 (B + D):Int)∧(IntKind.wrap .i64 (B + D):Int)≤(List.length A:Int)∧((List.length A:Int):Int)≤(List.length A:Nat))∧(List.length ((sub A 0 B) ++ C) + List.length (sub A (IntKind.wrap .i64 (B + D)) ((List.length A:Int)))≤9223372036854775807∧(Q (.str (((sub A 0 B) ++ C) ++ (sub A (IntKind.wrap .i64 (B + D)) ((List.length A:Int))))) E)))))):Zah pg Zqz [.ptr a0] h Q:=
 Zah.of_body kp (c:=cod fn) (fn:=fn) Go.Proofs.Tryz.func69 (by kernel_rfl) (by kernel_rfl) (Nat.le_of_ble_eq_true (by kernel_rfl))
  (cast (by kernel_rfl) ht)
end Zvd
namespace Zjw
noncomputable abbrev fn:Func:=Go.Proofs.Tryz.f71
def kp:Zcu:=[(3000006,[7,5]),(1000006,[0,5,7,19]),(2000008,[19,7,0,5])]
noncomputable def C (p:List Nat):Code:=(cod fn).sub p
def KR (Q:QT):KT:=Zfi pg fn.results.toList Q
abbrev T6:=Pt→Nat→Nat→Nat→Nat→Int→Zaa→Prop
def E6 (R6:T6) (env:Env) (h:Zaa):Prop:=Zci 0 env fun v env=>Zfc v fun a0=>Zci 5 env fun v env=>Zfc v fun a=>Zbi a fun i5 o5=>Zci 7 env fun v env=>Zfc v fun a=>Zbi a fun i7 o7=>Zci 19 env fun v env=>Zez .i64 v fun x19=>Zky env (R6 a0 i5 o5 i7 o7 x19 h)
theorem Znc {R6:T6} {env:Env} {h:Zaa} (hi:E6 R6 env h):∃ a0,∃ i5,∃ o5,∃ i7,∃ o7,∃ x19,env=[(0,.ptr a0),(5,.ptr (i5,o5)),(7,.ptr (i7,o7)),(19,.int .i64 x19)]∧R6 a0 i5 o5 i7 o7 x19 h:=by
 unfold E6 at hi
 have hi0:=hi
 clear hi
 obtain ⟨_,_,rfl,hi1⟩:=Zal hi0
 obtain ⟨a0,rfl,hi2⟩:=Zbo hi1
 obtain ⟨_,_,rfl,hi3⟩:=Zal hi2
 obtain ⟨a,rfl,hi4⟩:=Zbo hi3
 obtain ⟨i5,o5,rfl,hi5⟩:=Zbp hi4
 obtain ⟨_,_,rfl,hi6⟩:=Zal hi5
 obtain ⟨a,rfl,hi7⟩:=Zbo hi6
 obtain ⟨i7,o7,rfl,hi8⟩:=Zbp hi7
 obtain ⟨_,_,rfl,hi9⟩:=Zal hi8
 obtain ⟨x19,rfl,hi10⟩:=Zaz hi9
 obtain ⟨rfl,hi11⟩:=Zca hi10
 have hi:=hi11
 exact ⟨a0,i5,o5,i7,o7,x19,rfl,hi⟩
def K0 (Q:QT):KT:=andThen (fun env' h'=>(match kp.find 4000010 with | some ks=>Den pg fn.ntmps (C [1,1,1,1,1]) (env'.keep ks) h' (KR Q) | none=>den pg fn.ntmps kp (C [1,1,1,1,1]) env' h' (KR Q))) (KR Q)
def K1 (Q:QT):KT:=Zdg 0 (K0 Q)
def K2 (Q:QT):KT:=left kp 6 (K1 Q)
def K3 (Q:QT) (R6:T6):KT:=rnd ((kp.find 1000006).getD []) (E6 R6) (K2 Q)
def L6 (Q:QT) (a0:Pt) (i5 o5 i7 o7:Nat) (x19:Int) (h:Zaa):Prop:=Zfb (Den pg fn.ntmps (C [1,1,1,1,0,1,0,0])) ((kp.find 1000006).getD []) (K2 Q) [(0,.ptr a0),(5,.ptr (i5,o5)),(7,.ptr (i7,o7)),(19,.int .i64 x19)] h
def Ygl (Q:QT) (i7 o7 i5 o5:Nat) (h:Zaa):Prop:=At (K1 Q) (.exit 0) [(7,.ptr (i7,o7)),(5,.ptr (i5,o5))] h
def L6t (Q:QT) (R6:T6) (a0:Pt) (i5 o5 i7 o7:Nat) (x19:Int) (h:Zaa):Prop:=
 bcase (decide ((x19:Int) < 12)) (Zah pg Zbc [.ptr a0,.int .i64 2] h fun A B=>
 Zck .i64 A fun A=>Zah pg Zbc [.ptr a0,.int .i64 2] B fun B C=>
 Zck .i64 B fun B=>Zah pg Zes [.ptr a0,.int .i64 A,.bool ((B:Int) == 0)] C fun A B=>
 Zbn A fun A=>Zah pg Zfn [.str A] B fun A B=>
 Zru A fun A=>Zag A fun A C=>Zmv A fun A=>Zag A fun A D=>Zck .u8 A fun A=>Zag D fun D E=>xSl D fun D F G H=>Zbu E (Zag C fun C E=>Zbr C fun C=>Zbu E ((0≤(x19:Int)∧(x19:Int) < (12:Nat))∧(Zbx (Zbb B (.ptr (i7,o7 + (Int.toNat x19) * 2)) [.int .u8 A,.slice D F G H]) fun A=>R6 a0 i5 o5 i7 o7 (IntKind.wrap .i64 (x19 + 1)) A)))) (Ygl Q i7 o7 i5 o5 h)
theorem Ybc (Q:QT) (R6:T6) (a0:Pt) (i5 o5 i7 o7:Nat) (x19:Int) (h:Zaa) (ht:L6t Q R6 a0 i5 o5 i7 o7 x19 h):Den pg fn.ntmps (C [1,1,1,1,0,1,0,0]) [(0,.ptr a0),(5,.ptr (i5,o5)),(7,.ptr (i7,o7)),(19,.int .i64 x19)] h (K3 Q R6):=
 Zbf (kp:=kp) (cast (by kernel_rfl) ht)
theorem L6ind (Q:QT) (a0:Pt) (i5 o5 i7 o7:Nat) {G:Type} (J:G→Int→Zaa→Prop) (m:G→Nat)
 (hr:∀ (g:G) (x19:Int) (h:Zaa),J g x19 h→∀ (R6:T6),(∀ g' (x19:Int) (h:Zaa),m g' < m g→J g' x19 h→R6 a0 i5 o5 i7 o7 x19 h)→L6t Q R6 a0 i5 o5 i7 o7 x19 h)
 (g:G) (x19:Int) (h:Zaa) (hj:J g x19 h):L6 Q a0 i5 o5 i7 o7 x19 h:=by
 let P:=fun (K:Int→Zaa→Prop) a0' i5' o5' i7' o7' x19 h=>a0=a0'∧i5=i5'∧o5=o5'∧i7=i7'∧o7=o7'∧K x19 h
 refine Zfb.inv2 (fun g=>E6 (P (J g))) (fun g=>E6 (P fun x19 h=>∃ g',m g' < m g∧J g' x19 h)) m ?_ ?_ g ⟨rfl,rfl,rfl,rfl,rfl,hj⟩
 ·intro g env h hi
  obtain ⟨a0',i5',o5',i7',o7',x19,rfl,rfl,rfl,rfl,rfl,rfl,hj⟩:=Znc hi
  exact Ybc Q _ a0 i5 o5 i7 o7 x19 h (hr g x19 h hj (P fun x19 h=>∃ g',m g' < m g∧J g' x19 h) fun g' x19 h hlt hj=>⟨rfl,rfl,rfl,rfl,rfl,g',hlt,hj⟩)
 ·intro g env h hi
  obtain ⟨a0',i5',o5',i7',o7',x19,rfl,rfl,rfl,rfl,rfl,rfl,g',hlt,hj⟩:=Znc hi
  exact ⟨g',hlt,rfl,rfl,rfl,rfl,rfl,hj⟩
theorem A6x0i (Q:QT) (i7 o7 i5 o5:Nat) (h:Zaa) (ht :
 Zcb (Zan h (.ptr (i5,o5)) 2) fun A=>Zag A fun A B=>Zck .u8 A fun A=>Zag B fun B C=>xSl B fun B D E F=>Zbu C (Zah pg Znn [.ptr (i7,o7),.agg [.int .u8 A,.slice B D E F]] h fun A B=>
 Zmv A fun A=>Zag A fun A C=>Zck .u8 A fun A=>Zag C fun C D=>xSl C fun C E F G=>Zbu D (Zco (B ++ [.cells Zab [.int .u8 0,.slice none 0 0 true] false]) fun D=>Zbx (Zbb D (.ptr (B.length,0)) [.int .u8 A,.slice C E F G]) fun A=>Zcb (Zan A (.ptr (B.length,0)) 2) fun C=>Zag C fun C D=>Zck .u8 C fun C=>Zag D fun D E=>xSl D fun D F G H=>Zbu E (Zah pg Zhs [.agg [.int .u8 C,.slice D F G H]] A fun A C=>
 Zck .i64 A fun A=>bcase (decide ((A:Int) > 60)) (Q (.str [105]) C) (Zcb (Zan C (.ptr (B.length,0)) 2) fun A=>Zag A fun A B=>Zck .u8 A fun A=>Zag B fun B D=>xSl B fun B E F G=>Zbu D (Zah pg Zgx [.agg [.int .u8 A,.slice B E F G]] C fun A B=>
 Zbn A fun A=>Q (.str A) B)))))):Ygl Q i7 o7 i5 o5 h:=
 At.mk (cast (by kernel_rfl) ht)
theorem call (a0:Pt) (x1:List Nat) (h:Zaa) (Q:QT) (ht :
 Zah pg Zfn [.str x1] h fun A B=>
 Zru A fun A=>Zag A fun A C=>Zmv A fun A=>Zag A fun A D=>Zck .u8 A fun A=>Zag D fun D E=>xSl D fun D F G H=>Zbu E (Zag C fun C E=>Zbr C fun C=>Zbu E (Zco (B ++ [.cells Zab [.int .u8 0,.slice none 0 0 true] false]) fun E=>Zbx (Zbb E (.ptr (B.length,0)) [.int .u8 A,.slice D F G H]) fun A=>bcase (!C) (Q (.str [105]) A) (Zco (A ++ [.cells Zcj [.int .u8 0,.slice none 0 0 true,.int .u8 0,.slice none 0 0 true,.int .u8 0,.slice none 0 0 true,.int .u8 0,.slice none 0 0 true,.int .u8 0,.slice none 0 0 true,.int .u8 0,.slice none 0 0 true,.int .u8 0,.slice none 0 0 true,.int .u8 0,.slice none 0 0 true,.int .u8 0,.slice none 0 0 true,.int .u8 0,.slice none 0 0 true,.int .u8 0,.slice none 0 0 true,.int .u8 0,.slice none 0 0 true] false]) fun C=>L6 Q a0 B.length 0 A.length 0 0 C)))):Zah pg Zju [.ptr a0,.str x1] h Q:=
 Zah.of_body kp (c:=cod fn) (fn:=fn) Go.Proofs.Tryz.func71 (by kernel_rfl) (by kernel_rfl) (Nat.le_of_ble_eq_true (by kernel_rfl))
  (cast (by kernel_rfl) ht)
end Zjw
end Go.Sim

set_option maxRecDepth 100000
set_option maxHeartbeats 0
set_option linter.unusedVariables false
namespace Go.Sim
open Go Go.RowKit
namespace Zks
noncomputable abbrev fn:Func:=Go.Proofs.Tryz.f32
def kp:Zcu:=[(4000003,[0])]
noncomputable def C (p:List Nat):Code:=(cod fn).sub p
def KR (Q:QT):KT:=Zfi pg fn.results.toList Q
def J3 (Q:QT) (a0:Pt) (n0 c0:Nat) (e0:Bool) (h:Zaa):Prop:=Den pg fn.ntmps (C [1,1]) [(0,.slice a0 n0 c0 e0)] h (KR Q)
theorem J3i (Q:QT) (a0:Pt) (n0 c0:Nat) (e0:Bool) (h:Zaa) (ht :
 Zco (h ++ [.cells Znh [.slice a0 n0 c0 e0,.int .i64 0] false]) fun A=>Q (.ptr (h.length,0)) A):J3 Q a0 n0 c0 e0 h:=
 Zbf (kp:=kp) (cast (by kernel_rfl) ht)
theorem call (a0:Pt) (n0 c0:Nat) (e0:Bool) (h:Zaa) (Q:QT) (ht :
 bcase (decide (((((n0:Nat):Int)):Int) > 2000)) (Zkm a0 n0 c0 e0 1 none (some (.int .i64 2000)) none fun A=>xSl A fun A B C D=>J3 Q A B C D h) (J3 Q a0 n0 c0 e0 h)):Zah pg Zkw [.slice a0 n0 c0 e0] h Q:=
 Zah.of_body kp (c:=cod fn) (fn:=fn) Go.Proofs.Tryz.func32 (by kernel_rfl) (by kernel_rfl) (Nat.le_of_ble_eq_true (by kernel_rfl))
  (cast (by kernel_rfl) ht)
end Zks
namespace Zkh
noncomputable abbrev fn:Func:=Go.Proofs.Tryz.f70
def kp:Zcu:=[(4000004,[0,1]),(2000007,[6,1])]
noncomputable def C (p:List Nat):Code:=(cod fn).sub p
def KR (Q:QT):KT:=Zfi pg fn.results.toList Q
def J4 (Q:QT) (a0:Pt) (x1:Int) (h:Zaa):Prop:=Den pg fn.ntmps (C [1,1,1]) [(0,.ptr a0),(1,.int .i64 x1)] h (KR Q)
theorem J4i (Q:QT) (a0:Pt) (x1:Int) (h:Zaa) (ht :
 Zbi a0 fun A B=>Zck .i64 (Zai h (.ptr (A,B + 1))) fun A=>Zbi a0 fun B C=>xSl (Zai h (.ptr (B,C + 0))) fun B B C C=>bcase (decide (((IntKind.wrap .i64 (A - 1)):Int) < (((B:Nat):Int)))) (Zbi a0 fun B C=>xSl (Zai h (.ptr (B,C + 0))) fun B C D D=>(0≤(IntKind.wrap .i64 (A - 1):Int)∧(IntKind.wrap .i64 (A - 1):Int) < (C:Nat))∧(Zbi B fun B C=>Zck .u8 (Zai h (.ptr (B,C + (Int.toNat (IntKind.wrap .i64 (A - 1))) * 1))) fun B=>(x1:Int)≠0∧(Q (.int .i64 (Int.tmod (IntKind.wrap .i64 (B)) x1)) h))) (Zbi a0 fun B C=>Zbi a0 fun D E=>Zbi a0 fun F G=>Zbi a0 fun H I=>Zbi a0 fun J K=>xSl (Zai h (.ptr (B,C + 0))) fun L M N N=>xSl (Zai h (.ptr (D,E + 0))) fun N N O O=>((((N:Nat):Int)):Int)≠0∧((0≤(Int.tmod (IntKind.wrap .i64 (A - 1)) (((N:Nat):Int)):Int)∧(Int.tmod (IntKind.wrap .i64 (A - 1)) (((N:Nat):Int)):Int) < (M:Nat))∧(Zbi L fun L M=>Zck .u8 (Zai h (.ptr (L,M + (Int.toNat (Int.tmod (IntKind.wrap .i64 (A - 1)) (((N:Nat):Int)))) * 1))) fun O=>xSl (Zai h (.ptr (F,G + 0))) fun P R S S=>xSl (Zai h (.ptr (H,I + 0))) fun S S T T=>((((S:Nat):Int)):Int)≠0∧((0≤(Int.tmod (IntKind.wrap .i64 ((IntKind.wrap .i64 ((IntKind.wrap .i64 (A - 1)) * 7)) + 3)) (((S:Nat):Int)):Int)∧(Int.tmod (IntKind.wrap .i64 ((IntKind.wrap .i64 ((IntKind.wrap .i64 (A - 1)) * 7)) + 3)) (((S:Nat):Int)):Int) < (R:Nat))∧(Zbi P fun P R=>Zck .u8 (Zai h (.ptr (P,R + (Int.toNat (Int.tmod (IntKind.wrap .i64 ((IntKind.wrap .i64 ((IntKind.wrap .i64 (A - 1)) * 7)) + 3)) (((S:Nat):Int)))) * 1))) fun T=>xSl (Zai h (.ptr (J,K + 0))) fun J J K K=>(Zai h (.ptr (P,R + (Int.toNat (Int.tmod (IntKind.wrap .i64 ((IntKind.wrap .i64 ((IntKind.wrap .i64 (A - 1)) * 7)) + 3)) (((S:Nat):Int)))) * 1))=Zai h (.ptr (P,R + (Int.toNat (Int.tmod (IntKind.wrap .i64 ((IntKind.wrap .i64 ((IntKind.wrap .i64 (A - 1)) * 7)) + 3)) (((S:Nat):Int)))) * 1)))∧(Zai h (.ptr (H,I + 0))=Zai h (.ptr (H,I + 0)))∧(Zai h (.ptr (F,G + 0))=Zai h (.ptr (F,G + 0)))∧(Zai h (.ptr (L,M + (Int.toNat (Int.tmod (IntKind.wrap .i64 (A - 1)) (((N:Nat):Int)))) * 1))=Zai h (.ptr (L,M + (Int.toNat (Int.tmod (IntKind.wrap .i64 (A - 1)) (((N:Nat):Int)))) * 1)))∧(Zai h (.ptr (D,E + 0))=Zai h (.ptr (D,E + 0)))∧(Zai h (.ptr (B,C + 0))=Zai h (.ptr (B,C + 0)))∧((((J:Nat):Int)):Int)≠0∧((64:Int)≠0∧((x1:Int)≠0∧(Q (.int .i64 (Int.tmod (IntKind.wrap .i64 (BitVec.ofInt (IntKind.bits .i64) (IntKind.wrap .i64 ((IntKind.wrap .i64 ((IntKind.wrap .i64 ((IntKind.wrap .i64 ((IntKind.wrap .i64 (O)) * 131)) + (IntKind.wrap .i64 ((IntKind.wrap .i64 (T)) * 1117)))) + (IntKind.wrap .i64 ((IntKind.wrap .i64 (A - 1)) * 29)))) + (IntKind.wrap .i64 ((IntKind.wrap .i64 (Int.tdiv (IntKind.wrap .i64 (A - 1)) (((J:Nat):Int)))) * 53)))) ^^^ BitVec.ofInt (IntKind.bits .i64) (IntKind.wrap .i64 (Int.tdiv (IntKind.wrap .i64 ((IntKind.wrap .i64 ((IntKind.wrap .i64 ((IntKind.wrap .i64 ((IntKind.wrap .i64 (O)) * 131)) + (IntKind.wrap .i64 ((IntKind.wrap .i64 (T)) * 1117)))) + (IntKind.wrap .i64 ((IntKind.wrap .i64 (A - 1)) * 29)))) + (IntKind.wrap .i64 ((IntKind.wrap .i64 (Int.tdiv (IntKind.wrap .i64 (A - 1)) (((J:Nat):Int)))) * 53)))) 64))).toNat) x1)) h))))))))):J4 Q a0 x1 h:=
 Zbf (kp:=kp) (cast (by kernel_rfl) ht)
theorem call (a0:Pt) (x1:Int) (h:Zaa) (Q:QT) (ht :
 Zbi a0 fun A B=>Zck .i64 (Zai h (.ptr (A,B + 1))) fun A=>Zbi a0 fun B C=>Zbx (Zbb h (.ptr (B,C + 1)) [.int .i64 (IntKind.wrap .i64 (A + 1))]) fun A=>bcase (decide ((x1:Int) < 1)) (Q (.int .i64 0) A) (Zbi a0 fun B C=>xSl (Zai A (.ptr (B,C + 0))) fun B B C C=>bcase ((((B:Nat):Int):Int) == 0) (Q (.int .i64 0) A) (J4 Q a0 x1 A))):Zah pg Zbc [.ptr a0,.int .i64 x1] h Q:=
 Zah.of_body kp (c:=cod fn) (fn:=fn) Go.Proofs.Tryz.func70 (by kernel_rfl) (by kernel_rfl) (Nat.le_of_ble_eq_true (by kernel_rfl))
  (cast (by kernel_rfl) ht)
end Zkh
namespace Zps
noncomputable abbrev fn:Func:=Go.Proofs.Tryz.f183
def kp:Zcu:=[]
noncomputable def C (p:List Nat):Code:=(cod fn).sub p
def KR (Q:QT):KT:=Zfi pg fn.results.toList Q
theorem call (a0 a1:Pt) (n1 c1:Nat) (e1:Bool) (h:Zaa) (Q:QT) (ht :
 Zah pg Zbc [.ptr a0,.int .i64 (((n1:Nat):Int))] h fun A B=>
 Zck .i64 A fun A=>(0≤(A:Int)∧(A:Int) < (n1:Nat))∧(Zbi a1 fun C D=>Zck .i64 (Zai B (.ptr (C,D + (Int.toNat A) * 1))) fun A=>Q (.int .i64 A) B)):Zah pg Zel [.ptr a0,.slice a1 n1 c1 e1] h Q:=
 Zah.of_body kp (c:=cod fn) (fn:=fn) Go.Proofs.Tryz.func183 (by kernel_rfl) (by kernel_rfl) (Nat.le_of_ble_eq_true (by kernel_rfl))
  (cast (by kernel_rfl) ht)
end Zps
namespace Zqg
noncomputable abbrev fn:Func:=Go.Proofs.Tryz.f117
def kp:Zcu:=[]
noncomputable def C (p:List Nat):Code:=(cod fn).sub p
def KR (Q:QT):KT:=Zfi pg fn.results.toList Q
theorem call (a0 a1:Pt) (n1 c1:Nat) (e1:Bool) (h:Zaa) (Q:QT) (ht :
 Zah pg Zbc [.ptr a0,.int .i64 (((n1:Nat):Int))] h fun A B=>
 Zck .i64 A fun A=>(0≤(A:Int)∧(A:Int) < (n1:Nat))∧(Zbi a1 fun C D=>Zbn (Zai B (.ptr (C,D + (Int.toNat A) * 1))) fun A=>Q (.str A) B)):Zah pg Zce [.ptr a0,.slice a1 n1 c1 e1] h Q:=
 Zah.of_body kp (c:=cod fn) (fn:=fn) Go.Proofs.Tryz.func117 (by kernel_rfl) (by kernel_rfl) (Nat.le_of_ble_eq_true (by kernel_rfl))
  (cast (by kernel_rfl) ht)
end Zqg
end Go.Sim

set_option maxRecDepth 100000
set_option maxHeartbeats 0
set_option linter.unusedVariables false
namespace Go.Sim
open Go Go.RowKit
namespace Zkx
noncomputable abbrev fn:Func:=Go.Proofs.Tryz.f198
def kp:Zcu:=[]
noncomputable def C (p:List Nat):Code:=(cod fn).sub p
def KR (Q:QT):KT:=Zfi pg fn.results.toList Q
theorem call (x0x0 x0x1:List Nat) (a0x2:Pt) (n0x2 c0x2:Nat) (e0x2:Bool) (h:Zaa) (Q:QT) (ht :
 Zco (h ++ [.cells Zac [.str x0x0,.str x0x1,.slice a0x2 n0x2 c0x2 e0x2] false]) fun A=>Zco (A ++ [.cells Zac [.str [],.str [],.slice none 0 0 true] false]) fun B=>Zco (B ++ [.cells Zae [] false]) fun C=>xSl (Zai C (.ptr (h.length,0 + 2))) fun D E F G=>Zcz pg Zhw C (.slice (B.length,0) 0 0 true) (.slice D E F G) fun B C=>xSl B fun B D E F=>Zbx (Zbb C (.ptr (h.length,0 + 2)) [.slice B D E F]) fun B=>Zcb (Zan B (.ptr (h.length,0)) 3) fun C=>Zag C fun C D=>Zbn C fun C=>Zag D fun D E=>Zbn D fun D=>Zag E fun E F=>xSl E fun E G H I=>Zbu F (Zbx (Zbb B (.ptr (A.length,0)) [.str C,.str D,.slice E G H I]) fun B=>Zcb (Zan B (.ptr (A.length,0)) 3) fun A=>Zag A fun A C=>Zbn A fun A=>Zag C fun C D=>Zbn C fun C=>Zag D fun D E=>xSl D fun D F G H=>Zbu E (Q (.agg [.str A,.str C,.slice D F G H]) B))):Zah pg Zhn [.agg [.str x0x0,.str x0x1,.slice a0x2 n0x2 c0x2 e0x2]] h Q:=
 Zah.of_body kp (c:=cod fn) (fn:=fn) Go.Proofs.Tryz.func198 (by kernel_rfl) (by kernel_rfl) (Nat.le_of_ble_eq_true (by kernel_rfl))
  (cast (by kernel_rfl) ht)
end Zkx
namespace Zei
noncomputable abbrev fn:Func:=Go.Proofs.Tryz.f195
def kp:Zcu:=[(3000003,[3]),(1000003,[3,7,8,9])]
noncomputable def C (p:List Nat):Code:=(cod fn).sub p
def KR (Q:QT):KT:=Zfi pg fn.results.toList Q
abbrev T3:=Pt→Nat→Nat→Bool→Pt→Nat→Nat→Bool→Int→Int→Zaa→Prop
def E3 (R3:T3) (env:Env) (h:Zaa):Prop:=Zci 3 env fun v env=>xSl v fun a3 n3 c3 e3=>Zci 7 env fun v env=>xSl v fun a7 n7 c7 e7=>Zci 8 env fun v env=>Zez .i64 v fun x8=>Zci 9 env fun v env=>Zez .i64 v fun x9=>Zky env (R3 a3 n3 c3 e3 a7 n7 c7 e7 x8 x9 h)
theorem Zfy {R3:T3} {env:Env} {h:Zaa} (hi:E3 R3 env h):∃ a3,∃ n3,∃ c3,∃ e3,∃ a7,∃ n7,∃ c7,∃ e7,∃ x8,∃ x9,env=[(3,.slice a3 n3 c3 e3),(7,.slice a7 n7 c7 e7),(8,.int .i64 x8),(9,.int .i64 x9)]∧R3 a3 n3 c3 e3 a7 n7 c7 e7 x8 x9 h:=by
 unfold E3 at hi
 repeat ((first | (have k:=Zal hi; clear hi; obtain ⟨_,_,e,hi⟩:=k) | (have k:=Zaz hi; clear hi; obtain ⟨_,e,hi⟩:=k) | (have k:=Zcp hi; clear hi; obtain ⟨_,_,_,_,e,hi⟩:=k)); subst e)
 obtain ⟨rfl,hi⟩:=Zca hi
 exact ⟨_,_,_,_,_,_,_,_,_,_,rfl,hi⟩
def K0 (Q:QT):KT:=andThen (fun env' h'=>(match kp.find 4000007 with | some ks=>Den pg fn.ntmps (C [1,1,1]) (env'.keep ks) h' (KR Q) | none=>den pg fn.ntmps kp (C [1,1,1]) env' h' (KR Q))) (KR Q)
def K1 (Q:QT):KT:=Zdg 0 (K0 Q)
def K2 (Q:QT):KT:=left kp 3 (K1 Q)
def K3 (Q:QT) (R3:T3):KT:=rnd ((kp.find 1000003).getD []) (E3 R3) (K2 Q)
def L3 (Q:QT) (a3:Pt) (n3 c3:Nat) (e3:Bool) (a7:Pt) (n7 c7:Nat) (e7:Bool) (x8 x9:Int) (h:Zaa):Prop:=Zfb (Den pg fn.ntmps (C [1,1,0,1,0,0])) ((kp.find 1000003).getD []) (K2 Q) [(3,.slice a3 n3 c3 e3),(7,.slice a7 n7 c7 e7),(8,.int .i64 x8),(9,.int .i64 x9)] h
def Zsz (Q:QT) (a3:Pt) (n3 c3:Nat) (e3:Bool) (h:Zaa):Prop:=At (K1 Q) (.exit 0) [(3,.slice a3 n3 c3 e3)] h
def L3t (Q:QT) (R3:T3) (a3:Pt) (n3 c3:Nat) (e3:Bool) (a7:Pt) (n7 c7:Nat) (e7:Bool) (x8 x9:Int) (h:Zaa):Prop:=
 bcase (decide ((x9:Int) < x8)) ((0≤(x9:Int)∧(x9:Int) < (n7:Nat))∧(Zbi a7 fun A B=>Zcb (Zan h (.ptr (A,B + (Int.toNat x9) * 3)) 3) fun A=>Zag A fun A B=>Zbn A fun A=>Zag B fun B C=>Zbn B fun B=>Zag C fun C D=>xSl C fun C E F G=>Zbu D (Zco (h ++ [.cells Zac [.str [],.str [],.slice none 0 0 true] false]) fun D=>Zbx (Zbb D (.ptr (h.length,0)) [.str A,.str B,.slice C E F G]) fun A=>Zcb (Zan A (.ptr (h.length,0)) 3) fun B=>Zag B fun B C=>Zbn B fun B=>Zag C fun C D=>Zbn C fun C=>Zag D fun D E=>xSl D fun D F G H=>Zbu E (Zah pg Zhn [.agg [.str B,.str C,.slice D F G H]] A fun A B=>
 Zmv A fun A=>Zag A fun A C=>Zbn A fun A=>Zag C fun C D=>Zbn C fun C=>Zag D fun D E=>xSl D fun D F G H=>Zbu E (Zco (B ++ [.cells Zac [.str A,.str C,.slice D F G H] false]) fun A=>Zcz pg Zen A (.slice a3 n3 c3 e3) (.slice (B.length,0) 1 1 true) fun A B=>xSl A fun A C D E=>R3 A C D E a7 n7 c7 e7 x8 (IntKind.wrap .i64 (x9 + 1)) B))))) (Zsz Q a3 n3 c3 e3 h)
theorem Zoo (Q:QT) (R3:T3) (a3:Pt) (n3 c3:Nat) (e3:Bool) (a7:Pt) (n7 c7:Nat) (e7:Bool) (x8 x9:Int) (h:Zaa) (ht:L3t Q R3 a3 n3 c3 e3 a7 n7 c7 e7 x8 x9 h):Den pg fn.ntmps (C [1,1,0,1,0,0]) [(3,.slice a3 n3 c3 e3),(7,.slice a7 n7 c7 e7),(8,.int .i64 x8),(9,.int .i64 x9)] h (K3 Q R3):=
 Zbf (kp:=kp) (cast (by kernel_rfl) ht)
theorem L3ind (Q:QT) (a7:Pt) (n7 c7:Nat) (e7:Bool) (x8:Int) {G:Type} (J:G→Pt→Nat→Nat→Bool→Int→Zaa→Prop) (m:G→Nat)
 (hr:∀ (g:G) (a3:Pt) (n3 c3:Nat) (e3:Bool) (x9:Int) (h:Zaa),J g a3 n3 c3 e3 x9 h→∀ (R3:T3),(∀ g' (a3:Pt) (n3 c3:Nat) (e3:Bool) (x9:Int) (h:Zaa),m g' < m g→J g' a3 n3 c3 e3 x9 h→R3 a3 n3 c3 e3 a7 n7 c7 e7 x8 x9 h)→L3t Q R3 a3 n3 c3 e3 a7 n7 c7 e7 x8 x9 h)
 (g:G) (a3:Pt) (n3 c3:Nat) (e3:Bool) (x9:Int) (h:Zaa) (hj:J g a3 n3 c3 e3 x9 h):L3 Q a3 n3 c3 e3 a7 n7 c7 e7 x8 x9 h:=by
 let P:=fun (K:Pt→Nat→Nat→Bool→Int→Zaa→Prop) a3 n3 c3 e3 a7' n7' c7' e7' x8' x9 h=>a7=a7'∧n7=n7'∧c7=c7'∧e7=e7'∧x8=x8'∧K a3 n3 c3 e3 x9 h
 refine Zfb.inv2 (fun g=>E3 (P (J g))) (fun g=>E3 (P fun a3 n3 c3 e3 x9 h=>∃ g',m g' < m g∧J g' a3 n3 c3 e3 x9 h)) m ?_ ?_ g ⟨rfl,rfl,rfl,rfl,rfl,hj⟩
 ·intro g env h hi
  obtain ⟨a3,n3,c3,e3,a7',n7',c7',e7',x8',x9,rfl,rfl,rfl,rfl,rfl,rfl,hj⟩:=Zfy hi
  exact Zoo Q _ a3 n3 c3 e3 a7 n7 c7 e7 x8 x9 h (hr g a3 n3 c3 e3 x9 h hj (P fun a3 n3 c3 e3 x9 h=>∃ g',m g' < m g∧J g' a3 n3 c3 e3 x9 h) fun g' a3 n3 c3 e3 x9 h hlt hj=>⟨rfl,rfl,rfl,rfl,rfl,g',hlt,hj⟩)
 ·intro g env h hi
  obtain ⟨a3,n3,c3,e3,a7',n7',c7',e7',x8',x9,rfl,rfl,rfl,rfl,rfl,rfl,g',hlt,hj⟩:=Zfy hi
  exact ⟨g',hlt,rfl,rfl,rfl,rfl,rfl,hj⟩
theorem A3x0i (Q:QT) (a3:Pt) (n3 c3:Nat) (e3:Bool) (h:Zaa) (ht :
 Q (.slice a3 n3 c3 e3) h):Zsz Q a3 n3 c3 e3 h:=
 At.mk (cast (by kernel_rfl) ht)
theorem call (a0:Pt) (n0 c0:Nat) (e0:Bool) (h:Zaa) (Q:QT) (ht :
 Zco (h ++ [.cells Zac [] false]) fun A=>L3 Q (h.length,0) 0 0 true a0 n0 c0 e0 (((n0:Nat):Int)) 0 A):Zah pg Zgc [.slice a0 n0 c0 e0] h Q:=
 Zah.of_body kp (c:=cod fn) (fn:=fn) Go.Proofs.Tryz.func195 (by kernel_rfl) (by kernel_rfl) (Nat.le_of_ble_eq_true (by kernel_rfl))
  (cast (by kernel_rfl) ht)
end Zei
namespace Zni
noncomputable abbrev fn:Func:=Go.Proofs.Tryz.f182
def kp:Zcu:=[]
noncomputable def C (p:List Nat):Code:=(cod fn).sub p
def KR (Q:QT):KT:=Zfi pg fn.results.toList Q
theorem call (a0x0:Pt) (n0x0 c0x0:Nat) (e0x0:Bool) (a0x1:Pt) (n0x1 c0x1:Nat) (e0x1:Bool) (h:Zaa) (Q:QT) (ht :
 Zco (h ++ [.cells Zad [.slice a0x0 n0x0 c0x0 e0x0,.slice a0x1 n0x1 c0x1 e0x1] false]) fun A=>Zco (A ++ [.cells Zad [.slice none 0 0 true,.slice none 0 0 true] false]) fun B=>Zco (B ++ [.cells Zbh [] false]) fun C=>xSl (Zai C (.ptr (h.length,0 + 0))) fun D E F G=>Zcz pg Zip C (.slice (B.length,0) 0 0 true) (.slice D E F G) fun B C=>xSl B fun B D E F=>Zbx (Zbb C (.ptr (h.length,0 + 0)) [.slice B D E F]) fun B=>xSl (Zai B (.ptr (h.length,0 + 1))) fun C D E F=>Zah pg Zgc [.slice C D E F] B fun B C=>
 xSl B fun B D E F=>Zbx (Zbb C (.ptr (h.length,0 + 1)) [.slice B D E F]) fun B=>Zcb (Zan B (.ptr (h.length,0)) 2) fun C=>Zag C fun C D=>xSl C fun C E F G=>Zag D fun D H=>xSl D fun D I J K=>Zbu H (Zbx (Zbb B (.ptr (A.length,0)) [.slice C E F G,.slice D I J K]) fun B=>Zcb (Zan B (.ptr (A.length,0)) 2) fun A=>Zag A fun A C=>xSl A fun A D E F=>Zag C fun C G=>xSl C fun C H I J=>Zbu G (Q (.agg [.slice A D E F,.slice C H I J]) B))):Zah pg Zjr [.agg [.slice a0x0 n0x0 c0x0 e0x0,.slice a0x1 n0x1 c0x1 e0x1]] h Q:=
 Zah.of_body kp (c:=cod fn) (fn:=fn) Go.Proofs.Tryz.func182 (by kernel_rfl) (by kernel_rfl) (Nat.le_of_ble_eq_true (by kernel_rfl))
  (cast (by kernel_rfl) ht)
end Zni
end Go.Sim

set_option maxRecDepth 100000
set_option maxHeartbeats 0
set_option linter.unusedVariables false
namespace Go.Sim
open Go Go.RowKit
namespace Zjk
noncomputable abbrev fn:Func:=Go.Proofs.Tryz.f26
def kp:Zcu:=[(3000002,[0,1,4]),(1000002,[0,1,10,11]),(2000004,[22,11,10,0,1])]
noncomputable def C (p:List Nat):Code:=(cod fn).sub p
def KR (Q:QT):KT:=Zfi pg fn.results.toList Q
abbrev T2:=Pt→Nat→Nat→Bool→Pt→Nat→Nat→Bool→Int→Int→Zaa→Prop
def E2 (R2:T2) (env:Env) (h:Zaa):Prop:=Zci 0 env fun v env=>xSl v fun a0 n0 c0 e0=>Zci 1 env fun v env=>xSl v fun a1 n1 c1 e1=>Zci 10 env fun v env=>Zez .i64 v fun x10=>Zci 11 env fun v env=>Zez .i64 v fun x11=>Zky env (R2 a0 n0 c0 e0 a1 n1 c1 e1 x10 x11 h)
theorem Zfx {R2:T2} {env:Env} {h:Zaa} (hi:E2 R2 env h):∃ a0,∃ n0,∃ c0,∃ e0,∃ a1,∃ n1,∃ c1,∃ e1,∃ x10,∃ x11,env=[(0,.slice a0 n0 c0 e0),(1,.slice a1 n1 c1 e1),(10,.int .i64 x10),(11,.int .i64 x11)]∧R2 a0 n0 c0 e0 a1 n1 c1 e1 x10 x11 h:=by
 unfold E2 at hi
 repeat ((first | (have k:=Zal hi; clear hi; obtain ⟨_,_,e,hi⟩:=k) | (have k:=Zaz hi; clear hi; obtain ⟨_,e,hi⟩:=k) | (have k:=Zcp hi; clear hi; obtain ⟨_,_,_,_,e,hi⟩:=k)); subst e)
 obtain ⟨rfl,hi⟩:=Zca hi
 exact ⟨_,_,_,_,_,_,_,_,_,_,rfl,hi⟩
def K0 (Q:QT):KT:=andThen (fun env' h'=>(match kp.find 4000007 with | some ks=>Den pg fn.ntmps (C [1,1]) (env'.keep ks) h' (KR Q) | none=>den pg fn.ntmps kp (C [1,1]) env' h' (KR Q))) (KR Q)
def K1 (Q:QT):KT:=Zdg 0 (K0 Q)
def K2 (Q:QT):KT:=left kp 2 (K1 Q)
def K3 (Q:QT) (R2:T2):KT:=rnd ((kp.find 1000002).getD []) (E2 R2) (K2 Q)
def L2 (Q:QT) (a0:Pt) (n0 c0:Nat) (e0:Bool) (a1:Pt) (n1 c1:Nat) (e1:Bool) (x10 x11:Int) (h:Zaa):Prop:=Zfb (Den pg fn.ntmps (C [1,0,1,0,0])) ((kp.find 1000002).getD []) (K2 Q) [(0,.slice a0 n0 c0 e0),(1,.slice a1 n1 c1 e1),(10,.int .i64 x10),(11,.int .i64 x11)] h
def A2x0 (Q:QT) (a0:Pt) (n0 c0:Nat) (e0:Bool) (a1:Pt) (n1 c1:Nat) (e1:Bool) (h:Zaa):Prop:=At (K1 Q) (.exit 0) [(0,.slice a0 n0 c0 e0),(1,.slice a1 n1 c1 e1),(4,.undef)] h
def L2t (Q:QT) (R2:T2) (a0:Pt) (n0 c0:Nat) (e0:Bool) (a1:Pt) (n1 c1:Nat) (e1:Bool) (x10 x11:Int) (h:Zaa):Prop:=
 bcase (decide ((x11:Int) < x10)) ((0≤(x11:Int)∧(x11:Int) < (n0:Nat))∧(Zbi a0 fun A B=>(0≤(x11:Int)∧(x11:Int) < (n1:Nat))∧(Zbi a1 fun C D=>Zck .i64 (Zai h (.ptr (A,B + (Int.toNat x11) * 1))) fun E=>Zck .i64 (Zai h (.ptr (C,D + (Int.toNat x11) * 1))) fun C=>(Zai h (.ptr (A,B + (Int.toNat x11) * 1))=Zai h (.ptr (A,B + (Int.toNat x11) * 1)))∧bcase (!((E:Int) == C)) (Q (.bool false) h) (R2 a0 n0 c0 e0 a1 n1 c1 e1 x10 (IntKind.wrap .i64 (x11 + 1)) h)))) (A2x0 Q a0 n0 c0 e0 a1 n1 c1 e1 h)
theorem Zok (Q:QT) (R2:T2) (a0:Pt) (n0 c0:Nat) (e0:Bool) (a1:Pt) (n1 c1:Nat) (e1:Bool) (x10 x11:Int) (h:Zaa) (ht:L2t Q R2 a0 n0 c0 e0 a1 n1 c1 e1 x10 x11 h):Den pg fn.ntmps (C [1,0,1,0,0]) [(0,.slice a0 n0 c0 e0),(1,.slice a1 n1 c1 e1),(10,.int .i64 x10),(11,.int .i64 x11)] h (K3 Q R2):=
 Zbf (kp:=kp) (cast (by kernel_rfl) ht)
theorem L2ind (Q:QT) (a0:Pt) (n0 c0:Nat) (e0:Bool) (a1:Pt) (n1 c1:Nat) (e1:Bool) (x10:Int) {G:Type} (J:G→Int→Zaa→Prop) (m:G→Nat)
 (hr:∀ (g:G) (x11:Int) (h:Zaa),J g x11 h→∀ (R2:T2),(∀ g' (x11:Int) (h:Zaa),m g' < m g→J g' x11 h→R2 a0 n0 c0 e0 a1 n1 c1 e1 x10 x11 h)→L2t Q R2 a0 n0 c0 e0 a1 n1 c1 e1 x10 x11 h)
 (g:G) (x11:Int) (h:Zaa) (hj:J g x11 h):L2 Q a0 n0 c0 e0 a1 n1 c1 e1 x10 x11 h:=by
 let P:=fun (K:Int→Zaa→Prop) a0' n0' c0' e0' a1' n1' c1' e1' x10' x11 h=>a0=a0'∧n0=n0'∧c0=c0'∧e0=e0'∧a1=a1'∧n1=n1'∧c1=c1'∧e1=e1'∧x10=x10'∧K x11 h
 refine Zfb.inv2 (fun g=>E2 (P (J g))) (fun g=>E2 (P fun x11 h=>∃ g',m g' < m g∧J g' x11 h)) m ?_ ?_ g ⟨rfl,rfl,rfl,rfl,rfl,rfl,rfl,rfl,rfl,hj⟩
 ·intro g env h hi
  obtain ⟨a0',n0',c0',e0',a1',n1',c1',e1',x10',x11,rfl,rfl,rfl,rfl,rfl,rfl,rfl,rfl,rfl,rfl,hj⟩:=Zfx hi
  exact Zok Q _ a0 n0 c0 e0 a1 n1 c1 e1 x10 x11 h (hr g x11 h hj (P fun x11 h=>∃ g',m g' < m g∧J g' x11 h) fun g' x11 h hlt hj=>⟨rfl,rfl,rfl,rfl,rfl,rfl,rfl,rfl,rfl,g',hlt,hj⟩)
 ·intro g env h hi
  obtain ⟨a0',n0',c0',e0',a1',n1',c1',e1',x10',x11,rfl,rfl,rfl,rfl,rfl,rfl,rfl,rfl,rfl,rfl,g',hlt,hj⟩:=Zfx hi
  exact ⟨g',hlt,rfl,rfl,rfl,rfl,rfl,rfl,rfl,rfl,rfl,hj⟩
theorem A2x0i (Q:QT) (a0:Pt) (n0 c0:Nat) (e0:Bool) (a1:Pt) (n1 c1:Nat) (e1:Bool) (h:Zaa) (ht :
 Q (.bool ((((n0:Nat):Int):Int) == (((n1:Nat):Int)))) h):A2x0 Q a0 n0 c0 e0 a1 n1 c1 e1 h:=
 At.mk (cast (by kernel_rfl) ht)
theorem call (a0:Pt) (n0 c0:Nat) (e0:Bool) (a1:Pt) (n1 c1:Nat) (e1:Bool) (h:Zaa) (Q:QT) (ht :
 L2 Q a0 n0 c0 e0 a1 n1 c1 e1 (if (((n1:Nat):Int):Int) < (((n0:Nat):Int)) then ((n1:Nat):Int) else ((n0:Nat):Int)) 0 h):Zah pg Zdf [.slice a0 n0 c0 e0,.slice a1 n1 c1 e1] h Q:=
 Zah.of_body kp (c:=cod fn) (fn:=fn) Go.Proofs.Tryz.func26 (by kernel_rfl) (by kernel_rfl) (Nat.le_of_ble_eq_true (by kernel_rfl))
  (cast (by kernel_rfl) ht)
end Zjk
end Go.Sim
