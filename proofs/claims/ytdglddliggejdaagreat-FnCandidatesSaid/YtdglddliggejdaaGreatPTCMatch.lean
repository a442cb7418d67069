/- A part of the proof of a statement of this seat: see the text that holds the theorem. No condition. -/
import Derived.Test.YtdglddliggejdaaGreatNm
set_option linter.unusedVariables false
set_option linter.unusedSimpArgs false
set_option linter.all false
set_option maxRecDepth 100000
set_option maxHeartbeats 0
set_option linter.unusedVariables false
namespace Go.Sim
open Go Go.RowKit
namespace Zjm
noncomputable abbrev fn:Func:=Go.Proofs.Tryz.f80
def kp:Zcu:=[(3000004,[5,4]),(1000004,[0,4,5,16,17,18]),(2000006,[18,17,16,5,0,4])]
noncomputable def C (p:List Nat):Code:=(cod fn).sub p
def KR (Q:QT):KT:=Zfi pg fn.results.toList Q
abbrev T4:=Pt→Nat→Nat→Nat→Nat→Pt→Nat→Nat→Bool→Int→Int→Zaa→Prop
def E4 (R4:T4) (env:Env) (h:Zaa):Prop:=Zci 0 env fun v env=>Zfc v fun a0=>Zci 4 env fun v env=>Zfc v fun a=>Zbi a fun i4 o4=>Zci 5 env fun v env=>Zfc v fun a=>Zbi a fun i5 o5=>Zci 16 env fun v env=>xSl v fun a16 n16 c16 e16=>Zci 17 env fun v env=>Zez .i64 v fun x17=>Zci 18 env fun v env=>Zez .i64 v fun x18=>Zky env (R4 a0 i4 o4 i5 o5 a16 n16 c16 e16 x17 x18 h)
theorem Zlb {R4:T4} {env:Env} {h:Zaa} (hi:E4 R4 env h):∃ a0,∃ i4,∃ o4,∃ i5,∃ o5,∃ a16,∃ n16,∃ c16,∃ e16,∃ x17,∃ x18,env=[(0,.ptr a0),(4,.ptr (i4,o4)),(5,.ptr (i5,o5)),(16,.slice a16 n16 c16 e16),(17,.int .i64 x17),(18,.int .i64 x18)]∧R4 a0 i4 o4 i5 o5 a16 n16 c16 e16 x17 x18 h:=by
 unfold E4 at hi
 have hi0:=hi
 clear hi
 obtain ⟨_,_,rfl,hi1⟩:=Zal hi0
 obtain ⟨a0,rfl,hi2⟩:=Zbo hi1
 obtain ⟨_,_,rfl,hi3⟩:=Zal hi2
 obtain ⟨a,rfl,hi4⟩:=Zbo hi3
 obtain ⟨i4,o4,rfl,hi5⟩:=Zbp hi4
 obtain ⟨_,_,rfl,hi6⟩:=Zal hi5
 obtain ⟨a,rfl,hi7⟩:=Zbo hi6
 obtain ⟨i5,o5,rfl,hi8⟩:=Zbp hi7
 obtain ⟨_,_,rfl,hi9⟩:=Zal hi8
 obtain ⟨a16,n16,c16,e16,rfl,hi10⟩:=Zcp hi9
 obtain ⟨_,_,rfl,hi11⟩:=Zal hi10
 obtain ⟨x17,rfl,hi12⟩:=Zaz hi11
 obtain ⟨_,_,rfl,hi13⟩:=Zal hi12
 obtain ⟨x18,rfl,hi14⟩:=Zaz hi13
 obtain ⟨rfl,hi15⟩:=Zca hi14
 have hi:=hi15
 exact ⟨a0,i4,o4,i5,o5,a16,n16,c16,e16,x17,x18,rfl,hi⟩
def K0 (Q:QT):KT:=andThen (fun env' h'=>(match kp.find 4000008 with | some ks=>Den pg fn.ntmps (C [1,1,1,1]) (env'.keep ks) h' (KR Q) | none=>den pg fn.ntmps kp (C [1,1,1,1]) env' h' (KR Q))) (KR Q)
def K1 (Q:QT):KT:=Zdg 0 (K0 Q)
def K2 (Q:QT):KT:=left kp 4 (K1 Q)
def K3 (Q:QT) (R4:T4):KT:=rnd ((kp.find 1000004).getD []) (E4 R4) (K2 Q)
def L4 (Q:QT) (a0:Pt) (i4 o4 i5 o5:Nat) (a16:Pt) (n16 c16:Nat) (e16:Bool) (x17 x18:Int) (h:Zaa):Prop:=Zfb (Den pg fn.ntmps (C [1,1,1,0,1,0,0])) ((kp.find 1000004).getD []) (K2 Q) [(0,.ptr a0),(4,.ptr (i4,o4)),(5,.ptr (i5,o5)),(16,.slice a16 n16 c16 e16),(17,.int .i64 x17),(18,.int .i64 x18)] h
def Ycw (Q:QT) (i5 o5 i4 o4:Nat) (h:Zaa):Prop:=At (K1 Q) (.exit 0) [(5,.ptr (i5,o5)),(4,.ptr (i4,o4))] h
def L4t (Q:QT) (R4:T4) (a0:Pt) (i4 o4 i5 o5:Nat) (a16:Pt) (n16 c16:Nat) (e16:Bool) (x17 x18:Int) (h:Zaa):Prop:=
 bcase (decide ((x18:Int) < x17)) ((0≤(x18:Int)∧(x18:Int) < (n16:Nat))∧(Zbi a16 fun A B=>Zcb (Zan h (.ptr (A,B + (Int.toNat x18) * 2)) 2) fun A=>Zag A fun A B=>Zck .u8 A fun A=>Zag B fun B C=>xSl B fun B D E F=>Zbu C (Zco (h ++ [.cells Zab [.int .u8 0,.slice none 0 0 true] false]) fun C=>Zbx (Zbb C (.ptr (h.length,0)) [.int .u8 A,.slice B D E F]) fun A=>xSl (Zai A (.ptr (i5,o5 + 1))) fun B C D E=>Zcb (Zan A (.ptr (h.length,0)) 2) fun F=>Zag F fun F G=>Zck .u8 F fun F=>Zag G fun G H=>xSl G fun G I J K=>Zbu H ((Zai A (.ptr (i5,o5 + 1))=Zai A (.ptr (i5,o5 + 1)))∧Zah pg Zma [.ptr a0,.agg [.int .u8 F,.slice G I J K]] A fun F G=>
 Zmv F fun F=>Zag F fun F H=>Zck .u8 F fun F=>Zag H fun H I=>xSl H fun H J K L=>Zbu I ((Zai G (.ptr (i5,o5 + 1))=Zai A (.ptr (i5,o5 + 1)))∧Zco (G ++ [.cells Zab [.int .u8 F,.slice H J K L] false]) fun A=>(Zai A (.ptr (i5,o5 + 1))=Zai G (.ptr (i5,o5 + 1)))∧Zcz pg Zgh A (.slice B C D E) (.slice (G.length,0) 1 1 true) fun A B=>xSl A fun A C D E=>Zbx (Zbb B (.ptr (i5,o5 + 1)) [.slice A C D E]) fun A=>R4 a0 i4 o4 i5 o5 a16 n16 c16 e16 x17 (IntKind.wrap .i64 (x18 + 1)) A))))) (Ycw Q i5 o5 i4 o4 h)
theorem Zxe (Q:QT) (R4:T4) (a0:Pt) (i4 o4 i5 o5:Nat) (a16:Pt) (n16 c16:Nat) (e16:Bool) (x17 x18:Int) (h:Zaa) (ht:L4t Q R4 a0 i4 o4 i5 o5 a16 n16 c16 e16 x17 x18 h):Den pg fn.ntmps (C [1,1,1,0,1,0,0]) [(0,.ptr a0),(4,.ptr (i4,o4)),(5,.ptr (i5,o5)),(16,.slice a16 n16 c16 e16),(17,.int .i64 x17),(18,.int .i64 x18)] h (K3 Q R4):=
 Zbf (kp:=kp) (cast (by kernel_rfl) ht)
theorem L4ind (Q:QT) (a0:Pt) (i4 o4 i5 o5:Nat) (a16:Pt) (n16 c16:Nat) (e16:Bool) (x17:Int) {G:Type} (J:G→Int→Zaa→Prop) (m:G→Nat)
 (hr:∀ (g:G) (x18:Int) (h:Zaa),J g x18 h→∀ (R4:T4),(∀ g' (x18:Int) (h:Zaa),m g' < m g→J g' x18 h→R4 a0 i4 o4 i5 o5 a16 n16 c16 e16 x17 x18 h)→L4t Q R4 a0 i4 o4 i5 o5 a16 n16 c16 e16 x17 x18 h)
 (g:G) (x18:Int) (h:Zaa) (hj:J g x18 h):L4 Q a0 i4 o4 i5 o5 a16 n16 c16 e16 x17 x18 h:=by
 let P:=fun (K:Int→Zaa→Prop) a0' i4' o4' i5' o5' a16' n16' c16' e16' x17' x18 h=>a0=a0'∧i4=i4'∧o4=o4'∧i5=i5'∧o5=o5'∧a16=a16'∧n16=n16'∧c16=c16'∧e16=e16'∧x17=x17'∧K x18 h
 refine Zfb.inv2 (fun g=>E4 (P (J g))) (fun g=>E4 (P fun x18 h=>∃ g',m g' < m g∧J g' x18 h)) m ?_ ?_ g ⟨rfl,rfl,rfl,rfl,rfl,rfl,rfl,rfl,rfl,rfl,hj⟩
 ·intro g env h hi
  obtain ⟨a0',i4',o4',i5',o5',a16',n16',c16',e16',x17',x18,rfl,rfl,rfl,rfl,rfl,rfl,rfl,rfl,rfl,rfl,rfl,hj⟩:=Zlb hi
  exact Zxe Q _ a0 i4 o4 i5 o5 a16 n16 c16 e16 x17 x18 h (hr g x18 h hj (P fun x18 h=>∃ g',m g' < m g∧J g' x18 h) fun g' x18 h hlt hj=>⟨rfl,rfl,rfl,rfl,rfl,rfl,rfl,rfl,rfl,rfl,g',hlt,hj⟩)
 ·intro g env h hi
  obtain ⟨a0',i4',o4',i5',o5',a16',n16',c16',e16',x17',x18,rfl,rfl,rfl,rfl,rfl,rfl,rfl,rfl,rfl,rfl,rfl,g',hlt,hj⟩:=Zlb hi
  exact ⟨g',hlt,rfl,rfl,rfl,rfl,rfl,rfl,rfl,rfl,rfl,rfl,hj⟩
theorem A4x0i (Q:QT) (i5 o5 i4 o4:Nat) (h:Zaa) (ht :
 Zcb (Zan h (.ptr (i5,o5)) 2) fun A=>Zag A fun A B=>Zck .u8 A fun A=>Zag B fun B C=>xSl B fun B D E F=>Zbu C (Zbx (Zbb h (.ptr (i4,o4)) [.int .u8 A,.slice B D E F]) fun A=>Zcb (Zan A (.ptr (i4,o4)) 2) fun B=>Zag B fun B C=>Zck .u8 B fun B=>Zag C fun C D=>xSl C fun C E F G=>Zbu D (Q (.agg [.int .u8 B,.slice C E F G]) A))):Ycw Q i5 o5 i4 o4 h:=
 At.mk (cast (by kernel_rfl) ht)
theorem call (a0:Pt) (x1x0:Int) (a1x1:Pt) (n1x1 c1x1:Nat) (e1x1:Bool) (h:Zaa) (Q:QT) (ht :
 Zco (h ++ [.cells Zab [.int .u8 x1x0,.slice a1x1 n1x1 c1x1 e1x1] false]) fun A=>Zco (A ++ [.cells Zab [.int .u8 0,.slice none 0 0 true] false]) fun B=>Zcb (Zan B (.ptr (h.length,0)) 2) fun C=>Zag C fun C D=>Zck .u8 C fun C=>Zag D fun D E=>xSl D fun D F G H=>Zbu E (Zah pg Zif [.ptr a0,.agg [.int .u8 C,.slice D F G H]] B fun B C=>
 Zmv B fun B=>Zag B fun B D=>Zck .u8 B fun B=>Zag D fun D E=>xSl D fun D F G H=>Zbu E (Zbx (Zbb C (.ptr (h.length,0)) [.int .u8 B,.slice D F G H]) fun B=>Zck .u8 (Zai B (.ptr (h.length,0 + 0))) fun C=>Zco (B ++ [.cells Zab [] false]) fun D=>Zco (D ++ [.cells Zab [.int .u8 0,.slice none 0 0 true] false]) fun E=>Zbx (Zbb E (.ptr (D.length,0)) [.int .u8 C,.slice (B.length,0) 0 0 true]) fun B=>xSl (Zai B (.ptr (h.length,0 + 1))) fun C E F G=>L4 Q a0 A.length 0 D.length 0 C E F G (((E:Nat):Int)) 0 B))):Zah pg Zma [.ptr a0,.agg [.int .u8 x1x0,.slice a1x1 n1x1 c1x1 e1x1]] h Q:=
 Zah.of_body kp (c:=cod fn) (fn:=fn) Go.Proofs.Tryz.func80 (by kernel_rfl) (by kernel_rfl) (Nat.le_of_ble_eq_true (by kernel_rfl))
  (cast (by kernel_rfl) ht)
end Zjm
namespace Zfd
noncomputable abbrev fn:Func:=Go.Proofs.Tryz.f105
def kp:Zcu:=[(4000005,[1,2,3]),(3000006,[3,2]),(1000006,[2,3,21,22,23]),(2000008,[23,22,21,3,2])]
noncomputable def C (p:List Nat):Code:=(cod fn).sub p
def KR (Q:QT):KT:=Zfi pg fn.results.toList Q
abbrev T6:=Nat→Nat→Nat→Nat→Pt→Nat→Nat→Bool→Int→Int→Zaa→Prop
def E6 (R6:T6) (env:Env) (h:Zaa):Prop:=Zci 2 env fun v env=>Zfc v fun a=>Zbi a fun i2 o2=>Zci 3 env fun v env=>Zfc v fun a=>Zbi a fun i3 o3=>Zci 21 env fun v env=>xSl v fun a21 n21 c21 e21=>Zci 22 env fun v env=>Zez .i64 v fun x22=>Zci 23 env fun v env=>Zez .i64 v fun x23=>Zky env (R6 i2 o2 i3 o3 a21 n21 c21 e21 x22 x23 h)
theorem Znc {R6:T6} {env:Env} {h:Zaa} (hi:E6 R6 env h):∃ i2,∃ o2,∃ i3,∃ o3,∃ a21,∃ n21,∃ c21,∃ e21,∃ x22,∃ x23,env=[(2,.ptr (i2,o2)),(3,.ptr (i3,o3)),(21,.slice a21 n21 c21 e21),(22,.int .i64 x22),(23,.int .i64 x23)]∧R6 i2 o2 i3 o3 a21 n21 c21 e21 x22 x23 h:=by
 unfold E6 at hi
 have hi0:=hi
 clear hi
 obtain ⟨_,_,rfl,hi1⟩:=Zal hi0
 obtain ⟨a,rfl,hi2⟩:=Zbo hi1
 obtain ⟨i2,o2,rfl,hi3⟩:=Zbp hi2
 obtain ⟨_,_,rfl,hi4⟩:=Zal hi3
 obtain ⟨a,rfl,hi5⟩:=Zbo hi4
 obtain ⟨i3,o3,rfl,hi6⟩:=Zbp hi5
 obtain ⟨_,_,rfl,hi7⟩:=Zal hi6
 obtain ⟨a21,n21,c21,e21,rfl,hi8⟩:=Zcp hi7
 obtain ⟨_,_,rfl,hi9⟩:=Zal hi8
 obtain ⟨x22,rfl,hi10⟩:=Zaz hi9
 obtain ⟨_,_,rfl,hi11⟩:=Zal hi10
 obtain ⟨x23,rfl,hi12⟩:=Zaz hi11
 obtain ⟨rfl,hi13⟩:=Zca hi12
 have hi:=hi13
 exact ⟨i2,o2,i3,o3,a21,n21,c21,e21,x22,x23,rfl,hi⟩
def K0 (Q:QT):KT:=andThen (fun env' h'=>(match kp.find 4000010 with | some ks=>Den pg fn.ntmps (C [1,1,1,1]) (env'.keep ks) h' (KR Q) | none=>den pg fn.ntmps kp (C [1,1,1,1]) env' h' (KR Q))) (KR Q)
def K1 (Q:QT):KT:=Zdg 0 (K0 Q)
def K2 (Q:QT):KT:=left kp 6 (K1 Q)
def K3 (Q:QT) (R6:T6):KT:=rnd ((kp.find 1000006).getD []) (E6 R6) (K2 Q)
def J5 (Q:QT) (i1 o1 i2 o2 i3 o3:Nat) (h:Zaa):Prop:=Den pg fn.ntmps (C [1,1,1]) [(1,.ptr (i1,o1)),(2,.ptr (i2,o2)),(3,.ptr (i3,o3))] h (KR Q)
def L6 (Q:QT) (i2 o2 i3 o3:Nat) (a21:Pt) (n21 c21:Nat) (e21:Bool) (x22 x23:Int) (h:Zaa):Prop:=Zfb (Den pg fn.ntmps (C [1,1,1,0,1,0,0])) ((kp.find 1000006).getD []) (K2 Q) [(2,.ptr (i2,o2)),(3,.ptr (i3,o3)),(21,.slice a21 n21 c21 e21),(22,.int .i64 x22),(23,.int .i64 x23)] h
def Ygl (Q:QT) (i3 o3 i2 o2:Nat) (h:Zaa):Prop:=At (K1 Q) (.exit 0) [(3,.ptr (i3,o3)),(2,.ptr (i2,o2))] h
theorem J5i (Q:QT) (i1 o1 i2 o2 i3 o3:Nat) (h:Zaa) (ht :
 xSl (Zai h (.ptr (i1,o1 + 1))) fun A B C D=>L6 Q i2 o2 i3 o3 A B C D (((B:Nat):Int)) 0 h):J5 Q i1 o1 i2 o2 i3 o3 h:=
 Zbf (kp:=kp) (cast (by kernel_rfl) ht)
def L6t (Q:QT) (R6:T6) (i2 o2 i3 o3:Nat) (a21:Pt) (n21 c21:Nat) (e21:Bool) (x22 x23:Int) (h:Zaa):Prop:=
 bcase (decide ((x23:Int) < x22)) ((0≤(x23:Int)∧(x23:Int) < (n21:Nat))∧(Zbi a21 fun A B=>Zcb (Zan h (.ptr (A,B + (Int.toNat x23) * 2)) 2) fun A=>Zag A fun A B=>Zck .u8 A fun A=>Zag B fun B C=>xSl B fun B D E F=>Zbu C (Zco (h ++ [.cells Zab [.int .u8 0,.slice none 0 0 true] false]) fun C=>Zbx (Zbb C (.ptr (h.length,0)) [.int .u8 A,.slice B D E F]) fun A=>xSl (Zai A (.ptr (i3,o3 + 1))) fun B C D E=>Zcb (Zan A (.ptr (h.length,0)) 2) fun F=>Zag F fun F G=>Zck .u8 F fun F=>Zag G fun G H=>xSl G fun G I J K=>Zbu H ((Zai A (.ptr (i3,o3 + 1))=Zai A (.ptr (i3,o3 + 1)))∧Zah pg Zjn [.agg [.int .u8 F,.slice G I J K]] A fun F G=>
 Zmv F fun F=>Zag F fun F H=>Zck .u8 F fun F=>Zag H fun H I=>xSl H fun H J K L=>Zbu I ((Zai G (.ptr (i3,o3 + 1))=Zai A (.ptr (i3,o3 + 1)))∧Zco (G ++ [.cells Zab [.int .u8 F,.slice H J K L] false]) fun A=>(Zai A (.ptr (i3,o3 + 1))=Zai G (.ptr (i3,o3 + 1)))∧Zcz pg Zgh A (.slice B C D E) (.slice (G.length,0) 1 1 true) fun A B=>xSl A fun A C D E=>Zbx (Zbb B (.ptr (i3,o3 + 1)) [.slice A C D E]) fun A=>R6 i2 o2 i3 o3 a21 n21 c21 e21 x22 (IntKind.wrap .i64 (x23 + 1)) A))))) (Ygl Q i3 o3 i2 o2 h)
theorem Ybc (Q:QT) (R6:T6) (i2 o2 i3 o3:Nat) (a21:Pt) (n21 c21:Nat) (e21:Bool) (x22 x23:Int) (h:Zaa) (ht:L6t Q R6 i2 o2 i3 o3 a21 n21 c21 e21 x22 x23 h):Den pg fn.ntmps (C [1,1,1,0,1,0,0]) [(2,.ptr (i2,o2)),(3,.ptr (i3,o3)),(21,.slice a21 n21 c21 e21),(22,.int .i64 x22),(23,.int .i64 x23)] h (K3 Q R6):=
 Zbf (kp:=kp) (cast (by kernel_rfl) ht)
theorem L6ind (Q:QT) (i2 o2 i3 o3:Nat) (a21:Pt) (n21 c21:Nat) (e21:Bool) (x22:Int) {G:Type} (J:G→Int→Zaa→Prop) (m:G→Nat)
 (hr:∀ (g:G) (x23:Int) (h:Zaa),J g x23 h→∀ (R6:T6),(∀ g' (x23:Int) (h:Zaa),m g' < m g→J g' x23 h→R6 i2 o2 i3 o3 a21 n21 c21 e21 x22 x23 h)→L6t Q R6 i2 o2 i3 o3 a21 n21 c21 e21 x22 x23 h)
 (g:G) (x23:Int) (h:Zaa) (hj:J g x23 h):L6 Q i2 o2 i3 o3 a21 n21 c21 e21 x22 x23 h:=by
 let P:=fun (K:Int→Zaa→Prop) i2' o2' i3' o3' a21' n21' c21' e21' x22' x23 h=>i2=i2'∧o2=o2'∧i3=i3'∧o3=o3'∧a21=a21'∧n21=n21'∧c21=c21'∧e21=e21'∧x22=x22'∧K x23 h
 refine Zfb.inv2 (fun g=>E6 (P (J g))) (fun g=>E6 (P fun x23 h=>∃ g',m g' < m g∧J g' x23 h)) m ?_ ?_ g ⟨rfl,rfl,rfl,rfl,rfl,rfl,rfl,rfl,rfl,hj⟩
 ·intro g env h hi
  obtain ⟨i2',o2',i3',o3',a21',n21',c21',e21',x22',x23,rfl,rfl,rfl,rfl,rfl,rfl,rfl,rfl,rfl,rfl,hj⟩:=Znc hi
  exact Ybc Q _ i2 o2 i3 o3 a21 n21 c21 e21 x22 x23 h (hr g x23 h hj (P fun x23 h=>∃ g',m g' < m g∧J g' x23 h) fun g' x23 h hlt hj=>⟨rfl,rfl,rfl,rfl,rfl,rfl,rfl,rfl,rfl,g',hlt,hj⟩)
 ·intro g env h hi
  obtain ⟨i2',o2',i3',o3',a21',n21',c21',e21',x22',x23,rfl,rfl,rfl,rfl,rfl,rfl,rfl,rfl,rfl,rfl,g',hlt,hj⟩:=Znc hi
  exact ⟨g',hlt,rfl,rfl,rfl,rfl,rfl,rfl,rfl,rfl,rfl,hj⟩
theorem A6x0i (Q:QT) (i3 o3 i2 o2:Nat) (h:Zaa) (ht :
 Zcb (Zan h (.ptr (i3,o3)) 2) fun A=>Zag A fun A B=>Zck .u8 A fun A=>Zag B fun B C=>xSl B fun B D E F=>Zbu C (Zbx (Zbb h (.ptr (i2,o2)) [.int .u8 A,.slice B D E F]) fun A=>Zcb (Zan A (.ptr (i2,o2)) 2) fun B=>Zag B fun B C=>Zck .u8 B fun B=>Zag C fun C D=>xSl C fun C E F G=>Zbu D (Q (.agg [.int .u8 B,.slice C E F G]) A))):Ygl Q i3 o3 i2 o2 h:=
 At.mk (cast (by kernel_rfl) ht)
theorem call (x0x0:Int) (a0x1:Pt) (n0x1 c0x1:Nat) (e0x1:Bool) (h:Zaa) (Q:QT) (ht :
 Zco (h ++ [.cells Zab [.int .u8 x0x0,.slice a0x1 n0x1 c0x1 e0x1] false]) fun A=>Zco (A ++ [.cells Zab [.int .u8 0,.slice none 0 0 true] false]) fun B=>Zck .u8 (Zai B (.ptr (h.length,0 + 0))) fun C=>Zco (B ++ [.cells Zab [] false]) fun D=>Zco (D ++ [.cells Zab [.int .u8 0,.slice none 0 0 true] false]) fun E=>Zbx (Zbb E (.ptr (D.length,0)) [.int .u8 C,.slice (B.length,0) 0 0 true]) fun B=>Zck .u8 (Zai B (.ptr (h.length,0 + 0))) fun C=>Zah pg Zfa [.int .u8 C] B fun B C=>
 Zck .i64 B fun B=>bcase (decide ((B:Int) ≥ 0)) (Zjs ([88,89,90,120,121,122,49,50,51,52,53,54]) (IntKind.wrap .i64 (B + 6)) fun B=>Zbx (Zbb C (.ptr (D.length,0 + 0)) [.int .u8 (((B:Nat):Int))]) fun B=>J5 Q h.length 0 A.length 0 D.length 0 B) (J5 Q h.length 0 A.length 0 D.length 0 C)):Zah pg Zjn [.agg [.int .u8 x0x0,.slice a0x1 n0x1 c0x1 e0x1]] h Q:=
 Zah.of_body kp (c:=cod fn) (fn:=fn) Go.Proofs.Tryz.func105 (by kernel_rfl) (by kernel_rfl) (Nat.le_of_ble_eq_true (by kernel_rfl))
  (cast (by kernel_rfl) ht)
end Zfd
end Go.Sim

set_option maxRecDepth 100000
set_option maxHeartbeats 0
set_option linter.unusedVariables false
namespace Go.Sim
open Go Go.RowKit
namespace Zeq
noncomputable abbrev fn:Func:=Go.Proofs.Tryz.f79
def kp:Zcu:=[(2000003,[7,8,0,4,5]),(2000009,[]),(4000015,[4,0,5]),(3000016,[6]),(1000016,[0,4,5,67,68]),(2000018,[83,68,67,0,4,5])]
noncomputable def C (p:List Nat):Code:=(cod fn).sub p
def KR (Q:QT):KT:=Zfi pg fn.results.toList Q
abbrev T16:=Pt→Nat→Nat→Nat→Nat→Int→Int→Zaa→Prop
def E16 (R16:T16) (env:Env) (h:Zaa):Prop:=Zci 0 env fun v env=>Zfc v fun a0=>Zci 4 env fun v env=>Zfc v fun a=>Zbi a fun i4 o4=>Zci 5 env fun v env=>Zfc v fun a=>Zbi a fun i5 o5=>Zci 67 env fun v env=>Zez .i64 v fun x67=>Zci 68 env fun v env=>Zez .i64 v fun x68=>Zky env (R16 a0 i4 o4 i5 o5 x67 x68 h)
theorem Yng {R16:T16} {env:Env} {h:Zaa} (hi:E16 R16 env h):∃ a0,∃ i4,∃ o4,∃ i5,∃ o5,∃ x67,∃ x68,env=[(0,.ptr a0),(4,.ptr (i4,o4)),(5,.ptr (i5,o5)),(67,.int .i64 x67),(68,.int .i64 x68)]∧R16 a0 i4 o4 i5 o5 x67 x68 h:=by
 unfold E16 at hi
 have hi0:=hi
 clear hi
 obtain ⟨_,_,rfl,hi1⟩:=Zal hi0
 obtain ⟨a0,rfl,hi2⟩:=Zbo hi1
 obtain ⟨_,_,rfl,hi3⟩:=Zal hi2
 obtain ⟨a,rfl,hi4⟩:=Zbo hi3
 obtain ⟨i4,o4,rfl,hi5⟩:=Zbp hi4
 obtain ⟨_,_,rfl,hi6⟩:=Zal hi5
 obtain ⟨a,rfl,hi7⟩:=Zbo hi6
 obtain ⟨i5,o5,rfl,hi8⟩:=Zbp hi7
 obtain ⟨_,_,rfl,hi9⟩:=Zal hi8
 obtain ⟨x67,rfl,hi10⟩:=Zaz hi9
 obtain ⟨_,_,rfl,hi11⟩:=Zal hi10
 obtain ⟨x68,rfl,hi12⟩:=Zaz hi11
 obtain ⟨rfl,hi13⟩:=Zca hi12
 have hi:=hi13
 exact ⟨a0,i4,o4,i5,o5,x67,x68,rfl,hi⟩
def K0 (Q:QT):KT:=andThen (fun env' h'=>(match kp.find 4000021 with | some ks=>Den pg fn.ntmps (C [1,1,1,1,1,1]) (env'.keep ks) h' (KR Q) | none=>den pg fn.ntmps kp (C [1,1,1,1,1,1]) env' h' (KR Q))) (KR Q)
def K1 (Q:QT):KT:=Zdg 1 (K0 Q)
def K2 (Q:QT):KT:=left kp 16 (K1 Q)
def K3 (Q:QT) (R16:T16):KT:=rnd ((kp.find 1000016).getD []) (E16 R16) (K2 Q)
def J15 (Q:QT) (i4 o4:Nat) (a0:Pt) (i5 o5:Nat) (h:Zaa):Prop:=Den pg fn.ntmps (C [1,1,1,1,1]) [(4,.ptr (i4,o4)),(0,.ptr a0),(5,.ptr (i5,o5))] h (KR Q)
def L16 (Q:QT) (a0:Pt) (i4 o4 i5 o5:Nat) (x67 x68:Int) (h:Zaa):Prop:=Zfb (Den pg fn.ntmps (C [1,1,1,1,1,0,1,0,0])) ((kp.find 1000016).getD []) (K2 Q) [(0,.ptr a0),(4,.ptr (i4,o4)),(5,.ptr (i5,o5)),(67,.int .i64 x67),(68,.int .i64 x68)] h
def Ytp (Q:QT) (h:Zaa):Prop:=At (K1 Q) (.exit 1) [(6,.undef)] h
theorem J15i (Q:QT) (i4 o4:Nat) (a0:Pt) (i5 o5:Nat) (h:Zaa) (ht :
 xSl (Zai h (.ptr (i4,o4 + 1))) fun A A B B=>L16 Q a0 i4 o4 i5 o5 (((A:Nat):Int)) 0 h):J15 Q i4 o4 a0 i5 o5 h:=
 Zbf (kp:=kp) (cast (by kernel_rfl) ht)
def L16t (Q:QT) (R16:T16) (a0:Pt) (i4 o4 i5 o5:Nat) (x67 x68:Int) (h:Zaa):Prop:=
 bcase (decide ((x68:Int) < x67)) (xSl (Zai h (.ptr (i4,o4 + 1))) fun A B C C=>(0≤(x68:Int)∧(x68:Int) < (B:Nat))∧(Zbi A fun A B=>Zcb (Zan h (.ptr (A,B + (Int.toNat x68) * 2)) 2) fun C=>Zag C fun C D=>Zck .u8 C fun C=>Zag D fun D E=>xSl D fun D F G H=>Zbu E (xSl (Zai h (.ptr (i5,o5 + 1))) fun E I J J=>(Zan h (.ptr (A,B + (Int.toNat x68) * 2)) 2=Zan h (.ptr (A,B + (Int.toNat x68) * 2)) 2)∧(Zai h (.ptr (i4,o4 + 1))=Zai h (.ptr (i4,o4 + 1)))∧(0≤(x68:Int)∧(x68:Int) < (I:Nat))∧(Zbi E fun E I=>Zcb (Zan h (.ptr (E,I + (Int.toNat x68) * 2)) 2) fun E=>Zag E fun E I=>Zck .u8 E fun E=>Zag I fun I J=>xSl I fun I K L M=>Zbu J ((Zan h (.ptr (A,B + (Int.toNat x68) * 2)) 2=Zan h (.ptr (A,B + (Int.toNat x68) * 2)) 2)∧(Zai h (.ptr (i4,o4 + 1))=Zai h (.ptr (i4,o4 + 1)))∧Zah pg Zdn [.ptr a0,.agg [.int .u8 C,.slice D F G H],.agg [.int .u8 E,.slice I K L M]] h fun A B=>
 Zbr A fun A=>(Zai B (.ptr (i4,o4 + 1))=Zai h (.ptr (i4,o4 + 1)))∧bcase (!A) (Q (.bool false) B) (R16 a0 i4 o4 i5 o5 x67 (IntKind.wrap .i64 (x68 + 1)) B)))))) (Ytp Q h)
theorem Yth (Q:QT) (R16:T16) (a0:Pt) (i4 o4 i5 o5:Nat) (x67 x68:Int) (h:Zaa) (ht:L16t Q R16 a0 i4 o4 i5 o5 x67 x68 h):Den pg fn.ntmps (C [1,1,1,1,1,0,1,0,0]) [(0,.ptr a0),(4,.ptr (i4,o4)),(5,.ptr (i5,o5)),(67,.int .i64 x67),(68,.int .i64 x68)] h (K3 Q R16):=
 Zbf (kp:=kp) (cast (by kernel_rfl) ht)
theorem L16ind (Q:QT) (a0:Pt) (i4 o4 i5 o5:Nat) (x67:Int) {G:Type} (J:G→Int→Zaa→Prop) (m:G→Nat)
 (hr:∀ (g:G) (x68:Int) (h:Zaa),J g x68 h→∀ (R16:T16),(∀ g' (x68:Int) (h:Zaa),m g' < m g→J g' x68 h→R16 a0 i4 o4 i5 o5 x67 x68 h)→L16t Q R16 a0 i4 o4 i5 o5 x67 x68 h)
 (g:G) (x68:Int) (h:Zaa) (hj:J g x68 h):L16 Q a0 i4 o4 i5 o5 x67 x68 h:=by
 let P:=fun (K:Int→Zaa→Prop) a0' i4' o4' i5' o5' x67' x68 h=>a0=a0'∧i4=i4'∧o4=o4'∧i5=i5'∧o5=o5'∧x67=x67'∧K x68 h
 refine Zfb.inv2 (fun g=>E16 (P (J g))) (fun g=>E16 (P fun x68 h=>∃ g',m g' < m g∧J g' x68 h)) m ?_ ?_ g ⟨rfl,rfl,rfl,rfl,rfl,rfl,hj⟩
 ·intro g env h hi
  obtain ⟨a0',i4',o4',i5',o5',x67',x68,rfl,rfl,rfl,rfl,rfl,rfl,rfl,hj⟩:=Yng hi
  exact Yth Q _ a0 i4 o4 i5 o5 x67 x68 h (hr g x68 h hj (P fun x68 h=>∃ g',m g' < m g∧J g' x68 h) fun g' x68 h hlt hj=>⟨rfl,rfl,rfl,rfl,rfl,rfl,g',hlt,hj⟩)
 ·intro g env h hi
  obtain ⟨a0',i4',o4',i5',o5',x67',x68,rfl,rfl,rfl,rfl,rfl,rfl,rfl,g',hlt,hj⟩:=Yng hi
  exact ⟨g',hlt,rfl,rfl,rfl,rfl,rfl,rfl,hj⟩
theorem A16x1i (Q:QT) (h:Zaa) (ht :
 Q (.bool true) h):Ytp Q h:=
 At.mk (cast (by kernel_rfl) ht)
theorem call (a0:Pt) (x1x0:Int) (a1x1:Pt) (n1x1 c1x1:Nat) (e1x1:Bool) (x2x0:Int) (a2x1:Pt) (n2x1 c2x1:Nat) (e2x1:Bool) (h:Zaa) (Q:QT) (ht :
 Zco (h ++ [.cells Zab [.int .u8 x1x0,.slice a1x1 n1x1 c1x1 e1x1] false]) fun A=>Zco (A ++ [.cells Zab [.int .u8 x2x0,.slice a2x1 n2x1 c2x1 e2x1] false]) fun B=>Zcb (Zan B (.ptr (h.length,0)) 2) fun C=>Zag C fun C D=>Zck .u8 C fun C=>Zag D fun D E=>xSl D fun D F G H=>Zbu E (Zah pg Zif [.ptr a0,.agg [.int .u8 C,.slice D F G H]] B fun B C=>
 Zmv B fun B=>Zag B fun B D=>Zck .u8 B fun B=>Zag D fun D E=>xSl D fun D F G H=>Zbu E (Zbx (Zbb C (.ptr (h.length,0)) [.int .u8 B,.slice D F G H]) fun B=>Zcb (Zan B (.ptr (A.length,0)) 2) fun C=>Zag C fun C D=>Zck .u8 C fun C=>Zag D fun D E=>xSl D fun D F G H=>Zbu E (Zah pg Zif [.ptr a0,.agg [.int .u8 C,.slice D F G H]] B fun B C=>
 Zmv B fun B=>Zag B fun B D=>Zck .u8 B fun B=>Zag D fun D E=>xSl D fun D F G H=>Zbu E (Zbx (Zbb C (.ptr (A.length,0)) [.int .u8 B,.slice D F G H]) fun B=>Zck .u8 (Zai B (.ptr (h.length,0 + 0))) fun C=>Zck .u8 (Zai B (.ptr (A.length,0 + 0))) fun D=>Zah pg Zfa [.int .u8 C] B fun C E=>
 Zck .i64 C fun C=>(Zai E (.ptr (A.length,0 + 0))=Zai B (.ptr (A.length,0 + 0)))∧Zah pg Zfa [.int .u8 D] E fun B D=>
 Zck .i64 B fun B=>(Zai D (.ptr (h.length,0 + 0))=Zai E (.ptr (h.length,0 + 0)))∧bcase (decide ((C:Int) ≥ 0)) (bcase ((C:Int) == B) (Q (.bool true) D) (bcase (decide ((C:Int) ≥ 0)) (bcase (decide ((B:Int) < 0)) (Zck .u8 (Zai D (.ptr (h.length,0 + 0))) fun E=>Zcb (Zan D (.ptr (A.length,0)) 2) fun F=>Zag F fun F G=>Zck .u8 F fun F=>Zag G fun G H=>xSl G fun G I J K=>Zbu H (Zah pg Zdt [.ptr a0,.int .u8 E,.agg [.int .u8 F,.slice G I J K]] D fun E F=>
 Zbr E fun E=>bcase E (Q (.bool false) F) (Zbi a0 fun E G=>Zcb (Zan F (.ptr (A.length,0)) 2) fun H=>Zag H fun H I=>Zck .u8 H fun H=>Zag I fun I J=>xSl I fun I K L M=>Zbu J ((0≤(C:Int)∧(C:Int) < (12:Nat))∧(Zbx (Zbb F (.ptr (E,G + (Int.toNat C) * 2)) [.int .u8 H,.slice I K L M]) fun E=>Q (.bool true) E))))) (bcase (decide ((C:Int) < B)) (Zck .u8 (Zai D (.ptr (h.length,0 + 0))) fun E=>Zcb (Zan D (.ptr (A.length,0)) 2) fun F=>Zag F fun F G=>Zck .u8 F fun F=>Zag G fun G H=>xSl G fun G I J K=>Zbu H (Zah pg Zdt [.ptr a0,.int .u8 E,.agg [.int .u8 F,.slice G I J K]] D fun E F=>
 Zbr E fun E=>bcase E (Q (.bool false) F) (Zbi a0 fun E G=>Zcb (Zan F (.ptr (A.length,0)) 2) fun H=>Zag H fun H I=>Zck .u8 H fun H=>Zag I fun I J=>xSl I fun I K L M=>Zbu J ((0≤(C:Int)∧(C:Int) < (12:Nat))∧(Zbx (Zbb F (.ptr (E,G + (Int.toNat C) * 2)) [.int .u8 H,.slice I K L M]) fun E=>Q (.bool true) E))))) (bcase (decide ((B:Int) ≥ 0)) (Zcb (Zan D (.ptr (A.length,0)) 2) fun E=>Zag E fun E F=>Zck .u8 E fun E=>Zag F fun F G=>xSl F fun F H I J=>Zbu G (Zcb (Zan D (.ptr (h.length,0)) 2) fun G=>Zag G fun G K=>Zck .u8 G fun G=>Zag K fun K L=>xSl K fun K M N O=>Zbu L (Zah pg Zdn [.ptr a0,.agg [.int .u8 E,.slice F H I J],.agg [.int .u8 G,.slice K M N O]] D fun E F=>
 Zbr E fun E=>Q (.bool E) F))) (Zck .u8 (Zai D (.ptr (h.length,0 + 0))) fun E=>Zck .u8 (Zai D (.ptr (A.length,0 + 0))) fun F=>bcase (!((E:Int) == F)) (Q (.bool false) D) (J15 Q h.length 0 a0 A.length 0 D))))) (bcase (decide ((B:Int) ≥ 0)) (Zcb (Zan D (.ptr (A.length,0)) 2) fun E=>Zag E fun E F=>Zck .u8 E fun E=>Zag F fun F G=>xSl F fun F H I J=>Zbu G (Zcb (Zan D (.ptr (h.length,0)) 2) fun G=>Zag G fun G K=>Zck .u8 G fun G=>Zag K fun K L=>xSl K fun K M N O=>Zbu L (Zah pg Zdn [.ptr a0,.agg [.int .u8 E,.slice F H I J],.agg [.int .u8 G,.slice K M N O]] D fun E F=>
 Zbr E fun E=>Q (.bool E) F))) (Zck .u8 (Zai D (.ptr (h.length,0 + 0))) fun E=>Zck .u8 (Zai D (.ptr (A.length,0 + 0))) fun F=>bcase (!((E:Int) == F)) (Q (.bool false) D) (J15 Q h.length 0 a0 A.length 0 D))))) (bcase (decide ((C:Int) ≥ 0)) (bcase (decide ((B:Int) < 0)) (Zck .u8 (Zai D (.ptr (h.length,0 + 0))) fun E=>Zcb (Zan D (.ptr (A.length,0)) 2) fun F=>Zag F fun F G=>Zck .u8 F fun F=>Zag G fun G H=>xSl G fun G I J K=>Zbu H (Zah pg Zdt [.ptr a0,.int .u8 E,.agg [.int .u8 F,.slice G I J K]] D fun E F=>
 Zbr E fun E=>bcase E (Q (.bool false) F) (Zbi a0 fun E G=>Zcb (Zan F (.ptr (A.length,0)) 2) fun H=>Zag H fun H I=>Zck .u8 H fun H=>Zag I fun I J=>xSl I fun I K L M=>Zbu J ((0≤(C:Int)∧(C:Int) < (12:Nat))∧(Zbx (Zbb F (.ptr (E,G + (Int.toNat C) * 2)) [.int .u8 H,.slice I K L M]) fun E=>Q (.bool true) E))))) (bcase (decide ((C:Int) < B)) (Zck .u8 (Zai D (.ptr (h.length,0 + 0))) fun E=>Zcb (Zan D (.ptr (A.length,0)) 2) fun F=>Zag F fun F G=>Zck .u8 F fun F=>Zag G fun G H=>xSl G fun G I J K=>Zbu H (Zah pg Zdt [.ptr a0,.int .u8 E,.agg [.int .u8 F,.slice G I J K]] D fun E F=>
 Zbr E fun E=>bcase E (Q (.bool false) F) (Zbi a0 fun E G=>Zcb (Zan F (.ptr (A.length,0)) 2) fun H=>Zag H fun H I=>Zck .u8 H fun H=>Zag I fun I J=>xSl I fun I K L M=>Zbu J ((0≤(C:Int)∧(C:Int) < (12:Nat))∧(Zbx (Zbb F (.ptr (E,G + (Int.toNat C) * 2)) [.int .u8 H,.slice I K L M]) fun C=>Q (.bool true) C))))) (bcase (decide ((B:Int) ≥ 0)) (Zcb (Zan D (.ptr (A.length,0)) 2) fun C=>Zag C fun C E=>Zck .u8 C fun C=>Zag E fun E F=>xSl E fun E G H I=>Zbu F (Zcb (Zan D (.ptr (h.length,0)) 2) fun F=>Zag F fun F J=>Zck .u8 F fun F=>Zag J fun J K=>xSl J fun J L M N=>Zbu K (Zah pg Zdn [.ptr a0,.agg [.int .u8 C,.slice E G H I],.agg [.int .u8 F,.slice J L M N]] D fun C E=>
 Zbr C fun C=>Q (.bool C) E))) (Zck .u8 (Zai D (.ptr (h.length,0 + 0))) fun C=>Zck .u8 (Zai D (.ptr (A.length,0 + 0))) fun E=>bcase (!((C:Int) == E)) (Q (.bool false) D) (J15 Q h.length 0 a0 A.length 0 D))))) (bcase (decide ((B:Int) ≥ 0)) (Zcb (Zan D (.ptr (A.length,0)) 2) fun B=>Zag B fun B C=>Zck .u8 B fun B=>Zag C fun C E=>xSl C fun C F G H=>Zbu E (Zcb (Zan D (.ptr (h.length,0)) 2) fun E=>Zag E fun E I=>Zck .u8 E fun E=>Zag I fun I J=>xSl I fun I K L M=>Zbu J (Zah pg Zdn [.ptr a0,.agg [.int .u8 B,.slice C F G H],.agg [.int .u8 E,.slice I K L M]] D fun B C=>
 Zbr B fun B=>Q (.bool B) C))) (Zck .u8 (Zai D (.ptr (h.length,0 + 0))) fun B=>Zck .u8 (Zai D (.ptr (A.length,0 + 0))) fun C=>bcase (!((B:Int) == C)) (Q (.bool false) D) (J15 Q h.length 0 a0 A.length 0 D))))))))):Zah pg Zdn [.ptr a0,.agg [.int .u8 x1x0,.slice a1x1 n1x1 c1x1 e1x1],.agg [.int .u8 x2x0,.slice a2x1 n2x1 c2x1 e2x1]] h Q:=
 Zah.of_body kp (c:=cod fn) (fn:=fn) Go.Proofs.Tryz.func79 (by kernel_rfl) (by kernel_rfl) (Nat.le_of_ble_eq_true (by kernel_rfl))
  (cast (by kernel_rfl) ht)
end Zeq
end Go.Sim

set_option maxRecDepth 100000
set_option maxHeartbeats 0
set_option linter.unusedVariables false
namespace Go.Sim
open Go Go.RowKit
namespace Zhl
noncomputable abbrev fn:Func:=Go.Proofs.Tryz.f126
def kp:Zcu:=[(3000005,[6]),(1000005,[0,1,17,18,19])]
noncomputable def C (p:List Nat):Code:=(cod fn).sub p
def KR (Q:QT):KT:=Zfi pg fn.results.toList Q
abbrev T5:=Pt→Int→Pt→Nat→Nat→Bool→Int→Int→Zaa→Prop
def E5 (R5:T5) (env:Env) (h:Zaa):Prop:=Zci 0 env fun v env=>Zfc v fun a0=>Zci 1 env fun v env=>Zez .u8 v fun x1=>Zci 17 env fun v env=>xSl v fun a17 n17 c17 e17=>Zci 18 env fun v env=>Zez .i64 v fun x18=>Zci 19 env fun v env=>Zez .i64 v fun x19=>Zky env (R5 a0 x1 a17 n17 c17 e17 x18 x19 h)
theorem Zli {R5:T5} {env:Env} {h:Zaa} (hi:E5 R5 env h):∃ a0,∃ x1,∃ a17,∃ n17,∃ c17,∃ e17,∃ x18,∃ x19,env=[(0,.ptr a0),(1,.int .u8 x1),(17,.slice a17 n17 c17 e17),(18,.int .i64 x18),(19,.int .i64 x19)]∧R5 a0 x1 a17 n17 c17 e17 x18 x19 h:=by
 unfold E5 at hi
 repeat ((first | (have k:=Zal hi; clear hi; obtain ⟨_,_,e,hi⟩:=k) | (have k:=Zaz hi; clear hi; obtain ⟨_,e,hi⟩:=k) | (have k:=Zcp hi; clear hi; obtain ⟨_,_,_,_,e,hi⟩:=k) | (have k:=Zbo hi; clear hi; obtain ⟨_,e,hi⟩:=k)); subst e)
 obtain ⟨rfl,hi⟩:=Zca hi
 exact ⟨_,_,_,_,_,_,_,_,rfl,hi⟩
def K0 (Q:QT):KT:=andThen (fun env' h'=>(match kp.find 4000010 with | some ks=>Den pg fn.ntmps (C [1,1,1,1]) (env'.keep ks) h' (KR Q) | none=>den pg fn.ntmps kp (C [1,1,1,1]) env' h' (KR Q))) (KR Q)
def K1 (Q:QT):KT:=Zdg 0 (K0 Q)
def K2 (Q:QT):KT:=left kp 5 (K1 Q)
def K3 (Q:QT) (R5:T5):KT:=rnd ((kp.find 1000005).getD []) (E5 R5) (K2 Q)
def L5 (Q:QT) (a0:Pt) (x1:Int) (a17:Pt) (n17 c17:Nat) (e17:Bool) (x18 x19:Int) (h:Zaa):Prop:=Zfb (Den pg fn.ntmps (C [1,1,1,0,1,0,0])) ((kp.find 1000005).getD []) (K2 Q) [(0,.ptr a0),(1,.int .u8 x1),(17,.slice a17 n17 c17 e17),(18,.int .i64 x18),(19,.int .i64 x19)] h
def A5x0 (Q:QT) (h:Zaa):Prop:=At (K1 Q) (.exit 0) [(6,.undef)] h
def L5t (Q:QT) (R5:T5) (a0:Pt) (x1:Int) (a17:Pt) (n17 c17:Nat) (e17:Bool) (x18 x19:Int) (h:Zaa):Prop:=
 bcase (decide ((x19:Int) < x18)) ((0≤(x19:Int)∧(x19:Int) < (n17:Nat))∧(Zbi a17 fun A B=>Zcb (Zan h (.ptr (A,B + (Int.toNat x19) * 2)) 2) fun A=>Zag A fun A B=>Zck .u8 A fun A=>Zag B fun B C=>xSl B fun B D E F=>Zbu C (Zco (h ++ [.cells Zab [.int .u8 0,.slice none 0 0 true] false]) fun C=>Zbx (Zbb C (.ptr (h.length,0)) [.int .u8 A,.slice B D E F]) fun A=>Zcb (Zan A (.ptr (h.length,0)) 2) fun B=>Zag B fun B C=>Zck .u8 B fun B=>Zag C fun C D=>xSl C fun C E F G=>Zbu D (Zah pg Zdt [.ptr a0,.int .u8 x1,.agg [.int .u8 B,.slice C E F G]] A fun A B=>
 Zbr A fun A=>bcase A (Q (.bool true) B) (R5 a0 x1 a17 n17 c17 e17 x18 (IntKind.wrap .i64 (x19 + 1)) B))))) (A5x0 Q h)
theorem Zxf (Q:QT) (R5:T5) (a0:Pt) (x1:Int) (a17:Pt) (n17 c17:Nat) (e17:Bool) (x18 x19:Int) (h:Zaa) (ht:L5t Q R5 a0 x1 a17 n17 c17 e17 x18 x19 h):Den pg fn.ntmps (C [1,1,1,0,1,0,0]) [(0,.ptr a0),(1,.int .u8 x1),(17,.slice a17 n17 c17 e17),(18,.int .i64 x18),(19,.int .i64 x19)] h (K3 Q R5):=
 Zbf (kp:=kp) (cast (by kernel_rfl) ht)
theorem L5ind (Q:QT) (a0:Pt) (x1:Int) (a17:Pt) (n17 c17:Nat) (e17:Bool) (x18:Int) {G:Type} (J:G→Int→Zaa→Prop) (m:G→Nat)
 (hr:∀ (g:G) (x19:Int) (h:Zaa),J g x19 h→∀ (R5:T5),(∀ g' (x19:Int) (h:Zaa),m g' < m g→J g' x19 h→R5 a0 x1 a17 n17 c17 e17 x18 x19 h)→L5t Q R5 a0 x1 a17 n17 c17 e17 x18 x19 h)
 (g:G) (x19:Int) (h:Zaa) (hj:J g x19 h):L5 Q a0 x1 a17 n17 c17 e17 x18 x19 h:=by
 let P:=fun (K:Int→Zaa→Prop) a0' x1' a17' n17' c17' e17' x18' x19 h=>a0=a0'∧x1=x1'∧a17=a17'∧n17=n17'∧c17=c17'∧e17=e17'∧x18=x18'∧K x19 h
 refine Zfb.inv2 (fun g=>E5 (P (J g))) (fun g=>E5 (P fun x19 h=>∃ g',m g' < m g∧J g' x19 h)) m ?_ ?_ g ⟨rfl,rfl,rfl,rfl,rfl,rfl,rfl,hj⟩
 ·intro g env h hi
  obtain ⟨a0',x1',a17',n17',c17',e17',x18',x19,rfl,rfl,rfl,rfl,rfl,rfl,rfl,rfl,hj⟩:=Zli hi
  exact Zxf Q _ a0 x1 a17 n17 c17 e17 x18 x19 h (hr g x19 h hj (P fun x19 h=>∃ g',m g' < m g∧J g' x19 h) fun g' x19 h hlt hj=>⟨rfl,rfl,rfl,rfl,rfl,rfl,rfl,g',hlt,hj⟩)
 ·intro g env h hi
  obtain ⟨a0',x1',a17',n17',c17',e17',x18',x19,rfl,rfl,rfl,rfl,rfl,rfl,rfl,rfl,g',hlt,hj⟩:=Zli hi
  exact ⟨g',hlt,rfl,rfl,rfl,rfl,rfl,rfl,rfl,hj⟩
theorem A5x0i (Q:QT) (h:Zaa) (ht :
 Q (.bool false) h):A5x0 Q h:=
 At.mk (cast (by kernel_rfl) ht)
theorem call (a0:Pt) (x1 x2x0:Int) (a2x1:Pt) (n2x1 c2x1:Nat) (e2x1:Bool) (h:Zaa) (Q:QT) (ht :
 Zco (h ++ [.cells Zab [.int .u8 x2x0,.slice a2x1 n2x1 c2x1 e2x1] false]) fun A=>Zcb (Zan A (.ptr (h.length,0)) 2) fun B=>Zag B fun B C=>Zck .u8 B fun B=>Zag C fun C D=>xSl C fun C E F G=>Zbu D (Zah pg Zif [.ptr a0,.agg [.int .u8 B,.slice C E F G]] A fun A B=>
 Zmv A fun A=>Zag A fun A C=>Zck .u8 A fun A=>Zag C fun C D=>xSl C fun C E F G=>Zbu D (Zbx (Zbb B (.ptr (h.length,0)) [.int .u8 A,.slice C E F G]) fun A=>Zck .u8 (Zai A (.ptr (h.length,0 + 0))) fun B=>bcase ((B:Int) == x1) (Q (.bool true) A) (xSl (Zai A (.ptr (h.length,0 + 1))) fun B C D E=>L5 Q a0 x1 B C D E (((C:Nat):Int)) 0 A)))):Zah pg Zdt [.ptr a0,.int .u8 x1,.agg [.int .u8 x2x0,.slice a2x1 n2x1 c2x1 e2x1]] h Q:=
 Zah.of_body kp (c:=cod fn) (fn:=fn) Go.Proofs.Tryz.func126 (by kernel_rfl) (by kernel_rfl) (Nat.le_of_ble_eq_true (by kernel_rfl))
  (cast (by kernel_rfl) ht)
end Zhl
end Go.Sim

set_option maxRecDepth 100000
set_option maxHeartbeats 0
set_option linter.unusedVariables false
namespace Go.Sim
open Go Go.RowKit
namespace Zgy
noncomputable abbrev fn:Func:=Go.Proofs.Tryz.f125
def kp:Zcu:=[(3000002,[3,4]),(1000002,[0,3,4,5]),(4000004,[0,5,3,4])]
noncomputable def C (p:List Nat):Code:=(cod fn).sub p
def KR (Q:QT):KT:=Zfi pg fn.results.toList Q
abbrev T2:=Pt→Nat→Nat→Nat→Nat→Int→Zaa→Prop
def E2 (R2:T2) (env:Env) (h:Zaa):Prop:=Zci 0 env fun v env=>Zfc v fun a0=>Zci 3 env fun v env=>Zfc v fun a=>Zbi a fun i3 o3=>Zci 4 env fun v env=>Zfc v fun a=>Zbi a fun i4 o4=>Zci 5 env fun v env=>Zez .i64 v fun x5=>Zky env (R2 a0 i3 o3 i4 o4 x5 h)
theorem Zfx {R2:T2} {env:Env} {h:Zaa} (hi:E2 R2 env h):∃ a0,∃ i3,∃ o3,∃ i4,∃ o4,∃ x5,env=[(0,.ptr a0),(3,.ptr (i3,o3)),(4,.ptr (i4,o4)),(5,.int .i64 x5)]∧R2 a0 i3 o3 i4 o4 x5 h:=by
 unfold E2 at hi
 have hi0:=hi
 clear hi
 obtain ⟨_,_,rfl,hi1⟩:=Zal hi0
 obtain ⟨a0,rfl,hi2⟩:=Zbo hi1
 obtain ⟨_,_,rfl,hi3⟩:=Zal hi2
 obtain ⟨a,rfl,hi4⟩:=Zbo hi3
 obtain ⟨i3,o3,rfl,hi5⟩:=Zbp hi4
 obtain ⟨_,_,rfl,hi6⟩:=Zal hi5
 obtain ⟨a,rfl,hi7⟩:=Zbo hi6
 obtain ⟨i4,o4,rfl,hi8⟩:=Zbp hi7
 obtain ⟨_,_,rfl,hi9⟩:=Zal hi8
 obtain ⟨x5,rfl,hi10⟩:=Zaz hi9
 obtain ⟨rfl,hi11⟩:=Zca hi10
 have hi:=hi11
 exact ⟨a0,i3,o3,i4,o4,x5,rfl,hi⟩
def K0 (Q:QT):KT:=andThen (fun env' h'=>(match kp.find 4000005 with | some ks=>Den pg fn.ntmps (C [1,1]) (env'.keep ks) h' (KR Q) | none=>den pg fn.ntmps kp (C [1,1]) env' h' (KR Q))) (KR Q)
def K1 (Q:QT):KT:=Zdg 0 (K0 Q)
def K2 (Q:QT):KT:=left kp 2 (K1 Q)
def K3 (Q:QT) (R2:T2):KT:=rnd ((kp.find 1000002).getD []) (E2 R2) (K2 Q)
def L2 (Q:QT) (a0:Pt) (i3 o3 i4 o4:Nat) (x5:Int) (h:Zaa):Prop:=Zfb (Den pg fn.ntmps (C [1,0,1,0,0])) ((kp.find 1000002).getD []) (K2 Q) [(0,.ptr a0),(3,.ptr (i3,o3)),(4,.ptr (i4,o4)),(5,.int .i64 x5)] h
def J4 (Q:QT) (R2:T2) (a0:Pt) (x5:Int) (i3 o3 i4 o4:Nat) (h:Zaa):Prop:=Den pg fn.ntmps (C [1,0,1,0,0,1]) [(0,.ptr a0),(5,.int .i64 x5),(3,.ptr (i3,o3)),(4,.ptr (i4,o4))] h (K3 Q R2)
def A2x0 (Q:QT) (i3 o3 i4 o4:Nat) (h:Zaa):Prop:=At (K1 Q) (.exit 0) [(3,.ptr (i3,o3)),(4,.ptr (i4,o4))] h
def L2t (Q:QT) (R2:T2) (a0:Pt) (i3 o3 i4 o4:Nat) (x5:Int) (h:Zaa):Prop:=
 bcase (decide ((x5:Int) ≥ 0)) (Zbi a0 fun A B=>(0≤(x5:Int)∧(x5:Int) < (12:Nat))∧(Zck .u8 (Zai h (.ptr (A,B + (Int.toNat x5) * 2 + 0))) fun A=>bcase (!((A:Int) == 0)) (J4 Q R2 a0 x5 i3 o3 i4 o4 h) (A2x0 Q i3 o3 i4 o4 h))) (A2x0 Q i3 o3 i4 o4 h)
theorem Zok (Q:QT) (R2:T2) (a0:Pt) (i3 o3 i4 o4:Nat) (x5:Int) (h:Zaa) (ht:L2t Q R2 a0 i3 o3 i4 o4 x5 h):Den pg fn.ntmps (C [1,0,1,0,0]) [(0,.ptr a0),(3,.ptr (i3,o3)),(4,.ptr (i4,o4)),(5,.int .i64 x5)] h (K3 Q R2):=
 Zbf (kp:=kp) (cast (by kernel_rfl) ht)
theorem L2ind (Q:QT) (a0:Pt) (i3 o3 i4 o4:Nat) {G:Type} (J:G→Int→Zaa→Prop) (m:G→Nat)
 (hr:∀ (g:G) (x5:Int) (h:Zaa),J g x5 h→∀ (R2:T2),(∀ g' (x5:Int) (h:Zaa),m g' < m g→J g' x5 h→R2 a0 i3 o3 i4 o4 x5 h)→L2t Q R2 a0 i3 o3 i4 o4 x5 h)
 (g:G) (x5:Int) (h:Zaa) (hj:J g x5 h):L2 Q a0 i3 o3 i4 o4 x5 h:=by
 let P:=fun (K:Int→Zaa→Prop) a0' i3' o3' i4' o4' x5 h=>a0=a0'∧i3=i3'∧o3=o3'∧i4=i4'∧o4=o4'∧K x5 h
 refine Zfb.inv2 (fun g=>E2 (P (J g))) (fun g=>E2 (P fun x5 h=>∃ g',m g' < m g∧J g' x5 h)) m ?_ ?_ g ⟨rfl,rfl,rfl,rfl,rfl,hj⟩
 ·intro g env h hi
  obtain ⟨a0',i3',o3',i4',o4',x5,rfl,rfl,rfl,rfl,rfl,rfl,hj⟩:=Zfx hi
  exact Zok Q _ a0 i3 o3 i4 o4 x5 h (hr g x5 h hj (P fun x5 h=>∃ g',m g' < m g∧J g' x5 h) fun g' x5 h hlt hj=>⟨rfl,rfl,rfl,rfl,rfl,g',hlt,hj⟩)
 ·intro g env h hi
  obtain ⟨a0',i3',o3',i4',o4',x5,rfl,rfl,rfl,rfl,rfl,rfl,g',hlt,hj⟩:=Zfx hi
  exact ⟨g',hlt,rfl,rfl,rfl,rfl,rfl,hj⟩
theorem J4i (Q:QT) (R2:T2) (a0:Pt) (x5:Int) (i3 o3 i4 o4:Nat) (h:Zaa) (ht :
 Zbi a0 fun A B=>(0≤(x5:Int)∧(x5:Int) < (12:Nat))∧(Zcb (Zan h (.ptr (A,B + (Int.toNat x5) * 2)) 2) fun A=>Zag A fun A B=>Zck .u8 A fun A=>Zag B fun B C=>xSl B fun B D E F=>Zbu C (Zbx (Zbb h (.ptr (i3,o3)) [.int .u8 A,.slice B D E F]) fun A=>Zck .u8 (Zai A (.ptr (i3,o3 + 0))) fun B=>Zah pg Zfa [.int .u8 B] A fun A B=>
 Zck .i64 A fun A=>R2 a0 i3 o3 i4 o4 A B))):J4 Q R2 a0 x5 i3 o3 i4 o4 h:=
 Zbf (kp:=kp) (cast (by kernel_rfl) ht)
theorem A2x0i (Q:QT) (i3 o3 i4 o4:Nat) (h:Zaa) (ht :
 Zcb (Zan h (.ptr (i3,o3)) 2) fun A=>Zag A fun A B=>Zck .u8 A fun A=>Zag B fun B C=>xSl B fun B D E F=>Zbu C (Zbx (Zbb h (.ptr (i4,o4)) [.int .u8 A,.slice B D E F]) fun A=>Zcb (Zan A (.ptr (i4,o4)) 2) fun B=>Zag B fun B C=>Zck .u8 B fun B=>Zag C fun C D=>xSl C fun C E F G=>Zbu D (Q (.agg [.int .u8 B,.slice C E F G]) A))):A2x0 Q i3 o3 i4 o4 h:=
 At.mk (cast (by kernel_rfl) ht)
theorem call (a0:Pt) (x1x0:Int) (a1x1:Pt) (n1x1 c1x1:Nat) (e1x1:Bool) (h:Zaa) (Q:QT) (ht :
 Zco (h ++ [.cells Zab [.int .u8 x1x0,.slice a1x1 n1x1 c1x1 e1x1] false]) fun A=>Zco (A ++ [.cells Zab [.int .u8 0,.slice none 0 0 true] false]) fun B=>Zck .u8 (Zai B (.ptr (h.length,0 + 0))) fun C=>Zah pg Zfa [.int .u8 C] B fun B C=>
 Zck .i64 B fun B=>L2 Q a0 h.length 0 A.length 0 B C):Zah pg Zif [.ptr a0,.agg [.int .u8 x1x0,.slice a1x1 n1x1 c1x1 e1x1]] h Q:=
 Zah.of_body kp (c:=cod fn) (fn:=fn) Go.Proofs.Tryz.func125 (by kernel_rfl) (by kernel_rfl) (Nat.le_of_ble_eq_true (by kernel_rfl))
  (cast (by kernel_rfl) ht)
end Zgy
end Go.Sim

set_option maxRecDepth 100000
set_option maxHeartbeats 0
set_option linter.unusedVariables false
namespace Go.Sim
open Go Go.RowKit
namespace Zfr
noncomputable abbrev fn:Func:=Go.Proofs.Tryz.f81
def kp:Zcu:=[(3000003,[1,3]),(1000003,[1,3,7,8,9]),(4000009,[3])]
noncomputable def C (p:List Nat):Code:=(cod fn).sub p
def KR (Q:QT):KT:=Zfi pg fn.results.toList Q
abbrev T3:=Nat→Nat→Int→Pt→Nat→Nat→Bool→Int→Int→Zaa→Prop
def E3 (R3:T3) (env:Env) (h:Zaa):Prop:=Zci 1 env fun v env=>Zfc v fun a=>Zbi a fun i1 o1=>Zci 3 env fun v env=>Zez .i64 v fun x3=>Zci 7 env fun v env=>xSl v fun a7 n7 c7 e7=>Zci 8 env fun v env=>Zez .i64 v fun x8=>Zci 9 env fun v env=>Zez .i64 v fun x9=>Zky env (R3 i1 o1 x3 a7 n7 c7 e7 x8 x9 h)
theorem Zfy {R3:T3} {env:Env} {h:Zaa} (hi:E3 R3 env h):∃ i1,∃ o1,∃ x3,∃ a7,∃ n7,∃ c7,∃ e7,∃ x8,∃ x9,env=[(1,.ptr (i1,o1)),(3,.int .i64 x3),(7,.slice a7 n7 c7 e7),(8,.int .i64 x8),(9,.int .i64 x9)]∧R3 i1 o1 x3 a7 n7 c7 e7 x8 x9 h:=by
 unfold E3 at hi
 have hi0:=hi
 clear hi
 obtain ⟨_,_,rfl,hi1⟩:=Zal hi0
 obtain ⟨a,rfl,hi2⟩:=Zbo hi1
 obtain ⟨i1,o1,rfl,hi3⟩:=Zbp hi2
 obtain ⟨_,_,rfl,hi4⟩:=Zal hi3
 obtain ⟨x3,rfl,hi5⟩:=Zaz hi4
 obtain ⟨_,_,rfl,hi6⟩:=Zal hi5
 obtain ⟨a7,n7,c7,e7,rfl,hi7⟩:=Zcp hi6
 obtain ⟨_,_,rfl,hi8⟩:=Zal hi7
 obtain ⟨x8,rfl,hi9⟩:=Zaz hi8
 obtain ⟨_,_,rfl,hi10⟩:=Zal hi9
 obtain ⟨x9,rfl,hi11⟩:=Zaz hi10
 obtain ⟨rfl,hi12⟩:=Zca hi11
 have hi:=hi12
 exact ⟨i1,o1,x3,a7,n7,c7,e7,x8,x9,rfl,hi⟩
def K0 (Q:QT):KT:=andThen (fun env' h'=>(match kp.find 4000007 with | some ks=>Den pg fn.ntmps (C [1,1,1]) (env'.keep ks) h' (KR Q) | none=>den pg fn.ntmps kp (C [1,1,1]) env' h' (KR Q))) (KR Q)
def K1 (Q:QT):KT:=Zdg 0 (K0 Q)
def K2 (Q:QT):KT:=left kp 3 (K1 Q)
def K3 (Q:QT) (R3:T3):KT:=rnd ((kp.find 1000003).getD []) (E3 R3) (K2 Q)
def L3 (Q:QT) (i1 o1:Nat) (x3:Int) (a7:Pt) (n7 c7:Nat) (e7:Bool) (x8 x9:Int) (h:Zaa):Prop:=Zfb (Den pg fn.ntmps (C [1,1,0,1,0,0])) ((kp.find 1000003).getD []) (K2 Q) [(1,.ptr (i1,o1)),(3,.int .i64 x3),(7,.slice a7 n7 c7 e7),(8,.int .i64 x8),(9,.int .i64 x9)] h
def Zsz (Q:QT) (i1 o1:Nat) (x3:Int) (h:Zaa):Prop:=At (K1 Q) (.exit 0) [(1,.ptr (i1,o1)),(3,.int .i64 x3)] h
def J9 (Q:QT) (x3:Int) (h:Zaa):Prop:=Den pg fn.ntmps (C [1,1,1,1]) [(3,.int .i64 x3)] h (KR Q)
def L3t (Q:QT) (R3:T3) (i1 o1:Nat) (x3:Int) (a7:Pt) (n7 c7:Nat) (e7:Bool) (x8 x9:Int) (h:Zaa):Prop:=
 bcase (decide ((x9:Int) < x8)) ((0≤(x9:Int)∧(x9:Int) < (n7:Nat))∧(Zbi a7 fun A B=>Zcb (Zan h (.ptr (A,B + (Int.toNat x9) * 2)) 2) fun A=>Zag A fun A B=>Zck .u8 A fun A=>Zag B fun B C=>xSl B fun B D E F=>Zbu C (Zco (h ++ [.cells Zab [.int .u8 0,.slice none 0 0 true] false]) fun C=>Zbx (Zbb C (.ptr (h.length,0)) [.int .u8 A,.slice B D E F]) fun A=>Zcb (Zan A (.ptr (h.length,0)) 2) fun B=>Zag B fun B C=>Zck .u8 B fun B=>Zag C fun C D=>xSl C fun C E F G=>Zbu D (Zah pg Zhs [.agg [.int .u8 B,.slice C E F G]] A fun A B=>
 Zck .i64 A fun A=>R3 i1 o1 (IntKind.wrap .i64 ((IntKind.wrap .i64 (x3 + 1)) + A)) a7 n7 c7 e7 x8 (IntKind.wrap .i64 (x9 + 1)) B)))) (Zsz Q i1 o1 x3 h)
theorem Zoo (Q:QT) (R3:T3) (i1 o1:Nat) (x3:Int) (a7:Pt) (n7 c7:Nat) (e7:Bool) (x8 x9:Int) (h:Zaa) (ht:L3t Q R3 i1 o1 x3 a7 n7 c7 e7 x8 x9 h):Den pg fn.ntmps (C [1,1,0,1,0,0]) [(1,.ptr (i1,o1)),(3,.int .i64 x3),(7,.slice a7 n7 c7 e7),(8,.int .i64 x8),(9,.int .i64 x9)] h (K3 Q R3):=
 Zbf (kp:=kp) (cast (by kernel_rfl) ht)
theorem L3ind (Q:QT) (i1 o1:Nat) (a7:Pt) (n7 c7:Nat) (e7:Bool) (x8:Int) {G:Type} (J:G→Int→Int→Zaa→Prop) (m:G→Nat)
 (hr:∀ (g:G) (x3 x9:Int) (h:Zaa),J g x3 x9 h→∀ (R3:T3),(∀ g' (x3 x9:Int) (h:Zaa),m g' < m g→J g' x3 x9 h→R3 i1 o1 x3 a7 n7 c7 e7 x8 x9 h)→L3t Q R3 i1 o1 x3 a7 n7 c7 e7 x8 x9 h)
 (g:G) (x3 x9:Int) (h:Zaa) (hj:J g x3 x9 h):L3 Q i1 o1 x3 a7 n7 c7 e7 x8 x9 h:=by
 let P:=fun (K:Int→Int→Zaa→Prop) i1' o1' x3 a7' n7' c7' e7' x8' x9 h=>i1=i1'∧o1=o1'∧a7=a7'∧n7=n7'∧c7=c7'∧e7=e7'∧x8=x8'∧K x3 x9 h
 refine Zfb.inv2 (fun g=>E3 (P (J g))) (fun g=>E3 (P fun x3 x9 h=>∃ g',m g' < m g∧J g' x3 x9 h)) m ?_ ?_ g ⟨rfl,rfl,rfl,rfl,rfl,rfl,rfl,hj⟩
 ·intro g env h hi
  obtain ⟨i1',o1',x3,a7',n7',c7',e7',x8',x9,rfl,rfl,rfl,rfl,rfl,rfl,rfl,rfl,hj⟩:=Zfy hi
  exact Zoo Q _ i1 o1 x3 a7 n7 c7 e7 x8 x9 h (hr g x3 x9 h hj (P fun x3 x9 h=>∃ g',m g' < m g∧J g' x3 x9 h) fun g' x3 x9 h hlt hj=>⟨rfl,rfl,rfl,rfl,rfl,rfl,rfl,g',hlt,hj⟩)
 ·intro g env h hi
  obtain ⟨i1',o1',x3,a7',n7',c7',e7',x8',x9,rfl,rfl,rfl,rfl,rfl,rfl,rfl,rfl,g',hlt,hj⟩:=Zfy hi
  exact ⟨g',hlt,rfl,rfl,rfl,rfl,rfl,rfl,rfl,hj⟩
theorem A3x0i (Q:QT) (i1 o1:Nat) (x3:Int) (h:Zaa) (ht :
 xSl (Zai h (.ptr (i1,o1 + 1))) fun A A B B=>bcase (decide (((((A:Nat):Int)):Int) > 0)) (J9 Q (IntKind.wrap .i64 (x3 + 1)) h) (J9 Q x3 h)):Zsz Q i1 o1 x3 h:=
 At.mk (cast (by kernel_rfl) ht)
theorem J9i (Q:QT) (x3:Int) (h:Zaa) (ht :
 Q (.int .i64 x3) h):J9 Q x3 h:=
 Zbf (kp:=kp) (cast (by kernel_rfl) ht)
theorem call (x0x0:Int) (a0x1:Pt) (n0x1 c0x1:Nat) (e0x1:Bool) (h:Zaa) (Q:QT) (ht :
 Zco (h ++ [.cells Zab [.int .u8 x0x0,.slice a0x1 n0x1 c0x1 e0x1] false]) fun A=>xSl (Zai A (.ptr (h.length,0 + 1))) fun B C D E=>L3 Q h.length 0 1 B C D E (((C:Nat):Int)) 0 A):Zah pg Zhs [.agg [.int .u8 x0x0,.slice a0x1 n0x1 c0x1 e0x1]] h Q:=
 Zah.of_body kp (c:=cod fn) (fn:=fn) Go.Proofs.Tryz.func81 (by kernel_rfl) (by kernel_rfl) (Nat.le_of_ble_eq_true (by kernel_rfl))
  (cast (by kernel_rfl) ht)
end Zfr
namespace Zfo
noncomputable abbrev fn:Func:=Go.Proofs.Tryz.f43
def kp:Zcu:=[(3000003,[4,2,3]),(1000003,[4,8,10]),(2000004,[6,5,10,8,4]),(4000006,[6,4,5,10,8]),(2000008,[10,8,4]),(4000009,[10,8,4])]
noncomputable def C (p:List Nat):Code:=(cod fn).sub p
def KR (Q:QT):KT:=Zfi pg fn.results.toList Q
abbrev T3:=Pt→Nat→Nat→Bool→Pt→Int→Zaa→Prop
def E3 (R3:T3) (env:Env) (h:Zaa):Prop:=Zci 4 env fun v env=>xSl v fun a4 n4 c4 e4=>Zci 8 env fun v env=>Zfc v fun a8=>Zci 10 env fun v env=>Zez .i64 v fun x10=>Zky env (R3 a4 n4 c4 e4 a8 x10 h)
theorem Zfy {R3:T3} {env:Env} {h:Zaa} (hi:E3 R3 env h):∃ a4,∃ n4,∃ c4,∃ e4,∃ a8,∃ x10,env=[(4,.slice a4 n4 c4 e4),(8,.ptr a8),(10,.int .i64 x10)]∧R3 a4 n4 c4 e4 a8 x10 h:=by
 unfold E3 at hi
 repeat ((first | (have k:=Zal hi; clear hi; obtain ⟨_,_,e,hi⟩:=k) | (have k:=Zaz hi; clear hi; obtain ⟨_,e,hi⟩:=k) | (have k:=Zcp hi; clear hi; obtain ⟨_,_,_,_,e,hi⟩:=k) | (have k:=Zbo hi; clear hi; obtain ⟨_,e,hi⟩:=k)); subst e)
 obtain ⟨rfl,hi⟩:=Zca hi
 exact ⟨_,_,_,_,_,_,rfl,hi⟩
def K0 (Q:QT):KT:=andThen (fun env' h'=>(match kp.find 4000010 with | some ks=>Den pg fn.ntmps (C [1,1,1]) (env'.keep ks) h' (KR Q) | none=>den pg fn.ntmps kp (C [1,1,1]) env' h' (KR Q))) (KR Q)
def K1 (Q:QT):KT:=Zdg 0 (K0 Q)
def K2 (Q:QT):KT:=left kp 3 (K1 Q)
def K3 (Q:QT) (R3:T3):KT:=rnd ((kp.find 1000003).getD []) (E3 R3) (K2 Q)
def K4 (Q:QT) (R3:T3):KT:=andThen (fun env' h'=>(match kp.find 4000009 with | some ks=>Den pg fn.ntmps (C [1,1,0,1,0,0,1,1,1]) (env'.keep ks) h' (K3 Q R3) | none=>den pg fn.ntmps kp (C [1,1,0,1,0,0,1,1,1]) env' h' (K3 Q R3))) (K3 Q R3)
def K5 (Q:QT) (R3:T3):KT:=Zdg 1 (K4 Q R3)
def L3 (Q:QT) (a4:Pt) (n4 c4:Nat) (e4:Bool) (a8:Pt) (x10:Int) (h:Zaa):Prop:=Zfb (Den pg fn.ntmps (C [1,1,0,1,0,0])) ((kp.find 1000003).getD []) (K2 Q) [(4,.slice a4 n4 c4 e4),(8,.ptr a8),(10,.int .i64 x10)] h
def J9 (Q:QT) (R3:T3) (x10:Int) (a8 a4:Pt) (n4 c4:Nat) (e4:Bool) (h:Zaa):Prop:=Den pg fn.ntmps (C [1,1,0,1,0,0,1,1,1]) [(10,.int .i64 x10),(8,.ptr a8),(4,.slice a4 n4 c4 e4)] h (K3 Q R3)
def J6 (Q:QT) (R3:T3) (i6 o6:Nat) (a4:Pt) (n4 c4:Nat) (e4:Bool) (x5 x10:Int) (a8:Pt) (h:Zaa):Prop:=Den pg fn.ntmps (C [1,1,0,1,0,0,1,1,0,0,1,1]) [(6,.ptr (i6,o6)),(4,.slice a4 n4 c4 e4),(5,.int .i64 x5),(10,.int .i64 x10),(8,.ptr a8)] h (K5 Q R3)
def Zsz (Q:QT) (a4:Pt) (n4 c4:Nat) (e4:Bool) (h:Zaa):Prop:=At (K1 Q) (.exit 0) [(4,.slice a4 n4 c4 e4),(2,.undef),(3,.undef)] h
def L3t (Q:QT) (R3:T3) (a4:Pt) (n4 c4:Nat) (e4:Bool) (a8:Pt) (x10:Int) (h:Zaa):Prop:=
 bcase (decide ((x10:Int) < 12)) (Zbi a8 fun A B=>(0≤(x10:Int)∧(x10:Int) < (12:Nat))∧(Zcb (Zan h (.ptr (A,B + (Int.toNat x10) * 2)) 2) fun C=>Zag C fun C D=>Zck .u8 C fun C=>Zag D fun D E=>xSl D fun D F G H=>Zbu E (Zco (h ++ [.cells Zab [.int .u8 0,.slice none 0 0 true] false]) fun E=>(Zan E (.ptr (A,B + (Int.toNat x10) * 2)) 2=Zan h (.ptr (A,B + (Int.toNat x10) * 2)) 2)∧Zbx (Zbb E (.ptr (h.length,0)) [.int .u8 C,.slice D F G H]) fun A=>Zck .u8 (Zai A (.ptr (h.length,0 + 0))) fun B=>bcase ((B:Int) == 0) (J9 Q R3 x10 a8 a4 n4 c4 e4 A) (bcase (decide ((x10:Int) ≥ 6)) (J9 Q R3 x10 a8 a4 n4 c4 e4 A) (J6 Q R3 h.length 0 a4 n4 c4 e4 x10 x10 a8 A))))) (Zsz Q a4 n4 c4 e4 h)
theorem Zoo (Q:QT) (R3:T3) (a4:Pt) (n4 c4:Nat) (e4:Bool) (a8:Pt) (x10:Int) (h:Zaa) (ht:L3t Q R3 a4 n4 c4 e4 a8 x10 h):Den pg fn.ntmps (C [1,1,0,1,0,0]) [(4,.slice a4 n4 c4 e4),(8,.ptr a8),(10,.int .i64 x10)] h (K3 Q R3):=
 Zbf (kp:=kp) (cast (by kernel_rfl) ht)
theorem L3ind (Q:QT) (a8:Pt) {G:Type} (J:G→Pt→Nat→Nat→Bool→Int→Zaa→Prop) (m:G→Nat)
 (hr:∀ (g:G) (a4:Pt) (n4 c4:Nat) (e4:Bool) (x10:Int) (h:Zaa),J g a4 n4 c4 e4 x10 h→∀ (R3:T3),(∀ g' (a4:Pt) (n4 c4:Nat) (e4:Bool) (x10:Int) (h:Zaa),m g' < m g→J g' a4 n4 c4 e4 x10 h→R3 a4 n4 c4 e4 a8 x10 h)→L3t Q R3 a4 n4 c4 e4 a8 x10 h)
 (g:G) (a4:Pt) (n4 c4:Nat) (e4:Bool) (x10:Int) (h:Zaa) (hj:J g a4 n4 c4 e4 x10 h):L3 Q a4 n4 c4 e4 a8 x10 h:=by
 let P:=fun (K:Pt→Nat→Nat→Bool→Int→Zaa→Prop) a4 n4 c4 e4 a8' x10 h=>a8=a8'∧K a4 n4 c4 e4 x10 h
 refine Zfb.inv2 (fun g=>E3 (P (J g))) (fun g=>E3 (P fun a4 n4 c4 e4 x10 h=>∃ g',m g' < m g∧J g' a4 n4 c4 e4 x10 h)) m ?_ ?_ g ⟨rfl,hj⟩
 ·intro g env h hi
  obtain ⟨a4,n4,c4,e4,a8',x10,rfl,rfl,hj⟩:=Zfy hi
  exact Zoo Q _ a4 n4 c4 e4 a8 x10 h (hr g a4 n4 c4 e4 x10 h hj (P fun a4 n4 c4 e4 x10 h=>∃ g',m g' < m g∧J g' a4 n4 c4 e4 x10 h) fun g' a4 n4 c4 e4 x10 h hlt hj=>⟨rfl,g',hlt,hj⟩)
 ·intro g env h hi
  obtain ⟨a4,n4,c4,e4,a8',x10,rfl,rfl,g',hlt,hj⟩:=Zfy hi
  exact ⟨g',hlt,rfl,hj⟩
theorem J9i (Q:QT) (R3:T3) (x10:Int) (a8 a4:Pt) (n4 c4:Nat) (e4:Bool) (h:Zaa) (ht :
 R3 a4 n4 c4 e4 a8 (IntKind.wrap .i64 (x10 + 1)) h):J9 Q R3 x10 a8 a4 n4 c4 e4 h:=
 Zbf (kp:=kp) (cast (by kernel_rfl) ht)
theorem J6i (Q:QT) (R3:T3) (i6 o6:Nat) (a4:Pt) (n4 c4:Nat) (e4:Bool) (x5 x10:Int) (a8:Pt) (h:Zaa) (ht :
 Zcb (Zan h (.ptr (i6,o6)) 2) fun A=>Zag A fun A B=>Zck .u8 A fun A=>Zag B fun B C=>xSl B fun B D E F=>Zbu C (Zah pg Zhs [.agg [.int .u8 A,.slice B D E F]] h fun A B=>
 Zck .i64 A fun A=>bcase (decide ((A:Int) > 60)) (Zco (B ++ [.cells Zcf [] false]) fun A=>Q (.tup [.slice (B.length,0) 0 0 true,.bool false]) A) ((0≤(x5:Int)∧(x5:Int)≤IntKind.wrap .i64 (x5 + 1)∧(IntKind.wrap .i64 (x5 + 1):Int)≤(List.length ([88,89,90,120,121,122,49,50,51,52,53,54]):Nat))∧(Zcb (Zan B (.ptr (i6,o6)) 2) fun A=>Zag A fun A C=>Zck .u8 A fun A=>Zag C fun C D=>xSl C fun C E F G=>Zbu D (Zah pg Zgx [.agg [.int .u8 A,.slice C E F G]] B fun A B=>
 Zbn A fun A=>Zco (B ++ [.cells Zcf [.str (sub ([88,89,90,120,121,122,49,50,51,52,53,54]) x5 (IntKind.wrap .i64 (x5 + 1))),.str A] false]) fun A=>Zcz pg Zlj A (.slice a4 n4 c4 e4) (.slice (B.length,0) 1 1 true) fun A B=>xSl A fun A C D E=>J9 Q R3 x10 a8 A C D E B))))):J6 Q R3 i6 o6 a4 n4 c4 e4 x5 x10 a8 h:=
 Zbf (kp:=kp) (cast (by kernel_rfl) ht)
theorem A3x0i (Q:QT) (a4:Pt) (n4 c4:Nat) (e4:Bool) (h:Zaa) (ht :
 Q (.tup [.slice a4 n4 c4 e4,.bool true]) h):Zsz Q a4 n4 c4 e4 h:=
 At.mk (cast (by kernel_rfl) ht)
theorem call (a0:Pt) (h:Zaa) (Q:QT) (ht :
 Zco (h ++ [.cells Zcf [] false]) fun A=>Zbi a0 fun B B=>L3 Q (h.length,0) 0 0 true a0 0 A):Zah pg Zor [.ptr a0] h Q:=
 Zah.of_body kp (c:=cod fn) (fn:=fn) Go.Proofs.Tryz.func43 (by kernel_rfl) (by kernel_rfl) (Nat.le_of_ble_eq_true (by kernel_rfl))
  (cast (by kernel_rfl) ht)
end Zfo
namespace Zll
noncomputable abbrev fn:Func:=Go.Proofs.Tryz.f134
def kp:Zcu:=[(4000006,[10])]
noncomputable def C (p:List Nat):Code:=(cod fn).sub p
def KR (Q:QT):KT:=Zfi pg fn.results.toList Q
def J6 (Q:QT) (i10 o10:Nat) (h:Zaa):Prop:=Den pg fn.ntmps (C [1,1,1,1,1]) [(10,.ptr (i10,o10))] h (KR Q)
theorem J6i (Q:QT) (i10 o10:Nat) (h:Zaa) (ht :
 Zah pg Zor [.ptr (i10,o10)] h fun A B=>
 Zru A fun A=>Zag A fun A C=>xSl A fun A D E F=>Zag C fun C G=>Zbr C fun C=>Zbu G (Q (.tup [.slice A D E F,.bool C]) B)):J6 Q i10 o10 h:=
 Zbf (kp:=kp) (cast (by kernel_rfl) ht)
theorem call (x0 x1:List Nat) (h:Zaa) (Q:QT) (ht :
 Zah pg Zfn [.str x0] h fun A B=>
 Zru A fun A=>Zag A fun A C=>Zmv A fun A=>Zag A fun A D=>Zck .u8 A fun A=>Zag D fun D E=>xSl D fun D F G H=>Zbu E (Zag C fun C E=>Zbr C fun C=>Zbu E (Zco (B ++ [.cells Zab [.int .u8 0,.slice none 0 0 true] false]) fun E=>Zbx (Zbb E (.ptr (B.length,0)) [.int .u8 A,.slice D F G H]) fun A=>Zah pg Zfn [.str x1] A fun A D=>
 Zru A fun A=>Zag A fun A E=>Zmv A fun A=>Zag A fun A F=>Zck .u8 A fun A=>Zag F fun F G=>xSl F fun F H I J=>Zbu G (Zag E fun E G=>Zbr E fun E=>Zbu G (Zco (D ++ [.cells Zab [.int .u8 0,.slice none 0 0 true] false]) fun G=>Zbx (Zbb G (.ptr (D.length,0)) [.int .u8 A,.slice F H I J]) fun A=>Zco (A ++ [.cells Zcj [.int .u8 0,.slice none 0 0 true,.int .u8 0,.slice none 0 0 true,.int .u8 0,.slice none 0 0 true,.int .u8 0,.slice none 0 0 true,.int .u8 0,.slice none 0 0 true,.int .u8 0,.slice none 0 0 true,.int .u8 0,.slice none 0 0 true,.int .u8 0,.slice none 0 0 true,.int .u8 0,.slice none 0 0 true,.int .u8 0,.slice none 0 0 true,.int .u8 0,.slice none 0 0 true,.int .u8 0,.slice none 0 0 true] false]) fun F=>bcase (!C) (Zco (F ++ [.cells Zcf [] false]) fun C=>Q (.tup [.slice (F.length,0) 0 0 true,.bool false]) C) (bcase (!E) (Zco (F ++ [.cells Zcf [] false]) fun C=>Q (.tup [.slice (F.length,0) 0 0 true,.bool false]) C) (Zcb (Zan F (.ptr (B.length,0)) 2) fun B=>Zag B fun B C=>Zck .u8 B fun B=>Zag C fun C E=>xSl C fun C G H I=>Zbu E (Zcb (Zan F (.ptr (D.length,0)) 2) fun D=>Zag D fun D E=>Zck .u8 D fun D=>Zag E fun E J=>xSl E fun E K L M=>Zbu J (Zah pg Zkt [.ptr (A.length,0),.agg [.int .u8 B,.slice C G H I],.agg [.int .u8 D,.slice E K L M]] F fun B C=>
 Zbr B fun B=>bcase (!B) (Zco (C ++ [.cells Zcf [] false]) fun B=>Q (.tup [.slice (C.length,0) 0 0 true,.bool false]) B) (J6 Q A.length 0 C)))))))))):Zah pg Zln [.str x0,.str x1] h Q:=
 Zah.of_body kp (c:=cod fn) (fn:=fn) Go.Proofs.Tryz.func134 (by kernel_rfl) (by kernel_rfl) (Nat.le_of_ble_eq_true (by kernel_rfl))
  (cast (by kernel_rfl) ht)
end Zll
namespace Zoc
noncomputable abbrev fn:Func:=Go.Proofs.Tryz.f96
def kp:Zcu:=[]
noncomputable def C (p:List Nat):Code:=(cod fn).sub p
def KR (Q:QT):KT:=Zfi pg fn.results.toList Q
theorem call (x0 x1:List Nat) (h:Zaa) (Q:QT) (ht :
 Zah pg Zln [.str x0,.str x1] h fun A B=>
 Zru A fun A=>Zag A fun A C=>xSl A fun A A A A=>Zag C fun A C=>Zbr A fun A=>Zbu C (Q (.bool A) B)):Zah pg Zkk [.str x0,.str x1] h Q:=
 Zah.of_body kp (c:=cod fn) (fn:=fn) Go.Proofs.Tryz.func96 (by kernel_rfl) (by kernel_rfl) (Nat.le_of_ble_eq_true (by kernel_rfl))
  (cast (by kernel_rfl) ht)
end Zoc
end Go.Sim

set_option maxRecDepth 100000
set_option maxHeartbeats 0
set_option linter.unusedVariables false
namespace Go.Sim
open Go Go.RowKit
namespace Zrw
noncomputable abbrev fn:Func:=Go.Proofs.Tryz.f84
def kp:Zcu:=[]
noncomputable def C (p:List Nat):Code:=(cod fn).sub p
def KR (Q:QT):KT:=Zfi pg fn.results.toList Q
theorem call (x0:Int) (h:Zaa) (Q:QT) (ht :
 Zah pg Zhd [.str ([88,89,90,120,121,122,49,50,51,52,53,54]),.int .u8 x0] h fun A B=>
 Zck .i64 A fun A=>Q (.int .i64 A) B):Zah pg Zfa [.int .u8 x0] h Q:=
 Zah.of_body kp (c:=cod fn) (fn:=fn) Go.Proofs.Tryz.func84 (by kernel_rfl) (by kernel_rfl) (Nat.le_of_ble_eq_true (by kernel_rfl))
  (cast (by kernel_rfl) ht)
end Zrw
namespace Zim
noncomputable abbrev fn:Func:=Go.Proofs.Tryz.f160
def kp:Zcu:=[(2000004,[]),(2000006,[6]),(3000010,[6]),(1000010,[0,4,5,42,43]),(2000012,[58,43,42,0,4,5])]
noncomputable def C (p:List Nat):Code:=(cod fn).sub p
def KR (Q:QT):KT:=Zfi pg fn.results.toList Q
abbrev T10:=Pt→Nat→Nat→Nat→Nat→Int→Int→Zaa→Prop
def E10 (R10:T10) (env:Env) (h:Zaa):Prop:=Zci 0 env fun v env=>Zfc v fun a0=>Zci 4 env fun v env=>Zfc v fun a=>Zbi a fun i4 o4=>Zci 5 env fun v env=>Zfc v fun a=>Zbi a fun i5 o5=>Zci 42 env fun v env=>Zez .i64 v fun x42=>Zci 43 env fun v env=>Zez .i64 v fun x43=>Zky env (R10 a0 i4 o4 i5 o5 x42 x43 h)
theorem Ylb {R10:T10} {env:Env} {h:Zaa} (hi:E10 R10 env h):∃ a0,∃ i4,∃ o4,∃ i5,∃ o5,∃ x42,∃ x43,env=[(0,.ptr a0),(4,.ptr (i4,o4)),(5,.ptr (i5,o5)),(42,.int .i64 x42),(43,.int .i64 x43)]∧R10 a0 i4 o4 i5 o5 x42 x43 h:=by
 unfold E10 at hi
 have hi0:=hi
 clear hi
 obtain ⟨_,_,rfl,hi1⟩:=Zal hi0
 obtain ⟨a0,rfl,hi2⟩:=Zbo hi1
 obtain ⟨_,_,rfl,hi3⟩:=Zal hi2
 obtain ⟨a,rfl,hi4⟩:=Zbo hi3
 obtain ⟨i4,o4,rfl,hi5⟩:=Zbp hi4
 obtain ⟨_,_,rfl,hi6⟩:=Zal hi5
 obtain ⟨a,rfl,hi7⟩:=Zbo hi6
 obtain ⟨i5,o5,rfl,hi8⟩:=Zbp hi7
 obtain ⟨_,_,rfl,hi9⟩:=Zal hi8
 obtain ⟨x42,rfl,hi10⟩:=Zaz hi9
 obtain ⟨_,_,rfl,hi11⟩:=Zal hi10
 obtain ⟨x43,rfl,hi12⟩:=Zaz hi11
 obtain ⟨rfl,hi13⟩:=Zca hi12
 have hi:=hi13
 exact ⟨a0,i4,o4,i5,o5,x42,x43,rfl,hi⟩
def K0 (Q:QT):KT:=andThen (fun env' h'=>(match kp.find 4000015 with | some ks=>Den pg fn.ntmps (C [1,1,1,1]) (env'.keep ks) h' (KR Q) | none=>den pg fn.ntmps kp (C [1,1,1,1]) env' h' (KR Q))) (KR Q)
def K1 (Q:QT):KT:=Zdg 0 (K0 Q)
def K2 (Q:QT):KT:=left kp 10 (K1 Q)
def K3 (Q:QT) (R10:T10):KT:=rnd ((kp.find 1000010).getD []) (E10 R10) (K2 Q)
def L10 (Q:QT) (a0:Pt) (i4 o4 i5 o5:Nat) (x42 x43:Int) (h:Zaa):Prop:=Zfb (Den pg fn.ntmps (C [1,1,1,0,1,0,0])) ((kp.find 1000010).getD []) (K2 Q) [(0,.ptr a0),(4,.ptr (i4,o4)),(5,.ptr (i5,o5)),(42,.int .i64 x42),(43,.int .i64 x43)] h
def Yts (Q:QT) (h:Zaa):Prop:=At (K1 Q) (.exit 0) [(6,.undef)] h
def L10t (Q:QT) (R10:T10) (a0:Pt) (i4 o4 i5 o5:Nat) (x42 x43:Int) (h:Zaa):Prop:=
 bcase (decide ((x43:Int) < x42)) (xSl (Zai h (.ptr (i4,o4 + 1))) fun A B C C=>(0≤(x43:Int)∧(x43:Int) < (B:Nat))∧(Zbi A fun A B=>Zcb (Zan h (.ptr (A,B + (Int.toNat x43) * 2)) 2) fun C=>Zag C fun C D=>Zck .u8 C fun C=>Zag D fun D E=>xSl D fun D F G H=>Zbu E (xSl (Zai h (.ptr (i5,o5 + 1))) fun E I J J=>(Zan h (.ptr (A,B + (Int.toNat x43) * 2)) 2=Zan h (.ptr (A,B + (Int.toNat x43) * 2)) 2)∧(Zai h (.ptr (i4,o4 + 1))=Zai h (.ptr (i4,o4 + 1)))∧(0≤(x43:Int)∧(x43:Int) < (I:Nat))∧(Zbi E fun E I=>Zcb (Zan h (.ptr (E,I + (Int.toNat x43) * 2)) 2) fun E=>Zag E fun E I=>Zck .u8 E fun E=>Zag I fun I J=>xSl I fun I K L M=>Zbu J ((Zan h (.ptr (A,B + (Int.toNat x43) * 2)) 2=Zan h (.ptr (A,B + (Int.toNat x43) * 2)) 2)∧(Zai h (.ptr (i4,o4 + 1))=Zai h (.ptr (i4,o4 + 1)))∧Zah pg Zkt [.ptr a0,.agg [.int .u8 C,.slice D F G H],.agg [.int .u8 E,.slice I K L M]] h fun A B=>
 Zbr A fun A=>(Zai B (.ptr (i4,o4 + 1))=Zai h (.ptr (i4,o4 + 1)))∧bcase (!A) (Q (.bool false) B) (R10 a0 i4 o4 i5 o5 x42 (IntKind.wrap .i64 (x43 + 1)) B)))))) (Yts Q h)
theorem Ytm (Q:QT) (R10:T10) (a0:Pt) (i4 o4 i5 o5:Nat) (x42 x43:Int) (h:Zaa) (ht:L10t Q R10 a0 i4 o4 i5 o5 x42 x43 h):Den pg fn.ntmps (C [1,1,1,0,1,0,0]) [(0,.ptr a0),(4,.ptr (i4,o4)),(5,.ptr (i5,o5)),(42,.int .i64 x42),(43,.int .i64 x43)] h (K3 Q R10):=
 Zbf (kp:=kp) (cast (by kernel_rfl) ht)
theorem L10ind (Q:QT) (a0:Pt) (i4 o4 i5 o5:Nat) (x42:Int) {G:Type} (J:G→Int→Zaa→Prop) (m:G→Nat)
 (hr:∀ (g:G) (x43:Int) (h:Zaa),J g x43 h→∀ (R10:T10),(∀ g' (x43:Int) (h:Zaa),m g' < m g→J g' x43 h→R10 a0 i4 o4 i5 o5 x42 x43 h)→L10t Q R10 a0 i4 o4 i5 o5 x42 x43 h)
 (g:G) (x43:Int) (h:Zaa) (hj:J g x43 h):L10 Q a0 i4 o4 i5 o5 x42 x43 h:=by
 let P:=fun (K:Int→Zaa→Prop) a0' i4' o4' i5' o5' x42' x43 h=>a0=a0'∧i4=i4'∧o4=o4'∧i5=i5'∧o5=o5'∧x42=x42'∧K x43 h
 refine Zfb.inv2 (fun g=>E10 (P (J g))) (fun g=>E10 (P fun x43 h=>∃ g',m g' < m g∧J g' x43 h)) m ?_ ?_ g ⟨rfl,rfl,rfl,rfl,rfl,rfl,hj⟩
 ·intro g env h hi
  obtain ⟨a0',i4',o4',i5',o5',x42',x43,rfl,rfl,rfl,rfl,rfl,rfl,rfl,hj⟩:=Ylb hi
  exact Ytm Q _ a0 i4 o4 i5 o5 x42 x43 h (hr g x43 h hj (P fun x43 h=>∃ g',m g' < m g∧J g' x43 h) fun g' x43 h hlt hj=>⟨rfl,rfl,rfl,rfl,rfl,rfl,g',hlt,hj⟩)
 ·intro g env h hi
  obtain ⟨a0',i4',o4',i5',o5',x42',x43,rfl,rfl,rfl,rfl,rfl,rfl,rfl,g',hlt,hj⟩:=Ylb hi
  exact ⟨g',hlt,rfl,rfl,rfl,rfl,rfl,rfl,hj⟩
theorem A10x0i (Q:QT) (h:Zaa) (ht :
 Q (.bool true) h):Yts Q h:=
 At.mk (cast (by kernel_rfl) ht)
theorem call (a0:Pt) (x1x0:Int) (a1x1:Pt) (n1x1 c1x1:Nat) (e1x1:Bool) (x2x0:Int) (a2x1:Pt) (n2x1 c2x1:Nat) (e2x1:Bool) (h:Zaa) (Q:QT) (ht :
 Zco (h ++ [.cells Zab [.int .u8 x1x0,.slice a1x1 n1x1 c1x1 e1x1] false]) fun A=>Zco (A ++ [.cells Zab [.int .u8 x2x0,.slice a2x1 n2x1 c2x1 e2x1] false]) fun B=>Zck .u8 (Zai B (.ptr (h.length,0 + 0))) fun C=>Zah pg Zfa [.int .u8 C] B fun B C=>
 Zck .i64 B fun B=>bcase (decide ((B:Int) ≥ 0)) (Zbi a0 fun D E=>(0≤(B:Int)∧(B:Int) < (12:Nat))∧(Zck .u8 (Zai C (.ptr (D,E + (Int.toNat B) * 2 + 0))) fun D=>bcase ((D:Int) == 0) (Zbi a0 fun D E=>Zcb (Zan C (.ptr (A.length,0)) 2) fun F=>Zag F fun F G=>Zck .u8 F fun F=>Zag G fun G H=>xSl G fun G I J K=>Zbu H ((0≤(B:Int)∧(B:Int) < (12:Nat))∧(Zbx (Zbb C (.ptr (D,E + (Int.toNat B) * 2)) [.int .u8 F,.slice G I J K]) fun D=>Q (.bool true) D))) (Zbi a0 fun D E=>(0≤(B:Int)∧(B:Int) < (12:Nat))∧(Zcb (Zan C (.ptr (D,E + (Int.toNat B) * 2)) 2) fun F=>Zag F fun F G=>Zck .u8 F fun F=>Zag G fun G H=>xSl G fun G I J K=>Zbu H (Zcb (Zan C (.ptr (A.length,0)) 2) fun H=>Zag H fun H L=>Zck .u8 H fun H=>Zag L fun L M=>xSl L fun L N O P=>Zbu M (Zah pg Zgx [.agg [.int .u8 F,.slice G I J K]] C fun F G=>
 Zbn F fun F=>(Zan G (.ptr (A.length,0)) 2=Zan C (.ptr (A.length,0)) 2)∧Zah pg Zgx [.agg [.int .u8 H,.slice L N O P]] G fun H I=>
 Zbn H fun H=>(Zan I (.ptr (D,E + (Int.toNat B) * 2)) 2=Zan G (.ptr (D,E + (Int.toNat B) * 2)) 2)∧Q (.bool (decide (F=H))) I)))))) (Zck .u8 (Zai C (.ptr (h.length,0 + 0))) fun B=>Zck .u8 (Zai C (.ptr (A.length,0 + 0))) fun D=>bcase (!((B:Int) == D)) (Q (.bool false) C) (xSl (Zai C (.ptr (h.length,0 + 1))) fun B B D D=>L10 Q a0 h.length 0 A.length 0 (((B:Nat):Int)) 0 C))):Zah pg Zkt [.ptr a0,.agg [.int .u8 x1x0,.slice a1x1 n1x1 c1x1 e1x1],.agg [.int .u8 x2x0,.slice a2x1 n2x1 c2x1 e2x1]] h Q:=
 Zah.of_body kp (c:=cod fn) (fn:=fn) Go.Proofs.Tryz.func160 (by kernel_rfl) (by kernel_rfl) (Nat.le_of_ble_eq_true (by kernel_rfl))
  (cast (by kernel_rfl) ht)
end Zim
end Go.Sim

set_option maxRecDepth 100000
set_option maxHeartbeats 0
set_option linter.unusedVariables false
namespace Go.Sim
open Go Go.RowKit
namespace Zhr
noncomputable abbrev fn:Func:=Go.Proofs.Tryz.f40
def kp:Zcu:=[(3000003,[3]),(1000003,[0,3,9,10,11])]
noncomputable def C (p:List Nat):Code:=(cod fn).sub p
def KR (Q:QT):KT:=Zfi pg fn.results.toList Q
abbrev T3:=Option Nat→Pt→Nat→Nat→Bool→Pt→Nat→Nat→Bool→Int→Int→Zaa→Prop
def E3 (R3:T3) (env:Env) (h:Zaa):Prop:=Zci 0 env fun v env=>Yhp v fun m0=>Zci 3 env fun v env=>xSl v fun a3 n3 c3 e3=>Zci 9 env fun v env=>xSl v fun a9 n9 c9 e9=>Zci 10 env fun v env=>Zez .i64 v fun x10=>Zci 11 env fun v env=>Zez .i64 v fun x11=>Zky env (R3 m0 a3 n3 c3 e3 a9 n9 c9 e9 x10 x11 h)
theorem Zfy {R3:T3} {env:Env} {h:Zaa} (hi:E3 R3 env h):∃ m0,∃ a3,∃ n3,∃ c3,∃ e3,∃ a9,∃ n9,∃ c9,∃ e9,∃ x10,∃ x11,env=[(0,.map m0),(3,.slice a3 n3 c3 e3),(9,.slice a9 n9 c9 e9),(10,.int .i64 x10),(11,.int .i64 x11)]∧R3 m0 a3 n3 c3 e3 a9 n9 c9 e9 x10 x11 h:=by
 unfold E3 at hi
 repeat ((first | (have k:=Zal hi; clear hi; obtain ⟨_,_,e,hi⟩:=k) | (have k:=Zti hi; clear hi; obtain ⟨_,e,hi⟩:=k) | (have k:=Zaz hi; clear hi; obtain ⟨_,e,hi⟩:=k) | (have k:=Zcp hi; clear hi; obtain ⟨_,_,_,_,e,hi⟩:=k)); subst e)
 obtain ⟨rfl,hi⟩:=Zca hi
 exact ⟨_,_,_,_,_,_,_,_,_,_,_,rfl,hi⟩
def K0 (Q:QT):KT:=andThen (fun env' h'=>(match kp.find 4000007 with | some ks=>Den pg fn.ntmps (C [1,1,1]) (env'.keep ks) h' (KR Q) | none=>den pg fn.ntmps kp (C [1,1,1]) env' h' (KR Q))) (KR Q)
def K1 (Q:QT):KT:=Zdg 0 (K0 Q)
def K2 (Q:QT):KT:=left kp 3 (K1 Q)
def K3 (Q:QT) (R3:T3):KT:=rnd ((kp.find 1000003).getD []) (E3 R3) (K2 Q)
def L3 (Q:QT) (m0:Option Nat) (a3:Pt) (n3 c3:Nat) (e3:Bool) (a9:Pt) (n9 c9:Nat) (e9:Bool) (x10 x11:Int) (h:Zaa):Prop:=Zfb (Den pg fn.ntmps (C [1,1,0,1,0,0])) ((kp.find 1000003).getD []) (K2 Q) [(0,.map m0),(3,.slice a3 n3 c3 e3),(9,.slice a9 n9 c9 e9),(10,.int .i64 x10),(11,.int .i64 x11)] h
def Zsz (Q:QT) (a3:Pt) (n3 c3:Nat) (e3:Bool) (h:Zaa):Prop:=At (K1 Q) (.exit 0) [(3,.slice a3 n3 c3 e3)] h
def L3t (Q:QT) (R3:T3) (m0:Option Nat) (a3:Pt) (n3 c3:Nat) (e3:Bool) (a9:Pt) (n9 c9:Nat) (e9:Bool) (x10 x11:Int) (h:Zaa):Prop:=
 bcase (decide ((x11:Int) < x10)) ((0≤(x11:Int)∧(x11:Int) < (n9:Nat))∧(Zbi a9 fun A B=>Zbn (Zai h (.ptr (A,B + (Int.toNat x11) * 1))) fun A=>Zdy h m0 fun es_13 k_14=>Zsr es_13 A fun B=>Zbn (some (Option.getD B (.str []))) fun B=>Zco (h ++ [.cells Zcf [.str A,.str B] false]) fun A=>Zcz pg Zlj A (.slice a3 n3 c3 e3) (.slice (h.length,0) 1 1 true) fun A B=>xSl A fun A C D E=>R3 m0 A C D E a9 n9 c9 e9 x10 (IntKind.wrap .i64 (x11 + 1)) B)) (Zsz Q a3 n3 c3 e3 h)
theorem Zoo (Q:QT) (R3:T3) (m0:Option Nat) (a3:Pt) (n3 c3:Nat) (e3:Bool) (a9:Pt) (n9 c9:Nat) (e9:Bool) (x10 x11:Int) (h:Zaa) (ht:L3t Q R3 m0 a3 n3 c3 e3 a9 n9 c9 e9 x10 x11 h):Den pg fn.ntmps (C [1,1,0,1,0,0]) [(0,.map m0),(3,.slice a3 n3 c3 e3),(9,.slice a9 n9 c9 e9),(10,.int .i64 x10),(11,.int .i64 x11)] h (K3 Q R3):=
 Zbf (kp:=kp) (cast (by kernel_rfl) ht)
theorem L3ind (Q:QT) (m0:Option Nat) (a9:Pt) (n9 c9:Nat) (e9:Bool) (x10:Int) {G:Type} (J:G→Pt→Nat→Nat→Bool→Int→Zaa→Prop) (m:G→Nat)
 (hr:∀ (g:G) (a3:Pt) (n3 c3:Nat) (e3:Bool) (x11:Int) (h:Zaa),J g a3 n3 c3 e3 x11 h→∀ (R3:T3),(∀ g' (a3:Pt) (n3 c3:Nat) (e3:Bool) (x11:Int) (h:Zaa),m g' < m g→J g' a3 n3 c3 e3 x11 h→R3 m0 a3 n3 c3 e3 a9 n9 c9 e9 x10 x11 h)→L3t Q R3 m0 a3 n3 c3 e3 a9 n9 c9 e9 x10 x11 h)
 (g:G) (a3:Pt) (n3 c3:Nat) (e3:Bool) (x11:Int) (h:Zaa) (hj:J g a3 n3 c3 e3 x11 h):L3 Q m0 a3 n3 c3 e3 a9 n9 c9 e9 x10 x11 h:=by
 let P:=fun (K:Pt→Nat→Nat→Bool→Int→Zaa→Prop) m0' a3 n3 c3 e3 a9' n9' c9' e9' x10' x11 h=>m0=m0'∧a9=a9'∧n9=n9'∧c9=c9'∧e9=e9'∧x10=x10'∧K a3 n3 c3 e3 x11 h
 refine Zfb.inv2 (fun g=>E3 (P (J g))) (fun g=>E3 (P fun a3 n3 c3 e3 x11 h=>∃ g',m g' < m g∧J g' a3 n3 c3 e3 x11 h)) m ?_ ?_ g ⟨rfl,rfl,rfl,rfl,rfl,rfl,hj⟩
 ·intro g env h hi
  obtain ⟨m0',a3,n3,c3,e3,a9',n9',c9',e9',x10',x11,rfl,rfl,rfl,rfl,rfl,rfl,rfl,hj⟩:=Zfy hi
  exact Zoo Q _ m0 a3 n3 c3 e3 a9 n9 c9 e9 x10 x11 h (hr g a3 n3 c3 e3 x11 h hj (P fun a3 n3 c3 e3 x11 h=>∃ g',m g' < m g∧J g' a3 n3 c3 e3 x11 h) fun g' a3 n3 c3 e3 x11 h hlt hj=>⟨rfl,rfl,rfl,rfl,rfl,rfl,g',hlt,hj⟩)
 ·intro g env h hi
  obtain ⟨m0',a3,n3,c3,e3,a9',n9',c9',e9',x10',x11,rfl,rfl,rfl,rfl,rfl,rfl,rfl,g',hlt,hj⟩:=Zfy hi
  exact ⟨g',hlt,rfl,rfl,rfl,rfl,rfl,rfl,hj⟩
theorem A3x0i (Q:QT) (a3:Pt) (n3 c3:Nat) (e3:Bool) (h:Zaa) (ht :
 Q (.slice a3 n3 c3 e3) h):Zsz Q a3 n3 c3 e3 h:=
 At.mk (cast (by kernel_rfl) ht)
theorem call (m0:Option Nat) (h:Zaa) (Q:QT) (ht :
 Zco (h ++ [.cells Zcf [] false]) fun A=>Zah pg Zet [.map m0] A fun A B=>
 Zzf A fun A=>Zah pg Zkd [A] B fun A B=>
 xSl A fun A C D E=>L3 Q m0 (h.length,0) 0 0 true A C D E (((C:Nat):Int)) 0 B):Zah pg Zmg [.map m0] h Q:=
 Zah.of_body kp (c:=cod fn) (fn:=fn) Go.Proofs.Tryz.func40 (by kernel_rfl) (by kernel_rfl) (Nat.le_of_ble_eq_true (by kernel_rfl))
  (cast (by kernel_rfl) ht)
end Zhr
namespace Zlo
noncomputable abbrev fn:Func:=Go.Proofs.Tryz.f47
def kp:Zcu:=[(4000004,[8])]
noncomputable def C (p:List Nat):Code:=(cod fn).sub p
def KR (Q:QT):KT:=Zfi pg fn.results.toList Q
def J4 (Q:QT) (m8:Option Nat) (h:Zaa):Prop:=Den pg fn.ntmps (C [1,1,1]) [(8,.map m8)] h (KR Q)
theorem J4i (Q:QT) (m8:Option Nat) (h:Zaa) (ht :
 Zah pg Zmg [.map m8] h fun A B=>
 xSl A fun A C D E=>Q (.tup [.slice A C D E,.bool true]) B):J4 Q m8 h:=
 Zbf (kp:=kp) (cast (by kernel_rfl) ht)
theorem call (x0 x1:List Nat) (h:Zaa) (Q:QT) (ht :
 Zah pg Zjx [.str x0] h fun A B=>
 Zfc A fun A=>Zah pg Zjx [.str x1] B fun B C=>
 Zfc B fun B=>Zco (C ++ [.map [] 0]) fun D=>bcase (Option.isNone A) (Q (.tup [.slice none 0 0 true,.bool false]) D) (bcase (Option.isNone B) (Q (.tup [.slice none 0 0 true,.bool false]) D) (Zah pg Zia [.ptr A,.ptr B,.map ((some C.length))] D fun A B=>
 Zbr A fun A=>bcase (!A) (Q (.tup [.slice none 0 0 true,.bool false]) B) (J4 Q ((some C.length)) B)))):Zah pg Zlp [.str x0,.str x1] h Q:=
 Zah.of_body kp (c:=cod fn) (fn:=fn) Go.Proofs.Tryz.func47 (by kernel_rfl) (by kernel_rfl) (Nat.le_of_ble_eq_true (by kernel_rfl))
  (cast (by kernel_rfl) ht)
end Zlo
namespace Zod
noncomputable abbrev fn:Func:=Go.Proofs.Tryz.f15
def kp:Zcu:=[]
noncomputable def C (p:List Nat):Code:=(cod fn).sub p
def KR (Q:QT):KT:=Zfi pg fn.results.toList Q
theorem call (x0 x1:List Nat) (h:Zaa) (Q:QT) (ht :
 Zah pg Zlp [.str x0,.str x1] h fun A B=>
 Zru A fun A=>Zag A fun A C=>xSl A fun A A A A=>Zag C fun A C=>Zbr A fun A=>Zbu C (Q (.bool A) B)):Zah pg Zhy [.str x0,.str x1] h Q:=
 Zah.of_body kp (c:=cod fn) (fn:=fn) Go.Proofs.Tryz.func15 (by kernel_rfl) (by kernel_rfl) (Nat.le_of_ble_eq_true (by kernel_rfl))
  (cast (by kernel_rfl) ht)
end Zod
end Go.Sim

set_option maxRecDepth 100000
set_option maxHeartbeats 0
set_option linter.unusedVariables false
namespace Go.Sim
open Go Go.RowKit
namespace Zex
noncomputable abbrev fn:Func:=Go.Proofs.Tryz.f90
def kp:Zcu:=[(4000006,[2,0,7]),(2000008,[48,0,1,2]),(3000011,[6]),(1000011,[1,2,52,53,54])]
noncomputable def C (p:List Nat):Code:=(cod fn).sub p
def KR (Q:QT):KT:=Zfi pg fn.results.toList Q
abbrev T11:=Pt→Option Nat→Pt→Nat→Nat→Bool→Int→Int→Zaa→Prop
def E11 (R11:T11) (env:Env) (h:Zaa):Prop:=Zci 1 env fun v env=>Zfc v fun a1=>Zci 2 env fun v env=>Yhp v fun m2=>Zci 52 env fun v env=>xSl v fun a52 n52 c52 e52=>Zci 53 env fun v env=>Zez .i64 v fun x53=>Zci 54 env fun v env=>Zez .i64 v fun x54=>Zky env (R11 a1 m2 a52 n52 c52 e52 x53 x54 h)
theorem Yks {R11:T11} {env:Env} {h:Zaa} (hi:E11 R11 env h):∃ a1,∃ m2,∃ a52,∃ n52,∃ c52,∃ e52,∃ x53,∃ x54,env=[(1,.ptr a1),(2,.map m2),(52,.slice a52 n52 c52 e52),(53,.int .i64 x53),(54,.int .i64 x54)]∧R11 a1 m2 a52 n52 c52 e52 x53 x54 h:=by
 unfold E11 at hi
 repeat ((first | (have k:=Zal hi; clear hi; obtain ⟨_,_,e,hi⟩:=k) | (have k:=Zbo hi; clear hi; obtain ⟨_,e,hi⟩:=k) | (have k:=Zti hi; clear hi; obtain ⟨_,e,hi⟩:=k) | (have k:=Zcp hi; clear hi; obtain ⟨_,_,_,_,e,hi⟩:=k) | (have k:=Zaz hi; clear hi; obtain ⟨_,e,hi⟩:=k)); subst e)
 obtain ⟨rfl,hi⟩:=Zca hi
 exact ⟨_,_,_,_,_,_,_,_,rfl,hi⟩
def K0 (Q:QT):KT:=andThen (fun env' h'=>(match kp.find 4000008 with | some ks=>Den pg fn.ntmps (C [1,1]) (env'.keep ks) h' (KR Q) | none=>den pg fn.ntmps kp (C [1,1]) env' h' (KR Q))) (KR Q)
def K1 (Q:QT):KT:=andThen (fun env' h'=>(match kp.find 4000016 with | some ks=>Den pg fn.ntmps (C [1,1,1,1]) (env'.keep ks) h' (KR Q) | none=>den pg fn.ntmps kp (C [1,1,1,1]) env' h' (KR Q))) (KR Q)
def K2 (Q:QT):KT:=Zdg 0 (K1 Q)
def K3 (Q:QT):KT:=left kp 11 (K2 Q)
def K4 (Q:QT) (R11:T11):KT:=rnd ((kp.find 1000011).getD []) (E11 R11) (K3 Q)
def J6 (Q:QT) (m2:Option Nat) (a0:Pt) (x7:List Nat) (h:Zaa):Prop:=Den pg fn.ntmps (C [1,0,1,0,1,1]) [(2,.map m2),(0,.ptr a0),(7,.str x7)] h (K0 Q)
def L11 (Q:QT) (a1:Pt) (m2:Option Nat) (a52:Pt) (n52 c52:Nat) (e52:Bool) (x53 x54:Int) (h:Zaa):Prop:=Zfb (Den pg fn.ntmps (C [1,1,1,0,1,0,0])) ((kp.find 1000011).getD []) (K3 Q) [(1,.ptr a1),(2,.map m2),(52,.slice a52 n52 c52 e52),(53,.int .i64 x53),(54,.int .i64 x54)] h
def Yto (Q:QT) (h:Zaa):Prop:=At (K2 Q) (.exit 0) [(6,.undef)] h
theorem J6i (Q:QT) (m2:Option Nat) (a0:Pt) (x7:List Nat) (h:Zaa) (ht :
 Zbi a0 fun A B=>Zbn (Zai h (.ptr (A,B + 0))) fun A=>xMp m2 fun B=>Zdy h (some B) fun es_32 k_33=>Yjy es_32 k_33 A (.str x7) fun es_34 k_35=>Zco (List.set h B (.map es_34 k_35)) fun A=>Q (.bool true) A):J6 Q m2 a0 x7 h:=
 Zbf (kp:=kp) (cast (by kernel_rfl) ht)
def L11t (Q:QT) (R11:T11) (a1:Pt) (m2:Option Nat) (a52:Pt) (n52 c52:Nat) (e52:Bool) (x53 x54:Int) (h:Zaa):Prop:=
 bcase (decide ((x54:Int) < x53)) ((0≤(x54:Int)∧(x54:Int) < (n52:Nat))∧(Zbi a52 fun A B=>Zfc (Zai h (.ptr (A,B + (Int.toNat x54) * 1))) fun A=>Zbi a1 fun B C=>xSl (Zai h (.ptr (B,C + 1))) fun B C D D=>(0≤(x54:Int)∧(x54:Int) < (C:Nat))∧(Zbi B fun B C=>Zfc (Zai h (.ptr (B,C + (Int.toNat x54) * 1))) fun B=>Zah pg Zia [.ptr A,.ptr B,.map m2] h fun A B=>
 Zbr A fun A=>bcase (!A) (Q (.bool false) B) (R11 a1 m2 a52 n52 c52 e52 x53 (IntKind.wrap .i64 (x54 + 1)) B)))) (Yto Q h)
theorem Ytl (Q:QT) (R11:T11) (a1:Pt) (m2:Option Nat) (a52:Pt) (n52 c52:Nat) (e52:Bool) (x53 x54:Int) (h:Zaa) (ht:L11t Q R11 a1 m2 a52 n52 c52 e52 x53 x54 h):Den pg fn.ntmps (C [1,1,1,0,1,0,0]) [(1,.ptr a1),(2,.map m2),(52,.slice a52 n52 c52 e52),(53,.int .i64 x53),(54,.int .i64 x54)] h (K4 Q R11):=
 Zbf (kp:=kp) (cast (by kernel_rfl) ht)
theorem L11ind (Q:QT) (a1:Pt) (m2:Option Nat) (a52:Pt) (n52 c52:Nat) (e52:Bool) (x53:Int) {G:Type} (J:G→Int→Zaa→Prop) (m:G→Nat)
 (hr:∀ (g:G) (x54:Int) (h:Zaa),J g x54 h→∀ (R11:T11),(∀ g' (x54:Int) (h:Zaa),m g' < m g→J g' x54 h→R11 a1 m2 a52 n52 c52 e52 x53 x54 h)→L11t Q R11 a1 m2 a52 n52 c52 e52 x53 x54 h)
 (g:G) (x54:Int) (h:Zaa) (hj:J g x54 h):L11 Q a1 m2 a52 n52 c52 e52 x53 x54 h:=by
 let P:=fun (K:Int→Zaa→Prop) a1' m2' a52' n52' c52' e52' x53' x54 h=>a1=a1'∧m2=m2'∧a52=a52'∧n52=n52'∧c52=c52'∧e52=e52'∧x53=x53'∧K x54 h
 refine Zfb.inv2 (fun g=>E11 (P (J g))) (fun g=>E11 (P fun x54 h=>∃ g',m g' < m g∧J g' x54 h)) m ?_ ?_ g ⟨rfl,rfl,rfl,rfl,rfl,rfl,rfl,hj⟩
 ·intro g env h hi
  obtain ⟨a1',m2',a52',n52',c52',e52',x53',x54,rfl,rfl,rfl,rfl,rfl,rfl,rfl,rfl,hj⟩:=Yks hi
  exact Ytl Q _ a1 m2 a52 n52 c52 e52 x53 x54 h (hr g x54 h hj (P fun x54 h=>∃ g',m g' < m g∧J g' x54 h) fun g' x54 h hlt hj=>⟨rfl,rfl,rfl,rfl,rfl,rfl,rfl,g',hlt,hj⟩)
 ·intro g env h hi
  obtain ⟨a1',m2',a52',n52',c52',e52',x53',x54,rfl,rfl,rfl,rfl,rfl,rfl,rfl,rfl,g',hlt,hj⟩:=Yks hi
  exact ⟨g',hlt,rfl,rfl,rfl,rfl,rfl,rfl,rfl,hj⟩
theorem A11x0i (Q:QT) (h:Zaa) (ht :
 Q (.bool true) h):Yto Q h:=
 At.mk (cast (by kernel_rfl) ht)
theorem call (a0 a1:Pt) (m2:Option Nat) (h:Zaa) (Q:QT) (ht :
 Zbi a0 fun A B=>Zbn (Zai h (.ptr (A,B + 0))) fun A=>Zah pg Zea [.str A] h fun A B=>
 Zbr A fun A=>bcase A (Zah pg Zit [.ptr a1] B fun A C=>
 Zbn A fun A=>Zbi a0 fun D E=>Zbn (Zai C (.ptr (D,E + 0))) fun D=>Zdy C m2 fun es_12 k_13=>Zsr es_12 D fun D=>Zbn (some (Option.getD D (.str []))) fun E=>bcase (Option.isSome D) (bcase (!(decide (E=A))) (Q (.bool false) C) (J6 Q m2 a0 A C)) (J6 Q m2 a0 A C)) (Zbi a0 fun A C=>Zbi a1 fun D E=>Zbn (Zai B (.ptr (A,C + 0))) fun F=>Zbn (Zai B (.ptr (D,E + 0))) fun D=>(Zai B (.ptr (A,C + 0))=Zai B (.ptr (A,C + 0)))∧bcase (!(decide (F=D))) (Q (.bool false) B) (Zbi a0 fun A C=>xSl (Zai B (.ptr (A,C + 1))) fun A C D E=>L11 Q a1 m2 A C D E (((C:Nat):Int)) 0 B))):Zah pg Zia [.ptr a0,.ptr a1,.map m2] h Q:=
 Zah.of_body kp (c:=cod fn) (fn:=fn) Go.Proofs.Tryz.func90 (by kernel_rfl) (by kernel_rfl) (Nat.le_of_ble_eq_true (by kernel_rfl))
  (cast (by kernel_rfl) ht)
end Zex
end Go.Sim
