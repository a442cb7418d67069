/- A part of the proof of a statement of this seat: see the text that holds the theorem. No condition. -/
import Derived.Test.YtflfcofeedjblaaGreatNm
set_option linter.unusedVariables false
set_option linter.unusedSimpArgs false
set_option linter.all false
set_option maxRecDepth 100000
set_option maxHeartbeats 0
set_option linter.unusedVariables false
namespace Go.Sim
open Go Go.RowKit
namespace Zex
noncomputable abbrev fn:Func:=Go.Proofs.Tryz.f79
def kp:Zcj:=[(4000004,[0,6]),(3000006,[8,6]),(1000006,[6,8,26,27,28]),(2000008,[28,27,26,8,6])]
noncomputable def C (p:List Nat):Code:=(cod fn).sub p
def KR (Q:QT):KT:=Zfb pg fn.results.toList Q
abbrev T6:=Nat→Nat→Nat→Nat→Pt→Nat→Nat→Bool→Int→Int→Zaa→Prop
def E6 (R6:T6) (env:Env) (h:Zaa):Prop:=Zbw 6 env fun v env=>Zhh v fun a=>Zbm a fun i6 o6=>Zbw 8 env fun v env=>Zhh v fun a=>Zbm a fun i8 o8=>Zbw 26 env fun v env=>xSl v fun a26 n26 c26 e26=>Zbw 27 env fun v env=>Zee .i64 v fun x27=>Zbw 28 env fun v env=>Zee .i64 v fun x28=>Zkh env (R6 i6 o6 i8 o8 a26 n26 c26 e26 x27 x28 h)
theorem Zme {R6:T6} {env:Env} {h:Zaa} (hi:E6 R6 env h):∃ i6,∃ o6,∃ i8,∃ o8,∃ a26,∃ n26,∃ c26,∃ e26,∃ x27,∃ x28,env=[(6,.ptr (i6,o6)),(8,.ptr (i8,o8)),(26,.slice a26 n26 c26 e26),(27,.int .i64 x27),(28,.int .i64 x28)]∧R6 i6 o6 i8 o8 a26 n26 c26 e26 x27 x28 h:=by
 unfold E6 at hi
 have hi0:=hi
 clear hi
 obtain ⟨_,_,rfl,hi1⟩:=Zak hi0
 obtain ⟨a,rfl,hi2⟩:=Zbt hi1
 obtain ⟨i6,o6,rfl,hi3⟩:=Zbn hi2
 obtain ⟨_,_,rfl,hi4⟩:=Zak hi3
 obtain ⟨a,rfl,hi5⟩:=Zbt hi4
 obtain ⟨i8,o8,rfl,hi6⟩:=Zbn hi5
 obtain ⟨_,_,rfl,hi7⟩:=Zak hi6
 obtain ⟨a26,n26,c26,e26,rfl,hi8⟩:=Zby hi7
 obtain ⟨_,_,rfl,hi9⟩:=Zak hi8
 obtain ⟨x27,rfl,hi10⟩:=Zax hi9
 obtain ⟨_,_,rfl,hi11⟩:=Zak hi10
 obtain ⟨x28,rfl,hi12⟩:=Zax hi11
 obtain ⟨rfl,hi13⟩:=Zbp hi12
 have hi:=hi13
 exact ⟨i6,o6,i8,o8,a26,n26,c26,e26,x27,x28,rfl,hi⟩
def K0 (Q:QT):KT:=andThen (fun env' h'=>(match kp.find 4000010 with | some ks=>Den pg fn.ntmps (C [1,1,1,1,1]) (env'.keep ks) h' (KR Q) | none=>den pg fn.ntmps kp (C [1,1,1,1,1]) env' h' (KR Q))) (KR Q)
def K1 (Q:QT):KT:=Zcs 0 (K0 Q)
def K2 (Q:QT):KT:=left kp 6 (K1 Q)
def K3 (Q:QT) (R6:T6):KT:=rnd ((kp.find 1000006).getD []) (E6 R6) (K2 Q)
def J4 (Q:QT) (a0:Pt) (n0 c0:Nat) (e0:Bool) (i6 o6:Nat) (h:Zaa):Prop:=Den pg fn.ntmps (C [1,1,1]) [(0,.slice a0 n0 c0 e0),(6,.ptr (i6,o6))] h (KR Q)
def L6 (Q:QT) (i6 o6 i8 o8:Nat) (a26:Pt) (n26 c26:Nat) (e26:Bool) (x27 x28:Int) (h:Zaa):Prop:=Zet (Den pg fn.ntmps (C [1,1,1,1,0,1,0,0])) ((kp.find 1000006).getD []) (K2 Q) [(6,.ptr (i6,o6)),(8,.ptr (i8,o8)),(26,.slice a26 n26 c26 e26),(27,.int .i64 x27),(28,.int .i64 x28)] h
def Yii (Q:QT) (i8 o8 i6 o6:Nat) (h:Zaa):Prop:=At (K1 Q) (.exit 0) [(8,.ptr (i8,o8)),(6,.ptr (i6,o6))] h
theorem J4i (Q:QT) (a0:Pt) (n0 c0:Nat) (e0:Bool) (i6 o6:Nat) (h:Zaa) (ht :
 Zck (h ++ [.cells Zdf [.int .u8 0,.slice none 0 0 true,.int .u8 0,.slice none 0 0 true,.int .u8 0,.slice none 0 0 true,.int .u8 0,.slice none 0 0 true,.int .u8 0,.slice none 0 0 true,.int .u8 0,.slice none 0 0 true,.int .u8 0,.slice none 0 0 true,.int .u8 0,.slice none 0 0 true,.int .u8 0,.slice none 0 0 true,.int .u8 0,.slice none 0 0 true,.int .u8 0,.slice none 0 0 true,.int .u8 0,.slice none 0 0 true] false]) fun A=>L6 Q i6 o6 h.length 0 a0 n0 c0 e0 (((n0:Nat):Int)) 0 A):J4 Q a0 n0 c0 e0 i6 o6 h:=
 Zba (kp:=kp) (cast (by kernel_rfl) ht)
def L6t (Q:QT) (R6:T6) (i6 o6 i8 o8:Nat) (a26:Pt) (n26 c26:Nat) (e26:Bool) (x27 x28:Int) (h:Zaa):Prop:=
 bcase (decide ((x28:Int) < x27)) ((0≤(x28:Int)∧(x28:Int) < (n26:Nat))∧(Zbm a26 fun A B=>Zco (Zbj h (.ptr (A,B + (Int.toNat x28) * 2)) 2) fun A=>Zaj A fun A B=>Zbg A fun A=>Zaj B fun B C=>Zbg B fun B=>Zbv C (Zck (h ++ [.cells Zbi [.str [],.str []] false]) fun C=>Zbu (Zbb C (.ptr (h.length,0)) [.str A,.str B]) fun A=>Zbg (Zag A (.ptr (h.length,0 + 0))) fun B=>Zir B 0 fun B=>Zbg (Zag A (.ptr (h.length,0 + 1))) fun C=>Zah pg Zji [.int .u8 (((B:Nat):Int))] A fun B D=>
 Zdo .i64 B fun B=>(Zag D (.ptr (h.length,0 + 1))=Zag A (.ptr (h.length,0 + 1)))∧(Zag D (.ptr (h.length,0 + 0))=Zag A (.ptr (h.length,0 + 0)))∧Zah pg Zfs [.str C] D fun A C=>
 Zny A fun A=>Zaj A fun A E=>Znt A fun A=>Zaj A fun A F=>Zdo .u8 A fun A=>Zaj F fun F G=>xSl F fun F H I J=>Zbv G (Zaj E fun E G=>Zbx E fun E=>Zbv G ((Zag C (.ptr (h.length,0 + 0))=Zag D (.ptr (h.length,0 + 0)))∧(0≤(B:Int)∧(B:Int) < (12:Nat))∧(Zbu (Zbb C (.ptr (i8,o8 + (Int.toNat B) * 2)) [.int .u8 A,.slice F H I J]) fun A=>R6 i6 o6 i8 o8 a26 n26 c26 e26 x27 (IntKind.wrap .i64 (x28 + 1)) A)))))) (Yii Q i8 o8 i6 o6 h)
theorem Zzm (Q:QT) (R6:T6) (i6 o6 i8 o8:Nat) (a26:Pt) (n26 c26:Nat) (e26:Bool) (x27 x28:Int) (h:Zaa) (ht:L6t Q R6 i6 o6 i8 o8 a26 n26 c26 e26 x27 x28 h):Den pg fn.ntmps (C [1,1,1,1,0,1,0,0]) [(6,.ptr (i6,o6)),(8,.ptr (i8,o8)),(26,.slice a26 n26 c26 e26),(27,.int .i64 x27),(28,.int .i64 x28)] h (K3 Q R6):=
 Zba (kp:=kp) (cast (by kernel_rfl) ht)
theorem L6ind (Q:QT) (i6 o6 i8 o8:Nat) (a26:Pt) (n26 c26:Nat) (e26:Bool) (x27:Int) {G:Type} (J:G→Int→Zaa→Prop) (m:G→Nat)
 (hr:∀ (g:G) (x28:Int) (h:Zaa),J g x28 h→∀ (R6:T6),(∀ g' (x28:Int) (h:Zaa),m g' < m g→J g' x28 h→R6 i6 o6 i8 o8 a26 n26 c26 e26 x27 x28 h)→L6t Q R6 i6 o6 i8 o8 a26 n26 c26 e26 x27 x28 h)
 (g:G) (x28:Int) (h:Zaa) (hj:J g x28 h):L6 Q i6 o6 i8 o8 a26 n26 c26 e26 x27 x28 h:=by
 let P:=fun (K:Int→Zaa→Prop) i6' o6' i8' o8' a26' n26' c26' e26' x27' x28 h=>i6=i6'∧o6=o6'∧i8=i8'∧o8=o8'∧a26=a26'∧n26=n26'∧c26=c26'∧e26=e26'∧x27=x27'∧K x28 h
 refine Zet.inv2 (fun g=>E6 (P (J g))) (fun g=>E6 (P fun x28 h=>∃ g',m g' < m g∧J g' x28 h)) m ?_ ?_ g ⟨rfl,rfl,rfl,rfl,rfl,rfl,rfl,rfl,rfl,hj⟩
 ·intro g env h hi
  obtain ⟨i6',o6',i8',o8',a26',n26',c26',e26',x27',x28,rfl,rfl,rfl,rfl,rfl,rfl,rfl,rfl,rfl,rfl,hj⟩:=Zme hi
  exact Zzm Q _ i6 o6 i8 o8 a26 n26 c26 e26 x27 x28 h (hr g x28 h hj (P fun x28 h=>∃ g',m g' < m g∧J g' x28 h) fun g' x28 h hlt hj=>⟨rfl,rfl,rfl,rfl,rfl,rfl,rfl,rfl,rfl,g',hlt,hj⟩)
 ·intro g env h hi
  obtain ⟨i6',o6',i8',o8',a26',n26',c26',e26',x27',x28,rfl,rfl,rfl,rfl,rfl,rfl,rfl,rfl,rfl,rfl,g',hlt,hj⟩:=Zme hi
  exact ⟨g',hlt,rfl,rfl,rfl,rfl,rfl,rfl,rfl,rfl,rfl,hj⟩
theorem A6x0i (Q:QT) (i8 o8 i6 o6:Nat) (h:Zaa) (ht :
 Zco (Zbj h (.ptr (i6,o6)) 2) fun A=>Zaj A fun A B=>Zdo .u8 A fun A=>Zaj B fun B C=>xSl B fun B D E F=>Zbv C (Zah pg Zmi [.ptr (i8,o8),.agg [.int .u8 A,.slice B D E F]] h fun A B=>
 Znt A fun A=>Zaj A fun A C=>Zdo .u8 A fun A=>Zaj C fun C D=>xSl C fun C E F G=>Zbv D (Zck (B ++ [.cells Zai [.int .u8 0,.slice none 0 0 true] false]) fun D=>Zbu (Zbb D (.ptr (B.length,0)) [.int .u8 A,.slice C E F G]) fun A=>Zco (Zbj A (.ptr (B.length,0)) 2) fun C=>Zaj C fun C D=>Zdo .u8 C fun C=>Zaj D fun D E=>xSl D fun D F G H=>Zbv E (Zah pg Zgq [.agg [.int .u8 C,.slice D F G H]] A fun A C=>
 Zdo .i64 A fun A=>bcase (decide ((A:Int) > 60)) (Q (.tup [.str [],.bool false]) C) (Zco (Zbj C (.ptr (B.length,0)) 2) fun A=>Zaj A fun A B=>Zdo .u8 A fun A=>Zaj B fun B D=>xSl B fun B E F G=>Zbv D (Zah pg Zge [.agg [.int .u8 A,.slice B E F G]] C fun A B=>
 Zbg A fun A=>Q (.tup [.str A,.bool true]) B)))))):Yii Q i8 o8 i6 o6 h:=
 At.mk (cast (by kernel_rfl) ht)
theorem call (a0:Pt) (n0 c0:Nat) (e0:Bool) (x1:List Nat) (h:Zaa) (Q:QT) (ht :
 Zah pg Zfs [.str x1] h fun A B=>
 Zny A fun A=>Zaj A fun A C=>Znt A fun A=>Zaj A fun A D=>Zdo .u8 A fun A=>Zaj D fun D E=>xSl D fun D F G H=>Zbv E (Zaj C fun C E=>Zbx C fun C=>Zbv E (Zck (B ++ [.cells Zai [.int .u8 0,.slice none 0 0 true] false]) fun E=>Zbu (Zbb E (.ptr (B.length,0)) [.int .u8 A,.slice D F G H]) fun A=>bcase (!C) (Q (.tup [.str [],.bool false]) A) (Zah pg Ziy [.slice a0 n0 c0 e0] A fun A C=>
 Zbx A fun A=>bcase (!A) (Q (.tup [.str [],.bool false]) C) (J4 Q a0 n0 c0 e0 B.length 0 C))))):Zah pg Zit [.slice a0 n0 c0 e0,.str x1] h Q:=
 Zah.of_body kp (c:=cod fn) (fn:=fn) Go.Proofs.Tryz.func79 (by kernel_rfl) (by kernel_rfl) (Nat.le_of_ble_eq_true (by kernel_rfl))
  (cast (by kernel_rfl) ht)
end Zex
namespace Zja
noncomputable abbrev fn:Func:=Go.Proofs.Tryz.f43
def kp:Zcj:=[(3000006,[6,4,5]),(1000006,[6,7,26,27,28])]
noncomputable def C (p:List Nat):Code:=(cod fn).sub p
def KR (Q:QT):KT:=Zfb pg fn.results.toList Q
abbrev T6:=Pt→Nat→Nat→Bool→Pt→Nat→Nat→Bool→Pt→Nat→Nat→Bool→Int→Int→Zaa→Prop
def E6 (R6:T6) (env:Env) (h:Zaa):Prop:=Zbw 6 env fun v env=>xSl v fun a6 n6 c6 e6=>Zbw 7 env fun v env=>xSl v fun a7 n7 c7 e7=>Zbw 26 env fun v env=>xSl v fun a26 n26 c26 e26=>Zbw 27 env fun v env=>Zee .i64 v fun x27=>Zbw 28 env fun v env=>Zee .i64 v fun x28=>Zkh env (R6 a6 n6 c6 e6 a7 n7 c7 e7 a26 n26 c26 e26 x27 x28 h)
theorem Zme {R6:T6} {env:Env} {h:Zaa} (hi:E6 R6 env h):∃ a6,∃ n6,∃ c6,∃ e6,∃ a7,∃ n7,∃ c7,∃ e7,∃ a26,∃ n26,∃ c26,∃ e26,∃ x27,∃ x28,env=[(6,.slice a6 n6 c6 e6),(7,.slice a7 n7 c7 e7),(26,.slice a26 n26 c26 e26),(27,.int .i64 x27),(28,.int .i64 x28)]∧R6 a6 n6 c6 e6 a7 n7 c7 e7 a26 n26 c26 e26 x27 x28 h:=by
 unfold E6 at hi
 repeat ((first | (have k:=Zak hi; clear hi; obtain ⟨_,_,e,hi⟩:=k) | (have k:=Zax hi; clear hi; obtain ⟨_,e,hi⟩:=k) | (have k:=Zby hi; clear hi; obtain ⟨_,_,_,_,e,hi⟩:=k)); subst e)
 obtain ⟨rfl,hi⟩:=Zbp hi
 exact ⟨_,_,_,_,_,_,_,_,_,_,_,_,_,_,rfl,hi⟩
def K0 (Q:QT):KT:=andThen (fun env' h'=>(match kp.find 4000013 with | some ks=>Den pg fn.ntmps (C [1,1,1,1,1]) (env'.keep ks) h' (KR Q) | none=>den pg fn.ntmps kp (C [1,1,1,1,1]) env' h' (KR Q))) (KR Q)
def K1 (Q:QT):KT:=Zcs 0 (K0 Q)
def K2 (Q:QT):KT:=left kp 6 (K1 Q)
def K3 (Q:QT) (R6:T6):KT:=rnd ((kp.find 1000006).getD []) (E6 R6) (K2 Q)
def L6 (Q:QT) (a6:Pt) (n6 c6:Nat) (e6:Bool) (a7:Pt) (n7 c7:Nat) (e7:Bool) (a26:Pt) (n26 c26:Nat) (e26:Bool) (x27 x28:Int) (h:Zaa):Prop:=Zet (Den pg fn.ntmps (C [1,1,1,1,0,1,0,0])) ((kp.find 1000006).getD []) (K2 Q) [(6,.slice a6 n6 c6 e6),(7,.slice a7 n7 c7 e7),(26,.slice a26 n26 c26 e26),(27,.int .i64 x27),(28,.int .i64 x28)] h
def Yii (Q:QT) (a6:Pt) (n6 c6:Nat) (e6:Bool) (h:Zaa):Prop:=At (K1 Q) (.exit 0) [(6,.slice a6 n6 c6 e6),(4,.undef),(5,.undef)] h
def L6t (Q:QT) (R6:T6) (a6:Pt) (n6 c6:Nat) (e6:Bool) (a7:Pt) (n7 c7:Nat) (e7:Bool) (a26:Pt) (n26 c26:Nat) (e26:Bool) (x27 x28:Int) (h:Zaa):Prop:=
 bcase (decide ((x28:Int) < x27)) ((0≤(x28:Int)∧(x28:Int) < (n26:Nat))∧(Zbm a26 fun A B=>Zco (Zbj h (.ptr (A,B + (Int.toNat x28) * 2)) 2) fun A=>Zaj A fun A B=>Zbg A fun A=>Zaj B fun B C=>Zbg B fun B=>Zbv C (Zck (h ++ [.cells Zad [.str [],.str []] false]) fun C=>Zbu (Zbb C (.ptr (h.length,0)) [.str A,.str B]) fun A=>Zbg (Zag A (.ptr (h.length,0 + 1))) fun B=>Zah pg Zit [.slice a7 n7 c7 e7,.str B] A fun A B=>
 Zny A fun A=>Zaj A fun A C=>Zbg A fun A=>Zaj C fun C D=>Zbx C fun C=>Zbv D (bcase (!C) (Zck (B ++ [.cells Zad [] false]) fun C=>Q (.tup [.slice (B.length,0) 0 0 true,.bool false]) C) (Zbg (Zag B (.ptr (h.length,0 + 0))) fun C=>Zck (B ++ [.cells Zad [.str C,.str A] false]) fun A=>Zcz pg Zfu A (.slice a6 n6 c6 e6) (.slice (B.length,0) 1 1 true) fun A B=>xSl A fun A C D E=>R6 A C D E a7 n7 c7 e7 a26 n26 c26 e26 x27 (IntKind.wrap .i64 (x28 + 1)) B))))) (Yii Q a6 n6 c6 e6 h)
theorem Zzm (Q:QT) (R6:T6) (a6:Pt) (n6 c6:Nat) (e6:Bool) (a7:Pt) (n7 c7:Nat) (e7:Bool) (a26:Pt) (n26 c26:Nat) (e26:Bool) (x27 x28:Int) (h:Zaa) (ht:L6t Q R6 a6 n6 c6 e6 a7 n7 c7 e7 a26 n26 c26 e26 x27 x28 h):Den pg fn.ntmps (C [1,1,1,1,0,1,0,0]) [(6,.slice a6 n6 c6 e6),(7,.slice a7 n7 c7 e7),(26,.slice a26 n26 c26 e26),(27,.int .i64 x27),(28,.int .i64 x28)] h (K3 Q R6):=
 Zba (kp:=kp) (cast (by kernel_rfl) ht)
theorem L6ind (Q:QT) (a7:Pt) (n7 c7:Nat) (e7:Bool) (a26:Pt) (n26 c26:Nat) (e26:Bool) (x27:Int) {G:Type} (J:G→Pt→Nat→Nat→Bool→Int→Zaa→Prop) (m:G→Nat)
 (hr:∀ (g:G) (a6:Pt) (n6 c6:Nat) (e6:Bool) (x28:Int) (h:Zaa),J g a6 n6 c6 e6 x28 h→∀ (R6:T6),(∀ g' (a6:Pt) (n6 c6:Nat) (e6:Bool) (x28:Int) (h:Zaa),m g' < m g→J g' a6 n6 c6 e6 x28 h→R6 a6 n6 c6 e6 a7 n7 c7 e7 a26 n26 c26 e26 x27 x28 h)→L6t Q R6 a6 n6 c6 e6 a7 n7 c7 e7 a26 n26 c26 e26 x27 x28 h)
 (g:G) (a6:Pt) (n6 c6:Nat) (e6:Bool) (x28:Int) (h:Zaa) (hj:J g a6 n6 c6 e6 x28 h):L6 Q a6 n6 c6 e6 a7 n7 c7 e7 a26 n26 c26 e26 x27 x28 h:=by
 let P:=fun (K:Pt→Nat→Nat→Bool→Int→Zaa→Prop) a6 n6 c6 e6 a7' n7' c7' e7' a26' n26' c26' e26' x27' x28 h=>a7=a7'∧n7=n7'∧c7=c7'∧e7=e7'∧a26=a26'∧n26=n26'∧c26=c26'∧e26=e26'∧x27=x27'∧K a6 n6 c6 e6 x28 h
 refine Zet.inv2 (fun g=>E6 (P (J g))) (fun g=>E6 (P fun a6 n6 c6 e6 x28 h=>∃ g',m g' < m g∧J g' a6 n6 c6 e6 x28 h)) m ?_ ?_ g ⟨rfl,rfl,rfl,rfl,rfl,rfl,rfl,rfl,rfl,hj⟩
 ·intro g env h hi
  obtain ⟨a6,n6,c6,e6,a7',n7',c7',e7',a26',n26',c26',e26',x27',x28,rfl,rfl,rfl,rfl,rfl,rfl,rfl,rfl,rfl,rfl,hj⟩:=Zme hi
  exact Zzm Q _ a6 n6 c6 e6 a7 n7 c7 e7 a26 n26 c26 e26 x27 x28 h (hr g a6 n6 c6 e6 x28 h hj (P fun a6 n6 c6 e6 x28 h=>∃ g',m g' < m g∧J g' a6 n6 c6 e6 x28 h) fun g' a6 n6 c6 e6 x28 h hlt hj=>⟨rfl,rfl,rfl,rfl,rfl,rfl,rfl,rfl,rfl,g',hlt,hj⟩)
 ·intro g env h hi
  obtain ⟨a6,n6,c6,e6,a7',n7',c7',e7',a26',n26',c26',e26',x27',x28,rfl,rfl,rfl,rfl,rfl,rfl,rfl,rfl,rfl,rfl,g',hlt,hj⟩:=Zme hi
  exact ⟨g',hlt,rfl,rfl,rfl,rfl,rfl,rfl,rfl,rfl,rfl,hj⟩
theorem A6x0i (Q:QT) (a6:Pt) (n6 c6:Nat) (e6:Bool) (h:Zaa) (ht :
 Q (.tup [.slice a6 n6 c6 e6,.bool true]) h):Yii Q a6 n6 c6 e6 h:=
 At.mk (cast (by kernel_rfl) ht)
theorem call (x0x0 x0x1:List Nat) (a0x2:Pt) (n0x2 c0x2:Nat) (e0x2:Bool) (x1:List Nat) (h:Zaa) (Q:QT) (ht :
 Zck (h ++ [.cells Zac [.str x0x0,.str x0x1,.slice a0x2 n0x2 c0x2 e0x2] false]) fun A=>Zck (A ++ [.cells Zad [] false]) fun B=>Zbg (Zag B (.ptr (h.length,0 + 0 + 1))) fun C=>Zah pg Zjp [.str C,.str x1] B fun B C=>
 Zny B fun B=>Zaj B fun B D=>xSl B fun B E F G=>Zaj D fun D H=>Zbx D fun D=>Zbv H (bcase (!D) (Q (.tup [.slice (A.length,0) 0 0 true,.bool false]) C) (xSl (Zag C (.ptr (h.length,0 + 2))) fun D H I J=>L6 Q (A.length,0) 0 0 true B E F G D H I J (((H:Nat):Int)) 0 C))):Zah pg Zpb [.agg [.str x0x0,.str x0x1,.slice a0x2 n0x2 c0x2 e0x2],.str x1] h Q:=
 Zah.of_body kp (c:=cod fn) (fn:=fn) Go.Proofs.Tryz.func43 (by kernel_rfl) (by kernel_rfl) (Nat.le_of_ble_eq_true (by kernel_rfl))
  (cast (by kernel_rfl) ht)
end Zja
namespace Zou
noncomputable abbrev fn:Func:=Go.Proofs.Tryz.f12
def kp:Zcj:=[(4000003,[3,1,2])]
noncomputable def C (p:List Nat):Code:=(cod fn).sub p
def KR (Q:QT):KT:=Zfb pg fn.results.toList Q
def J3 (Q:QT) (i3 o3:Nat) (x1:Int) (x2:List Nat) (h:Zaa):Prop:=Den pg fn.ntmps (C [1,1]) [(3,.ptr (i3,o3)),(1,.int .i64 x1),(2,.str x2)] h (KR Q)
theorem J3i (Q:QT) (i3 o3:Nat) (x1:Int) (x2:List Nat) (h:Zaa) (ht :
 xSl (Zag h (.ptr (i3,o3 + 1))) fun A B C C=>(0≤(x1:Int)∧(x1:Int) < (B:Nat))∧(Zbm A fun A B=>Zco (Zbj h (.ptr (A,B + (Int.toNat x1) * 3)) 3) fun A=>Zaj A fun A B=>Zbg A fun A=>Zaj B fun B C=>Zbg B fun B=>Zaj C fun C D=>xSl C fun C E F G=>Zbv D (Zah pg Zhv [.agg [.str A,.str B,.slice C E F G],.str x2] h fun A B=>
 Zny A fun A=>Zaj A fun A C=>xSl A fun A D E F=>Zaj C fun C G=>Zbx C fun C=>Zbv G (Q (.tup [.slice A D E F,.bool C]) B)))):J3 Q i3 o3 x1 x2 h:=
 Zba (kp:=kp) (cast (by kernel_rfl) ht)
theorem call (a0x0:Pt) (n0x0 c0x0:Nat) (e0x0:Bool) (a0x1:Pt) (n0x1 c0x1:Nat) (e0x1:Bool) (x1:Int) (x2:List Nat) (h:Zaa) (Q:QT) (ht :
 Zck (h ++ [.cells Zab [.slice a0x0 n0x0 c0x0 e0x0,.slice a0x1 n0x1 c0x1 e0x1] false]) fun A=>Zco (Zbj A (.ptr (h.length,0)) 2) fun B=>Zaj B fun B C=>xSl B fun B D E F=>Zaj C fun C G=>xSl C fun C H I J=>Zbv G (Zah pg Zfg [.agg [.slice B D E F,.slice C H I J]] A fun A B=>
 Zbx A fun A=>bcase (!A) (Q (.tup [.slice none 0 0 true,.bool false]) B) (bcase (decide ((x1:Int) < 0)) (Q (.tup [.slice none 0 0 true,.bool false]) B) (xSl (Zag B (.ptr (h.length,0 + 1))) fun A A C C=>bcase (decide ((x1:Int) ≥ (((A:Nat):Int)))) (Q (.tup [.slice none 0 0 true,.bool false]) B) (J3 Q h.length 0 x1 x2 B))))):Zah pg Zoy [.agg [.slice a0x0 n0x0 c0x0 e0x0,.slice a0x1 n0x1 c0x1 e0x1],.int .i64 x1,.str x2] h Q:=
 Zah.of_body kp (c:=cod fn) (fn:=fn) Go.Proofs.Tryz.func12 (by kernel_rfl) (by kernel_rfl) (Nat.le_of_ble_eq_true (by kernel_rfl))
  (cast (by kernel_rfl) ht)
end Zou
namespace Zoz
noncomputable abbrev fn:Func:=Go.Proofs.Tryz.f13
def kp:Zcj:=[(4000003,[3,1,2])]
noncomputable def C (p:List Nat):Code:=(cod fn).sub p
def KR (Q:QT):KT:=Zfb pg fn.results.toList Q
def J3 (Q:QT) (i3 o3:Nat) (x1:Int) (x2:List Nat) (h:Zaa):Prop:=Den pg fn.ntmps (C [1,1]) [(3,.ptr (i3,o3)),(1,.int .i64 x1),(2,.str x2)] h (KR Q)
theorem J3i (Q:QT) (i3 o3:Nat) (x1:Int) (x2:List Nat) (h:Zaa) (ht :
 xSl (Zag h (.ptr (i3,o3 + 1))) fun A B C C=>(0≤(x1:Int)∧(x1:Int) < (B:Nat))∧(Zbm A fun A B=>Zco (Zbj h (.ptr (A,B + (Int.toNat x1) * 3)) 3) fun A=>Zaj A fun A B=>Zbg A fun A=>Zaj B fun B C=>Zbg B fun B=>Zaj C fun C D=>xSl C fun C E F G=>Zbv D (Zah pg Zpb [.agg [.str A,.str B,.slice C E F G],.str x2] h fun A B=>
 Zny A fun A=>Zaj A fun A C=>xSl A fun A D E F=>Zaj C fun C G=>Zbx C fun C=>Zbv G (Q (.tup [.slice A D E F,.bool C]) B)))):J3 Q i3 o3 x1 x2 h:=
 Zba (kp:=kp) (cast (by kernel_rfl) ht)
theorem call (a0x0:Pt) (n0x0 c0x0:Nat) (e0x0:Bool) (a0x1:Pt) (n0x1 c0x1:Nat) (e0x1:Bool) (x1:Int) (x2:List Nat) (h:Zaa) (Q:QT) (ht :
 Zck (h ++ [.cells Zab [.slice a0x0 n0x0 c0x0 e0x0,.slice a0x1 n0x1 c0x1 e0x1] false]) fun A=>Zco (Zbj A (.ptr (h.length,0)) 2) fun B=>Zaj B fun B C=>xSl B fun B D E F=>Zaj C fun C G=>xSl C fun C H I J=>Zbv G (Zah pg Zfi [.agg [.slice B D E F,.slice C H I J]] A fun A B=>
 Zbx A fun A=>bcase (!A) (Zck (B ++ [.cells Zad [] false]) fun A=>Q (.tup [.slice (B.length,0) 0 0 true,.bool false]) A) (xSl (Zag B (.ptr (h.length,0 + 1))) fun A A C C=>Zah pg Zig [.int .i64 x1,.int .i64 0,.int .i64 (IntKind.wrap .i64 ((((A:Nat):Int)) - 1))] B fun A B=>
 Zbx A fun A=>bcase (!A) (Zck (B ++ [.cells Zad [] false]) fun A=>Q (.tup [.slice (B.length,0) 0 0 true,.bool false]) A) (J3 Q h.length 0 x1 x2 B)))):Zah pg Zox [.agg [.slice a0x0 n0x0 c0x0 e0x0,.slice a0x1 n0x1 c0x1 e0x1],.int .i64 x1,.str x2] h Q:=
 Zah.of_body kp (c:=cod fn) (fn:=fn) Go.Proofs.Tryz.func13 (by kernel_rfl) (by kernel_rfl) (Nat.le_of_ble_eq_true (by kernel_rfl))
  (cast (by kernel_rfl) ht)
end Zoz
end Go.Sim

set_option maxRecDepth 100000
set_option maxHeartbeats 0
set_option linter.unusedVariables false
namespace Go.Sim
open Go Go.RowKit
namespace Zei
noncomputable abbrev fn:Func:=Go.Proofs.Tryz.f108
def kp:Zcj:=[(3000002,[2]),(1000002,[0,5,6,7]),(2000004,[43,7,6,5,0]),(4000006,[7,6,5,0])]
noncomputable def C (p:List Nat):Code:=(cod fn).sub p
def KR (Q:QT):KT:=Zfb pg fn.results.toList Q
abbrev T2:=Pt→Nat→Nat→Bool→Pt→Nat→Nat→Bool→Int→Int→Zaa→Prop
def E2 (R2:T2) (env:Env) (h:Zaa):Prop:=Zbw 0 env fun v env=>xSl v fun a0 n0 c0 e0=>Zbw 5 env fun v env=>xSl v fun a5 n5 c5 e5=>Zbw 6 env fun v env=>Zee .i64 v fun x6=>Zbw 7 env fun v env=>Zee .i64 v fun x7=>Zkh env (R2 a0 n0 c0 e0 a5 n5 c5 e5 x6 x7 h)
theorem Zek {R2:T2} {env:Env} {h:Zaa} (hi:E2 R2 env h):∃ a0,∃ n0,∃ c0,∃ e0,∃ a5,∃ n5,∃ c5,∃ e5,∃ x6,∃ x7,env=[(0,.slice a0 n0 c0 e0),(5,.slice a5 n5 c5 e5),(6,.int .i64 x6),(7,.int .i64 x7)]∧R2 a0 n0 c0 e0 a5 n5 c5 e5 x6 x7 h:=by
 unfold E2 at hi
 repeat ((first | (have k:=Zak hi; clear hi; obtain ⟨_,_,e,hi⟩:=k) | (have k:=Zax hi; clear hi; obtain ⟨_,e,hi⟩:=k) | (have k:=Zby hi; clear hi; obtain ⟨_,_,_,_,e,hi⟩:=k)); subst e)
 obtain ⟨rfl,hi⟩:=Zbp hi
 exact ⟨_,_,_,_,_,_,_,_,_,_,rfl,hi⟩
def K0 (Q:QT):KT:=andThen (fun env' h'=>(match kp.find 4000007 with | some ks=>Den pg fn.ntmps (C [1,1]) (env'.keep ks) h' (KR Q) | none=>den pg fn.ntmps kp (C [1,1]) env' h' (KR Q))) (KR Q)
def K1 (Q:QT):KT:=Zcs 0 (K0 Q)
def K2 (Q:QT):KT:=left kp 2 (K1 Q)
def K3 (Q:QT) (R2:T2):KT:=rnd ((kp.find 1000002).getD []) (E2 R2) (K2 Q)
def L2 (Q:QT) (a0:Pt) (n0 c0:Nat) (e0:Bool) (a5:Pt) (n5 c5:Nat) (e5:Bool) (x6 x7:Int) (h:Zaa):Prop:=Zet (Den pg fn.ntmps (C [1,0,1,0,0])) ((kp.find 1000002).getD []) (K2 Q) [(0,.slice a0 n0 c0 e0),(5,.slice a5 n5 c5 e5),(6,.int .i64 x6),(7,.int .i64 x7)] h
def J6 (Q:QT) (R2:T2) (x7 x6:Int) (a5:Pt) (n5 c5:Nat) (e5:Bool) (a0:Pt) (n0 c0:Nat) (e0:Bool) (h:Zaa):Prop:=Den pg fn.ntmps (C [1,0,1,0,0,1,1,1]) [(7,.int .i64 x7),(6,.int .i64 x6),(5,.slice a5 n5 c5 e5),(0,.slice a0 n0 c0 e0)] h (K3 Q R2)
def Zom (Q:QT) (h:Zaa):Prop:=At (K1 Q) (.exit 0) [(2,.undef)] h
def L2t (Q:QT) (R2:T2) (a0:Pt) (n0 c0:Nat) (e0:Bool) (a5:Pt) (n5 c5:Nat) (e5:Bool) (x6 x7:Int) (h:Zaa):Prop:=
 bcase (decide ((x7:Int) < x6)) ((0≤(x7:Int)∧(x7:Int) < (n5:Nat))∧(Zbm a5 fun A B=>Zco (Zbj h (.ptr (A,B + (Int.toNat x7) * 2)) 2) fun A=>Zaj A fun A B=>Zbg A fun A=>Zaj B fun B C=>Zbg B fun B=>Zbv C (Zck (h ++ [.cells Zbi [.str [],.str []] false]) fun C=>Zbu (Zbb C (.ptr (h.length,0)) [.str A,.str B]) fun A=>Zbg (Zag A (.ptr (h.length,0 + 0))) fun B=>bcase (!((((List.length B:Nat):Int):Int) == 1)) ((Zag A (.tup [])=Zag A (.tup []))∧Q (.bool false) A) (Zbg (Zag A (.ptr (h.length,0 + 0))) fun B=>Zir B 0 fun B=>Zah pg Zgp [.int .u8 (((B:Nat):Int))] A fun A B=>
 Zbx A fun A=>bcase (!A) ((Zag B (.tup [])=Zag B (.tup []))∧Q (.bool false) B) (Zbg (Zag B (.ptr (h.length,0 + 1))) fun A=>Zah pg Zfc [.str A] B fun A B=>
 Zbx A fun A=>bcase (!A) ((Zag B (.tup [])=Zag B (.tup []))∧Q (.bool false) B) (bcase (decide ((x7:Int) > 0)) ((0≤(IntKind.wrap .i64 (x7 - 1):Int)∧(IntKind.wrap .i64 (x7 - 1):Int) < (n0:Nat))∧(Zbm a0 fun A C=>Zbg (Zag B (.ptr (A,C + (Int.toNat (IntKind.wrap .i64 (x7 - 1))) * 2 + 0))) fun D=>Zbg (Zag B (.ptr (h.length,0 + 0))) fun E=>(Zag B (.ptr (A,C + (Int.toNat (IntKind.wrap .i64 (x7 - 1))) * 2 + 0))=Zag B (.ptr (A,C + (Int.toNat (IntKind.wrap .i64 (x7 - 1))) * 2 + 0)))∧bcase (!Zeo D E) (Q (.bool false) B) (J6 Q R2 x7 x6 a5 n5 c5 e5 a0 n0 c0 e0 B))) ((Zag B (.tup [])=Zag B (.tup []))∧J6 Q R2 x7 x6 a5 n5 c5 e5 a0 n0 c0 e0 B))))))) (Zom Q h)
theorem Zld (Q:QT) (R2:T2) (a0:Pt) (n0 c0:Nat) (e0:Bool) (a5:Pt) (n5 c5:Nat) (e5:Bool) (x6 x7:Int) (h:Zaa) (ht:L2t Q R2 a0 n0 c0 e0 a5 n5 c5 e5 x6 x7 h):Den pg fn.ntmps (C [1,0,1,0,0]) [(0,.slice a0 n0 c0 e0),(5,.slice a5 n5 c5 e5),(6,.int .i64 x6),(7,.int .i64 x7)] h (K3 Q R2):=
 Zba (kp:=kp) (cast (by kernel_rfl) ht)
theorem L2ind (Q:QT) (a0:Pt) (n0 c0:Nat) (e0:Bool) (a5:Pt) (n5 c5:Nat) (e5:Bool) (x6:Int) {G:Type} (J:G→Int→Zaa→Prop) (m:G→Nat)
 (hr:∀ (g:G) (x7:Int) (h:Zaa),J g x7 h→∀ (R2:T2),(∀ g' (x7:Int) (h:Zaa),m g' < m g→J g' x7 h→R2 a0 n0 c0 e0 a5 n5 c5 e5 x6 x7 h)→L2t Q R2 a0 n0 c0 e0 a5 n5 c5 e5 x6 x7 h)
 (g:G) (x7:Int) (h:Zaa) (hj:J g x7 h):L2 Q a0 n0 c0 e0 a5 n5 c5 e5 x6 x7 h:=by
 let P:=fun (K:Int→Zaa→Prop) a0' n0' c0' e0' a5' n5' c5' e5' x6' x7 h=>a0=a0'∧n0=n0'∧c0=c0'∧e0=e0'∧a5=a5'∧n5=n5'∧c5=c5'∧e5=e5'∧x6=x6'∧K x7 h
 refine Zet.inv2 (fun g=>E2 (P (J g))) (fun g=>E2 (P fun x7 h=>∃ g',m g' < m g∧J g' x7 h)) m ?_ ?_ g ⟨rfl,rfl,rfl,rfl,rfl,rfl,rfl,rfl,rfl,hj⟩
 ·intro g env h hi
  obtain ⟨a0',n0',c0',e0',a5',n5',c5',e5',x6',x7,rfl,rfl,rfl,rfl,rfl,rfl,rfl,rfl,rfl,rfl,hj⟩:=Zek hi
  exact Zld Q _ a0 n0 c0 e0 a5 n5 c5 e5 x6 x7 h (hr g x7 h hj (P fun x7 h=>∃ g',m g' < m g∧J g' x7 h) fun g' x7 h hlt hj=>⟨rfl,rfl,rfl,rfl,rfl,rfl,rfl,rfl,rfl,g',hlt,hj⟩)
 ·intro g env h hi
  obtain ⟨a0',n0',c0',e0',a5',n5',c5',e5',x6',x7,rfl,rfl,rfl,rfl,rfl,rfl,rfl,rfl,rfl,rfl,g',hlt,hj⟩:=Zek hi
  exact ⟨g',hlt,rfl,rfl,rfl,rfl,rfl,rfl,rfl,rfl,rfl,hj⟩
theorem J6i (Q:QT) (R2:T2) (x7 x6:Int) (a5:Pt) (n5 c5:Nat) (e5:Bool) (a0:Pt) (n0 c0:Nat) (e0:Bool) (h:Zaa) (ht :
 R2 a0 n0 c0 e0 a5 n5 c5 e5 x6 (IntKind.wrap .i64 (x7 + 1)) h):J6 Q R2 x7 x6 a5 n5 c5 e5 a0 n0 c0 e0 h:=
 Zba (kp:=kp) (cast (by kernel_rfl) ht)
theorem A2x0i (Q:QT) (h:Zaa) (ht :
 Q (.bool true) h):Zom Q h:=
 At.mk (cast (by kernel_rfl) ht)
theorem call (a0:Pt) (n0 c0:Nat) (e0:Bool) (h:Zaa) (Q:QT) (ht :
 L2 Q a0 n0 c0 e0 a0 n0 c0 e0 (((n0:Nat):Int)) 0 h):Zah pg Ziy [.slice a0 n0 c0 e0] h Q:=
 Zah.of_body kp (c:=cod fn) (fn:=fn) Go.Proofs.Tryz.func108 (by kernel_rfl) (by kernel_rfl) (Nat.le_of_ble_eq_true (by kernel_rfl))
  (cast (by kernel_rfl) ht)
end Zei
namespace Zie
noncomputable abbrev fn:Func:=Go.Proofs.Tryz.f75
def kp:Zcj:=[(4000004,[3,0,4]),(3000006,[6,4]),(1000006,[0,4,6,33,34,35]),(2000008,[35,34,33,6,0,4])]
noncomputable def C (p:List Nat):Code:=(cod fn).sub p
def KR (Q:QT):KT:=Zfb pg fn.results.toList Q
abbrev T6:=Pt→Nat→Nat→Nat→Nat→Pt→Nat→Nat→Bool→Int→Int→Zaa→Prop
def E6 (R6:T6) (env:Env) (h:Zaa):Prop:=Zbw 0 env fun v env=>Zhh v fun a0=>Zbw 4 env fun v env=>Zhh v fun a=>Zbm a fun i4 o4=>Zbw 6 env fun v env=>Zhh v fun a=>Zbm a fun i6 o6=>Zbw 33 env fun v env=>xSl v fun a33 n33 c33 e33=>Zbw 34 env fun v env=>Zee .i64 v fun x34=>Zbw 35 env fun v env=>Zee .i64 v fun x35=>Zkh env (R6 a0 i4 o4 i6 o6 a33 n33 c33 e33 x34 x35 h)
theorem Zme {R6:T6} {env:Env} {h:Zaa} (hi:E6 R6 env h):∃ a0,∃ i4,∃ o4,∃ i6,∃ o6,∃ a33,∃ n33,∃ c33,∃ e33,∃ x34,∃ x35,env=[(0,.ptr a0),(4,.ptr (i4,o4)),(6,.ptr (i6,o6)),(33,.slice a33 n33 c33 e33),(34,.int .i64 x34),(35,.int .i64 x35)]∧R6 a0 i4 o4 i6 o6 a33 n33 c33 e33 x34 x35 h:=by
 unfold E6 at hi
 have hi0:=hi
 clear hi
 obtain ⟨_,_,rfl,hi1⟩:=Zak hi0
 obtain ⟨a0,rfl,hi2⟩:=Zbt hi1
 obtain ⟨_,_,rfl,hi3⟩:=Zak hi2
 obtain ⟨a,rfl,hi4⟩:=Zbt hi3
 obtain ⟨i4,o4,rfl,hi5⟩:=Zbn hi4
 obtain ⟨_,_,rfl,hi6⟩:=Zak hi5
 obtain ⟨a,rfl,hi7⟩:=Zbt hi6
 obtain ⟨i6,o6,rfl,hi8⟩:=Zbn hi7
 obtain ⟨_,_,rfl,hi9⟩:=Zak hi8
 obtain ⟨a33,n33,c33,e33,rfl,hi10⟩:=Zby hi9
 obtain ⟨_,_,rfl,hi11⟩:=Zak hi10
 obtain ⟨x34,rfl,hi12⟩:=Zax hi11
 obtain ⟨_,_,rfl,hi13⟩:=Zak hi12
 obtain ⟨x35,rfl,hi14⟩:=Zax hi13
 obtain ⟨rfl,hi15⟩:=Zbp hi14
 have hi:=hi15
 exact ⟨a0,i4,o4,i6,o6,a33,n33,c33,e33,x34,x35,rfl,hi⟩
def K0 (Q:QT):KT:=andThen (fun env' h'=>(match kp.find 4000010 with | some ks=>Den pg fn.ntmps (C [1,1,1,1]) (env'.keep ks) h' (KR Q) | none=>den pg fn.ntmps kp (C [1,1,1,1]) env' h' (KR Q))) (KR Q)
def K1 (Q:QT):KT:=Zcs 0 (K0 Q)
def K2 (Q:QT):KT:=left kp 6 (K1 Q)
def K3 (Q:QT) (R6:T6):KT:=rnd ((kp.find 1000006).getD []) (E6 R6) (K2 Q)
def J4 (Q:QT) (i3 o3:Nat) (a0:Pt) (i4 o4:Nat) (h:Zaa):Prop:=Den pg fn.ntmps (C [1,1]) [(3,.ptr (i3,o3)),(0,.ptr a0),(4,.ptr (i4,o4))] h (KR Q)
def L6 (Q:QT) (a0:Pt) (i4 o4 i6 o6:Nat) (a33:Pt) (n33 c33:Nat) (e33:Bool) (x34 x35:Int) (h:Zaa):Prop:=Zet (Den pg fn.ntmps (C [1,1,1,0,1,0,0])) ((kp.find 1000006).getD []) (K2 Q) [(0,.ptr a0),(4,.ptr (i4,o4)),(6,.ptr (i6,o6)),(33,.slice a33 n33 c33 e33),(34,.int .i64 x34),(35,.int .i64 x35)] h
def Yii (Q:QT) (i6 o6 i4 o4:Nat) (h:Zaa):Prop:=At (K1 Q) (.exit 0) [(6,.ptr (i6,o6)),(4,.ptr (i4,o4))] h
theorem J4i (Q:QT) (i3 o3:Nat) (a0:Pt) (i4 o4:Nat) (h:Zaa) (ht :
 Zdo .u8 (Zag h (.ptr (i3,o3 + 0))) fun A=>Zck (h ++ [.cells Zai [] false]) fun B=>Zck (B ++ [.cells Zai [.int .u8 0,.slice none 0 0 true] false]) fun C=>Zbu (Zbb C (.ptr (B.length,0)) [.int .u8 A,.slice (h.length,0) 0 0 true]) fun A=>xSl (Zag A (.ptr (i3,o3 + 1))) fun C D E F=>L6 Q a0 i4 o4 B.length 0 C D E F (((D:Nat):Int)) 0 A):J4 Q i3 o3 a0 i4 o4 h:=
 Zba (kp:=kp) (cast (by kernel_rfl) ht)
def L6t (Q:QT) (R6:T6) (a0:Pt) (i4 o4 i6 o6:Nat) (a33:Pt) (n33 c33:Nat) (e33:Bool) (x34 x35:Int) (h:Zaa):Prop:=
 bcase (decide ((x35:Int) < x34)) ((0≤(x35:Int)∧(x35:Int) < (n33:Nat))∧(Zbm a33 fun A B=>Zco (Zbj h (.ptr (A,B + (Int.toNat x35) * 2)) 2) fun A=>Zaj A fun A B=>Zdo .u8 A fun A=>Zaj B fun B C=>xSl B fun B D E F=>Zbv C (Zck (h ++ [.cells Zai [.int .u8 0,.slice none 0 0 true] false]) fun C=>Zbu (Zbb C (.ptr (h.length,0)) [.int .u8 A,.slice B D E F]) fun A=>xSl (Zag A (.ptr (i6,o6 + 1))) fun B C D E=>Zco (Zbj A (.ptr (h.length,0)) 2) fun F=>Zaj F fun F G=>Zdo .u8 F fun F=>Zaj G fun G H=>xSl G fun G I J K=>Zbv H ((Zag A (.ptr (i6,o6 + 1))=Zag A (.ptr (i6,o6 + 1)))∧Zah pg Zmi [.ptr a0,.agg [.int .u8 F,.slice G I J K]] A fun F G=>
 Znt F fun F=>Zaj F fun F H=>Zdo .u8 F fun F=>Zaj H fun H I=>xSl H fun H J K L=>Zbv I ((Zag G (.ptr (i6,o6 + 1))=Zag A (.ptr (i6,o6 + 1)))∧Zck (G ++ [.cells Zai [.int .u8 F,.slice H J K L] false]) fun A=>(Zag A (.ptr (i6,o6 + 1))=Zag G (.ptr (i6,o6 + 1)))∧Zcz pg Zkj A (.slice B C D E) (.slice (G.length,0) 1 1 true) fun A B=>xSl A fun A C D E=>Zbu (Zbb B (.ptr (i6,o6 + 1)) [.slice A C D E]) fun A=>R6 a0 i4 o4 i6 o6 a33 n33 c33 e33 x34 (IntKind.wrap .i64 (x35 + 1)) A))))) (Yii Q i6 o6 i4 o4 h)
theorem Zzm (Q:QT) (R6:T6) (a0:Pt) (i4 o4 i6 o6:Nat) (a33:Pt) (n33 c33:Nat) (e33:Bool) (x34 x35:Int) (h:Zaa) (ht:L6t Q R6 a0 i4 o4 i6 o6 a33 n33 c33 e33 x34 x35 h):Den pg fn.ntmps (C [1,1,1,0,1,0,0]) [(0,.ptr a0),(4,.ptr (i4,o4)),(6,.ptr (i6,o6)),(33,.slice a33 n33 c33 e33),(34,.int .i64 x34),(35,.int .i64 x35)] h (K3 Q R6):=
 Zba (kp:=kp) (cast (by kernel_rfl) ht)
theorem L6ind (Q:QT) (a0:Pt) (i4 o4 i6 o6:Nat) (a33:Pt) (n33 c33:Nat) (e33:Bool) (x34:Int) {G:Type} (J:G→Int→Zaa→Prop) (m:G→Nat)
 (hr:∀ (g:G) (x35:Int) (h:Zaa),J g x35 h→∀ (R6:T6),(∀ g' (x35:Int) (h:Zaa),m g' < m g→J g' x35 h→R6 a0 i4 o4 i6 o6 a33 n33 c33 e33 x34 x35 h)→L6t Q R6 a0 i4 o4 i6 o6 a33 n33 c33 e33 x34 x35 h)
 (g:G) (x35:Int) (h:Zaa) (hj:J g x35 h):L6 Q a0 i4 o4 i6 o6 a33 n33 c33 e33 x34 x35 h:=by
 let P:=fun (K:Int→Zaa→Prop) a0' i4' o4' i6' o6' a33' n33' c33' e33' x34' x35 h=>a0=a0'∧i4=i4'∧o4=o4'∧i6=i6'∧o6=o6'∧a33=a33'∧n33=n33'∧c33=c33'∧e33=e33'∧x34=x34'∧K x35 h
 refine Zet.inv2 (fun g=>E6 (P (J g))) (fun g=>E6 (P fun x35 h=>∃ g',m g' < m g∧J g' x35 h)) m ?_ ?_ g ⟨rfl,rfl,rfl,rfl,rfl,rfl,rfl,rfl,rfl,rfl,hj⟩
 ·intro g env h hi
  obtain ⟨a0',i4',o4',i6',o6',a33',n33',c33',e33',x34',x35,rfl,rfl,rfl,rfl,rfl,rfl,rfl,rfl,rfl,rfl,rfl,hj⟩:=Zme hi
  exact Zzm Q _ a0 i4 o4 i6 o6 a33 n33 c33 e33 x34 x35 h (hr g x35 h hj (P fun x35 h=>∃ g',m g' < m g∧J g' x35 h) fun g' x35 h hlt hj=>⟨rfl,rfl,rfl,rfl,rfl,rfl,rfl,rfl,rfl,rfl,g',hlt,hj⟩)
 ·intro g env h hi
  obtain ⟨a0',i4',o4',i6',o6',a33',n33',c33',e33',x34',x35,rfl,rfl,rfl,rfl,rfl,rfl,rfl,rfl,rfl,rfl,rfl,g',hlt,hj⟩:=Zme hi
  exact ⟨g',hlt,rfl,rfl,rfl,rfl,rfl,rfl,rfl,rfl,rfl,rfl,hj⟩
theorem A6x0i (Q:QT) (i6 o6 i4 o4:Nat) (h:Zaa) (ht :
 Zco (Zbj h (.ptr (i6,o6)) 2) fun A=>Zaj A fun A B=>Zdo .u8 A fun A=>Zaj B fun B C=>xSl B fun B D E F=>Zbv C (Zbu (Zbb h (.ptr (i4,o4)) [.int .u8 A,.slice B D E F]) fun A=>Zco (Zbj A (.ptr (i4,o4)) 2) fun B=>Zaj B fun B C=>Zdo .u8 B fun B=>Zaj C fun C D=>xSl C fun C E F G=>Zbv D (Q (.agg [.int .u8 B,.slice C E F G]) A))):Yii Q i6 o6 i4 o4 h:=
 At.mk (cast (by kernel_rfl) ht)
theorem call (a0:Pt) (x1x0:Int) (a1x1:Pt) (n1x1 c1x1:Nat) (e1x1:Bool) (h:Zaa) (Q:QT) (ht :
 Zck (h ++ [.cells Zai [.int .u8 x1x0,.slice a1x1 n1x1 c1x1 e1x1] false]) fun A=>Zck (A ++ [.cells Zai [.int .u8 0,.slice none 0 0 true] false]) fun B=>Zdo .u8 (Zag B (.ptr (h.length,0 + 0))) fun C=>Zah pg Zji [.int .u8 C] B fun B C=>
 Zdo .i64 B fun B=>bcase (decide ((B:Int) ≥ 0)) (Zbm a0 fun D E=>(0≤(B:Int)∧(B:Int) < (12:Nat))∧(Zdo .u8 (Zag C (.ptr (D,E + (Int.toNat B) * 2 + 0))) fun D=>bcase (!((D:Int) == 0)) (Zbm a0 fun D E=>(0≤(B:Int)∧(B:Int) < (12:Nat))∧(Zco (Zbj C (.ptr (D,E + (Int.toNat B) * 2)) 2) fun B=>Zaj B fun B D=>Zdo .u8 B fun B=>Zaj D fun D E=>xSl D fun D F G H=>Zbv E (Zbu (Zbb C (.ptr (A.length,0)) [.int .u8 B,.slice D F G H]) fun B=>Zco (Zbj B (.ptr (A.length,0)) 2) fun D=>Zaj D fun D E=>Zdo .u8 D fun D=>Zaj E fun E F=>xSl E fun E G H I=>Zbv F (Q (.agg [.int .u8 D,.slice E G H I]) B)))) (J4 Q h.length 0 a0 A.length 0 C))) (J4 Q h.length 0 a0 A.length 0 C)):Zah pg Zmi [.ptr a0,.agg [.int .u8 x1x0,.slice a1x1 n1x1 c1x1 e1x1]] h Q:=
 Zah.of_body kp (c:=cod fn) (fn:=fn) Go.Proofs.Tryz.func75 (by kernel_rfl) (by kernel_rfl) (Nat.le_of_ble_eq_true (by kernel_rfl))
  (cast (by kernel_rfl) ht)
end Zie
end Go.Sim

set_option maxRecDepth 100000
set_option maxHeartbeats 0
set_option linter.unusedVariables false
namespace Go.Sim
open Go Go.RowKit
namespace Zej
noncomputable abbrev fn:Func:=Go.Proofs.Tryz.f47
def kp:Zcj:=[(3000002,[2]),(1000002,[0,5,6,7]),(2000004,[36,7,6,5,0]),(4000006,[7,6,5,0])]
noncomputable def C (p:List Nat):Code:=(cod fn).sub p
def KR (Q:QT):KT:=Zfb pg fn.results.toList Q
abbrev T2:=Pt→Nat→Nat→Bool→Pt→Nat→Nat→Bool→Int→Int→Zaa→Prop
def E2 (R2:T2) (env:Env) (h:Zaa):Prop:=Zbw 0 env fun v env=>xSl v fun a0 n0 c0 e0=>Zbw 5 env fun v env=>xSl v fun a5 n5 c5 e5=>Zbw 6 env fun v env=>Zee .i64 v fun x6=>Zbw 7 env fun v env=>Zee .i64 v fun x7=>Zkh env (R2 a0 n0 c0 e0 a5 n5 c5 e5 x6 x7 h)
theorem Zek {R2:T2} {env:Env} {h:Zaa} (hi:E2 R2 env h):∃ a0,∃ n0,∃ c0,∃ e0,∃ a5,∃ n5,∃ c5,∃ e5,∃ x6,∃ x7,env=[(0,.slice a0 n0 c0 e0),(5,.slice a5 n5 c5 e5),(6,.int .i64 x6),(7,.int .i64 x7)]∧R2 a0 n0 c0 e0 a5 n5 c5 e5 x6 x7 h:=by
 unfold E2 at hi
 repeat ((first | (have k:=Zak hi; clear hi; obtain ⟨_,_,e,hi⟩:=k) | (have k:=Zax hi; clear hi; obtain ⟨_,e,hi⟩:=k) | (have k:=Zby hi; clear hi; obtain ⟨_,_,_,_,e,hi⟩:=k)); subst e)
 obtain ⟨rfl,hi⟩:=Zbp hi
 exact ⟨_,_,_,_,_,_,_,_,_,_,rfl,hi⟩
def K0 (Q:QT):KT:=andThen (fun env' h'=>(match kp.find 4000007 with | some ks=>Den pg fn.ntmps (C [1,1]) (env'.keep ks) h' (KR Q) | none=>den pg fn.ntmps kp (C [1,1]) env' h' (KR Q))) (KR Q)
def K1 (Q:QT):KT:=Zcs 0 (K0 Q)
def K2 (Q:QT):KT:=left kp 2 (K1 Q)
def K3 (Q:QT) (R2:T2):KT:=rnd ((kp.find 1000002).getD []) (E2 R2) (K2 Q)
def L2 (Q:QT) (a0:Pt) (n0 c0:Nat) (e0:Bool) (a5:Pt) (n5 c5:Nat) (e5:Bool) (x6 x7:Int) (h:Zaa):Prop:=Zet (Den pg fn.ntmps (C [1,0,1,0,0])) ((kp.find 1000002).getD []) (K2 Q) [(0,.slice a0 n0 c0 e0),(5,.slice a5 n5 c5 e5),(6,.int .i64 x6),(7,.int .i64 x7)] h
def J6 (Q:QT) (R2:T2) (x7 x6:Int) (a5:Pt) (n5 c5:Nat) (e5:Bool) (a0:Pt) (n0 c0:Nat) (e0:Bool) (h:Zaa):Prop:=Den pg fn.ntmps (C [1,0,1,0,0,1,1,1]) [(7,.int .i64 x7),(6,.int .i64 x6),(5,.slice a5 n5 c5 e5),(0,.slice a0 n0 c0 e0)] h (K3 Q R2)
def Zom (Q:QT) (h:Zaa):Prop:=At (K1 Q) (.exit 0) [(2,.undef)] h
def L2t (Q:QT) (R2:T2) (a0:Pt) (n0 c0:Nat) (e0:Bool) (a5:Pt) (n5 c5:Nat) (e5:Bool) (x6 x7:Int) (h:Zaa):Prop:=
 bcase (decide ((x7:Int) < x6)) ((0≤(x7:Int)∧(x7:Int) < (n5:Nat))∧(Zbm a5 fun A B=>Zco (Zbj h (.ptr (A,B + (Int.toNat x7) * 2)) 2) fun A=>Zaj A fun A B=>Zbg A fun A=>Zaj B fun B C=>Zbg B fun B=>Zbv C (Zck (h ++ [.cells Zbi [.str [],.str []] false]) fun C=>Zbu (Zbb C (.ptr (h.length,0)) [.str A,.str B]) fun A=>Zbg (Zag A (.ptr (h.length,0 + 0))) fun B=>Zah pg Zmk [.str B] A fun A B=>
 Zbx A fun A=>bcase (!A) ((Zag B (.tup [])=Zag B (.tup []))∧Q (.bool false) B) (Zbg (Zag B (.ptr (h.length,0 + 1))) fun A=>Zah pg Zfa [.str A] B fun A B=>
 Zbx A fun A=>bcase (!A) ((Zag B (.tup [])=Zag B (.tup []))∧Q (.bool false) B) (bcase (decide ((x7:Int) > 0)) ((0≤(IntKind.wrap .i64 (x7 - 1):Int)∧(IntKind.wrap .i64 (x7 - 1):Int) < (n0:Nat))∧(Zbm a0 fun A C=>Zbg (Zag B (.ptr (A,C + (Int.toNat (IntKind.wrap .i64 (x7 - 1))) * 2 + 0))) fun D=>Zbg (Zag B (.ptr (h.length,0 + 0))) fun E=>(Zag B (.ptr (A,C + (Int.toNat (IntKind.wrap .i64 (x7 - 1))) * 2 + 0))=Zag B (.ptr (A,C + (Int.toNat (IntKind.wrap .i64 (x7 - 1))) * 2 + 0)))∧bcase (!Zeo D E) (Q (.bool false) B) (J6 Q R2 x7 x6 a5 n5 c5 e5 a0 n0 c0 e0 B))) ((Zag B (.tup [])=Zag B (.tup []))∧J6 Q R2 x7 x6 a5 n5 c5 e5 a0 n0 c0 e0 B)))))) (Zom Q h)
theorem Zld (Q:QT) (R2:T2) (a0:Pt) (n0 c0:Nat) (e0:Bool) (a5:Pt) (n5 c5:Nat) (e5:Bool) (x6 x7:Int) (h:Zaa) (ht:L2t Q R2 a0 n0 c0 e0 a5 n5 c5 e5 x6 x7 h):Den pg fn.ntmps (C [1,0,1,0,0]) [(0,.slice a0 n0 c0 e0),(5,.slice a5 n5 c5 e5),(6,.int .i64 x6),(7,.int .i64 x7)] h (K3 Q R2):=
 Zba (kp:=kp) (cast (by kernel_rfl) ht)
theorem L2ind (Q:QT) (a0:Pt) (n0 c0:Nat) (e0:Bool) (a5:Pt) (n5 c5:Nat) (e5:Bool) (x6:Int) {G:Type} (J:G→Int→Zaa→Prop) (m:G→Nat)
 (hr:∀ (g:G) (x7:Int) (h:Zaa),J g x7 h→∀ (R2:T2),(∀ g' (x7:Int) (h:Zaa),m g' < m g→J g' x7 h→R2 a0 n0 c0 e0 a5 n5 c5 e5 x6 x7 h)→L2t Q R2 a0 n0 c0 e0 a5 n5 c5 e5 x6 x7 h)
 (g:G) (x7:Int) (h:Zaa) (hj:J g x7 h):L2 Q a0 n0 c0 e0 a5 n5 c5 e5 x6 x7 h:=by
 let P:=fun (K:Int→Zaa→Prop) a0' n0' c0' e0' a5' n5' c5' e5' x6' x7 h=>a0=a0'∧n0=n0'∧c0=c0'∧e0=e0'∧a5=a5'∧n5=n5'∧c5=c5'∧e5=e5'∧x6=x6'∧K x7 h
 refine Zet.inv2 (fun g=>E2 (P (J g))) (fun g=>E2 (P fun x7 h=>∃ g',m g' < m g∧J g' x7 h)) m ?_ ?_ g ⟨rfl,rfl,rfl,rfl,rfl,rfl,rfl,rfl,rfl,hj⟩
 ·intro g env h hi
  obtain ⟨a0',n0',c0',e0',a5',n5',c5',e5',x6',x7,rfl,rfl,rfl,rfl,rfl,rfl,rfl,rfl,rfl,rfl,hj⟩:=Zek hi
  exact Zld Q _ a0 n0 c0 e0 a5 n5 c5 e5 x6 x7 h (hr g x7 h hj (P fun x7 h=>∃ g',m g' < m g∧J g' x7 h) fun g' x7 h hlt hj=>⟨rfl,rfl,rfl,rfl,rfl,rfl,rfl,rfl,rfl,g',hlt,hj⟩)
 ·intro g env h hi
  obtain ⟨a0',n0',c0',e0',a5',n5',c5',e5',x6',x7,rfl,rfl,rfl,rfl,rfl,rfl,rfl,rfl,rfl,rfl,g',hlt,hj⟩:=Zek hi
  exact ⟨g',hlt,rfl,rfl,rfl,rfl,rfl,rfl,rfl,rfl,rfl,hj⟩
theorem J6i (Q:QT) (R2:T2) (x7 x6:Int) (a5:Pt) (n5 c5:Nat) (e5:Bool) (a0:Pt) (n0 c0:Nat) (e0:Bool) (h:Zaa) (ht :
 R2 a0 n0 c0 e0 a5 n5 c5 e5 x6 (IntKind.wrap .i64 (x7 + 1)) h):J6 Q R2 x7 x6 a5 n5 c5 e5 a0 n0 c0 e0 h:=
 Zba (kp:=kp) (cast (by kernel_rfl) ht)
theorem A2x0i (Q:QT) (h:Zaa) (ht :
 Q (.bool true) h):Zom Q h:=
 At.mk (cast (by kernel_rfl) ht)
theorem call (a0:Pt) (n0 c0:Nat) (e0:Bool) (h:Zaa) (Q:QT) (ht :
 L2 Q a0 n0 c0 e0 a0 n0 c0 e0 (((n0:Nat):Int)) 0 h):Zah pg Ziu [.slice a0 n0 c0 e0] h Q:=
 Zah.of_body kp (c:=cod fn) (fn:=fn) Go.Proofs.Tryz.func47 (by kernel_rfl) (by kernel_rfl) (Nat.le_of_ble_eq_true (by kernel_rfl))
  (cast (by kernel_rfl) ht)
end Zej
namespace Zdg
noncomputable abbrev fn:Func:=Go.Proofs.Tryz.f16
def kp:Zcj:=[(4000003,[1,0]),(3000005,[6]),(1000005,[0,1,6,20,21]),(3000009,[6,8,21,20,1,0]),(1000009,[0,1,6,8,20,21,29,30,31])]
noncomputable def C (p:List Nat):Code:=(cod fn).sub p
def KR (Q:QT):KT:=Zfb pg fn.results.toList Q
abbrev T5:=Pt→Nat→Nat→Bool→List Nat→List Nat→Int→Int→Zaa→Prop
def E5 (R5:T5) (env:Env) (h:Zaa):Prop:=Zbw 0 env fun v env=>xSl v fun a0 n0 c0 e0=>Zbw 1 env fun v env=>Zbg v fun x1=>Zbw 6 env fun v env=>Zbg v fun x6=>Zbw 20 env fun v env=>Zee .i64 v fun x20=>Zbw 21 env fun v env=>Zee .i64 v fun x21=>Zkh env (R5 a0 n0 c0 e0 x1 x6 x20 x21 h)
theorem Zma {R5:T5} {env:Env} {h:Zaa} (hi:E5 R5 env h):∃ a0,∃ n0,∃ c0,∃ e0,∃ x1,∃ x6,∃ x20,∃ x21,env=[(0,.slice a0 n0 c0 e0),(1,.str x1),(6,.str x6),(20,.int .i64 x20),(21,.int .i64 x21)]∧R5 a0 n0 c0 e0 x1 x6 x20 x21 h:=by
 unfold E5 at hi
 repeat ((first | (have k:=Zak hi; clear hi; obtain ⟨_,_,e,hi⟩:=k) | (have k:=Zax hi; clear hi; obtain ⟨_,e,hi⟩:=k) | (have k:=Zby hi; clear hi; obtain ⟨_,_,_,_,e,hi⟩:=k) | (have k:=Zfe hi; clear hi; obtain ⟨_,e,hi⟩:=k)); subst e)
 obtain ⟨rfl,hi⟩:=Zbp hi
 exact ⟨_,_,_,_,_,_,_,_,rfl,hi⟩
abbrev T9:=Pt→Nat→Nat→Bool→List Nat→List Nat→List Nat→Int→Int→Pt→Nat→Nat→Bool→Int→Int→Zaa→Prop
def E9 (R9:T9) (env:Env) (h:Zaa):Prop:=Zbw 0 env fun v env=>xSl v fun a0 n0 c0 e0=>Zbw 1 env fun v env=>Zbg v fun x1=>Zbw 6 env fun v env=>Zbg v fun x6=>Zbw 8 env fun v env=>Zbg v fun x8=>Zbw 20 env fun v env=>Zee .i64 v fun x20=>Zbw 21 env fun v env=>Zee .i64 v fun x21=>Zbw 29 env fun v env=>xSl v fun a29 n29 c29 e29=>Zbw 30 env fun v env=>Zee .i64 v fun x30=>Zbw 31 env fun v env=>Zee .i64 v fun x31=>Zkh env (R9 a0 n0 c0 e0 x1 x6 x8 x20 x21 a29 n29 c29 e29 x30 x31 h)
theorem Zwh {R9:T9} {env:Env} {h:Zaa} (hi:E9 R9 env h):∃ a0,∃ n0,∃ c0,∃ e0,∃ x1,∃ x6,∃ x8,∃ x20,∃ x21,∃ a29,∃ n29,∃ c29,∃ e29,∃ x30,∃ x31,env=[(0,.slice a0 n0 c0 e0),(1,.str x1),(6,.str x6),(8,.str x8),(20,.int .i64 x20),(21,.int .i64 x21),(29,.slice a29 n29 c29 e29),(30,.int .i64 x30),(31,.int .i64 x31)]∧R9 a0 n0 c0 e0 x1 x6 x8 x20 x21 a29 n29 c29 e29 x30 x31 h:=by
 unfold E9 at hi
 repeat ((first | (have k:=Zak hi; clear hi; obtain ⟨_,_,e,hi⟩:=k) | (have k:=Zax hi; clear hi; obtain ⟨_,e,hi⟩:=k) | (have k:=Zby hi; clear hi; obtain ⟨_,_,_,_,e,hi⟩:=k) | (have k:=Zfe hi; clear hi; obtain ⟨_,e,hi⟩:=k)); subst e)
 obtain ⟨rfl,hi⟩:=Zbp hi
 exact ⟨_,_,_,_,_,_,_,_,_,_,_,_,_,_,_,rfl,hi⟩
def K0 (Q:QT):KT:=andThen (fun env' h'=>(match kp.find 4000016 with | some ks=>Den pg fn.ntmps (C [1,1,1,1]) (env'.keep ks) h' (KR Q) | none=>den pg fn.ntmps kp (C [1,1,1,1]) env' h' (KR Q))) (KR Q)
def K1 (Q:QT):KT:=Zcs 0 (K0 Q)
def K2 (Q:QT):KT:=left kp 5 (K1 Q)
def K3 (Q:QT) (R5:T5):KT:=rnd ((kp.find 1000005).getD []) (E5 R5) (K2 Q)
def K4 (Q:QT) (R5:T5):KT:=andThen (fun env' h'=>(match kp.find 4000015 with | some ks=>Den pg fn.ntmps (C [1,1,1,0,1,0,0,1,1,1]) (env'.keep ks) h' (K3 Q R5) | none=>den pg fn.ntmps kp (C [1,1,1,0,1,0,0,1,1,1]) env' h' (K3 Q R5))) (K3 Q R5)
def K5 (Q:QT) (R5:T5):KT:=Zcs 1 (K4 Q R5)
def K6 (Q:QT) (R5:T5):KT:=andThen (fun env' h'=>(match kp.find 4000014 with | some ks=>Den pg fn.ntmps (C [1,1,1,0,1,0,0,1,1,0,0,1,1,1]) (env'.keep ks) h' (K5 Q R5) | none=>den pg fn.ntmps kp (C [1,1,1,0,1,0,0,1,1,0,0,1,1,1]) env' h' (K5 Q R5))) (K5 Q R5)
def K7 (Q:QT) (R5:T5):KT:=Zcs 2 (K6 Q R5)
def K8 (Q:QT) (R5:T5):KT:=left kp 9 (K7 Q R5)
def K9 (Q:QT) (R5:T5) (R9:T9):KT:=rnd ((kp.find 1000009).getD []) (E9 R9) (K8 Q R5)
def J3 (Q:QT) (x1:List Nat) (a0:Pt) (n0 c0:Nat) (e0:Bool) (h:Zaa):Prop:=Den pg fn.ntmps (C [1,1]) [(1,.str x1),(0,.slice a0 n0 c0 e0)] h (KR Q)
def L5 (Q:QT) (a0:Pt) (n0 c0:Nat) (e0:Bool) (x1 x6:List Nat) (x20 x21:Int) (h:Zaa):Prop:=Zet (Den pg fn.ntmps (C [1,1,1,0,1,0,0])) ((kp.find 1000005).getD []) (K2 Q) [(0,.slice a0 n0 c0 e0),(1,.str x1),(6,.str x6),(20,.int .i64 x20),(21,.int .i64 x21)] h
def L9 (Q:QT) (R5:T5) (a0:Pt) (n0 c0:Nat) (e0:Bool) (x1 x6 x8:List Nat) (x20 x21:Int) (a29:Pt) (n29 c29:Nat) (e29:Bool) (x30 x31:Int) (h:Zaa):Prop:=Zet (Den pg fn.ntmps (C [1,1,1,0,1,0,0,1,1,0,0,1,1,0,1,0,0])) ((kp.find 1000009).getD []) (K8 Q R5) [(0,.slice a0 n0 c0 e0),(1,.str x1),(6,.str x6),(8,.str x8),(20,.int .i64 x20),(21,.int .i64 x21),(29,.slice a29 n29 c29 e29),(30,.int .i64 x30),(31,.int .i64 x31)] h
def A5x0 (Q:QT) (x6:List Nat) (h:Zaa):Prop:=At (K1 Q) (.exit 0) [(6,.str x6)] h
def A9x2 (Q:QT) (R5:T5) (x6 x8:List Nat) (x21 x20:Int) (x1:List Nat) (a0:Pt) (n0 c0:Nat) (e0:Bool) (h:Zaa):Prop:=At (K7 Q R5) (.exit 2) [(6,.str x6),(8,.str x8),(21,.int .i64 x21),(20,.int .i64 x20),(1,.str x1),(0,.slice a0 n0 c0 e0)] h
theorem J3i (Q:QT) (x1:List Nat) (a0:Pt) (n0 c0:Nat) (e0:Bool) (h:Zaa) (ht :
 L5 Q a0 n0 c0 e0 x1 [] (((List.length x1:Nat):Int)) 0 h):J3 Q x1 a0 n0 c0 e0 h:=
 Zba (kp:=kp) (cast (by kernel_rfl) ht)
def L5t (Q:QT) (R5:T5) (a0:Pt) (n0 c0:Nat) (e0:Bool) (x1 x6:List Nat) (x20 x21:Int) (h:Zaa):Prop:=
 bcase (decide ((x21:Int) < x20)) ((0≤(x21:Int)∧(x21:Int)≤IntKind.wrap .i64 (x21 + 1)∧(IntKind.wrap .i64 (x21 + 1):Int)≤(List.length x1:Nat))∧(L9 Q R5 a0 n0 c0 e0 x1 x6 (sub x1 x21 (IntKind.wrap .i64 (x21 + 1))) x20 x21 a0 n0 c0 e0 (((n0:Nat):Int)) 0 h)) (A5x0 Q x6 h)
theorem Zyg (Q:QT) (R5:T5) (a0:Pt) (n0 c0:Nat) (e0:Bool) (x1 x6:List Nat) (x20 x21:Int) (h:Zaa) (ht:L5t Q R5 a0 n0 c0 e0 x1 x6 x20 x21 h):Den pg fn.ntmps (C [1,1,1,0,1,0,0]) [(0,.slice a0 n0 c0 e0),(1,.str x1),(6,.str x6),(20,.int .i64 x20),(21,.int .i64 x21)] h (K3 Q R5):=
 Zba (kp:=kp) (cast (by kernel_rfl) ht)
theorem L5ind (Q:QT) (a0:Pt) (n0 c0:Nat) (e0:Bool) (x1:List Nat) (x20:Int) {G:Type} (J:G→List Nat→Int→Zaa→Prop) (m:G→Nat)
 (hr:∀ (g:G) (x6:List Nat) (x21:Int) (h:Zaa),J g x6 x21 h→∀ (R5:T5),(∀ g' (x6:List Nat) (x21:Int) (h:Zaa),m g' < m g→J g' x6 x21 h→R5 a0 n0 c0 e0 x1 x6 x20 x21 h)→L5t Q R5 a0 n0 c0 e0 x1 x6 x20 x21 h)
 (g:G) (x6:List Nat) (x21:Int) (h:Zaa) (hj:J g x6 x21 h):L5 Q a0 n0 c0 e0 x1 x6 x20 x21 h:=by
 let P:=fun (K:List Nat→Int→Zaa→Prop) a0' n0' c0' e0' x1' x6 x20' x21 h=>a0=a0'∧n0=n0'∧c0=c0'∧e0=e0'∧x1=x1'∧x20=x20'∧K x6 x21 h
 refine Zet.inv2 (fun g=>E5 (P (J g))) (fun g=>E5 (P fun x6 x21 h=>∃ g',m g' < m g∧J g' x6 x21 h)) m ?_ ?_ g ⟨rfl,rfl,rfl,rfl,rfl,rfl,hj⟩
 ·intro g env h hi
  obtain ⟨a0',n0',c0',e0',x1',x6,x20',x21,rfl,rfl,rfl,rfl,rfl,rfl,rfl,hj⟩:=Zma hi
  exact Zyg Q _ a0 n0 c0 e0 x1 x6 x20 x21 h (hr g x6 x21 h hj (P fun x6 x21 h=>∃ g',m g' < m g∧J g' x6 x21 h) fun g' x6 x21 h hlt hj=>⟨rfl,rfl,rfl,rfl,rfl,rfl,g',hlt,hj⟩)
 ·intro g env h hi
  obtain ⟨a0',n0',c0',e0',x1',x6,x20',x21,rfl,rfl,rfl,rfl,rfl,rfl,rfl,g',hlt,hj⟩:=Zma hi
  exact ⟨g',hlt,rfl,rfl,rfl,rfl,rfl,rfl,hj⟩
def L9t (Q:QT) (R5:T5) (R9:T9) (a0:Pt) (n0 c0:Nat) (e0:Bool) (x1 x6 x8:List Nat) (x20 x21:Int) (a29:Pt) (n29 c29:Nat) (e29:Bool) (x30 x31:Int) (h:Zaa):Prop:=
 bcase (decide ((x31:Int) < x30)) ((0≤(x31:Int)∧(x31:Int) < (n29:Nat))∧(Zbm a29 fun A B=>Zco (Zbj h (.ptr (A,B + (Int.toNat x31) * 2)) 2) fun A=>Zaj A fun A B=>Zbg A fun A=>Zaj B fun B C=>Zbg B fun B=>Zbv C (Zck (h ++ [.cells Zbi [.str [],.str []] false]) fun C=>Zbu (Zbb C (.ptr (h.length,0)) [.str A,.str B]) fun A=>Zbg (Zag A (.ptr (h.length,0 + 0))) fun B=>bcase (decide (B=x8)) (Zbg (Zag A (.ptr (h.length,0 + 1))) fun B=>A9x2 Q R5 x6 B x21 x20 x1 a0 n0 c0 e0 A) (R9 a0 n0 c0 e0 x1 x6 x8 x20 x21 a29 n29 c29 e29 x30 (IntKind.wrap .i64 (x31 + 1)) A)))) (A9x2 Q R5 x6 x8 x21 x20 x1 a0 n0 c0 e0 h)
theorem Yme (Q:QT) (R5:T5) (R9:T9) (a0:Pt) (n0 c0:Nat) (e0:Bool) (x1 x6 x8:List Nat) (x20 x21:Int) (a29:Pt) (n29 c29:Nat) (e29:Bool) (x30 x31:Int) (h:Zaa) (ht:L9t Q R5 R9 a0 n0 c0 e0 x1 x6 x8 x20 x21 a29 n29 c29 e29 x30 x31 h):Den pg fn.ntmps (C [1,1,1,0,1,0,0,1,1,0,0,1,1,0,1,0,0]) [(0,.slice a0 n0 c0 e0),(1,.str x1),(6,.str x6),(8,.str x8),(20,.int .i64 x20),(21,.int .i64 x21),(29,.slice a29 n29 c29 e29),(30,.int .i64 x30),(31,.int .i64 x31)] h (K9 Q R5 R9):=
 Zba (kp:=kp) (cast (by kernel_rfl) ht)
theorem L9ind (Q:QT) (R5:T5) (a0:Pt) (n0 c0:Nat) (e0:Bool) (x1 x6:List Nat) (x20 x21:Int) (a29:Pt) (n29 c29:Nat) (e29:Bool) (x30:Int) {G:Type} (J:G→List Nat→Int→Zaa→Prop) (m:G→Nat)
 (hr:∀ (g:G) (x8:List Nat) (x31:Int) (h:Zaa),J g x8 x31 h→∀ (R9:T9),(∀ g' (x8:List Nat) (x31:Int) (h:Zaa),m g' < m g→J g' x8 x31 h→R9 a0 n0 c0 e0 x1 x6 x8 x20 x21 a29 n29 c29 e29 x30 x31 h)→L9t Q R5 R9 a0 n0 c0 e0 x1 x6 x8 x20 x21 a29 n29 c29 e29 x30 x31 h)
 (g:G) (x8:List Nat) (x31:Int) (h:Zaa) (hj:J g x8 x31 h):L9 Q R5 a0 n0 c0 e0 x1 x6 x8 x20 x21 a29 n29 c29 e29 x30 x31 h:=by
 let P:=fun (K:List Nat→Int→Zaa→Prop) a0' n0' c0' e0' x1' x6' x8 x20' x21' a29' n29' c29' e29' x30' x31 h=>a0=a0'∧n0=n0'∧c0=c0'∧e0=e0'∧x1=x1'∧x6=x6'∧x20=x20'∧x21=x21'∧a29=a29'∧n29=n29'∧c29=c29'∧e29=e29'∧x30=x30'∧K x8 x31 h
 refine Zet.inv2 (fun g=>E9 (P (J g))) (fun g=>E9 (P fun x8 x31 h=>∃ g',m g' < m g∧J g' x8 x31 h)) m ?_ ?_ g ⟨rfl,rfl,rfl,rfl,rfl,rfl,rfl,rfl,rfl,rfl,rfl,rfl,rfl,hj⟩
 ·intro g env h hi
  obtain ⟨a0',n0',c0',e0',x1',x6',x8,x20',x21',a29',n29',c29',e29',x30',x31,rfl,rfl,rfl,rfl,rfl,rfl,rfl,rfl,rfl,rfl,rfl,rfl,rfl,rfl,hj⟩:=Zwh hi
  exact Yme Q R5 (P fun x8 x31 h=>∃ g',m g' < m g∧J g' x8 x31 h) a0 n0 c0 e0 x1 x6 x8 x20 x21 a29 n29 c29 e29 x30 x31 h (hr g x8 x31 h hj (P fun x8 x31 h=>∃ g',m g' < m g∧J g' x8 x31 h) fun g' x8 x31 h hlt hj=>⟨rfl,rfl,rfl,rfl,rfl,rfl,rfl,rfl,rfl,rfl,rfl,rfl,rfl,g',hlt,hj⟩)
 ·intro g env h hi
  obtain ⟨a0',n0',c0',e0',x1',x6',x8,x20',x21',a29',n29',c29',e29',x30',x31,rfl,rfl,rfl,rfl,rfl,rfl,rfl,rfl,rfl,rfl,rfl,rfl,rfl,rfl,g',hlt,hj⟩:=Zwh hi
  exact ⟨g',hlt,rfl,rfl,rfl,rfl,rfl,rfl,rfl,rfl,rfl,rfl,rfl,rfl,rfl,hj⟩
theorem A5x0i (Q:QT) (x6:List Nat) (h:Zaa) (ht :
 bcase (decide (((((List.length x6:Nat):Int)):Int) > 60)) (Q (.tup [.str [],.bool false]) h) (Q (.tup [.str x6,.bool true]) h)):A5x0 Q x6 h:=
 At.mk (cast (by kernel_rfl) ht)
theorem A9x2i (Q:QT) (R5:T5) (x6 x8:List Nat) (x21 x20:Int) (x1:List Nat) (a0:Pt) (n0 c0:Nat) (e0:Bool) (h:Zaa) (ht :
 List.length x6 + List.length x8≤9223372036854775807∧(R5 a0 n0 c0 e0 x1 (x6 ++ x8) x20 (IntKind.wrap .i64 (x21 + 1)) h)):A9x2 Q R5 x6 x8 x21 x20 x1 a0 n0 c0 e0 h:=
 At.mk (cast (by kernel_rfl) ht)
theorem call (a0:Pt) (n0 c0:Nat) (e0:Bool) (x1:List Nat) (h:Zaa) (Q:QT) (ht :
 Zah pg Ziu [.slice a0 n0 c0 e0] h fun A B=>
 Zbx A fun A=>bcase (!A) (Q (.tup [.str [],.bool false]) B) (Zah pg Zfa [.str x1] B fun A B=>
 Zbx A fun A=>bcase (!A) (Q (.tup [.str [],.bool false]) B) (J3 Q x1 a0 n0 c0 e0 B))):Zah pg Zgj [.slice a0 n0 c0 e0,.str x1] h Q:=
 Zah.of_body kp (c:=cod fn) (fn:=fn) Go.Proofs.Tryz.func16 (by kernel_rfl) (by kernel_rfl) (Nat.le_of_ble_eq_true (by kernel_rfl))
  (cast (by kernel_rfl) ht)
end Zdg
namespace Zds
noncomputable abbrev fn:Func:=Go.Proofs.Tryz.f42
def kp:Zcj:=[(3000004,[7,8]),(1000004,[6,7,8,23,24,25]),(4000008,[8,10,11,25,24,23,6,7]),(4000009,[25,24,23,6,7,8])]
noncomputable def C (p:List Nat):Code:=(cod fn).sub p
def KR (Q:QT):KT:=Zfb pg fn.results.toList Q
abbrev T4:=Pt→Nat→Nat→Bool→Bool→Pt→Nat→Nat→Bool→Pt→Nat→Nat→Bool→Int→Int→Zaa→Prop
def E4 (R4:T4) (env:Env) (h:Zaa):Prop:=Zbw 6 env fun v env=>xSl v fun a6 n6 c6 e6=>Zbw 7 env fun v env=>Zbx v fun x7=>Zbw 8 env fun v env=>xSl v fun a8 n8 c8 e8=>Zbw 23 env fun v env=>xSl v fun a23 n23 c23 e23=>Zbw 24 env fun v env=>Zee .i64 v fun x24=>Zbw 25 env fun v env=>Zee .i64 v fun x25=>Zkh env (R4 a6 n6 c6 e6 x7 a8 n8 c8 e8 a23 n23 c23 e23 x24 x25 h)
theorem Zly {R4:T4} {env:Env} {h:Zaa} (hi:E4 R4 env h):∃ a6,∃ n6,∃ c6,∃ e6,∃ x7,∃ a8,∃ n8,∃ c8,∃ e8,∃ a23,∃ n23,∃ c23,∃ e23,∃ x24,∃ x25,env=[(6,.slice a6 n6 c6 e6),(7,.bool x7),(8,.slice a8 n8 c8 e8),(23,.slice a23 n23 c23 e23),(24,.int .i64 x24),(25,.int .i64 x25)]∧R4 a6 n6 c6 e6 x7 a8 n8 c8 e8 a23 n23 c23 e23 x24 x25 h:=by
 unfold E4 at hi
 repeat ((first | (have k:=Zak hi; clear hi; obtain ⟨_,_,e,hi⟩:=k) | (have k:=Zax hi; clear hi; obtain ⟨_,e,hi⟩:=k) | (have k:=Zlq hi; clear hi; obtain ⟨_,e,hi⟩:=k) | (have k:=Zby hi; clear hi; obtain ⟨_,_,_,_,e,hi⟩:=k)); subst e)
 obtain ⟨rfl,hi⟩:=Zbp hi
 exact ⟨_,_,_,_,_,_,_,_,_,_,_,_,_,_,_,rfl,hi⟩
def K0 (Q:QT):KT:=andThen (fun env' h'=>(match kp.find 4000010 with | some ks=>Den pg fn.ntmps (C [1,1,1,1]) (env'.keep ks) h' (KR Q) | none=>den pg fn.ntmps kp (C [1,1,1,1]) env' h' (KR Q))) (KR Q)
def K1 (Q:QT):KT:=Zcs 0 (K0 Q)
def K2 (Q:QT):KT:=left kp 4 (K1 Q)
def K3 (Q:QT) (R4:T4):KT:=rnd ((kp.find 1000004).getD []) (E4 R4) (K2 Q)
def K4 (Q:QT) (R4:T4):KT:=andThen (fun env' h'=>(match kp.find 4000009 with | some ks=>Den pg fn.ntmps (C [1,1,1,0,1,0,0,1,1,1]) (env'.keep ks) h' (K3 Q R4) | none=>den pg fn.ntmps kp (C [1,1,1,0,1,0,0,1,1,1]) env' h' (K3 Q R4))) (K3 Q R4)
def K5 (Q:QT) (R4:T4):KT:=Zcs 1 (K4 Q R4)
def L4 (Q:QT) (a6:Pt) (n6 c6:Nat) (e6 x7:Bool) (a8:Pt) (n8 c8:Nat) (e8:Bool) (a23:Pt) (n23 c23:Nat) (e23:Bool) (x24 x25:Int) (h:Zaa):Prop:=Zet (Den pg fn.ntmps (C [1,1,1,0,1,0,0])) ((kp.find 1000004).getD []) (K2 Q) [(6,.slice a6 n6 c6 e6),(7,.bool x7),(8,.slice a8 n8 c8 e8),(23,.slice a23 n23 c23 e23),(24,.int .i64 x24),(25,.int .i64 x25)] h
def J8 (Q:QT) (R4:T4) (a8:Pt) (n8 c8:Nat) (e8:Bool) (i10 o10:Nat) (x11:List Nat) (x25 x24:Int) (a23:Pt) (n23 c23:Nat) (e23:Bool) (a6:Pt) (n6 c6:Nat) (e6 x7:Bool) (h:Zaa):Prop:=Den pg fn.ntmps (C [1,1,1,0,1,0,0,1,1,0,0,1,1,1]) [(8,.slice a8 n8 c8 e8),(10,.ptr (i10,o10)),(11,.str x11),(25,.int .i64 x25),(24,.int .i64 x24),(23,.slice a23 n23 c23 e23),(6,.slice a6 n6 c6 e6),(7,.bool x7)] h (K5 Q R4)
def Ydv (Q:QT) (x7:Bool) (a8:Pt) (n8 c8:Nat) (e8:Bool) (h:Zaa):Prop:=At (K1 Q) (.exit 0) [(7,.bool x7),(8,.slice a8 n8 c8 e8)] h
def J9 (Q:QT) (R4:T4) (x25 x24:Int) (a23:Pt) (n23 c23:Nat) (e23:Bool) (a6:Pt) (n6 c6:Nat) (e6 x7:Bool) (a8:Pt) (n8 c8:Nat) (e8:Bool) (h:Zaa):Prop:=Den pg fn.ntmps (C [1,1,1,0,1,0,0,1,1,1]) [(25,.int .i64 x25),(24,.int .i64 x24),(23,.slice a23 n23 c23 e23),(6,.slice a6 n6 c6 e6),(7,.bool x7),(8,.slice a8 n8 c8 e8)] h (K3 Q R4)
def L4t (Q:QT) (R4:T4) (a6:Pt) (n6 c6:Nat) (e6 x7:Bool) (a8:Pt) (n8 c8:Nat) (e8:Bool) (a23:Pt) (n23 c23:Nat) (e23:Bool) (x24 x25:Int) (h:Zaa):Prop:=
 bcase (decide ((x25:Int) < x24)) ((0≤(x25:Int)∧(x25:Int) < (n23:Nat))∧(Zbm a23 fun A B=>Zco (Zbj h (.ptr (A,B + (Int.toNat x25) * 2)) 2) fun A=>Zaj A fun A B=>Zbg A fun A=>Zaj B fun B C=>Zbg B fun B=>Zbv C (Zck (h ++ [.cells Zad [.str [],.str []] false]) fun C=>Zbu (Zbb C (.ptr (h.length,0)) [.str A,.str B]) fun A=>Zbg (Zag A (.ptr (h.length,0 + 1))) fun B=>Zah pg Zgj [.slice a6 n6 c6 e6,.str B] A fun A B=>
 Zny A fun A=>Zaj A fun A C=>Zbg A fun A=>Zaj C fun C D=>Zbx C fun C=>Zbv D (bcase x7 (J8 Q R4 a8 n8 c8 e8 h.length 0 A x25 x24 a23 n23 c23 e23 a6 n6 c6 e6 C B) (J8 Q R4 a8 n8 c8 e8 h.length 0 A x25 x24 a23 n23 c23 e23 a6 n6 c6 e6 false B))))) (Ydv Q x7 a8 n8 c8 e8 h)
theorem Zys (Q:QT) (R4:T4) (a6:Pt) (n6 c6:Nat) (e6 x7:Bool) (a8:Pt) (n8 c8:Nat) (e8:Bool) (a23:Pt) (n23 c23:Nat) (e23:Bool) (x24 x25:Int) (h:Zaa) (ht:L4t Q R4 a6 n6 c6 e6 x7 a8 n8 c8 e8 a23 n23 c23 e23 x24 x25 h):Den pg fn.ntmps (C [1,1,1,0,1,0,0]) [(6,.slice a6 n6 c6 e6),(7,.bool x7),(8,.slice a8 n8 c8 e8),(23,.slice a23 n23 c23 e23),(24,.int .i64 x24),(25,.int .i64 x25)] h (K3 Q R4):=
 Zba (kp:=kp) (cast (by kernel_rfl) ht)
theorem L4ind (Q:QT) (a6:Pt) (n6 c6:Nat) (e6:Bool) (a23:Pt) (n23 c23:Nat) (e23:Bool) (x24:Int) {G:Type} (J:G→Bool→Pt→Nat→Nat→Bool→Int→Zaa→Prop) (m:G→Nat)
 (hr:∀ (g:G) (x7:Bool) (a8:Pt) (n8 c8:Nat) (e8:Bool) (x25:Int) (h:Zaa),J g x7 a8 n8 c8 e8 x25 h→∀ (R4:T4),(∀ g' (x7:Bool) (a8:Pt) (n8 c8:Nat) (e8:Bool) (x25:Int) (h:Zaa),m g' < m g→J g' x7 a8 n8 c8 e8 x25 h→R4 a6 n6 c6 e6 x7 a8 n8 c8 e8 a23 n23 c23 e23 x24 x25 h)→L4t Q R4 a6 n6 c6 e6 x7 a8 n8 c8 e8 a23 n23 c23 e23 x24 x25 h)
 (g:G) (x7:Bool) (a8:Pt) (n8 c8:Nat) (e8:Bool) (x25:Int) (h:Zaa) (hj:J g x7 a8 n8 c8 e8 x25 h):L4 Q a6 n6 c6 e6 x7 a8 n8 c8 e8 a23 n23 c23 e23 x24 x25 h:=by
 let P:=fun (K:Bool→Pt→Nat→Nat→Bool→Int→Zaa→Prop) a6' n6' c6' e6' x7 a8 n8 c8 e8 a23' n23' c23' e23' x24' x25 h=>a6=a6'∧n6=n6'∧c6=c6'∧e6=e6'∧a23=a23'∧n23=n23'∧c23=c23'∧e23=e23'∧x24=x24'∧K x7 a8 n8 c8 e8 x25 h
 refine Zet.inv2 (fun g=>E4 (P (J g))) (fun g=>E4 (P fun x7 a8 n8 c8 e8 x25 h=>∃ g',m g' < m g∧J g' x7 a8 n8 c8 e8 x25 h)) m ?_ ?_ g ⟨rfl,rfl,rfl,rfl,rfl,rfl,rfl,rfl,rfl,hj⟩
 ·intro g env h hi
  obtain ⟨a6',n6',c6',e6',x7,a8,n8,c8,e8,a23',n23',c23',e23',x24',x25,rfl,rfl,rfl,rfl,rfl,rfl,rfl,rfl,rfl,rfl,hj⟩:=Zly hi
  exact Zys Q _ a6 n6 c6 e6 x7 a8 n8 c8 e8 a23 n23 c23 e23 x24 x25 h (hr g x7 a8 n8 c8 e8 x25 h hj (P fun x7 a8 n8 c8 e8 x25 h=>∃ g',m g' < m g∧J g' x7 a8 n8 c8 e8 x25 h) fun g' x7 a8 n8 c8 e8 x25 h hlt hj=>⟨rfl,rfl,rfl,rfl,rfl,rfl,rfl,rfl,rfl,g',hlt,hj⟩)
 ·intro g env h hi
  obtain ⟨a6',n6',c6',e6',x7,a8,n8,c8,e8,a23',n23',c23',e23',x24',x25,rfl,rfl,rfl,rfl,rfl,rfl,rfl,rfl,rfl,rfl,g',hlt,hj⟩:=Zly hi
  exact ⟨g',hlt,rfl,rfl,rfl,rfl,rfl,rfl,rfl,rfl,rfl,hj⟩
theorem J8i (Q:QT) (R4:T4) (a8:Pt) (n8 c8:Nat) (e8:Bool) (i10 o10:Nat) (x11:List Nat) (x25 x24:Int) (a23:Pt) (n23 c23:Nat) (e23:Bool) (a6:Pt) (n6 c6:Nat) (e6 x7:Bool) (h:Zaa) (ht :
 Zbg (Zag h (.ptr (i10,o10 + 0))) fun A=>Zck (h ++ [.cells Zad [.str A,.str x11] false]) fun A=>Zcz pg Zfu A (.slice a8 n8 c8 e8) (.slice (h.length,0) 1 1 true) fun A B=>xSl A fun A C D E=>J9 Q R4 x25 x24 a23 n23 c23 e23 a6 n6 c6 e6 x7 A C D E B):J8 Q R4 a8 n8 c8 e8 i10 o10 x11 x25 x24 a23 n23 c23 e23 a6 n6 c6 e6 x7 h:=
 Zba (kp:=kp) (cast (by kernel_rfl) ht)
theorem A4x0i (Q:QT) (x7:Bool) (a8:Pt) (n8 c8:Nat) (e8:Bool) (h:Zaa) (ht :
 bcase (!x7) (Q (.tup [.slice none 0 0 true,.bool false]) h) (Q (.tup [.slice a8 n8 c8 e8,.bool true]) h)):Ydv Q x7 a8 n8 c8 e8 h:=
 At.mk (cast (by kernel_rfl) ht)
theorem J9i (Q:QT) (R4:T4) (x25 x24:Int) (a23:Pt) (n23 c23:Nat) (e23:Bool) (a6:Pt) (n6 c6:Nat) (e6 x7:Bool) (a8:Pt) (n8 c8:Nat) (e8:Bool) (h:Zaa) (ht :
 R4 a6 n6 c6 e6 x7 a8 n8 c8 e8 a23 n23 c23 e23 x24 (IntKind.wrap .i64 (x25 + 1)) h):J9 Q R4 x25 x24 a23 n23 c23 e23 a6 n6 c6 e6 x7 a8 n8 c8 e8 h:=
 Zba (kp:=kp) (cast (by kernel_rfl) ht)
theorem call (x0x0 x0x1:List Nat) (a0x2:Pt) (n0x2 c0x2:Nat) (e0x2:Bool) (x1:List Nat) (h:Zaa) (Q:QT) (ht :
 Zck (h ++ [.cells Zac [.str x0x0,.str x0x1,.slice a0x2 n0x2 c0x2 e0x2] false]) fun A=>Zbg (Zag A (.ptr (h.length,0 + 0 + 1))) fun B=>Zah pg Zhb [.str B,.str x1] A fun A B=>
 Zny A fun A=>Zaj A fun A C=>xSl A fun A D E F=>Zaj C fun C G=>Zbx C fun C=>Zbv G (Zck (B ++ [.cells Zad [] false]) fun G=>xSl (Zag G (.ptr (h.length,0 + 2))) fun H I J K=>L4 Q A D E F C (B.length,0) 0 0 true H I J K (((I:Nat):Int)) 0 G)):Zah pg Zhv [.agg [.str x0x0,.str x0x1,.slice a0x2 n0x2 c0x2 e0x2],.str x1] h Q:=
 Zah.of_body kp (c:=cod fn) (fn:=fn) Go.Proofs.Tryz.func42 (by kernel_rfl) (by kernel_rfl) (Nat.le_of_ble_eq_true (by kernel_rfl))
  (cast (by kernel_rfl) ht)
end Zds
end Go.Sim
