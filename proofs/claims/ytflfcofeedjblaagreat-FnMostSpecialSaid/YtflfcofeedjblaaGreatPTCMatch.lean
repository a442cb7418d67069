/- A part of the proof of a statement of this seat: see the text that holds the theorem. No condition. -/
import Derived.Test.YtflfcofeedjblaaGreatNm
set_option linter.unusedVariables false
set_option linter.unusedSimpArgs false
set_option linter.all false
set_option maxRecDepth 100000
set_option maxHeartbeats 0
set_option linter.unusedVariables false
namespace Go.Sim
open Go Go.RowKit
namespace Zcm
noncomputable abbrev fn:Func:=Go.Proofs.Tryz.f118
def kp:Zcj:=[(3000004,[4,2,5]),(1000004,[2,4,5,21,22,23]),(2000008,[5,8,23,22,21,4,2]),(4000009,[5,8,23,22,21,4,2]),(4000010,[23,22,21,5,4,2]),(3000012,[5,2,3]),(1000012,[2,5,50,51,52])]
noncomputable def C (p:List Nat):Code:=(cod fn).sub p
def KR (Q:QT):KT:=Zfb pg fn.results.toList Q
abbrev T4:=Nat→Nat→Pt→Nat→Nat→Bool→Nat→Nat→Pt→Nat→Nat→Bool→Int→Int→Zaa→Prop
def E4 (R4:T4) (env:Env) (h:Zaa):Prop:=Zbw 2 env fun v env=>Zhh v fun a=>Zbm a fun i2 o2=>Zbw 4 env fun v env=>xSl v fun a4 n4 c4 e4=>Zbw 5 env fun v env=>Zhh v fun a=>Zbm a fun i5 o5=>Zbw 21 env fun v env=>xSl v fun a21 n21 c21 e21=>Zbw 22 env fun v env=>Zee .i64 v fun x22=>Zbw 23 env fun v env=>Zee .i64 v fun x23=>Zkh env (R4 i2 o2 a4 n4 c4 e4 i5 o5 a21 n21 c21 e21 x22 x23 h)
theorem Zly {R4:T4} {env:Env} {h:Zaa} (hi:E4 R4 env h):∃ i2,∃ o2,∃ a4,∃ n4,∃ c4,∃ e4,∃ i5,∃ o5,∃ a21,∃ n21,∃ c21,∃ e21,∃ x22,∃ x23,env=[(2,.ptr (i2,o2)),(4,.slice a4 n4 c4 e4),(5,.ptr (i5,o5)),(21,.slice a21 n21 c21 e21),(22,.int .i64 x22),(23,.int .i64 x23)]∧R4 i2 o2 a4 n4 c4 e4 i5 o5 a21 n21 c21 e21 x22 x23 h:=by
 unfold E4 at hi
 have hi0:=hi
 clear hi
 obtain ⟨_,_,rfl,hi1⟩:=Zak hi0
 obtain ⟨a,rfl,hi2⟩:=Zbt hi1
 obtain ⟨i2,o2,rfl,hi3⟩:=Zbn hi2
 obtain ⟨_,_,rfl,hi4⟩:=Zak hi3
 obtain ⟨a4,n4,c4,e4,rfl,hi5⟩:=Zby hi4
 obtain ⟨_,_,rfl,hi6⟩:=Zak hi5
 obtain ⟨a,rfl,hi7⟩:=Zbt hi6
 obtain ⟨i5,o5,rfl,hi8⟩:=Zbn hi7
 obtain ⟨_,_,rfl,hi9⟩:=Zak hi8
 obtain ⟨a21,n21,c21,e21,rfl,hi10⟩:=Zby hi9
 obtain ⟨_,_,rfl,hi11⟩:=Zak hi10
 obtain ⟨x22,rfl,hi12⟩:=Zax hi11
 obtain ⟨_,_,rfl,hi13⟩:=Zak hi12
 obtain ⟨x23,rfl,hi14⟩:=Zax hi13
 obtain ⟨rfl,hi15⟩:=Zbp hi14
 have hi:=hi15
 exact ⟨i2,o2,a4,n4,c4,e4,i5,o5,a21,n21,c21,e21,x22,x23,rfl,hi⟩
abbrev T12:=Nat→Nat→Nat→Nat→Pt→Nat→Nat→Bool→Int→Int→Zaa→Prop
def E12 (R12:T12) (env:Env) (h:Zaa):Prop:=Zbw 2 env fun v env=>Zhh v fun a=>Zbm a fun i2 o2=>Zbw 5 env fun v env=>Zhh v fun a=>Zbm a fun i5 o5=>Zbw 50 env fun v env=>xSl v fun a50 n50 c50 e50=>Zbw 51 env fun v env=>Zee .i64 v fun x51=>Zbw 52 env fun v env=>Zee .i64 v fun x52=>Zkh env (R12 i2 o2 i5 o5 a50 n50 c50 e50 x51 x52 h)
theorem Zzj {R12:T12} {env:Env} {h:Zaa} (hi:E12 R12 env h):∃ i2,∃ o2,∃ i5,∃ o5,∃ a50,∃ n50,∃ c50,∃ e50,∃ x51,∃ x52,env=[(2,.ptr (i2,o2)),(5,.ptr (i5,o5)),(50,.slice a50 n50 c50 e50),(51,.int .i64 x51),(52,.int .i64 x52)]∧R12 i2 o2 i5 o5 a50 n50 c50 e50 x51 x52 h:=by
 unfold E12 at hi
 have hi0:=hi
 clear hi
 obtain ⟨_,_,rfl,hi1⟩:=Zak hi0
 obtain ⟨a,rfl,hi2⟩:=Zbt hi1
 obtain ⟨i2,o2,rfl,hi3⟩:=Zbn hi2
 obtain ⟨_,_,rfl,hi4⟩:=Zak hi3
 obtain ⟨a,rfl,hi5⟩:=Zbt hi4
 obtain ⟨i5,o5,rfl,hi6⟩:=Zbn hi5
 obtain ⟨_,_,rfl,hi7⟩:=Zak hi6
 obtain ⟨a50,n50,c50,e50,rfl,hi8⟩:=Zby hi7
 obtain ⟨_,_,rfl,hi9⟩:=Zak hi8
 obtain ⟨x51,rfl,hi10⟩:=Zax hi9
 obtain ⟨_,_,rfl,hi11⟩:=Zak hi10
 obtain ⟨x52,rfl,hi12⟩:=Zax hi11
 obtain ⟨rfl,hi13⟩:=Zbp hi12
 have hi:=hi13
 exact ⟨i2,o2,i5,o5,a50,n50,c50,e50,x51,x52,rfl,hi⟩
def K0 (Q:QT):KT:=andThen (fun env' h'=>(match kp.find 4000011 with | some ks=>Den pg fn.ntmps (C [1,1,1,1]) (env'.keep ks) h' (KR Q) | none=>den pg fn.ntmps kp (C [1,1,1,1]) env' h' (KR Q))) (KR Q)
def K1 (Q:QT):KT:=Zcs 0 (K0 Q)
def K2 (Q:QT):KT:=left kp 4 (K1 Q)
def K3 (Q:QT) (R4:T4):KT:=rnd ((kp.find 1000004).getD []) (E4 R4) (K2 Q)
def K4 (Q:QT) (R4:T4):KT:=andThen (fun env' h'=>(match kp.find 4000010 with | some ks=>Den pg fn.ntmps (C [1,1,1,0,1,0,0,1,1,1]) (env'.keep ks) h' (K3 Q R4) | none=>den pg fn.ntmps kp (C [1,1,1,0,1,0,0,1,1,1]) env' h' (K3 Q R4))) (K3 Q R4)
def K5 (Q:QT) (R4:T4):KT:=Zcs 1 (K4 Q R4)
def K6 (Q:QT):KT:=andThen (fun env' h'=>(match kp.find 4000019 with | some ks=>Den pg fn.ntmps (C [1,1,1,1,1]) (env'.keep ks) h' (KR Q) | none=>den pg fn.ntmps kp (C [1,1,1,1,1]) env' h' (KR Q))) (KR Q)
def K7 (Q:QT):KT:=Zcs 2 (K6 Q)
def K8 (Q:QT):KT:=left kp 12 (K7 Q)
def K9 (Q:QT) (R12:T12):KT:=rnd ((kp.find 1000012).getD []) (E12 R12) (K8 Q)
def L4 (Q:QT) (i2 o2:Nat) (a4:Pt) (n4 c4:Nat) (e4:Bool) (i5 o5:Nat) (a21:Pt) (n21 c21:Nat) (e21:Bool) (x22 x23:Int) (h:Zaa):Prop:=Zet (Den pg fn.ntmps (C [1,1,1,0,1,0,0])) ((kp.find 1000004).getD []) (K2 Q) [(2,.ptr (i2,o2)),(4,.slice a4 n4 c4 e4),(5,.ptr (i5,o5)),(21,.slice a21 n21 c21 e21),(22,.int .i64 x22),(23,.int .i64 x23)] h
def J9 (Q:QT) (R4:T4) (i5 o5 i8 o8:Nat) (x23 x22:Int) (a21:Pt) (n21 c21:Nat) (e21:Bool) (a4:Pt) (n4 c4:Nat) (e4:Bool) (i2 o2:Nat) (h:Zaa):Prop:=Den pg fn.ntmps (C [1,1,1,0,1,0,0,1,1,0,0,1,1,1]) [(5,.ptr (i5,o5)),(8,.ptr (i8,o8)),(23,.int .i64 x23),(22,.int .i64 x22),(21,.slice a21 n21 c21 e21),(4,.slice a4 n4 c4 e4),(2,.ptr (i2,o2))] h (K5 Q R4)
def Ydv (Q:QT) (a4:Pt) (n4 c4:Nat) (e4:Bool) (i2 o2 i5 o5:Nat) (h:Zaa):Prop:=At (K1 Q) (.exit 0) [(4,.slice a4 n4 c4 e4),(2,.ptr (i2,o2)),(5,.ptr (i5,o5))] h
def J10 (Q:QT) (R4:T4) (x23 x22:Int) (a21:Pt) (n21 c21:Nat) (e21:Bool) (i5 o5:Nat) (a4:Pt) (n4 c4:Nat) (e4:Bool) (i2 o2:Nat) (h:Zaa):Prop:=Den pg fn.ntmps (C [1,1,1,0,1,0,0,1,1,1]) [(23,.int .i64 x23),(22,.int .i64 x22),(21,.slice a21 n21 c21 e21),(5,.ptr (i5,o5)),(4,.slice a4 n4 c4 e4),(2,.ptr (i2,o2))] h (K3 Q R4)
def L12 (Q:QT) (i2 o2 i5 o5:Nat) (a50:Pt) (n50 c50:Nat) (e50:Bool) (x51 x52:Int) (h:Zaa):Prop:=Zet (Den pg fn.ntmps (C [1,1,1,1,0,1,0,0])) ((kp.find 1000012).getD []) (K8 Q) [(2,.ptr (i2,o2)),(5,.ptr (i5,o5)),(50,.slice a50 n50 c50 e50),(51,.int .i64 x51),(52,.int .i64 x52)] h
def Yte (Q:QT) (i5 o5 i2 o2:Nat) (h:Zaa):Prop:=At (K7 Q) (.exit 2) [(5,.ptr (i5,o5)),(2,.ptr (i2,o2)),(3,.undef)] h
def L4t (Q:QT) (R4:T4) (i2 o2:Nat) (a4:Pt) (n4 c4:Nat) (e4:Bool) (i5 o5:Nat) (a21:Pt) (n21 c21:Nat) (e21:Bool) (x22 x23:Int) (h:Zaa):Prop:=
 bcase (decide ((x23:Int) < x22)) ((0≤(x23:Int)∧(x23:Int) < (n21:Nat))∧(Zbm a21 fun A B=>Zbg (Zag h (.ptr (A,B + (Int.toNat x23) * 1))) fun A=>Zck (h ++ [.cells Zbf [.str [],.str []] false]) fun B=>Zbu (Zbb B (.ptr (h.length,0)) [.str A,.str []]) fun B=>bcase (decide (((((List.length A:Nat):Int)):Int) > 2)) (Zir A 1 fun C=>bcase ((((C:Nat):Int):Int) == 60) ((0≤(0:Int)∧(0:Int)≤1∧(1:Int)≤(List.length A:Nat))∧((0≤(2:Int)∧(2:Int)≤(List.length A:Int)∧((List.length A:Int):Int)≤(List.length A:Nat))∧(Zbu (Zbb B (.ptr (h.length,0)) [.str (sub A 0 1),.str (sub A 2 ((List.length A:Int)))]) fun A=>J9 Q R4 i5 o5 h.length 0 x23 x22 a21 n21 c21 e21 a4 n4 c4 e4 i2 o2 A))) (J9 Q R4 i5 o5 h.length 0 x23 x22 a21 n21 c21 e21 a4 n4 c4 e4 i2 o2 B)) (J9 Q R4 i5 o5 h.length 0 x23 x22 a21 n21 c21 e21 a4 n4 c4 e4 i2 o2 B))) (Ydv Q a4 n4 c4 e4 i2 o2 i5 o5 h)
theorem Zys (Q:QT) (R4:T4) (i2 o2:Nat) (a4:Pt) (n4 c4:Nat) (e4:Bool) (i5 o5:Nat) (a21:Pt) (n21 c21:Nat) (e21:Bool) (x22 x23:Int) (h:Zaa) (ht:L4t Q R4 i2 o2 a4 n4 c4 e4 i5 o5 a21 n21 c21 e21 x22 x23 h):Den pg fn.ntmps (C [1,1,1,0,1,0,0]) [(2,.ptr (i2,o2)),(4,.slice a4 n4 c4 e4),(5,.ptr (i5,o5)),(21,.slice a21 n21 c21 e21),(22,.int .i64 x22),(23,.int .i64 x23)] h (K3 Q R4):=
 Zba (kp:=kp) (cast (by kernel_rfl) ht)
theorem L4ind (Q:QT) (i2 o2:Nat) (a4:Pt) (n4 c4:Nat) (e4:Bool) (i5 o5:Nat) (a21:Pt) (n21 c21:Nat) (e21:Bool) (x22:Int) {G:Type} (J:G→Int→Zaa→Prop) (m:G→Nat)
 (hr:∀ (g:G) (x23:Int) (h:Zaa),J g x23 h→∀ (R4:T4),(∀ g' (x23:Int) (h:Zaa),m g' < m g→J g' x23 h→R4 i2 o2 a4 n4 c4 e4 i5 o5 a21 n21 c21 e21 x22 x23 h)→L4t Q R4 i2 o2 a4 n4 c4 e4 i5 o5 a21 n21 c21 e21 x22 x23 h)
 (g:G) (x23:Int) (h:Zaa) (hj:J g x23 h):L4 Q i2 o2 a4 n4 c4 e4 i5 o5 a21 n21 c21 e21 x22 x23 h:=by
 let P:=fun (K:Int→Zaa→Prop) i2' o2' a4' n4' c4' e4' i5' o5' a21' n21' c21' e21' x22' x23 h=>i2=i2'∧o2=o2'∧a4=a4'∧n4=n4'∧c4=c4'∧e4=e4'∧i5=i5'∧o5=o5'∧a21=a21'∧n21=n21'∧c21=c21'∧e21=e21'∧x22=x22'∧K x23 h
 refine Zet.inv2 (fun g=>E4 (P (J g))) (fun g=>E4 (P fun x23 h=>∃ g',m g' < m g∧J g' x23 h)) m ?_ ?_ g ⟨rfl,rfl,rfl,rfl,rfl,rfl,rfl,rfl,rfl,rfl,rfl,rfl,rfl,hj⟩
 ·intro g env h hi
  obtain ⟨i2',o2',a4',n4',c4',e4',i5',o5',a21',n21',c21',e21',x22',x23,rfl,rfl,rfl,rfl,rfl,rfl,rfl,rfl,rfl,rfl,rfl,rfl,rfl,rfl,hj⟩:=Zly hi
  exact Zys Q _ i2 o2 a4 n4 c4 e4 i5 o5 a21 n21 c21 e21 x22 x23 h (hr g x23 h hj (P fun x23 h=>∃ g',m g' < m g∧J g' x23 h) fun g' x23 h hlt hj=>⟨rfl,rfl,rfl,rfl,rfl,rfl,rfl,rfl,rfl,rfl,rfl,rfl,rfl,g',hlt,hj⟩)
 ·intro g env h hi
  obtain ⟨i2',o2',a4',n4',c4',e4',i5',o5',a21',n21',c21',e21',x22',x23,rfl,rfl,rfl,rfl,rfl,rfl,rfl,rfl,rfl,rfl,rfl,rfl,rfl,rfl,g',hlt,hj⟩:=Zly hi
  exact ⟨g',hlt,rfl,rfl,rfl,rfl,rfl,rfl,rfl,rfl,rfl,rfl,rfl,rfl,rfl,hj⟩
theorem J9i (Q:QT) (R4:T4) (i5 o5 i8 o8:Nat) (x23 x22:Int) (a21:Pt) (n21 c21:Nat) (e21:Bool) (a4:Pt) (n4 c4:Nat) (e4:Bool) (i2 o2:Nat) (h:Zaa) (ht :
 xSl (Zag h (.ptr (i5,o5 + 0))) fun A B C D=>Zco (Zbj h (.ptr (i8,o8)) 2) fun E=>Zaj E fun E F=>Zbg E fun E=>Zaj F fun F G=>Zbg F fun F=>Zbv G (Zck (h ++ [.cells Zbf [.str E,.str F] false]) fun E=>Zcz pg Zjk E (.slice A B C D) (.slice (h.length,0) 1 1 true) fun A B=>xSl A fun A C D E=>Zbu (Zbb B (.ptr (i5,o5 + 0)) [.slice A C D E]) fun A=>J10 Q R4 x23 x22 a21 n21 c21 e21 i5 o5 a4 n4 c4 e4 i2 o2 A)):J9 Q R4 i5 o5 i8 o8 x23 x22 a21 n21 c21 e21 a4 n4 c4 e4 i2 o2 h:=
 Zba (kp:=kp) (cast (by kernel_rfl) ht)
theorem A4x0i (Q:QT) (a4:Pt) (n4 c4:Nat) (e4:Bool) (i2 o2 i5 o5:Nat) (h:Zaa) (ht :
 Zls a4 n4 c4 e4 1 (some (.int .i64 1)) none none fun A=>xSl A fun A B C D=>L12 Q i2 o2 i5 o5 A B C D (((B:Nat):Int)) 0 h):Ydv Q a4 n4 c4 e4 i2 o2 i5 o5 h:=
 At.mk (cast (by kernel_rfl) ht)
theorem J10i (Q:QT) (R4:T4) (x23 x22:Int) (a21:Pt) (n21 c21:Nat) (e21:Bool) (i5 o5:Nat) (a4:Pt) (n4 c4:Nat) (e4:Bool) (i2 o2:Nat) (h:Zaa) (ht :
 R4 i2 o2 a4 n4 c4 e4 i5 o5 a21 n21 c21 e21 x22 (IntKind.wrap .i64 (x23 + 1)) h):J10 Q R4 x23 x22 a21 n21 c21 e21 i5 o5 a4 n4 c4 e4 i2 o2 h:=
 Zba (kp:=kp) (cast (by kernel_rfl) ht)
def L12t (Q:QT) (R12:T12) (i2 o2 i5 o5:Nat) (a50:Pt) (n50 c50:Nat) (e50:Bool) (x51 x52:Int) (h:Zaa):Prop:=
 bcase (decide ((x52:Int) < x51)) ((0≤(x52:Int)∧(x52:Int) < (n50:Nat))∧(Zbm a50 fun A B=>Zbg (Zag h (.ptr (A,B + (Int.toNat x52) * 1))) fun A=>Zah pg Ziv [.str A] h fun A B=>
 Zny A fun A=>Zaj A fun A C=>Znt A fun A=>Zaj A fun A D=>Zbg A fun A=>Zaj D fun D E=>Zbg D fun D=>Zaj E fun E F=>xSl E fun E G H I=>Zbv F (Zaj C fun C F=>Zbx C fun C=>Zbv F (Zck (B ++ [.cells Zac [.str [],.str [],.slice none 0 0 true] false]) fun F=>Zbu (Zbb F (.ptr (B.length,0)) [.str A,.str D,.slice E G H I]) fun A=>bcase (!C) (Zbu (Zbb A (.ptr (i2,o2)) [.slice none 0 0 true,.slice none 0 0 true]) fun C=>Zco (Zbj C (.ptr (i2,o2)) 2) fun D=>Zaj D fun D E=>xSl D fun D F G H=>Zaj E fun E I=>xSl E fun E J K L=>Zbv I (Q (.tup [.agg [.slice D F G H,.slice E J K L],.bool false]) C)) (xSl (Zag A (.ptr (i5,o5 + 1))) fun C D E F=>Zco (Zbj A (.ptr (B.length,0)) 3) fun B=>Zaj B fun B G=>Zbg B fun B=>Zaj G fun G H=>Zbg G fun G=>Zaj H fun H I=>xSl H fun H J K L=>Zbv I (Zck (A ++ [.cells Zac [.str B,.str G,.slice H J K L] false]) fun B=>Zcz pg Zes B (.slice C D E F) (.slice (A.length,0) 1 1 true) fun A B=>xSl A fun A C D E=>Zbu (Zbb B (.ptr (i5,o5 + 1)) [.slice A C D E]) fun A=>R12 i2 o2 i5 o5 a50 n50 c50 e50 x51 (IntKind.wrap .i64 (x52 + 1)) A)))))) (Yte Q i5 o5 i2 o2 h)
theorem Ynu (Q:QT) (R12:T12) (i2 o2 i5 o5:Nat) (a50:Pt) (n50 c50:Nat) (e50:Bool) (x51 x52:Int) (h:Zaa) (ht:L12t Q R12 i2 o2 i5 o5 a50 n50 c50 e50 x51 x52 h):Den pg fn.ntmps (C [1,1,1,1,0,1,0,0]) [(2,.ptr (i2,o2)),(5,.ptr (i5,o5)),(50,.slice a50 n50 c50 e50),(51,.int .i64 x51),(52,.int .i64 x52)] h (K9 Q R12):=
 Zba (kp:=kp) (cast (by kernel_rfl) ht)
theorem L12ind (Q:QT) (i2 o2 i5 o5:Nat) (a50:Pt) (n50 c50:Nat) (e50:Bool) (x51:Int) {G:Type} (J:G→Int→Zaa→Prop) (m:G→Nat)
 (hr:∀ (g:G) (x52:Int) (h:Zaa),J g x52 h→∀ (R12:T12),(∀ g' (x52:Int) (h:Zaa),m g' < m g→J g' x52 h→R12 i2 o2 i5 o5 a50 n50 c50 e50 x51 x52 h)→L12t Q R12 i2 o2 i5 o5 a50 n50 c50 e50 x51 x52 h)
 (g:G) (x52:Int) (h:Zaa) (hj:J g x52 h):L12 Q i2 o2 i5 o5 a50 n50 c50 e50 x51 x52 h:=by
 let P:=fun (K:Int→Zaa→Prop) i2' o2' i5' o5' a50' n50' c50' e50' x51' x52 h=>i2=i2'∧o2=o2'∧i5=i5'∧o5=o5'∧a50=a50'∧n50=n50'∧c50=c50'∧e50=e50'∧x51=x51'∧K x52 h
 refine Zet.inv2 (fun g=>E12 (P (J g))) (fun g=>E12 (P fun x52 h=>∃ g',m g' < m g∧J g' x52 h)) m ?_ ?_ g ⟨rfl,rfl,rfl,rfl,rfl,rfl,rfl,rfl,rfl,hj⟩
 ·intro g env h hi
  obtain ⟨i2',o2',i5',o5',a50',n50',c50',e50',x51',x52,rfl,rfl,rfl,rfl,rfl,rfl,rfl,rfl,rfl,rfl,hj⟩:=Zzj hi
  exact Ynu Q _ i2 o2 i5 o5 a50 n50 c50 e50 x51 x52 h (hr g x52 h hj (P fun x52 h=>∃ g',m g' < m g∧J g' x52 h) fun g' x52 h hlt hj=>⟨rfl,rfl,rfl,rfl,rfl,rfl,rfl,rfl,rfl,g',hlt,hj⟩)
 ·intro g env h hi
  obtain ⟨i2',o2',i5',o5',a50',n50',c50',e50',x51',x52,rfl,rfl,rfl,rfl,rfl,rfl,rfl,rfl,rfl,rfl,g',hlt,hj⟩:=Zzj hi
  exact ⟨g',hlt,rfl,rfl,rfl,rfl,rfl,rfl,rfl,rfl,rfl,hj⟩
theorem A12x2i (Q:QT) (i5 o5 i2 o2:Nat) (h:Zaa) (ht :
 Zco (Zbj h (.ptr (i5,o5)) 2) fun A=>Zaj A fun A B=>xSl A fun A C D E=>Zaj B fun B F=>xSl B fun B G H I=>Zbv F (Zah pg Zfi [.agg [.slice A C D E,.slice B G H I]] h fun A B=>
 Zbx A fun A=>bcase (!A) (Zbu (Zbb B (.ptr (i2,o2)) [.slice none 0 0 true,.slice none 0 0 true]) fun A=>Zco (Zbj A (.ptr (i2,o2)) 2) fun C=>Zaj C fun C D=>xSl C fun C E F G=>Zaj D fun D H=>xSl D fun D I J K=>Zbv H (Q (.tup [.agg [.slice C E F G,.slice D I J K],.bool false]) A)) (Zco (Zbj B (.ptr (i5,o5)) 2) fun A=>Zaj A fun A C=>xSl A fun A D E F=>Zaj C fun C G=>xSl C fun C H I J=>Zbv G (Zbu (Zbb B (.ptr (i2,o2)) [.slice A D E F,.slice C H I J]) fun A=>Zco (Zbj A (.ptr (i2,o2)) 2) fun B=>Zaj B fun B C=>xSl B fun B D E F=>Zaj C fun C G=>xSl C fun C H I J=>Zbv G (Q (.tup [.agg [.slice B D E F,.slice C H I J],.bool true]) A))))):Yte Q i5 o5 i2 o2 h:=
 At.mk (cast (by kernel_rfl) ht)
theorem call (x0:List Nat) (h:Zaa) (Q:QT) (ht :
 Zck (h ++ [.cells Zab [.slice none 0 0 true,.slice none 0 0 true] false]) fun A=>Zah pg Zgx [.str x0,.int .u8 59] A fun A B=>
 xSl A fun A C D E=>Zck (B ++ [.cells Zbf [] false]) fun F=>Zck (F ++ [.cells Zac [] false]) fun G=>Zck (G ++ [.cells Zab [.slice none 0 0 true,.slice none 0 0 true] false]) fun H=>Zbu (Zbb H (.ptr (G.length,0)) [.slice (B.length,0) 0 0 true,.slice (F.length,0) 0 0 true]) fun B=>(0≤(0:Int)∧(0:Int) < (C:Nat))∧(Zbm A fun F H=>Zbg (Zag B (.ptr (F,H + (Int.toNat 0) * 1))) fun F=>Zah pg Zgx [.str F,.int .u8 32] B fun B F=>
 xSl B fun B H I J=>L4 Q h.length 0 A C D E G.length 0 B H I J (((H:Nat):Int)) 0 F)):Zah pg Zhl [.str x0] h Q:=
 Zah.of_body kp (c:=cod fn) (fn:=fn) Go.Proofs.Tryz.func118 (by kernel_rfl) (by kernel_rfl) (Nat.le_of_ble_eq_true (by kernel_rfl))
  (cast (by kernel_rfl) ht)
end Zcm
end Go.Sim

set_option maxRecDepth 100000
set_option maxHeartbeats 0
set_option linter.unusedVariables false
namespace Go.Sim
open Go Go.RowKit
namespace Zdx
noncomputable abbrev fn:Func:=Go.Proofs.Tryz.f134
def kp:Zcj:=[(4000006,[6,5,4,2]),(3000009,[5,2,3]),(1000009,[2,5,39,40,41]),(4000016,[5,2])]
noncomputable def C (p:List Nat):Code:=(cod fn).sub p
def KR (Q:QT):KT:=Zfb pg fn.results.toList Q
abbrev T9:=Nat→Nat→Nat→Nat→Pt→Nat→Nat→Bool→Int→Int→Zaa→Prop
def E9 (R9:T9) (env:Env) (h:Zaa):Prop:=Zbw 2 env fun v env=>Zhh v fun a=>Zbm a fun i2 o2=>Zbw 5 env fun v env=>Zhh v fun a=>Zbm a fun i5 o5=>Zbw 39 env fun v env=>xSl v fun a39 n39 c39 e39=>Zbw 40 env fun v env=>Zee .i64 v fun x40=>Zbw 41 env fun v env=>Zee .i64 v fun x41=>Zkh env (R9 i2 o2 i5 o5 a39 n39 c39 e39 x40 x41 h)
theorem Zwh {R9:T9} {env:Env} {h:Zaa} (hi:E9 R9 env h):∃ i2,∃ o2,∃ i5,∃ o5,∃ a39,∃ n39,∃ c39,∃ e39,∃ x40,∃ x41,env=[(2,.ptr (i2,o2)),(5,.ptr (i5,o5)),(39,.slice a39 n39 c39 e39),(40,.int .i64 x40),(41,.int .i64 x41)]∧R9 i2 o2 i5 o5 a39 n39 c39 e39 x40 x41 h:=by
 unfold E9 at hi
 have hi0:=hi
 clear hi
 obtain ⟨_,_,rfl,hi1⟩:=Zak hi0
 obtain ⟨a,rfl,hi2⟩:=Zbt hi1
 obtain ⟨i2,o2,rfl,hi3⟩:=Zbn hi2
 obtain ⟨_,_,rfl,hi4⟩:=Zak hi3
 obtain ⟨a,rfl,hi5⟩:=Zbt hi4
 obtain ⟨i5,o5,rfl,hi6⟩:=Zbn hi5
 obtain ⟨_,_,rfl,hi7⟩:=Zak hi6
 obtain ⟨a39,n39,c39,e39,rfl,hi8⟩:=Zby hi7
 obtain ⟨_,_,rfl,hi9⟩:=Zak hi8
 obtain ⟨x40,rfl,hi10⟩:=Zax hi9
 obtain ⟨_,_,rfl,hi11⟩:=Zak hi10
 obtain ⟨x41,rfl,hi12⟩:=Zax hi11
 obtain ⟨rfl,hi13⟩:=Zbp hi12
 have hi:=hi13
 exact ⟨i2,o2,i5,o5,a39,n39,c39,e39,x40,x41,rfl,hi⟩
def K0 (Q:QT):KT:=andThen (fun env' h'=>(match kp.find 4000016 with | some ks=>Den pg fn.ntmps (C [1,1,1,1,1,1,1]) (env'.keep ks) h' (KR Q) | none=>den pg fn.ntmps kp (C [1,1,1,1,1,1,1]) env' h' (KR Q))) (KR Q)
def K1 (Q:QT):KT:=Zcs 0 (K0 Q)
def K2 (Q:QT):KT:=left kp 9 (K1 Q)
def K3 (Q:QT) (R9:T9):KT:=rnd ((kp.find 1000009).getD []) (E9 R9) (K2 Q)
def J6 (Q:QT) (i6 o6 i5 o5:Nat) (a4:Pt) (n4 c4:Nat) (e4:Bool) (i2 o2:Nat) (h:Zaa):Prop:=Den pg fn.ntmps (C [1,1,1,1,1]) [(6,.ptr (i6,o6)),(5,.ptr (i5,o5)),(4,.slice a4 n4 c4 e4),(2,.ptr (i2,o2))] h (KR Q)
def L9 (Q:QT) (i2 o2 i5 o5:Nat) (a39:Pt) (n39 c39:Nat) (e39:Bool) (x40 x41:Int) (h:Zaa):Prop:=Zet (Den pg fn.ntmps (C [1,1,1,1,1,1,0,1,0,1,0,0])) ((kp.find 1000009).getD []) (K2 Q) [(2,.ptr (i2,o2)),(5,.ptr (i5,o5)),(39,.slice a39 n39 c39 e39),(40,.int .i64 x40),(41,.int .i64 x41)] h
def J16 (Q:QT) (i5 o5 i2 o2:Nat) (h:Zaa):Prop:=Den pg fn.ntmps (C [1,1,1,1,1,1,1]) [(5,.ptr (i5,o5)),(2,.ptr (i2,o2))] h (KR Q)
def Yuw (Q:QT) (i5 o5 i2 o2:Nat) (h:Zaa):Prop:=At (K1 Q) (.exit 0) [(5,.ptr (i5,o5)),(2,.ptr (i2,o2)),(3,.undef)] h
theorem J6i (Q:QT) (i6 o6 i5 o5:Nat) (a4:Pt) (n4 c4:Nat) (e4:Bool) (i2 o2:Nat) (h:Zaa) (ht :
 Zco (Zbj h (.ptr (i6,o6)) 2) fun A=>Zaj A fun A B=>Zbg A fun A=>Zaj B fun B C=>Zbg B fun B=>Zbv C (Zbu (Zbb h (.ptr (i5,o5 + 0)) [.str A,.str B]) fun A=>bcase ((((n4:Nat):Int):Int) == 2) ((0≤(1:Int)∧(1:Int) < (n4:Nat))∧(Zbm a4 fun B C=>Zbg (Zag A (.ptr (B,C + (Int.toNat 1) * 1))) fun B=>Zah pg Zgx [.str B,.int .u8 38] A fun B C=>
 xSl B fun B D E F=>L9 Q i2 o2 i5 o5 B D E F (((D:Nat):Int)) 0 C)) (J16 Q i5 o5 i2 o2 A))):J6 Q i6 o6 i5 o5 a4 n4 c4 e4 i2 o2 h:=
 Zba (kp:=kp) (cast (by kernel_rfl) ht)
def L9t (Q:QT) (R9:T9) (i2 o2 i5 o5:Nat) (a39:Pt) (n39 c39:Nat) (e39:Bool) (x40 x41:Int) (h:Zaa):Prop:=
 bcase (decide ((x41:Int) < x40)) ((0≤(x41:Int)∧(x41:Int) < (n39:Nat))∧(Zbm a39 fun A B=>Zbg (Zag h (.ptr (A,B + (Int.toNat x41) * 1))) fun A=>Zah pg Zjt [.str A] h fun A B=>
 Zny A fun A=>Zaj A fun A C=>Znt A fun A=>Zaj A fun A D=>Zbg A fun A=>Zaj D fun D E=>Zbg D fun D=>Zbv E (Zaj C fun C E=>Zbx C fun C=>Zbv E (Zck (B ++ [.cells Zad [.str [],.str []] false]) fun E=>Zbu (Zbb E (.ptr (B.length,0)) [.str A,.str D]) fun A=>bcase (!C) (Zbu (Zbb A (.ptr (i2,o2)) [.str [],.str [],.slice none 0 0 true]) fun C=>Zco (Zbj C (.ptr (i2,o2)) 3) fun D=>Zaj D fun D E=>Zbg D fun D=>Zaj E fun E F=>Zbg E fun E=>Zaj F fun F G=>xSl F fun F H I J=>Zbv G (Q (.tup [.agg [.str D,.str E,.slice F H I J],.bool false]) C)) (xSl (Zag A (.ptr (i5,o5 + 2))) fun C D E F=>Zco (Zbj A (.ptr (B.length,0)) 2) fun B=>Zaj B fun B G=>Zbg B fun B=>Zaj G fun G H=>Zbg G fun G=>Zbv H (Zck (A ++ [.cells Zad [.str B,.str G] false]) fun B=>Zcz pg Zfu B (.slice C D E F) (.slice (A.length,0) 1 1 true) fun A B=>xSl A fun A C D E=>Zbu (Zbb B (.ptr (i5,o5 + 2)) [.slice A C D E]) fun A=>R9 i2 o2 i5 o5 a39 n39 c39 e39 x40 (IntKind.wrap .i64 (x41 + 1)) A)))))) (Yuw Q i5 o5 i2 o2 h)
theorem Yme (Q:QT) (R9:T9) (i2 o2 i5 o5:Nat) (a39:Pt) (n39 c39:Nat) (e39:Bool) (x40 x41:Int) (h:Zaa) (ht:L9t Q R9 i2 o2 i5 o5 a39 n39 c39 e39 x40 x41 h):Den pg fn.ntmps (C [1,1,1,1,1,1,0,1,0,1,0,0]) [(2,.ptr (i2,o2)),(5,.ptr (i5,o5)),(39,.slice a39 n39 c39 e39),(40,.int .i64 x40),(41,.int .i64 x41)] h (K3 Q R9):=
 Zba (kp:=kp) (cast (by kernel_rfl) ht)
theorem L9ind (Q:QT) (i2 o2 i5 o5:Nat) (a39:Pt) (n39 c39:Nat) (e39:Bool) (x40:Int) {G:Type} (J:G→Int→Zaa→Prop) (m:G→Nat)
 (hr:∀ (g:G) (x41:Int) (h:Zaa),J g x41 h→∀ (R9:T9),(∀ g' (x41:Int) (h:Zaa),m g' < m g→J g' x41 h→R9 i2 o2 i5 o5 a39 n39 c39 e39 x40 x41 h)→L9t Q R9 i2 o2 i5 o5 a39 n39 c39 e39 x40 x41 h)
 (g:G) (x41:Int) (h:Zaa) (hj:J g x41 h):L9 Q i2 o2 i5 o5 a39 n39 c39 e39 x40 x41 h:=by
 let P:=fun (K:Int→Zaa→Prop) i2' o2' i5' o5' a39' n39' c39' e39' x40' x41 h=>i2=i2'∧o2=o2'∧i5=i5'∧o5=o5'∧a39=a39'∧n39=n39'∧c39=c39'∧e39=e39'∧x40=x40'∧K x41 h
 refine Zet.inv2 (fun g=>E9 (P (J g))) (fun g=>E9 (P fun x41 h=>∃ g',m g' < m g∧J g' x41 h)) m ?_ ?_ g ⟨rfl,rfl,rfl,rfl,rfl,rfl,rfl,rfl,rfl,hj⟩
 ·intro g env h hi
  obtain ⟨i2',o2',i5',o5',a39',n39',c39',e39',x40',x41,rfl,rfl,rfl,rfl,rfl,rfl,rfl,rfl,rfl,rfl,hj⟩:=Zwh hi
  exact Yme Q _ i2 o2 i5 o5 a39 n39 c39 e39 x40 x41 h (hr g x41 h hj (P fun x41 h=>∃ g',m g' < m g∧J g' x41 h) fun g' x41 h hlt hj=>⟨rfl,rfl,rfl,rfl,rfl,rfl,rfl,rfl,rfl,g',hlt,hj⟩)
 ·intro g env h hi
  obtain ⟨i2',o2',i5',o5',a39',n39',c39',e39',x40',x41,rfl,rfl,rfl,rfl,rfl,rfl,rfl,rfl,rfl,rfl,g',hlt,hj⟩:=Zwh hi
  exact ⟨g',hlt,rfl,rfl,rfl,rfl,rfl,rfl,rfl,rfl,rfl,hj⟩
theorem J16i (Q:QT) (i5 o5 i2 o2:Nat) (h:Zaa) (ht :
 Zco (Zbj h (.ptr (i5,o5)) 3) fun A=>Zaj A fun A B=>Zbg A fun A=>Zaj B fun B C=>Zbg B fun B=>Zaj C fun C D=>xSl C fun C E F G=>Zbv D (Zbu (Zbb h (.ptr (i2,o2)) [.str A,.str B,.slice C E F G]) fun A=>Zco (Zbj A (.ptr (i2,o2)) 3) fun B=>Zaj B fun B C=>Zbg B fun B=>Zaj C fun C D=>Zbg C fun C=>Zaj D fun D E=>xSl D fun D F G H=>Zbv E (Q (.tup [.agg [.str B,.str C,.slice D F G H],.bool true]) A))):J16 Q i5 o5 i2 o2 h:=
 Zba (kp:=kp) (cast (by kernel_rfl) ht)
theorem A9x0i (Q:QT) (i5 o5 i2 o2:Nat) (h:Zaa) (ht :
 J16 Q i5 o5 i2 o2 h):Yuw Q i5 o5 i2 o2 h:=
 At.mk (cast (by kernel_rfl) ht)
theorem call (x0:List Nat) (h:Zaa) (Q:QT) (ht :
 Zck (h ++ [.cells Zac [.str [],.str [],.slice none 0 0 true] false]) fun A=>Zah pg Zgx [.str x0,.int .u8 58] A fun A B=>
 xSl A fun A C D E=>Zck (B ++ [.cells Zad [] false]) fun F=>Zck (F ++ [.cells Zac [.str [],.str [],.slice none 0 0 true] false]) fun G=>Zbu (Zbb G (.ptr (F.length,0)) [.str [],.str [],.slice (B.length,0) 0 0 true]) fun B=>(0≤(0:Int)∧(0:Int) < (C:Nat))∧(Zbm A fun G H=>Zbg (Zag B (.ptr (G,H + (Int.toNat 0) * 1))) fun G=>Zah pg Zjt [.str G] B fun B G=>
 Zny B fun B=>Zaj B fun B H=>Znt B fun B=>Zaj B fun B I=>Zbg B fun B=>Zaj I fun I J=>Zbg I fun I=>Zbv J (Zaj H fun H J=>Zbx H fun H=>Zbv J (Zck (G ++ [.cells Zad [.str [],.str []] false]) fun J=>Zbu (Zbb J (.ptr (G.length,0)) [.str B,.str I]) fun B=>bcase (!H) (Zbu (Zbb B (.ptr (h.length,0)) [.str [],.str [],.slice none 0 0 true]) fun H=>Zco (Zbj H (.ptr (h.length,0)) 3) fun I=>Zaj I fun I J=>Zbg I fun I=>Zaj J fun J K=>Zbg J fun J=>Zaj K fun K L=>xSl K fun K M N O=>Zbv L (Q (.tup [.agg [.str I,.str J,.slice K M N O],.bool false]) H)) (bcase (decide (((((C:Nat):Int)):Int) > 2)) (Zbu (Zbb B (.ptr (h.length,0)) [.str [],.str [],.slice none 0 0 true]) fun H=>Zco (Zbj H (.ptr (h.length,0)) 3) fun I=>Zaj I fun I J=>Zbg I fun I=>Zaj J fun J K=>Zbg J fun J=>Zaj K fun K L=>xSl K fun K M N O=>Zbv L (Q (.tup [.agg [.str I,.str J,.slice K M N O],.bool false]) H)) (J6 Q G.length 0 F.length 0 A C D E h.length 0 B)))))):Zah pg Ziv [.str x0] h Q:=
 Zah.of_body kp (c:=cod fn) (fn:=fn) Go.Proofs.Tryz.func134 (by kernel_rfl) (by kernel_rfl) (Nat.le_of_ble_eq_true (by kernel_rfl))
  (cast (by kernel_rfl) ht)
end Zdx
end Go.Sim

set_option maxRecDepth 100000
set_option maxHeartbeats 0
set_option linter.unusedVariables false
namespace Go.Sim
open Go Go.RowKit
namespace Zne
noncomputable abbrev fn:Func:=Go.Proofs.Tryz.f74
def kp:Zcj:=[(4000005,[0,1,2])]
noncomputable def C (p:List Nat):Code:=(cod fn).sub p
def KR (Q:QT):KT:=Zfb pg fn.results.toList Q
def J5 (Q:QT) (a0:Pt) (x1:Int) (x2:Bool) (h:Zaa):Prop:=Den pg fn.ntmps (C [1,1]) [(0,.ptr a0),(1,.int .i64 x1),(2,.bool x2)] h (KR Q)
theorem J5i (Q:QT) (a0:Pt) (x1:Int) (x2:Bool) (h:Zaa) (ht :
 Zah pg Zaz [.ptr a0,.int .i64 4] h fun A B=>
 Zdo .i64 A fun A=>bcase ((A:Int) == 0) (Zah pg Zeu [.ptr a0,.int .i64 (IntKind.wrap .i64 (x1 - 1)),.bool x2] B fun C D=>
 Zbg C fun C=>List.length ([112,40]) + List.length C≤9223372036854775807∧(List.length (([112,40]) ++ C) + List.length [44]≤9223372036854775807∧(Zah pg Zeu [.ptr a0,.int .i64 (IntKind.wrap .i64 (x1 - 1)),.bool x2] D fun D E=>
 Zbg D fun D=>List.length ((([112,40]) ++ C) ++ [44]) + List.length D≤9223372036854775807∧(List.length (((([112,40]) ++ C) ++ [44]) ++ D) + List.length [41]≤9223372036854775807∧(Q (.str ((((([112,40]) ++ C) ++ [44]) ++ D) ++ [41])) E))))) (bcase ((A:Int) == 1) (Zah pg Zeu [.ptr a0,.int .i64 (IntKind.wrap .i64 (x1 - 1)),.bool x2] B fun A C=>
 Zbg A fun A=>List.length ([109,40]) + List.length A≤9223372036854775807∧(List.length (([109,40]) ++ A) + List.length [41]≤9223372036854775807∧(Q (.str ((([109,40]) ++ A) ++ [41])) C))) (Zah pg Zeu [.ptr a0,.int .i64 (IntKind.wrap .i64 (x1 - 1)),.bool x2] B fun A B=>
 Zbg A fun A=>List.length ([108,40]) + List.length A≤9223372036854775807∧(List.length (([108,40]) ++ A) + List.length [41]≤9223372036854775807∧(Q (.str ((([108,40]) ++ A) ++ [41])) B))))):J5 Q a0 x1 x2 h:=
 Zba (kp:=kp) (cast (by kernel_rfl) ht)
theorem call (a0:Pt) (x1:Int) (x2:Bool) (h:Zaa) (Q:QT) (ht :
 bcase ((x1:Int) == 0) (bcase x2 (Zck (h ++ [.cells Zbe [.str [105],.str [98],.str [105],.str [117]] false]) fun A=>Zah pg Zcf [.ptr a0,.slice (h.length,0) 4 4 true] A fun A B=>
 Zbg A fun A=>Q (.str A) B) (Zck (h ++ [.cells Zbe [.str [120],.str [105],.str [121],.str [98],.str [120],.str [122],.str [117]] false]) fun A=>Zah pg Zcf [.ptr a0,.slice (h.length,0) 7 7 true] A fun A B=>
 Zbg A fun A=>Q (.str A) B)) (Zah pg Zaz [.ptr a0,.int .i64 3] h fun A B=>
 Zdo .i64 A fun A=>bcase ((A:Int) == 0) (bcase x2 (Zck (B ++ [.cells Zbe [.str [105],.str [98],.str [105],.str [117]] false]) fun A=>Zah pg Zcf [.ptr a0,.slice (B.length,0) 4 4 true] A fun A C=>
 Zbg A fun A=>Q (.str A) C) (Zck (B ++ [.cells Zbe [.str [120],.str [105],.str [121],.str [98],.str [120],.str [122],.str [117]] false]) fun A=>Zah pg Zcf [.ptr a0,.slice (B.length,0) 7 7 true] A fun A C=>
 Zbg A fun A=>Q (.str A) C)) (J5 Q a0 x1 x2 B))):Zah pg Zeu [.ptr a0,.int .i64 x1,.bool x2] h Q:=
 Zah.of_body kp (c:=cod fn) (fn:=fn) Go.Proofs.Tryz.func74 (by kernel_rfl) (by kernel_rfl) (Nat.le_of_ble_eq_true (by kernel_rfl))
  (cast (by kernel_rfl) ht)
end Zne
namespace Zwb
noncomputable abbrev fn:Func:=Go.Proofs.Tryz.f41
def kp:Zcj:=[(2000005,[2])]
noncomputable def C (p:List Nat):Code:=(cod fn).sub p
def KR (Q:QT):KT:=Zfb pg fn.results.toList Q
theorem call (a0:Pt) (h:Zaa) (Q:QT) (ht :
 Zah pg Zaz [.ptr a0,.int .i64 4] h fun A B=>
 Zdo .i64 A fun A=>Zah pg Zaz [.ptr a0,.int .i64 2] B fun B C=>
 Zdo .i64 B fun B=>Zah pg Zeu [.ptr a0,.int .i64 A,.bool ((B:Int) == 0)] C fun A B=>
 Zbg A fun A=>Zah pg Zaz [.ptr a0,.int .i64 16] B fun B C=>
 Zdo .i64 B fun B=>bcase (decide ((B:Int) > 0)) (Q (.str A) C) (Zah pg Zaz [.ptr a0,.int .i64 (((List.length A:Nat):Int))] C fun B C=>
 Zdo .i64 B fun B=>(0≤(0:Int)∧(0:Int)≤B∧(B:Int)≤(List.length A:Nat))∧(Zck (C ++ [.cells Zbe [.str [],.str [40],.str [41],.str [44],.str [105],.str [113],.str [88]] false]) fun D=>Zah pg Zcf [.ptr a0,.slice (C.length,0) 7 7 true] D fun C D=>
 Zbg C fun C=>List.length (sub A 0 B) + List.length C≤9223372036854775807∧(Zah pg Zaz [.ptr a0,.int .i64 2] D fun D E=>
 Zdo .i64 D fun D=>(0≤(IntKind.wrap .i64 (B + D):Int)∧(IntKind.wrap .i64 (B + D):Int)≤(List.length A:Int)∧((List.length A:Int):Int)≤(List.length A:Nat))∧(List.length ((sub A 0 B) ++ C) + List.length (sub A (IntKind.wrap .i64 (B + D)) ((List.length A:Int)))≤9223372036854775807∧(Q (.str (((sub A 0 B) ++ C) ++ (sub A (IntKind.wrap .i64 (B + D)) ((List.length A:Int))))) E)))))):Zah pg Zok [.ptr a0] h Q:=
 Zah.of_body kp (c:=cod fn) (fn:=fn) Go.Proofs.Tryz.func41 (by kernel_rfl) (by kernel_rfl) (Nat.le_of_ble_eq_true (by kernel_rfl))
  (cast (by kernel_rfl) ht)
end Zwb
namespace Zkv
noncomputable abbrev fn:Func:=Go.Proofs.Tryz.f40
def kp:Zcj:=[(3000006,[7,5]),(1000006,[0,5,7,19]),(2000008,[19,7,0,5])]
noncomputable def C (p:List Nat):Code:=(cod fn).sub p
def KR (Q:QT):KT:=Zfb pg fn.results.toList Q
abbrev T6:=Pt→Nat→Nat→Nat→Nat→Int→Zaa→Prop
def E6 (R6:T6) (env:Env) (h:Zaa):Prop:=Zbw 0 env fun v env=>Zhh v fun a0=>Zbw 5 env fun v env=>Zhh v fun a=>Zbm a fun i5 o5=>Zbw 7 env fun v env=>Zhh v fun a=>Zbm a fun i7 o7=>Zbw 19 env fun v env=>Zee .i64 v fun x19=>Zkh env (R6 a0 i5 o5 i7 o7 x19 h)
theorem Zme {R6:T6} {env:Env} {h:Zaa} (hi:E6 R6 env h):∃ a0,∃ i5,∃ o5,∃ i7,∃ o7,∃ x19,env=[(0,.ptr a0),(5,.ptr (i5,o5)),(7,.ptr (i7,o7)),(19,.int .i64 x19)]∧R6 a0 i5 o5 i7 o7 x19 h:=by
 unfold E6 at hi
 have hi0:=hi
 clear hi
 obtain ⟨_,_,rfl,hi1⟩:=Zak hi0
 obtain ⟨a0,rfl,hi2⟩:=Zbt hi1
 obtain ⟨_,_,rfl,hi3⟩:=Zak hi2
 obtain ⟨a,rfl,hi4⟩:=Zbt hi3
 obtain ⟨i5,o5,rfl,hi5⟩:=Zbn hi4
 obtain ⟨_,_,rfl,hi6⟩:=Zak hi5
 obtain ⟨a,rfl,hi7⟩:=Zbt hi6
 obtain ⟨i7,o7,rfl,hi8⟩:=Zbn hi7
 obtain ⟨_,_,rfl,hi9⟩:=Zak hi8
 obtain ⟨x19,rfl,hi10⟩:=Zax hi9
 obtain ⟨rfl,hi11⟩:=Zbp hi10
 have hi:=hi11
 exact ⟨a0,i5,o5,i7,o7,x19,rfl,hi⟩
def K0 (Q:QT):KT:=andThen (fun env' h'=>(match kp.find 4000010 with | some ks=>Den pg fn.ntmps (C [1,1,1,1,1]) (env'.keep ks) h' (KR Q) | none=>den pg fn.ntmps kp (C [1,1,1,1,1]) env' h' (KR Q))) (KR Q)
def K1 (Q:QT):KT:=Zcs 0 (K0 Q)
def K2 (Q:QT):KT:=left kp 6 (K1 Q)
def K3 (Q:QT) (R6:T6):KT:=rnd ((kp.find 1000006).getD []) (E6 R6) (K2 Q)
def L6 (Q:QT) (a0:Pt) (i5 o5 i7 o7:Nat) (x19:Int) (h:Zaa):Prop:=Zet (Den pg fn.ntmps (C [1,1,1,1,0,1,0,0])) ((kp.find 1000006).getD []) (K2 Q) [(0,.ptr a0),(5,.ptr (i5,o5)),(7,.ptr (i7,o7)),(19,.int .i64 x19)] h
def Yii (Q:QT) (i7 o7 i5 o5:Nat) (h:Zaa):Prop:=At (K1 Q) (.exit 0) [(7,.ptr (i7,o7)),(5,.ptr (i5,o5))] h
def L6t (Q:QT) (R6:T6) (a0:Pt) (i5 o5 i7 o7:Nat) (x19:Int) (h:Zaa):Prop:=
 bcase (decide ((x19:Int) < 12)) (Zah pg Zaz [.ptr a0,.int .i64 2] h fun A B=>
 Zdo .i64 A fun A=>Zah pg Zaz [.ptr a0,.int .i64 2] B fun B C=>
 Zdo .i64 B fun B=>Zah pg Zeu [.ptr a0,.int .i64 A,.bool ((B:Int) == 0)] C fun A B=>
 Zbg A fun A=>Zah pg Zfs [.str A] B fun A B=>
 Zny A fun A=>Zaj A fun A C=>Znt A fun A=>Zaj A fun A D=>Zdo .u8 A fun A=>Zaj D fun D E=>xSl D fun D F G H=>Zbv E (Zaj C fun C E=>Zbx C fun C=>Zbv E ((0≤(x19:Int)∧(x19:Int) < (12:Nat))∧(Zbu (Zbb B (.ptr (i7,o7 + (Int.toNat x19) * 2)) [.int .u8 A,.slice D F G H]) fun A=>R6 a0 i5 o5 i7 o7 (IntKind.wrap .i64 (x19 + 1)) A)))) (Yii Q i7 o7 i5 o5 h)
theorem Zzm (Q:QT) (R6:T6) (a0:Pt) (i5 o5 i7 o7:Nat) (x19:Int) (h:Zaa) (ht:L6t Q R6 a0 i5 o5 i7 o7 x19 h):Den pg fn.ntmps (C [1,1,1,1,0,1,0,0]) [(0,.ptr a0),(5,.ptr (i5,o5)),(7,.ptr (i7,o7)),(19,.int .i64 x19)] h (K3 Q R6):=
 Zba (kp:=kp) (cast (by kernel_rfl) ht)
theorem L6ind (Q:QT) (a0:Pt) (i5 o5 i7 o7:Nat) {G:Type} (J:G→Int→Zaa→Prop) (m:G→Nat)
 (hr:∀ (g:G) (x19:Int) (h:Zaa),J g x19 h→∀ (R6:T6),(∀ g' (x19:Int) (h:Zaa),m g' < m g→J g' x19 h→R6 a0 i5 o5 i7 o7 x19 h)→L6t Q R6 a0 i5 o5 i7 o7 x19 h)
 (g:G) (x19:Int) (h:Zaa) (hj:J g x19 h):L6 Q a0 i5 o5 i7 o7 x19 h:=by
 let P:=fun (K:Int→Zaa→Prop) a0' i5' o5' i7' o7' x19 h=>a0=a0'∧i5=i5'∧o5=o5'∧i7=i7'∧o7=o7'∧K x19 h
 refine Zet.inv2 (fun g=>E6 (P (J g))) (fun g=>E6 (P fun x19 h=>∃ g',m g' < m g∧J g' x19 h)) m ?_ ?_ g ⟨rfl,rfl,rfl,rfl,rfl,hj⟩
 ·intro g env h hi
  obtain ⟨a0',i5',o5',i7',o7',x19,rfl,rfl,rfl,rfl,rfl,rfl,hj⟩:=Zme hi
  exact Zzm Q _ a0 i5 o5 i7 o7 x19 h (hr g x19 h hj (P fun x19 h=>∃ g',m g' < m g∧J g' x19 h) fun g' x19 h hlt hj=>⟨rfl,rfl,rfl,rfl,rfl,g',hlt,hj⟩)
 ·intro g env h hi
  obtain ⟨a0',i5',o5',i7',o7',x19,rfl,rfl,rfl,rfl,rfl,rfl,g',hlt,hj⟩:=Zme hi
  exact ⟨g',hlt,rfl,rfl,rfl,rfl,rfl,hj⟩
theorem A6x0i (Q:QT) (i7 o7 i5 o5:Nat) (h:Zaa) (ht :
 Zco (Zbj h (.ptr (i5,o5)) 2) fun A=>Zaj A fun A B=>Zdo .u8 A fun A=>Zaj B fun B C=>xSl B fun B D E F=>Zbv C (Zah pg Zmi [.ptr (i7,o7),.agg [.int .u8 A,.slice B D E F]] h fun A B=>
 Znt A fun A=>Zaj A fun A C=>Zdo .u8 A fun A=>Zaj C fun C D=>xSl C fun C E F G=>Zbv D (Zck (B ++ [.cells Zai [.int .u8 0,.slice none 0 0 true] false]) fun D=>Zbu (Zbb D (.ptr (B.length,0)) [.int .u8 A,.slice C E F G]) fun A=>Zco (Zbj A (.ptr (B.length,0)) 2) fun C=>Zaj C fun C D=>Zdo .u8 C fun C=>Zaj D fun D E=>xSl D fun D F G H=>Zbv E (Zah pg Zgq [.agg [.int .u8 C,.slice D F G H]] A fun A C=>
 Zdo .i64 A fun A=>bcase (decide ((A:Int) > 60)) (Q (.str [105]) C) (Zco (Zbj C (.ptr (B.length,0)) 2) fun A=>Zaj A fun A B=>Zdo .u8 A fun A=>Zaj B fun B D=>xSl B fun B E F G=>Zbv D (Zah pg Zge [.agg [.int .u8 A,.slice B E F G]] C fun A B=>
 Zbg A fun A=>Q (.str A) B)))))):Yii Q i7 o7 i5 o5 h:=
 At.mk (cast (by kernel_rfl) ht)
theorem call (a0:Pt) (x1:List Nat) (h:Zaa) (Q:QT) (ht :
 Zah pg Zfs [.str x1] h fun A B=>
 Zny A fun A=>Zaj A fun A C=>Znt A fun A=>Zaj A fun A D=>Zdo .u8 A fun A=>Zaj D fun D E=>xSl D fun D F G H=>Zbv E (Zaj C fun C E=>Zbx C fun C=>Zbv E (Zck (B ++ [.cells Zai [.int .u8 0,.slice none 0 0 true] false]) fun E=>Zbu (Zbb E (.ptr (B.length,0)) [.int .u8 A,.slice D F G H]) fun A=>bcase (!C) (Q (.str [105]) A) (Zck (A ++ [.cells Zdf [.int .u8 0,.slice none 0 0 true,.int .u8 0,.slice none 0 0 true,.int .u8 0,.slice none 0 0 true,.int .u8 0,.slice none 0 0 true,.int .u8 0,.slice none 0 0 true,.int .u8 0,.slice none 0 0 true,.int .u8 0,.slice none 0 0 true,.int .u8 0,.slice none 0 0 true,.int .u8 0,.slice none 0 0 true,.int .u8 0,.slice none 0 0 true,.int .u8 0,.slice none 0 0 true,.int .u8 0,.slice none 0 0 true] false]) fun C=>L6 Q a0 B.length 0 A.length 0 0 C)))):Zah pg Zip [.ptr a0,.str x1] h Q:=
 Zah.of_body kp (c:=cod fn) (fn:=fn) Go.Proofs.Tryz.func40 (by kernel_rfl) (by kernel_rfl) (Nat.le_of_ble_eq_true (by kernel_rfl))
  (cast (by kernel_rfl) ht)
end Zkv
end Go.Sim

set_option maxRecDepth 100000
set_option maxHeartbeats 0
set_option linter.unusedVariables false
namespace Go.Sim
open Go Go.RowKit
namespace Zlv
noncomputable abbrev fn:Func:=Go.Proofs.Tryz.f26
def kp:Zcj:=[(4000003,[0])]
noncomputable def C (p:List Nat):Code:=(cod fn).sub p
def KR (Q:QT):KT:=Zfb pg fn.results.toList Q
def J3 (Q:QT) (a0:Pt) (n0 c0:Nat) (e0:Bool) (h:Zaa):Prop:=Den pg fn.ntmps (C [1,1]) [(0,.slice a0 n0 c0 e0)] h (KR Q)
theorem J3i (Q:QT) (a0:Pt) (n0 c0:Nat) (e0:Bool) (h:Zaa) (ht :
 Zck (h ++ [.cells Zon [.slice a0 n0 c0 e0,.int .i64 0] false]) fun A=>Q (.ptr (h.length,0)) A):J3 Q a0 n0 c0 e0 h:=
 Zba (kp:=kp) (cast (by kernel_rfl) ht)
theorem call (a0:Pt) (n0 c0:Nat) (e0:Bool) (h:Zaa) (Q:QT) (ht :
 bcase (decide (((((n0:Nat):Int)):Int) > 2000)) (Zls a0 n0 c0 e0 1 none (some (.int .i64 2000)) none fun A=>xSl A fun A B C D=>J3 Q A B C D h) (J3 Q a0 n0 c0 e0 h)):Zah pg Zgi [.slice a0 n0 c0 e0] h Q:=
 Zah.of_body kp (c:=cod fn) (fn:=fn) Go.Proofs.Tryz.func26 (by kernel_rfl) (by kernel_rfl) (Nat.le_of_ble_eq_true (by kernel_rfl))
  (cast (by kernel_rfl) ht)
end Zlv
namespace Zlr
noncomputable abbrev fn:Func:=Go.Proofs.Tryz.f39
def kp:Zcj:=[(4000004,[0,1]),(2000007,[6,1])]
noncomputable def C (p:List Nat):Code:=(cod fn).sub p
def KR (Q:QT):KT:=Zfb pg fn.results.toList Q
def J4 (Q:QT) (a0:Pt) (x1:Int) (h:Zaa):Prop:=Den pg fn.ntmps (C [1,1,1]) [(0,.ptr a0),(1,.int .i64 x1)] h (KR Q)
theorem J4i (Q:QT) (a0:Pt) (x1:Int) (h:Zaa) (ht :
 Zbm a0 fun A B=>Zdo .i64 (Zag h (.ptr (A,B + 1))) fun A=>Zbm a0 fun B C=>xSl (Zag h (.ptr (B,C + 0))) fun B B C C=>bcase (decide (((IntKind.wrap .i64 (A - 1)):Int) < (((B:Nat):Int)))) (Zbm a0 fun B C=>xSl (Zag h (.ptr (B,C + 0))) fun B C D D=>(0≤(IntKind.wrap .i64 (A - 1):Int)∧(IntKind.wrap .i64 (A - 1):Int) < (C:Nat))∧(Zbm B fun B C=>Zdo .u8 (Zag h (.ptr (B,C + (Int.toNat (IntKind.wrap .i64 (A - 1))) * 1))) fun B=>(x1:Int)≠0∧(Q (.int .i64 (Int.tmod (IntKind.wrap .i64 (B)) x1)) h))) (Zbm a0 fun B C=>Zbm a0 fun D E=>Zbm a0 fun F G=>Zbm a0 fun H I=>Zbm a0 fun J K=>xSl (Zag h (.ptr (B,C + 0))) fun L M N N=>xSl (Zag h (.ptr (D,E + 0))) fun N N O O=>((((N:Nat):Int)):Int)≠0∧((0≤(Int.tmod (IntKind.wrap .i64 (A - 1)) (((N:Nat):Int)):Int)∧(Int.tmod (IntKind.wrap .i64 (A - 1)) (((N:Nat):Int)):Int) < (M:Nat))∧(Zbm L fun L M=>Zdo .u8 (Zag h (.ptr (L,M + (Int.toNat (Int.tmod (IntKind.wrap .i64 (A - 1)) (((N:Nat):Int)))) * 1))) fun O=>xSl (Zag h (.ptr (F,G + 0))) fun P R S S=>xSl (Zag h (.ptr (H,I + 0))) fun S S T T=>((((S:Nat):Int)):Int)≠0∧((0≤(Int.tmod (IntKind.wrap .i64 ((IntKind.wrap .i64 ((IntKind.wrap .i64 (A - 1)) * 7)) + 3)) (((S:Nat):Int)):Int)∧(Int.tmod (IntKind.wrap .i64 ((IntKind.wrap .i64 ((IntKind.wrap .i64 (A - 1)) * 7)) + 3)) (((S:Nat):Int)):Int) < (R:Nat))∧(Zbm P fun P R=>Zdo .u8 (Zag h (.ptr (P,R + (Int.toNat (Int.tmod (IntKind.wrap .i64 ((IntKind.wrap .i64 ((IntKind.wrap .i64 (A - 1)) * 7)) + 3)) (((S:Nat):Int)))) * 1))) fun T=>xSl (Zag h (.ptr (J,K + 0))) fun J J K K=>(Zag h (.ptr (P,R + (Int.toNat (Int.tmod (IntKind.wrap .i64 ((IntKind.wrap .i64 ((IntKind.wrap .i64 (A - 1)) * 7)) + 3)) (((S:Nat):Int)))) * 1))=Zag h (.ptr (P,R + (Int.toNat (Int.tmod (IntKind.wrap .i64 ((IntKind.wrap .i64 ((IntKind.wrap .i64 (A - 1)) * 7)) + 3)) (((S:Nat):Int)))) * 1)))∧(Zag h (.ptr (H,I + 0))=Zag h (.ptr (H,I + 0)))∧(Zag h (.ptr (F,G + 0))=Zag h (.ptr (F,G + 0)))∧(Zag h (.ptr (L,M + (Int.toNat (Int.tmod (IntKind.wrap .i64 (A - 1)) (((N:Nat):Int)))) * 1))=Zag h (.ptr (L,M + (Int.toNat (Int.tmod (IntKind.wrap .i64 (A - 1)) (((N:Nat):Int)))) * 1)))∧(Zag h (.ptr (D,E + 0))=Zag h (.ptr (D,E + 0)))∧(Zag h (.ptr (B,C + 0))=Zag h (.ptr (B,C + 0)))∧((((J:Nat):Int)):Int)≠0∧((64:Int)≠0∧((x1:Int)≠0∧(Q (.int .i64 (Int.tmod (IntKind.wrap .i64 (BitVec.ofInt (IntKind.bits .i64) (IntKind.wrap .i64 ((IntKind.wrap .i64 ((IntKind.wrap .i64 ((IntKind.wrap .i64 ((IntKind.wrap .i64 (O)) * 131)) + (IntKind.wrap .i64 ((IntKind.wrap .i64 (T)) * 1117)))) + (IntKind.wrap .i64 ((IntKind.wrap .i64 (A - 1)) * 29)))) + (IntKind.wrap .i64 ((IntKind.wrap .i64 (Int.tdiv (IntKind.wrap .i64 (A - 1)) (((J:Nat):Int)))) * 53)))) ^^^ BitVec.ofInt (IntKind.bits .i64) (IntKind.wrap .i64 (Int.tdiv (IntKind.wrap .i64 ((IntKind.wrap .i64 ((IntKind.wrap .i64 ((IntKind.wrap .i64 ((IntKind.wrap .i64 (O)) * 131)) + (IntKind.wrap .i64 ((IntKind.wrap .i64 (T)) * 1117)))) + (IntKind.wrap .i64 ((IntKind.wrap .i64 (A - 1)) * 29)))) + (IntKind.wrap .i64 ((IntKind.wrap .i64 (Int.tdiv (IntKind.wrap .i64 (A - 1)) (((J:Nat):Int)))) * 53)))) 64))).toNat) x1)) h))))))))):J4 Q a0 x1 h:=
 Zba (kp:=kp) (cast (by kernel_rfl) ht)
theorem call (a0:Pt) (x1:Int) (h:Zaa) (Q:QT) (ht :
 Zbm a0 fun A B=>Zdo .i64 (Zag h (.ptr (A,B + 1))) fun A=>Zbm a0 fun B C=>Zbu (Zbb h (.ptr (B,C + 1)) [.int .i64 (IntKind.wrap .i64 (A + 1))]) fun A=>bcase (decide ((x1:Int) < 1)) (Q (.int .i64 0) A) (Zbm a0 fun B C=>xSl (Zag A (.ptr (B,C + 0))) fun B B C C=>bcase ((((B:Nat):Int):Int) == 0) (Q (.int .i64 0) A) (J4 Q a0 x1 A))):Zah pg Zaz [.ptr a0,.int .i64 x1] h Q:=
 Zah.of_body kp (c:=cod fn) (fn:=fn) Go.Proofs.Tryz.func39 (by kernel_rfl) (by kernel_rfl) (Nat.le_of_ble_eq_true (by kernel_rfl))
  (cast (by kernel_rfl) ht)
end Zlr
namespace Zrk
noncomputable abbrev fn:Func:=Go.Proofs.Tryz.f61
def kp:Zcj:=[]
noncomputable def C (p:List Nat):Code:=(cod fn).sub p
def KR (Q:QT):KT:=Zfb pg fn.results.toList Q
theorem call (a0 a1:Pt) (n1 c1:Nat) (e1:Bool) (h:Zaa) (Q:QT) (ht :
 Zah pg Zaz [.ptr a0,.int .i64 (((n1:Nat):Int))] h fun A B=>
 Zdo .i64 A fun A=>(0≤(A:Int)∧(A:Int) < (n1:Nat))∧(Zbm a1 fun C D=>Zdo .i64 (Zag B (.ptr (C,D + (Int.toNat A) * 1))) fun A=>Q (.int .i64 A) B)):Zah pg Zdq [.ptr a0,.slice a1 n1 c1 e1] h Q:=
 Zah.of_body kp (c:=cod fn) (fn:=fn) Go.Proofs.Tryz.func61 (by kernel_rfl) (by kernel_rfl) (Nat.le_of_ble_eq_true (by kernel_rfl))
  (cast (by kernel_rfl) ht)
end Zrk
namespace Zsc
noncomputable abbrev fn:Func:=Go.Proofs.Tryz.f78
def kp:Zcj:=[]
noncomputable def C (p:List Nat):Code:=(cod fn).sub p
def KR (Q:QT):KT:=Zfb pg fn.results.toList Q
theorem call (a0 a1:Pt) (n1 c1:Nat) (e1:Bool) (h:Zaa) (Q:QT) (ht :
 Zah pg Zaz [.ptr a0,.int .i64 (((n1:Nat):Int))] h fun A B=>
 Zdo .i64 A fun A=>(0≤(A:Int)∧(A:Int) < (n1:Nat))∧(Zbm a1 fun C D=>Zbg (Zag B (.ptr (C,D + (Int.toNat A) * 1))) fun A=>Q (.str A) B)):Zah pg Zcf [.ptr a0,.slice a1 n1 c1 e1] h Q:=
 Zah.of_body kp (c:=cod fn) (fn:=fn) Go.Proofs.Tryz.func78 (by kernel_rfl) (by kernel_rfl) (Nat.le_of_ble_eq_true (by kernel_rfl))
  (cast (by kernel_rfl) ht)
end Zsc
end Go.Sim

set_option maxRecDepth 100000
set_option maxHeartbeats 0
set_option linter.unusedVariables false
namespace Go.Sim
open Go Go.RowKit
namespace Zga
noncomputable abbrev fn:Func:=Go.Proofs.Tryz.f76
def kp:Zcj:=[(3000003,[1,3]),(1000003,[1,3,7,8,9]),(4000009,[3])]
noncomputable def C (p:List Nat):Code:=(cod fn).sub p
def KR (Q:QT):KT:=Zfb pg fn.results.toList Q
abbrev T3:=Nat→Nat→Int→Pt→Nat→Nat→Bool→Int→Int→Zaa→Prop
def E3 (R3:T3) (env:Env) (h:Zaa):Prop:=Zbw 1 env fun v env=>Zhh v fun a=>Zbm a fun i1 o1=>Zbw 3 env fun v env=>Zee .i64 v fun x3=>Zbw 7 env fun v env=>xSl v fun a7 n7 c7 e7=>Zbw 8 env fun v env=>Zee .i64 v fun x8=>Zbw 9 env fun v env=>Zee .i64 v fun x9=>Zkh env (R3 i1 o1 x3 a7 n7 c7 e7 x8 x9 h)
theorem Zfy {R3:T3} {env:Env} {h:Zaa} (hi:E3 R3 env h):∃ i1,∃ o1,∃ x3,∃ a7,∃ n7,∃ c7,∃ e7,∃ x8,∃ x9,env=[(1,.ptr (i1,o1)),(3,.int .i64 x3),(7,.slice a7 n7 c7 e7),(8,.int .i64 x8),(9,.int .i64 x9)]∧R3 i1 o1 x3 a7 n7 c7 e7 x8 x9 h:=by
 unfold E3 at hi
 have hi0:=hi
 clear hi
 obtain ⟨_,_,rfl,hi1⟩:=Zak hi0
 obtain ⟨a,rfl,hi2⟩:=Zbt hi1
 obtain ⟨i1,o1,rfl,hi3⟩:=Zbn hi2
 obtain ⟨_,_,rfl,hi4⟩:=Zak hi3
 obtain ⟨x3,rfl,hi5⟩:=Zax hi4
 obtain ⟨_,_,rfl,hi6⟩:=Zak hi5
 obtain ⟨a7,n7,c7,e7,rfl,hi7⟩:=Zby hi6
 obtain ⟨_,_,rfl,hi8⟩:=Zak hi7
 obtain ⟨x8,rfl,hi9⟩:=Zax hi8
 obtain ⟨_,_,rfl,hi10⟩:=Zak hi9
 obtain ⟨x9,rfl,hi11⟩:=Zax hi10
 obtain ⟨rfl,hi12⟩:=Zbp hi11
 have hi:=hi12
 exact ⟨i1,o1,x3,a7,n7,c7,e7,x8,x9,rfl,hi⟩
def K0 (Q:QT):KT:=andThen (fun env' h'=>(match kp.find 4000007 with | some ks=>Den pg fn.ntmps (C [1,1,1]) (env'.keep ks) h' (KR Q) | none=>den pg fn.ntmps kp (C [1,1,1]) env' h' (KR Q))) (KR Q)
def K1 (Q:QT):KT:=Zcs 0 (K0 Q)
def K2 (Q:QT):KT:=left kp 3 (K1 Q)
def K3 (Q:QT) (R3:T3):KT:=rnd ((kp.find 1000003).getD []) (E3 R3) (K2 Q)
def L3 (Q:QT) (i1 o1:Nat) (x3:Int) (a7:Pt) (n7 c7:Nat) (e7:Bool) (x8 x9:Int) (h:Zaa):Prop:=Zet (Den pg fn.ntmps (C [1,1,0,1,0,0])) ((kp.find 1000003).getD []) (K2 Q) [(1,.ptr (i1,o1)),(3,.int .i64 x3),(7,.slice a7 n7 c7 e7),(8,.int .i64 x8),(9,.int .i64 x9)] h
def Ztb (Q:QT) (i1 o1:Nat) (x3:Int) (h:Zaa):Prop:=At (K1 Q) (.exit 0) [(1,.ptr (i1,o1)),(3,.int .i64 x3)] h
def J9 (Q:QT) (x3:Int) (h:Zaa):Prop:=Den pg fn.ntmps (C [1,1,1,1]) [(3,.int .i64 x3)] h (KR Q)
def L3t (Q:QT) (R3:T3) (i1 o1:Nat) (x3:Int) (a7:Pt) (n7 c7:Nat) (e7:Bool) (x8 x9:Int) (h:Zaa):Prop:=
 bcase (decide ((x9:Int) < x8)) ((0≤(x9:Int)∧(x9:Int) < (n7:Nat))∧(Zbm a7 fun A B=>Zco (Zbj h (.ptr (A,B + (Int.toNat x9) * 2)) 2) fun A=>Zaj A fun A B=>Zdo .u8 A fun A=>Zaj B fun B C=>xSl B fun B D E F=>Zbv C (Zck (h ++ [.cells Zai [.int .u8 0,.slice none 0 0 true] false]) fun C=>Zbu (Zbb C (.ptr (h.length,0)) [.int .u8 A,.slice B D E F]) fun A=>Zco (Zbj A (.ptr (h.length,0)) 2) fun B=>Zaj B fun B C=>Zdo .u8 B fun B=>Zaj C fun C D=>xSl C fun C E F G=>Zbv D (Zah pg Zgq [.agg [.int .u8 B,.slice C E F G]] A fun A B=>
 Zdo .i64 A fun A=>R3 i1 o1 (IntKind.wrap .i64 ((IntKind.wrap .i64 (x3 + 1)) + A)) a7 n7 c7 e7 x8 (IntKind.wrap .i64 (x9 + 1)) B)))) (Ztb Q i1 o1 x3 h)
theorem Zpe (Q:QT) (R3:T3) (i1 o1:Nat) (x3:Int) (a7:Pt) (n7 c7:Nat) (e7:Bool) (x8 x9:Int) (h:Zaa) (ht:L3t Q R3 i1 o1 x3 a7 n7 c7 e7 x8 x9 h):Den pg fn.ntmps (C [1,1,0,1,0,0]) [(1,.ptr (i1,o1)),(3,.int .i64 x3),(7,.slice a7 n7 c7 e7),(8,.int .i64 x8),(9,.int .i64 x9)] h (K3 Q R3):=
 Zba (kp:=kp) (cast (by kernel_rfl) ht)
theorem L3ind (Q:QT) (i1 o1:Nat) (a7:Pt) (n7 c7:Nat) (e7:Bool) (x8:Int) {G:Type} (J:G→Int→Int→Zaa→Prop) (m:G→Nat)
 (hr:∀ (g:G) (x3 x9:Int) (h:Zaa),J g x3 x9 h→∀ (R3:T3),(∀ g' (x3 x9:Int) (h:Zaa),m g' < m g→J g' x3 x9 h→R3 i1 o1 x3 a7 n7 c7 e7 x8 x9 h)→L3t Q R3 i1 o1 x3 a7 n7 c7 e7 x8 x9 h)
 (g:G) (x3 x9:Int) (h:Zaa) (hj:J g x3 x9 h):L3 Q i1 o1 x3 a7 n7 c7 e7 x8 x9 h:=by
 let P:=fun (K:Int→Int→Zaa→Prop) i1' o1' x3 a7' n7' c7' e7' x8' x9 h=>i1=i1'∧o1=o1'∧a7=a7'∧n7=n7'∧c7=c7'∧e7=e7'∧x8=x8'∧K x3 x9 h
 refine Zet.inv2 (fun g=>E3 (P (J g))) (fun g=>E3 (P fun x3 x9 h=>∃ g',m g' < m g∧J g' x3 x9 h)) m ?_ ?_ g ⟨rfl,rfl,rfl,rfl,rfl,rfl,rfl,hj⟩
 ·intro g env h hi
  obtain ⟨i1',o1',x3,a7',n7',c7',e7',x8',x9,rfl,rfl,rfl,rfl,rfl,rfl,rfl,rfl,hj⟩:=Zfy hi
  exact Zpe Q _ i1 o1 x3 a7 n7 c7 e7 x8 x9 h (hr g x3 x9 h hj (P fun x3 x9 h=>∃ g',m g' < m g∧J g' x3 x9 h) fun g' x3 x9 h hlt hj=>⟨rfl,rfl,rfl,rfl,rfl,rfl,rfl,g',hlt,hj⟩)
 ·intro g env h hi
  obtain ⟨i1',o1',x3,a7',n7',c7',e7',x8',x9,rfl,rfl,rfl,rfl,rfl,rfl,rfl,rfl,g',hlt,hj⟩:=Zfy hi
  exact ⟨g',hlt,rfl,rfl,rfl,rfl,rfl,rfl,rfl,hj⟩
theorem A3x0i (Q:QT) (i1 o1:Nat) (x3:Int) (h:Zaa) (ht :
 xSl (Zag h (.ptr (i1,o1 + 1))) fun A A B B=>bcase (decide (((((A:Nat):Int)):Int) > 0)) (J9 Q (IntKind.wrap .i64 (x3 + 1)) h) (J9 Q x3 h)):Ztb Q i1 o1 x3 h:=
 At.mk (cast (by kernel_rfl) ht)
theorem J9i (Q:QT) (x3:Int) (h:Zaa) (ht :
 Q (.int .i64 x3) h):J9 Q x3 h:=
 Zba (kp:=kp) (cast (by kernel_rfl) ht)
theorem call (x0x0:Int) (a0x1:Pt) (n0x1 c0x1:Nat) (e0x1:Bool) (h:Zaa) (Q:QT) (ht :
 Zck (h ++ [.cells Zai [.int .u8 x0x0,.slice a0x1 n0x1 c0x1 e0x1] false]) fun A=>xSl (Zag A (.ptr (h.length,0 + 1))) fun B C D E=>L3 Q h.length 0 1 B C D E (((C:Nat):Int)) 0 A):Zah pg Zgq [.agg [.int .u8 x0x0,.slice a0x1 n0x1 c0x1 e0x1]] h Q:=
 Zah.of_body kp (c:=cod fn) (fn:=fn) Go.Proofs.Tryz.func76 (by kernel_rfl) (by kernel_rfl) (Nat.le_of_ble_eq_true (by kernel_rfl))
  (cast (by kernel_rfl) ht)
end Zga
namespace Zft
noncomputable abbrev fn:Func:=Go.Proofs.Tryz.f102
def kp:Zcj:=[(3000003,[4,2,3]),(1000003,[4,8,10]),(2000004,[6,5,10,8,4]),(4000006,[6,4,5,10,8]),(2000008,[10,8,4]),(4000009,[10,8,4])]
noncomputable def C (p:List Nat):Code:=(cod fn).sub p
def KR (Q:QT):KT:=Zfb pg fn.results.toList Q
abbrev T3:=Pt→Nat→Nat→Bool→Pt→Int→Zaa→Prop
def E3 (R3:T3) (env:Env) (h:Zaa):Prop:=Zbw 4 env fun v env=>xSl v fun a4 n4 c4 e4=>Zbw 8 env fun v env=>Zhh v fun a8=>Zbw 10 env fun v env=>Zee .i64 v fun x10=>Zkh env (R3 a4 n4 c4 e4 a8 x10 h)
theorem Zfy {R3:T3} {env:Env} {h:Zaa} (hi:E3 R3 env h):∃ a4,∃ n4,∃ c4,∃ e4,∃ a8,∃ x10,env=[(4,.slice a4 n4 c4 e4),(8,.ptr a8),(10,.int .i64 x10)]∧R3 a4 n4 c4 e4 a8 x10 h:=by
 unfold E3 at hi
 repeat ((first | (have k:=Zak hi; clear hi; obtain ⟨_,_,e,hi⟩:=k) | (have k:=Zax hi; clear hi; obtain ⟨_,e,hi⟩:=k) | (have k:=Zby hi; clear hi; obtain ⟨_,_,_,_,e,hi⟩:=k) | (have k:=Zbt hi; clear hi; obtain ⟨_,e,hi⟩:=k)); subst e)
 obtain ⟨rfl,hi⟩:=Zbp hi
 exact ⟨_,_,_,_,_,_,rfl,hi⟩
def K0 (Q:QT):KT:=andThen (fun env' h'=>(match kp.find 4000010 with | some ks=>Den pg fn.ntmps (C [1,1,1]) (env'.keep ks) h' (KR Q) | none=>den pg fn.ntmps kp (C [1,1,1]) env' h' (KR Q))) (KR Q)
def K1 (Q:QT):KT:=Zcs 0 (K0 Q)
def K2 (Q:QT):KT:=left kp 3 (K1 Q)
def K3 (Q:QT) (R3:T3):KT:=rnd ((kp.find 1000003).getD []) (E3 R3) (K2 Q)
def K4 (Q:QT) (R3:T3):KT:=andThen (fun env' h'=>(match kp.find 4000009 with | some ks=>Den pg fn.ntmps (C [1,1,0,1,0,0,1,1,1]) (env'.keep ks) h' (K3 Q R3) | none=>den pg fn.ntmps kp (C [1,1,0,1,0,0,1,1,1]) env' h' (K3 Q R3))) (K3 Q R3)
def K5 (Q:QT) (R3:T3):KT:=Zcs 1 (K4 Q R3)
def L3 (Q:QT) (a4:Pt) (n4 c4:Nat) (e4:Bool) (a8:Pt) (x10:Int) (h:Zaa):Prop:=Zet (Den pg fn.ntmps (C [1,1,0,1,0,0])) ((kp.find 1000003).getD []) (K2 Q) [(4,.slice a4 n4 c4 e4),(8,.ptr a8),(10,.int .i64 x10)] h
def J9 (Q:QT) (R3:T3) (x10:Int) (a8 a4:Pt) (n4 c4:Nat) (e4:Bool) (h:Zaa):Prop:=Den pg fn.ntmps (C [1,1,0,1,0,0,1,1,1]) [(10,.int .i64 x10),(8,.ptr a8),(4,.slice a4 n4 c4 e4)] h (K3 Q R3)
def J6 (Q:QT) (R3:T3) (i6 o6:Nat) (a4:Pt) (n4 c4:Nat) (e4:Bool) (x5 x10:Int) (a8:Pt) (h:Zaa):Prop:=Den pg fn.ntmps (C [1,1,0,1,0,0,1,1,0,0,1,1]) [(6,.ptr (i6,o6)),(4,.slice a4 n4 c4 e4),(5,.int .i64 x5),(10,.int .i64 x10),(8,.ptr a8)] h (K5 Q R3)
def Ztb (Q:QT) (a4:Pt) (n4 c4:Nat) (e4:Bool) (h:Zaa):Prop:=At (K1 Q) (.exit 0) [(4,.slice a4 n4 c4 e4),(2,.undef),(3,.undef)] h
def L3t (Q:QT) (R3:T3) (a4:Pt) (n4 c4:Nat) (e4:Bool) (a8:Pt) (x10:Int) (h:Zaa):Prop:=
 bcase (decide ((x10:Int) < 12)) (Zbm a8 fun A B=>(0≤(x10:Int)∧(x10:Int) < (12:Nat))∧(Zco (Zbj h (.ptr (A,B + (Int.toNat x10) * 2)) 2) fun C=>Zaj C fun C D=>Zdo .u8 C fun C=>Zaj D fun D E=>xSl D fun D F G H=>Zbv E (Zck (h ++ [.cells Zai [.int .u8 0,.slice none 0 0 true] false]) fun E=>(Zbj E (.ptr (A,B + (Int.toNat x10) * 2)) 2=Zbj h (.ptr (A,B + (Int.toNat x10) * 2)) 2)∧Zbu (Zbb E (.ptr (h.length,0)) [.int .u8 C,.slice D F G H]) fun A=>Zdo .u8 (Zag A (.ptr (h.length,0 + 0))) fun B=>bcase ((B:Int) == 0) (J9 Q R3 x10 a8 a4 n4 c4 e4 A) (bcase (decide ((x10:Int) ≥ 6)) (J9 Q R3 x10 a8 a4 n4 c4 e4 A) (J6 Q R3 h.length 0 a4 n4 c4 e4 x10 x10 a8 A))))) (Ztb Q a4 n4 c4 e4 h)
theorem Zpe (Q:QT) (R3:T3) (a4:Pt) (n4 c4:Nat) (e4:Bool) (a8:Pt) (x10:Int) (h:Zaa) (ht:L3t Q R3 a4 n4 c4 e4 a8 x10 h):Den pg fn.ntmps (C [1,1,0,1,0,0]) [(4,.slice a4 n4 c4 e4),(8,.ptr a8),(10,.int .i64 x10)] h (K3 Q R3):=
 Zba (kp:=kp) (cast (by kernel_rfl) ht)
theorem L3ind (Q:QT) (a8:Pt) {G:Type} (J:G→Pt→Nat→Nat→Bool→Int→Zaa→Prop) (m:G→Nat)
 (hr:∀ (g:G) (a4:Pt) (n4 c4:Nat) (e4:Bool) (x10:Int) (h:Zaa),J g a4 n4 c4 e4 x10 h→∀ (R3:T3),(∀ g' (a4:Pt) (n4 c4:Nat) (e4:Bool) (x10:Int) (h:Zaa),m g' < m g→J g' a4 n4 c4 e4 x10 h→R3 a4 n4 c4 e4 a8 x10 h)→L3t Q R3 a4 n4 c4 e4 a8 x10 h)
 (g:G) (a4:Pt) (n4 c4:Nat) (e4:Bool) (x10:Int) (h:Zaa) (hj:J g a4 n4 c4 e4 x10 h):L3 Q a4 n4 c4 e4 a8 x10 h:=by
 let P:=fun (K:Pt→Nat→Nat→Bool→Int→Zaa→Prop) a4 n4 c4 e4 a8' x10 h=>a8=a8'∧K a4 n4 c4 e4 x10 h
 refine Zet.inv2 (fun g=>E3 (P (J g))) (fun g=>E3 (P fun a4 n4 c4 e4 x10 h=>∃ g',m g' < m g∧J g' a4 n4 c4 e4 x10 h)) m ?_ ?_ g ⟨rfl,hj⟩
 ·intro g env h hi
  obtain ⟨a4,n4,c4,e4,a8',x10,rfl,rfl,hj⟩:=Zfy hi
  exact Zpe Q _ a4 n4 c4 e4 a8 x10 h (hr g a4 n4 c4 e4 x10 h hj (P fun a4 n4 c4 e4 x10 h=>∃ g',m g' < m g∧J g' a4 n4 c4 e4 x10 h) fun g' a4 n4 c4 e4 x10 h hlt hj=>⟨rfl,g',hlt,hj⟩)
 ·intro g env h hi
  obtain ⟨a4,n4,c4,e4,a8',x10,rfl,rfl,g',hlt,hj⟩:=Zfy hi
  exact ⟨g',hlt,rfl,hj⟩
theorem J9i (Q:QT) (R3:T3) (x10:Int) (a8 a4:Pt) (n4 c4:Nat) (e4:Bool) (h:Zaa) (ht :
 R3 a4 n4 c4 e4 a8 (IntKind.wrap .i64 (x10 + 1)) h):J9 Q R3 x10 a8 a4 n4 c4 e4 h:=
 Zba (kp:=kp) (cast (by kernel_rfl) ht)
theorem J6i (Q:QT) (R3:T3) (i6 o6:Nat) (a4:Pt) (n4 c4:Nat) (e4:Bool) (x5 x10:Int) (a8:Pt) (h:Zaa) (ht :
 Zco (Zbj h (.ptr (i6,o6)) 2) fun A=>Zaj A fun A B=>Zdo .u8 A fun A=>Zaj B fun B C=>xSl B fun B D E F=>Zbv C (Zah pg Zgq [.agg [.int .u8 A,.slice B D E F]] h fun A B=>
 Zdo .i64 A fun A=>bcase (decide ((A:Int) > 60)) (Zck (B ++ [.cells Zbi [] false]) fun A=>Q (.tup [.slice (B.length,0) 0 0 true,.bool false]) A) ((0≤(x5:Int)∧(x5:Int)≤IntKind.wrap .i64 (x5 + 1)∧(IntKind.wrap .i64 (x5 + 1):Int)≤(List.length ([88,89,90,120,121,122,49,50,51,52,53,54]):Nat))∧(Zco (Zbj B (.ptr (i6,o6)) 2) fun A=>Zaj A fun A C=>Zdo .u8 A fun A=>Zaj C fun C D=>xSl C fun C E F G=>Zbv D (Zah pg Zge [.agg [.int .u8 A,.slice C E F G]] B fun A B=>
 Zbg A fun A=>Zck (B ++ [.cells Zbi [.str (sub ([88,89,90,120,121,122,49,50,51,52,53,54]) x5 (IntKind.wrap .i64 (x5 + 1))),.str A] false]) fun A=>Zcz pg Zmt A (.slice a4 n4 c4 e4) (.slice (B.length,0) 1 1 true) fun A B=>xSl A fun A C D E=>J9 Q R3 x10 a8 A C D E B))))):J6 Q R3 i6 o6 a4 n4 c4 e4 x5 x10 a8 h:=
 Zba (kp:=kp) (cast (by kernel_rfl) ht)
theorem A3x0i (Q:QT) (a4:Pt) (n4 c4:Nat) (e4:Bool) (h:Zaa) (ht :
 Q (.tup [.slice a4 n4 c4 e4,.bool true]) h):Ztb Q a4 n4 c4 e4 h:=
 At.mk (cast (by kernel_rfl) ht)
theorem call (a0:Pt) (h:Zaa) (Q:QT) (ht :
 Zck (h ++ [.cells Zbi [] false]) fun A=>Zbm a0 fun B B=>L3 Q (h.length,0) 0 0 true a0 0 A):Zah pg Zqq [.ptr a0] h Q:=
 Zah.of_body kp (c:=cod fn) (fn:=fn) Go.Proofs.Tryz.func102 (by kernel_rfl) (by kernel_rfl) (Nat.le_of_ble_eq_true (by kernel_rfl))
  (cast (by kernel_rfl) ht)
end Zft
namespace Zmo
noncomputable abbrev fn:Func:=Go.Proofs.Tryz.f65
def kp:Zcj:=[(4000006,[10])]
noncomputable def C (p:List Nat):Code:=(cod fn).sub p
def KR (Q:QT):KT:=Zfb pg fn.results.toList Q
def J6 (Q:QT) (i10 o10:Nat) (h:Zaa):Prop:=Den pg fn.ntmps (C [1,1,1,1,1]) [(10,.ptr (i10,o10))] h (KR Q)
theorem J6i (Q:QT) (i10 o10:Nat) (h:Zaa) (ht :
 Zah pg Zqq [.ptr (i10,o10)] h fun A B=>
 Zny A fun A=>Zaj A fun A C=>xSl A fun A D E F=>Zaj C fun C G=>Zbx C fun C=>Zbv G (Q (.tup [.slice A D E F,.bool C]) B)):J6 Q i10 o10 h:=
 Zba (kp:=kp) (cast (by kernel_rfl) ht)
theorem call (x0 x1:List Nat) (h:Zaa) (Q:QT) (ht :
 Zah pg Zfs [.str x0] h fun A B=>
 Zny A fun A=>Zaj A fun A C=>Znt A fun A=>Zaj A fun A D=>Zdo .u8 A fun A=>Zaj D fun D E=>xSl D fun D F G H=>Zbv E (Zaj C fun C E=>Zbx C fun C=>Zbv E (Zck (B ++ [.cells Zai [.int .u8 0,.slice none 0 0 true] false]) fun E=>Zbu (Zbb E (.ptr (B.length,0)) [.int .u8 A,.slice D F G H]) fun A=>Zah pg Zfs [.str x1] A fun A D=>
 Zny A fun A=>Zaj A fun A E=>Znt A fun A=>Zaj A fun A F=>Zdo .u8 A fun A=>Zaj F fun F G=>xSl F fun F H I J=>Zbv G (Zaj E fun E G=>Zbx E fun E=>Zbv G (Zck (D ++ [.cells Zai [.int .u8 0,.slice none 0 0 true] false]) fun G=>Zbu (Zbb G (.ptr (D.length,0)) [.int .u8 A,.slice F H I J]) fun A=>Zck (A ++ [.cells Zdf [.int .u8 0,.slice none 0 0 true,.int .u8 0,.slice none 0 0 true,.int .u8 0,.slice none 0 0 true,.int .u8 0,.slice none 0 0 true,.int .u8 0,.slice none 0 0 true,.int .u8 0,.slice none 0 0 true,.int .u8 0,.slice none 0 0 true,.int .u8 0,.slice none 0 0 true,.int .u8 0,.slice none 0 0 true,.int .u8 0,.slice none 0 0 true,.int .u8 0,.slice none 0 0 true,.int .u8 0,.slice none 0 0 true] false]) fun F=>bcase (!C) (Zck (F ++ [.cells Zbi [] false]) fun C=>Q (.tup [.slice (F.length,0) 0 0 true,.bool false]) C) (bcase (!E) (Zck (F ++ [.cells Zbi [] false]) fun C=>Q (.tup [.slice (F.length,0) 0 0 true,.bool false]) C) (Zco (Zbj F (.ptr (B.length,0)) 2) fun B=>Zaj B fun B C=>Zdo .u8 B fun B=>Zaj C fun C E=>xSl C fun C G H I=>Zbv E (Zco (Zbj F (.ptr (D.length,0)) 2) fun D=>Zaj D fun D E=>Zdo .u8 D fun D=>Zaj E fun E J=>xSl E fun E K L M=>Zbv J (Zah pg Zlw [.ptr (A.length,0),.agg [.int .u8 B,.slice C G H I],.agg [.int .u8 D,.slice E K L M]] F fun B C=>
 Zbx B fun B=>bcase (!B) (Zck (C ++ [.cells Zbi [] false]) fun B=>Q (.tup [.slice (C.length,0) 0 0 true,.bool false]) B) (J6 Q A.length 0 C)))))))))):Zah pg Zjp [.str x0,.str x1] h Q:=
 Zah.of_body kp (c:=cod fn) (fn:=fn) Go.Proofs.Tryz.func65 (by kernel_rfl) (by kernel_rfl) (Nat.le_of_ble_eq_true (by kernel_rfl))
  (cast (by kernel_rfl) ht)
end Zmo
namespace Zpn
noncomputable abbrev fn:Func:=Go.Proofs.Tryz.f32
def kp:Zcj:=[]
noncomputable def C (p:List Nat):Code:=(cod fn).sub p
def KR (Q:QT):KT:=Zfb pg fn.results.toList Q
theorem call (x0 x1:List Nat) (h:Zaa) (Q:QT) (ht :
 Zah pg Zjp [.str x0,.str x1] h fun A B=>
 Zny A fun A=>Zaj A fun A C=>xSl A fun A A A A=>Zaj C fun A C=>Zbx A fun A=>Zbv C (Q (.bool A) B)):Zah pg Ziq [.str x0,.str x1] h Q:=
 Zah.of_body kp (c:=cod fn) (fn:=fn) Go.Proofs.Tryz.func32 (by kernel_rfl) (by kernel_rfl) (Nat.le_of_ble_eq_true (by kernel_rfl))
  (cast (by kernel_rfl) ht)
end Zpn
end Go.Sim

set_option maxRecDepth 100000
set_option maxHeartbeats 0
set_option linter.unusedVariables false
namespace Go.Sim
open Go Go.RowKit
namespace Zte
noncomputable abbrev fn:Func:=Go.Proofs.Tryz.f107
def kp:Zcj:=[]
noncomputable def C (p:List Nat):Code:=(cod fn).sub p
def KR (Q:QT):KT:=Zfb pg fn.results.toList Q
theorem call (x0:Int) (h:Zaa) (Q:QT) (ht :
 Zah pg Zhi [.str ([88,89,90,120,121,122,49,50,51,52,53,54]),.int .u8 x0] h fun A B=>
 Zdo .i64 A fun A=>Q (.int .i64 A) B):Zah pg Zji [.int .u8 x0] h Q:=
 Zah.of_body kp (c:=cod fn) (fn:=fn) Go.Proofs.Tryz.func107 (by kernel_rfl) (by kernel_rfl) (Nat.le_of_ble_eq_true (by kernel_rfl))
  (cast (by kernel_rfl) ht)
end Zte
namespace Zjf
noncomputable abbrev fn:Func:=Go.Proofs.Tryz.f101
def kp:Zcj:=[(2000004,[]),(2000006,[6]),(3000010,[6]),(1000010,[0,4,5,42,43]),(2000012,[58,43,42,0,4,5])]
noncomputable def C (p:List Nat):Code:=(cod fn).sub p
def KR (Q:QT):KT:=Zfb pg fn.results.toList Q
abbrev T10:=Pt→Nat→Nat→Nat→Nat→Int→Int→Zaa→Prop
def E10 (R10:T10) (env:Env) (h:Zaa):Prop:=Zbw 0 env fun v env=>Zhh v fun a0=>Zbw 4 env fun v env=>Zhh v fun a=>Zbm a fun i4 o4=>Zbw 5 env fun v env=>Zhh v fun a=>Zbm a fun i5 o5=>Zbw 42 env fun v env=>Zee .i64 v fun x42=>Zbw 43 env fun v env=>Zee .i64 v fun x43=>Zkh env (R10 a0 i4 o4 i5 o5 x42 x43 h)
theorem Zxp {R10:T10} {env:Env} {h:Zaa} (hi:E10 R10 env h):∃ a0,∃ i4,∃ o4,∃ i5,∃ o5,∃ x42,∃ x43,env=[(0,.ptr a0),(4,.ptr (i4,o4)),(5,.ptr (i5,o5)),(42,.int .i64 x42),(43,.int .i64 x43)]∧R10 a0 i4 o4 i5 o5 x42 x43 h:=by
 unfold E10 at hi
 have hi0:=hi
 clear hi
 obtain ⟨_,_,rfl,hi1⟩:=Zak hi0
 obtain ⟨a0,rfl,hi2⟩:=Zbt hi1
 obtain ⟨_,_,rfl,hi3⟩:=Zak hi2
 obtain ⟨a,rfl,hi4⟩:=Zbt hi3
 obtain ⟨i4,o4,rfl,hi5⟩:=Zbn hi4
 obtain ⟨_,_,rfl,hi6⟩:=Zak hi5
 obtain ⟨a,rfl,hi7⟩:=Zbt hi6
 obtain ⟨i5,o5,rfl,hi8⟩:=Zbn hi7
 obtain ⟨_,_,rfl,hi9⟩:=Zak hi8
 obtain ⟨x42,rfl,hi10⟩:=Zax hi9
 obtain ⟨_,_,rfl,hi11⟩:=Zak hi10
 obtain ⟨x43,rfl,hi12⟩:=Zax hi11
 obtain ⟨rfl,hi13⟩:=Zbp hi12
 have hi:=hi13
 exact ⟨a0,i4,o4,i5,o5,x42,x43,rfl,hi⟩
def K0 (Q:QT):KT:=andThen (fun env' h'=>(match kp.find 4000015 with | some ks=>Den pg fn.ntmps (C [1,1,1,1]) (env'.keep ks) h' (KR Q) | none=>den pg fn.ntmps kp (C [1,1,1,1]) env' h' (KR Q))) (KR Q)
def K1 (Q:QT):KT:=Zcs 0 (K0 Q)
def K2 (Q:QT):KT:=left kp 10 (K1 Q)
def K3 (Q:QT) (R10:T10):KT:=rnd ((kp.find 1000010).getD []) (E10 R10) (K2 Q)
def L10 (Q:QT) (a0:Pt) (i4 o4 i5 o5:Nat) (x42 x43:Int) (h:Zaa):Prop:=Zet (Den pg fn.ntmps (C [1,1,1,0,1,0,0])) ((kp.find 1000010).getD []) (K2 Q) [(0,.ptr a0),(4,.ptr (i4,o4)),(5,.ptr (i5,o5)),(42,.int .i64 x42),(43,.int .i64 x43)] h
def Ynl (Q:QT) (h:Zaa):Prop:=At (K1 Q) (.exit 0) [(6,.undef)] h
def L10t (Q:QT) (R10:T10) (a0:Pt) (i4 o4 i5 o5:Nat) (x42 x43:Int) (h:Zaa):Prop:=
 bcase (decide ((x43:Int) < x42)) (xSl (Zag h (.ptr (i4,o4 + 1))) fun A B C C=>(0≤(x43:Int)∧(x43:Int) < (B:Nat))∧(Zbm A fun A B=>Zco (Zbj h (.ptr (A,B + (Int.toNat x43) * 2)) 2) fun C=>Zaj C fun C D=>Zdo .u8 C fun C=>Zaj D fun D E=>xSl D fun D F G H=>Zbv E (xSl (Zag h (.ptr (i5,o5 + 1))) fun E I J J=>(Zbj h (.ptr (A,B + (Int.toNat x43) * 2)) 2=Zbj h (.ptr (A,B + (Int.toNat x43) * 2)) 2)∧(Zag h (.ptr (i4,o4 + 1))=Zag h (.ptr (i4,o4 + 1)))∧(0≤(x43:Int)∧(x43:Int) < (I:Nat))∧(Zbm E fun E I=>Zco (Zbj h (.ptr (E,I + (Int.toNat x43) * 2)) 2) fun E=>Zaj E fun E I=>Zdo .u8 E fun E=>Zaj I fun I J=>xSl I fun I K L M=>Zbv J ((Zbj h (.ptr (A,B + (Int.toNat x43) * 2)) 2=Zbj h (.ptr (A,B + (Int.toNat x43) * 2)) 2)∧(Zag h (.ptr (i4,o4 + 1))=Zag h (.ptr (i4,o4 + 1)))∧Zah pg Zlw [.ptr a0,.agg [.int .u8 C,.slice D F G H],.agg [.int .u8 E,.slice I K L M]] h fun A B=>
 Zbx A fun A=>(Zag B (.ptr (i4,o4 + 1))=Zag h (.ptr (i4,o4 + 1)))∧bcase (!A) (Q (.bool false) B) (R10 a0 i4 o4 i5 o5 x42 (IntKind.wrap .i64 (x43 + 1)) B)))))) (Ynl Q h)
theorem Yne (Q:QT) (R10:T10) (a0:Pt) (i4 o4 i5 o5:Nat) (x42 x43:Int) (h:Zaa) (ht:L10t Q R10 a0 i4 o4 i5 o5 x42 x43 h):Den pg fn.ntmps (C [1,1,1,0,1,0,0]) [(0,.ptr a0),(4,.ptr (i4,o4)),(5,.ptr (i5,o5)),(42,.int .i64 x42),(43,.int .i64 x43)] h (K3 Q R10):=
 Zba (kp:=kp) (cast (by kernel_rfl) ht)
theorem L10ind (Q:QT) (a0:Pt) (i4 o4 i5 o5:Nat) (x42:Int) {G:Type} (J:G→Int→Zaa→Prop) (m:G→Nat)
 (hr:∀ (g:G) (x43:Int) (h:Zaa),J g x43 h→∀ (R10:T10),(∀ g' (x43:Int) (h:Zaa),m g' < m g→J g' x43 h→R10 a0 i4 o4 i5 o5 x42 x43 h)→L10t Q R10 a0 i4 o4 i5 o5 x42 x43 h)
 (g:G) (x43:Int) (h:Zaa) (hj:J g x43 h):L10 Q a0 i4 o4 i5 o5 x42 x43 h:=by
 let P:=fun (K:Int→Zaa→Prop) a0' i4' o4' i5' o5' x42' x43 h=>a0=a0'∧i4=i4'∧o4=o4'∧i5=i5'∧o5=o5'∧x42=x42'∧K x43 h
 refine Zet.inv2 (fun g=>E10 (P (J g))) (fun g=>E10 (P fun x43 h=>∃ g',m g' < m g∧J g' x43 h)) m ?_ ?_ g ⟨rfl,rfl,rfl,rfl,rfl,rfl,hj⟩
 ·intro g env h hi
  obtain ⟨a0',i4',o4',i5',o5',x42',x43,rfl,rfl,rfl,rfl,rfl,rfl,rfl,hj⟩:=Zxp hi
  exact Yne Q _ a0 i4 o4 i5 o5 x42 x43 h (hr g x43 h hj (P fun x43 h=>∃ g',m g' < m g∧J g' x43 h) fun g' x43 h hlt hj=>⟨rfl,rfl,rfl,rfl,rfl,rfl,g',hlt,hj⟩)
 ·intro g env h hi
  obtain ⟨a0',i4',o4',i5',o5',x42',x43,rfl,rfl,rfl,rfl,rfl,rfl,rfl,g',hlt,hj⟩:=Zxp hi
  exact ⟨g',hlt,rfl,rfl,rfl,rfl,rfl,rfl,hj⟩
theorem A10x0i (Q:QT) (h:Zaa) (ht :
 Q (.bool true) h):Ynl Q h:=
 At.mk (cast (by kernel_rfl) ht)
theorem call (a0:Pt) (x1x0:Int) (a1x1:Pt) (n1x1 c1x1:Nat) (e1x1:Bool) (x2x0:Int) (a2x1:Pt) (n2x1 c2x1:Nat) (e2x1:Bool) (h:Zaa) (Q:QT) (ht :
 Zck (h ++ [.cells Zai [.int .u8 x1x0,.slice a1x1 n1x1 c1x1 e1x1] false]) fun A=>Zck (A ++ [.cells Zai [.int .u8 x2x0,.slice a2x1 n2x1 c2x1 e2x1] false]) fun B=>Zdo .u8 (Zag B (.ptr (h.length,0 + 0))) fun C=>Zah pg Zji [.int .u8 C] B fun B C=>
 Zdo .i64 B fun B=>bcase (decide ((B:Int) ≥ 0)) (Zbm a0 fun D E=>(0≤(B:Int)∧(B:Int) < (12:Nat))∧(Zdo .u8 (Zag C (.ptr (D,E + (Int.toNat B) * 2 + 0))) fun D=>bcase ((D:Int) == 0) (Zbm a0 fun D E=>Zco (Zbj C (.ptr (A.length,0)) 2) fun F=>Zaj F fun F G=>Zdo .u8 F fun F=>Zaj G fun G H=>xSl G fun G I J K=>Zbv H ((0≤(B:Int)∧(B:Int) < (12:Nat))∧(Zbu (Zbb C (.ptr (D,E + (Int.toNat B) * 2)) [.int .u8 F,.slice G I J K]) fun D=>Q (.bool true) D))) (Zbm a0 fun D E=>(0≤(B:Int)∧(B:Int) < (12:Nat))∧(Zco (Zbj C (.ptr (D,E + (Int.toNat B) * 2)) 2) fun F=>Zaj F fun F G=>Zdo .u8 F fun F=>Zaj G fun G H=>xSl G fun G I J K=>Zbv H (Zco (Zbj C (.ptr (A.length,0)) 2) fun H=>Zaj H fun H L=>Zdo .u8 H fun H=>Zaj L fun L M=>xSl L fun L N O P=>Zbv M (Zah pg Zge [.agg [.int .u8 F,.slice G I J K]] C fun F G=>
 Zbg F fun F=>(Zbj G (.ptr (A.length,0)) 2=Zbj C (.ptr (A.length,0)) 2)∧Zah pg Zge [.agg [.int .u8 H,.slice L N O P]] G fun H I=>
 Zbg H fun H=>(Zbj I (.ptr (D,E + (Int.toNat B) * 2)) 2=Zbj G (.ptr (D,E + (Int.toNat B) * 2)) 2)∧Q (.bool (decide (F=H))) I)))))) (Zdo .u8 (Zag C (.ptr (h.length,0 + 0))) fun B=>Zdo .u8 (Zag C (.ptr (A.length,0 + 0))) fun D=>bcase (!((B:Int) == D)) (Q (.bool false) C) (xSl (Zag C (.ptr (h.length,0 + 1))) fun B B D D=>L10 Q a0 h.length 0 A.length 0 (((B:Nat):Int)) 0 C))):Zah pg Zlw [.ptr a0,.agg [.int .u8 x1x0,.slice a1x1 n1x1 c1x1 e1x1],.agg [.int .u8 x2x0,.slice a2x1 n2x1 c2x1 e2x1]] h Q:=
 Zah.of_body kp (c:=cod fn) (fn:=fn) Go.Proofs.Tryz.func101 (by kernel_rfl) (by kernel_rfl) (Nat.le_of_ble_eq_true (by kernel_rfl))
  (cast (by kernel_rfl) ht)
end Zjf
end Go.Sim

set_option maxRecDepth 100000
set_option maxHeartbeats 0
set_option linter.unusedVariables false
namespace Go.Sim
open Go Go.RowKit
namespace Zht
noncomputable abbrev fn:Func:=Go.Proofs.Tryz.f46
def kp:Zcj:=[(3000003,[3]),(1000003,[0,3,9,10,11])]
noncomputable def C (p:List Nat):Code:=(cod fn).sub p
def KR (Q:QT):KT:=Zfb pg fn.results.toList Q
abbrev T3:=Option Nat→Pt→Nat→Nat→Bool→Pt→Nat→Nat→Bool→Int→Int→Zaa→Prop
def E3 (R3:T3) (env:Env) (h:Zaa):Prop:=Zbw 0 env fun v env=>Ymx v fun m0=>Zbw 3 env fun v env=>xSl v fun a3 n3 c3 e3=>Zbw 9 env fun v env=>xSl v fun a9 n9 c9 e9=>Zbw 10 env fun v env=>Zee .i64 v fun x10=>Zbw 11 env fun v env=>Zee .i64 v fun x11=>Zkh env (R3 m0 a3 n3 c3 e3 a9 n9 c9 e9 x10 x11 h)
theorem Zfy {R3:T3} {env:Env} {h:Zaa} (hi:E3 R3 env h):∃ m0,∃ a3,∃ n3,∃ c3,∃ e3,∃ a9,∃ n9,∃ c9,∃ e9,∃ x10,∃ x11,env=[(0,.map m0),(3,.slice a3 n3 c3 e3),(9,.slice a9 n9 c9 e9),(10,.int .i64 x10),(11,.int .i64 x11)]∧R3 m0 a3 n3 c3 e3 a9 n9 c9 e9 x10 x11 h:=by
 unfold E3 at hi
 repeat ((first | (have k:=Zak hi; clear hi; obtain ⟨_,_,e,hi⟩:=k) | (have k:=Zax hi; clear hi; obtain ⟨_,e,hi⟩:=k) | (have k:=Ydh hi; clear hi; obtain ⟨_,e,hi⟩:=k) | (have k:=Zby hi; clear hi; obtain ⟨_,_,_,_,e,hi⟩:=k)); subst e)
 obtain ⟨rfl,hi⟩:=Zbp hi
 exact ⟨_,_,_,_,_,_,_,_,_,_,_,rfl,hi⟩
def K0 (Q:QT):KT:=andThen (fun env' h'=>(match kp.find 4000007 with | some ks=>Den pg fn.ntmps (C [1,1,1]) (env'.keep ks) h' (KR Q) | none=>den pg fn.ntmps kp (C [1,1,1]) env' h' (KR Q))) (KR Q)
def K1 (Q:QT):KT:=Zcs 0 (K0 Q)
def K2 (Q:QT):KT:=left kp 3 (K1 Q)
def K3 (Q:QT) (R3:T3):KT:=rnd ((kp.find 1000003).getD []) (E3 R3) (K2 Q)
def L3 (Q:QT) (m0:Option Nat) (a3:Pt) (n3 c3:Nat) (e3:Bool) (a9:Pt) (n9 c9:Nat) (e9:Bool) (x10 x11:Int) (h:Zaa):Prop:=Zet (Den pg fn.ntmps (C [1,1,0,1,0,0])) ((kp.find 1000003).getD []) (K2 Q) [(0,.map m0),(3,.slice a3 n3 c3 e3),(9,.slice a9 n9 c9 e9),(10,.int .i64 x10),(11,.int .i64 x11)] h
def Ztb (Q:QT) (a3:Pt) (n3 c3:Nat) (e3:Bool) (h:Zaa):Prop:=At (K1 Q) (.exit 0) [(3,.slice a3 n3 c3 e3)] h
def L3t (Q:QT) (R3:T3) (m0:Option Nat) (a3:Pt) (n3 c3:Nat) (e3:Bool) (a9:Pt) (n9 c9:Nat) (e9:Bool) (x10 x11:Int) (h:Zaa):Prop:=
 bcase (decide ((x11:Int) < x10)) ((0≤(x11:Int)∧(x11:Int) < (n9:Nat))∧(Zbm a9 fun A B=>Zbg (Zag h (.ptr (A,B + (Int.toNat x11) * 1))) fun A=>Zic h m0 fun es_13 k_14=>Zzp es_13 A fun B=>Zbg (some (Option.getD B (.str []))) fun B=>Zck (h ++ [.cells Zbi [.str A,.str B] false]) fun A=>Zcz pg Zmt A (.slice a3 n3 c3 e3) (.slice (h.length,0) 1 1 true) fun A B=>xSl A fun A C D E=>R3 m0 A C D E a9 n9 c9 e9 x10 (IntKind.wrap .i64 (x11 + 1)) B)) (Ztb Q a3 n3 c3 e3 h)
theorem Zpe (Q:QT) (R3:T3) (m0:Option Nat) (a3:Pt) (n3 c3:Nat) (e3:Bool) (a9:Pt) (n9 c9:Nat) (e9:Bool) (x10 x11:Int) (h:Zaa) (ht:L3t Q R3 m0 a3 n3 c3 e3 a9 n9 c9 e9 x10 x11 h):Den pg fn.ntmps (C [1,1,0,1,0,0]) [(0,.map m0),(3,.slice a3 n3 c3 e3),(9,.slice a9 n9 c9 e9),(10,.int .i64 x10),(11,.int .i64 x11)] h (K3 Q R3):=
 Zba (kp:=kp) (cast (by kernel_rfl) ht)
theorem L3ind (Q:QT) (m0:Option Nat) (a9:Pt) (n9 c9:Nat) (e9:Bool) (x10:Int) {G:Type} (J:G→Pt→Nat→Nat→Bool→Int→Zaa→Prop) (m:G→Nat)
 (hr:∀ (g:G) (a3:Pt) (n3 c3:Nat) (e3:Bool) (x11:Int) (h:Zaa),J g a3 n3 c3 e3 x11 h→∀ (R3:T3),(∀ g' (a3:Pt) (n3 c3:Nat) (e3:Bool) (x11:Int) (h:Zaa),m g' < m g→J g' a3 n3 c3 e3 x11 h→R3 m0 a3 n3 c3 e3 a9 n9 c9 e9 x10 x11 h)→L3t Q R3 m0 a3 n3 c3 e3 a9 n9 c9 e9 x10 x11 h)
 (g:G) (a3:Pt) (n3 c3:Nat) (e3:Bool) (x11:Int) (h:Zaa) (hj:J g a3 n3 c3 e3 x11 h):L3 Q m0 a3 n3 c3 e3 a9 n9 c9 e9 x10 x11 h:=by
 let P:=fun (K:Pt→Nat→Nat→Bool→Int→Zaa→Prop) m0' a3 n3 c3 e3 a9' n9' c9' e9' x10' x11 h=>m0=m0'∧a9=a9'∧n9=n9'∧c9=c9'∧e9=e9'∧x10=x10'∧K a3 n3 c3 e3 x11 h
 refine Zet.inv2 (fun g=>E3 (P (J g))) (fun g=>E3 (P fun a3 n3 c3 e3 x11 h=>∃ g',m g' < m g∧J g' a3 n3 c3 e3 x11 h)) m ?_ ?_ g ⟨rfl,rfl,rfl,rfl,rfl,rfl,hj⟩
 ·intro g env h hi
  obtain ⟨m0',a3,n3,c3,e3,a9',n9',c9',e9',x10',x11,rfl,rfl,rfl,rfl,rfl,rfl,rfl,hj⟩:=Zfy hi
  exact Zpe Q _ m0 a3 n3 c3 e3 a9 n9 c9 e9 x10 x11 h (hr g a3 n3 c3 e3 x11 h hj (P fun a3 n3 c3 e3 x11 h=>∃ g',m g' < m g∧J g' a3 n3 c3 e3 x11 h) fun g' a3 n3 c3 e3 x11 h hlt hj=>⟨rfl,rfl,rfl,rfl,rfl,rfl,g',hlt,hj⟩)
 ·intro g env h hi
  obtain ⟨m0',a3,n3,c3,e3,a9',n9',c9',e9',x10',x11,rfl,rfl,rfl,rfl,rfl,rfl,rfl,g',hlt,hj⟩:=Zfy hi
  exact ⟨g',hlt,rfl,rfl,rfl,rfl,rfl,rfl,hj⟩
theorem A3x0i (Q:QT) (a3:Pt) (n3 c3:Nat) (e3:Bool) (h:Zaa) (ht :
 Q (.slice a3 n3 c3 e3) h):Ztb Q a3 n3 c3 e3 h:=
 At.mk (cast (by kernel_rfl) ht)
theorem call (m0:Option Nat) (h:Zaa) (Q:QT) (ht :
 Zck (h ++ [.cells Zbi [] false]) fun A=>Zah pg Zev [.map m0] A fun A B=>
 Yaw A fun A=>Zah pg Zll [A] B fun A B=>
 xSl A fun A C D E=>L3 Q m0 (h.length,0) 0 0 true A C D E (((C:Nat):Int)) 0 B):Zah pg Znq [.map m0] h Q:=
 Zah.of_body kp (c:=cod fn) (fn:=fn) Go.Proofs.Tryz.func46 (by kernel_rfl) (by kernel_rfl) (Nat.le_of_ble_eq_true (by kernel_rfl))
  (cast (by kernel_rfl) ht)
end Zht
namespace Zms
noncomputable abbrev fn:Func:=Go.Proofs.Tryz.f15
def kp:Zcj:=[(4000004,[8])]
noncomputable def C (p:List Nat):Code:=(cod fn).sub p
def KR (Q:QT):KT:=Zfb pg fn.results.toList Q
def J4 (Q:QT) (m8:Option Nat) (h:Zaa):Prop:=Den pg fn.ntmps (C [1,1,1]) [(8,.map m8)] h (KR Q)
theorem J4i (Q:QT) (m8:Option Nat) (h:Zaa) (ht :
 Zah pg Znq [.map m8] h fun A B=>
 xSl A fun A C D E=>Q (.tup [.slice A C D E,.bool true]) B):J4 Q m8 h:=
 Zba (kp:=kp) (cast (by kernel_rfl) ht)
theorem call (x0 x1:List Nat) (h:Zaa) (Q:QT) (ht :
 Zah pg Zla [.str x0] h fun A B=>
 Zhh A fun A=>Zah pg Zla [.str x1] B fun B C=>
 Zhh B fun B=>Zck (C ++ [.map [] 0]) fun D=>bcase (Option.isNone A) (Q (.tup [.slice none 0 0 true,.bool false]) D) (bcase (Option.isNone B) (Q (.tup [.slice none 0 0 true,.bool false]) D) (Zah pg Zik [.ptr A,.ptr B,.map ((some C.length))] D fun A B=>
 Zbx A fun A=>bcase (!A) (Q (.tup [.slice none 0 0 true,.bool false]) B) (J4 Q ((some C.length)) B)))):Zah pg Zhb [.str x0,.str x1] h Q:=
 Zah.of_body kp (c:=cod fn) (fn:=fn) Go.Proofs.Tryz.func15 (by kernel_rfl) (by kernel_rfl) (Nat.le_of_ble_eq_true (by kernel_rfl))
  (cast (by kernel_rfl) ht)
end Zms
namespace Zpl
noncomputable abbrev fn:Func:=Go.Proofs.Tryz.f62
def kp:Zcj:=[]
noncomputable def C (p:List Nat):Code:=(cod fn).sub p
def KR (Q:QT):KT:=Zfb pg fn.results.toList Q
theorem call (x0 x1:List Nat) (h:Zaa) (Q:QT) (ht :
 Zah pg Zhb [.str x0,.str x1] h fun A B=>
 Zny A fun A=>Zaj A fun A C=>xSl A fun A A A A=>Zaj C fun A C=>Zbx A fun A=>Zbv C (Q (.bool A) B)):Zah pg Zin [.str x0,.str x1] h Q:=
 Zah.of_body kp (c:=cod fn) (fn:=fn) Go.Proofs.Tryz.func62 (by kernel_rfl) (by kernel_rfl) (Nat.le_of_ble_eq_true (by kernel_rfl))
  (cast (by kernel_rfl) ht)
end Zpl
end Go.Sim

set_option maxRecDepth 100000
set_option maxHeartbeats 0
set_option linter.unusedVariables false
namespace Go.Sim
open Go Go.RowKit
namespace Zfh
noncomputable abbrev fn:Func:=Go.Proofs.Tryz.f45
def kp:Zcj:=[(4000006,[2,0,7]),(2000008,[48,0,1,2]),(3000011,[6]),(1000011,[1,2,52,53,54])]
noncomputable def C (p:List Nat):Code:=(cod fn).sub p
def KR (Q:QT):KT:=Zfb pg fn.results.toList Q
abbrev T11:=Pt→Option Nat→Pt→Nat→Nat→Bool→Int→Int→Zaa→Prop
def E11 (R11:T11) (env:Env) (h:Zaa):Prop:=Zbw 1 env fun v env=>Zhh v fun a1=>Zbw 2 env fun v env=>Ymx v fun m2=>Zbw 52 env fun v env=>xSl v fun a52 n52 c52 e52=>Zbw 53 env fun v env=>Zee .i64 v fun x53=>Zbw 54 env fun v env=>Zee .i64 v fun x54=>Zkh env (R11 a1 m2 a52 n52 c52 e52 x53 x54 h)
theorem Ymt {R11:T11} {env:Env} {h:Zaa} (hi:E11 R11 env h):∃ a1,∃ m2,∃ a52,∃ n52,∃ c52,∃ e52,∃ x53,∃ x54,env=[(1,.ptr a1),(2,.map m2),(52,.slice a52 n52 c52 e52),(53,.int .i64 x53),(54,.int .i64 x54)]∧R11 a1 m2 a52 n52 c52 e52 x53 x54 h:=by
 unfold E11 at hi
 repeat ((first | (have k:=Zak hi; clear hi; obtain ⟨_,_,e,hi⟩:=k) | (have k:=Zby hi; clear hi; obtain ⟨_,_,_,_,e,hi⟩:=k) | (have k:=Zax hi; clear hi; obtain ⟨_,e,hi⟩:=k) | (have k:=Zbt hi; clear hi; obtain ⟨_,e,hi⟩:=k) | (have k:=Ydh hi; clear hi; obtain ⟨_,e,hi⟩:=k)); subst e)
 obtain ⟨rfl,hi⟩:=Zbp hi
 exact ⟨_,_,_,_,_,_,_,_,rfl,hi⟩
def K0 (Q:QT):KT:=andThen (fun env' h'=>(match kp.find 4000008 with | some ks=>Den pg fn.ntmps (C [1,1]) (env'.keep ks) h' (KR Q) | none=>den pg fn.ntmps kp (C [1,1]) env' h' (KR Q))) (KR Q)
def K1 (Q:QT):KT:=andThen (fun env' h'=>(match kp.find 4000016 with | some ks=>Den pg fn.ntmps (C [1,1,1,1]) (env'.keep ks) h' (KR Q) | none=>den pg fn.ntmps kp (C [1,1,1,1]) env' h' (KR Q))) (KR Q)
def K2 (Q:QT):KT:=Zcs 0 (K1 Q)
def K3 (Q:QT):KT:=left kp 11 (K2 Q)
def K4 (Q:QT) (R11:T11):KT:=rnd ((kp.find 1000011).getD []) (E11 R11) (K3 Q)
def J6 (Q:QT) (m2:Option Nat) (a0:Pt) (x7:List Nat) (h:Zaa):Prop:=Den pg fn.ntmps (C [1,0,1,0,1,1]) [(2,.map m2),(0,.ptr a0),(7,.str x7)] h (K0 Q)
def L11 (Q:QT) (a1:Pt) (m2:Option Nat) (a52:Pt) (n52 c52:Nat) (e52:Bool) (x53 x54:Int) (h:Zaa):Prop:=Zet (Den pg fn.ntmps (C [1,1,1,0,1,0,0])) ((kp.find 1000011).getD []) (K3 Q) [(1,.ptr a1),(2,.map m2),(52,.slice a52 n52 c52 e52),(53,.int .i64 x53),(54,.int .i64 x54)] h
def Ysz (Q:QT) (h:Zaa):Prop:=At (K2 Q) (.exit 0) [(6,.undef)] h
theorem J6i (Q:QT) (m2:Option Nat) (a0:Pt) (x7:List Nat) (h:Zaa) (ht :
 Zbm a0 fun A B=>Zbg (Zag h (.ptr (A,B + 0))) fun A=>xMp m2 fun B=>Zic h (some B) fun es_32 k_33=>Yoh es_32 k_33 A (.str x7) fun es_34 k_35=>Zck (List.set h B (.map es_34 k_35)) fun A=>Q (.bool true) A):J6 Q m2 a0 x7 h:=
 Zba (kp:=kp) (cast (by kernel_rfl) ht)
def L11t (Q:QT) (R11:T11) (a1:Pt) (m2:Option Nat) (a52:Pt) (n52 c52:Nat) (e52:Bool) (x53 x54:Int) (h:Zaa):Prop:=
 bcase (decide ((x54:Int) < x53)) ((0≤(x54:Int)∧(x54:Int) < (n52:Nat))∧(Zbm a52 fun A B=>Zhh (Zag h (.ptr (A,B + (Int.toNat x54) * 1))) fun A=>Zbm a1 fun B C=>xSl (Zag h (.ptr (B,C + 1))) fun B C D D=>(0≤(x54:Int)∧(x54:Int) < (C:Nat))∧(Zbm B fun B C=>Zhh (Zag h (.ptr (B,C + (Int.toNat x54) * 1))) fun B=>Zah pg Zik [.ptr A,.ptr B,.map m2] h fun A B=>
 Zbx A fun A=>bcase (!A) (Q (.bool false) B) (R11 a1 m2 a52 n52 c52 e52 x53 (IntKind.wrap .i64 (x54 + 1)) B)))) (Ysz Q h)
theorem Yti (Q:QT) (R11:T11) (a1:Pt) (m2:Option Nat) (a52:Pt) (n52 c52:Nat) (e52:Bool) (x53 x54:Int) (h:Zaa) (ht:L11t Q R11 a1 m2 a52 n52 c52 e52 x53 x54 h):Den pg fn.ntmps (C [1,1,1,0,1,0,0]) [(1,.ptr a1),(2,.map m2),(52,.slice a52 n52 c52 e52),(53,.int .i64 x53),(54,.int .i64 x54)] h (K4 Q R11):=
 Zba (kp:=kp) (cast (by kernel_rfl) ht)
theorem L11ind (Q:QT) (a1:Pt) (m2:Option Nat) (a52:Pt) (n52 c52:Nat) (e52:Bool) (x53:Int) {G:Type} (J:G→Int→Zaa→Prop) (m:G→Nat)
 (hr:∀ (g:G) (x54:Int) (h:Zaa),J g x54 h→∀ (R11:T11),(∀ g' (x54:Int) (h:Zaa),m g' < m g→J g' x54 h→R11 a1 m2 a52 n52 c52 e52 x53 x54 h)→L11t Q R11 a1 m2 a52 n52 c52 e52 x53 x54 h)
 (g:G) (x54:Int) (h:Zaa) (hj:J g x54 h):L11 Q a1 m2 a52 n52 c52 e52 x53 x54 h:=by
 let P:=fun (K:Int→Zaa→Prop) a1' m2' a52' n52' c52' e52' x53' x54 h=>a1=a1'∧m2=m2'∧a52=a52'∧n52=n52'∧c52=c52'∧e52=e52'∧x53=x53'∧K x54 h
 refine Zet.inv2 (fun g=>E11 (P (J g))) (fun g=>E11 (P fun x54 h=>∃ g',m g' < m g∧J g' x54 h)) m ?_ ?_ g ⟨rfl,rfl,rfl,rfl,rfl,rfl,rfl,hj⟩
 ·intro g env h hi
  obtain ⟨a1',m2',a52',n52',c52',e52',x53',x54,rfl,rfl,rfl,rfl,rfl,rfl,rfl,rfl,hj⟩:=Ymt hi
  exact Yti Q _ a1 m2 a52 n52 c52 e52 x53 x54 h (hr g x54 h hj (P fun x54 h=>∃ g',m g' < m g∧J g' x54 h) fun g' x54 h hlt hj=>⟨rfl,rfl,rfl,rfl,rfl,rfl,rfl,g',hlt,hj⟩)
 ·intro g env h hi
  obtain ⟨a1',m2',a52',n52',c52',e52',x53',x54,rfl,rfl,rfl,rfl,rfl,rfl,rfl,rfl,g',hlt,hj⟩:=Ymt hi
  exact ⟨g',hlt,rfl,rfl,rfl,rfl,rfl,rfl,rfl,hj⟩
theorem A11x0i (Q:QT) (h:Zaa) (ht :
 Q (.bool true) h):Ysz Q h:=
 At.mk (cast (by kernel_rfl) ht)
theorem call (a0 a1:Pt) (m2:Option Nat) (h:Zaa) (Q:QT) (ht :
 Zbm a0 fun A B=>Zbg (Zag h (.ptr (A,B + 0))) fun A=>Zah pg Zmk [.str A] h fun A B=>
 Zbx A fun A=>bcase A (Zah pg Zjm [.ptr a1] B fun A C=>
 Zbg A fun A=>Zbm a0 fun D E=>Zbg (Zag C (.ptr (D,E + 0))) fun D=>Zic C m2 fun es_12 k_13=>Zzp es_12 D fun D=>Zbg (some (Option.getD D (.str []))) fun E=>bcase (Option.isSome D) (bcase (!(decide (E=A))) (Q (.bool false) C) (J6 Q m2 a0 A C)) (J6 Q m2 a0 A C)) (Zbm a0 fun A C=>Zbm a1 fun D E=>Zbg (Zag B (.ptr (A,C + 0))) fun F=>Zbg (Zag B (.ptr (D,E + 0))) fun D=>(Zag B (.ptr (A,C + 0))=Zag B (.ptr (A,C + 0)))∧bcase (!(decide (F=D))) (Q (.bool false) B) (Zbm a0 fun A C=>xSl (Zag B (.ptr (A,C + 1))) fun A C D E=>L11 Q a1 m2 A C D E (((C:Nat):Int)) 0 B))):Zah pg Zik [.ptr a0,.ptr a1,.map m2] h Q:=
 Zah.of_body kp (c:=cod fn) (fn:=fn) Go.Proofs.Tryz.func45 (by kernel_rfl) (by kernel_rfl) (Nat.le_of_ble_eq_true (by kernel_rfl))
  (cast (by kernel_rfl) ht)
end Zfh
end Go.Sim
