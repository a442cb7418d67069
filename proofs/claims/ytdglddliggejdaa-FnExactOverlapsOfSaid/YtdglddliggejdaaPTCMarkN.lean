/- A part of the proof of a statement of this seat: see the text that holds the theorem. No condition. -/
import Derived.Test.YtdglddliggejdaaNm
set_option linter.unusedVariables false
set_option linter.unusedSimpArgs false
set_option linter.all false
set_option maxRecDepth 100000
set_option maxHeartbeats 0
set_option linter.unusedVariables false
namespace Go.Sim
open Go Go.RowKit
namespace Zdd
noncomputable abbrev fn:Func:=Go.Proofs.Try.f84
def kp:Zce:=[(4000003,[3,2]),(3000004,[4]),(1000004,[2,3,47,48,49]),(2000006,[80,49,48,47,2,3]),(4000008,[49,48,47,2,3])]
noncomputable def C (p:List Nat):Code:=(cod fn).sub p
def KR (Q:QT):KT:=Zet pg fn.results.toList Q
abbrev T4:=Nat→Nat→Nat→Nat→Pt→Nat→Nat→Bool→Int→Int→Zaa→Prop
def E4 (R4:T4) (env:Env) (h:Zaa):Prop:=Zbx 2 env fun v env=>Zfw v fun a=>Zbf a fun i2 o2=>Zbx 3 env fun v env=>Zfw v fun a=>Zbf a fun i3 o3=>Zbx 47 env fun v env=>xSl v fun a47 n47 c47 e47=>Zbx 48 env fun v env=>Zdz .i64 v fun x48=>Zbx 49 env fun v env=>Zdz .i64 v fun x49=>Ziy env (R4 i2 o2 i3 o3 a47 n47 c47 e47 x48 x49 h)
theorem Zfc {R4:T4} {env:Env} {h:Zaa} (hi:E4 R4 env h):∃ i2,∃ o2,∃ i3,∃ o3,∃ a47,∃ n47,∃ c47,∃ e47,∃ x48,∃ x49,env=[(2,.ptr (i2,o2)),(3,.ptr (i3,o3)),(47,.slice a47 n47 c47 e47),(48,.int .i64 x48),(49,.int .i64 x49)]∧R4 i2 o2 i3 o3 a47 n47 c47 e47 x48 x49 h:=by
 unfold E4 at hi
 have hi0:=hi
 clear hi
 obtain ⟨_,_,rfl,hi1⟩:=Zae hi0
 obtain ⟨a,rfl,hi2⟩:=Zbu hi1
 obtain ⟨i2,o2,rfl,hi3⟩:=Zbn hi2
 obtain ⟨_,_,rfl,hi4⟩:=Zae hi3
 obtain ⟨a,rfl,hi5⟩:=Zbu hi4
 obtain ⟨i3,o3,rfl,hi6⟩:=Zbn hi5
 obtain ⟨_,_,rfl,hi7⟩:=Zae hi6
 obtain ⟨a47,n47,c47,e47,rfl,hi8⟩:=Zbt hi7
 obtain ⟨_,_,rfl,hi9⟩:=Zae hi8
 obtain ⟨x48,rfl,hi10⟩:=Zat hi9
 obtain ⟨_,_,rfl,hi11⟩:=Zae hi10
 obtain ⟨x49,rfl,hi12⟩:=Zat hi11
 obtain ⟨rfl,hi13⟩:=Zbj hi12
 have hi:=hi13
 exact ⟨i2,o2,i3,o3,a47,n47,c47,e47,x48,x49,rfl,hi⟩
def K0 (Q:QT):KT:=andThen (fun env' h'=>(match kp.find 4000009 with | some ks=>Den pg fn.ntmps (C [1,1,1]) (env'.keep ks) h' (KR Q) | none=>den pg fn.ntmps kp (C [1,1,1]) env' h' (KR Q))) (KR Q)
def K1 (Q:QT):KT:=Zcg 0 (K0 Q)
def K2 (Q:QT):KT:=left kp 4 (K1 Q)
def K3 (Q:QT) (R4:T4):KT:=rnd ((kp.find 1000004).getD []) (E4 R4) (K2 Q)
def J3 (Q:QT) (i3 o3 i2 o2:Nat) (h:Zaa):Prop:=Den pg fn.ntmps (C [1,1]) [(3,.ptr (i3,o3)),(2,.ptr (i2,o2))] h (KR Q)
def L4 (Q:QT) (i2 o2 i3 o3:Nat) (a47:Pt) (n47 c47:Nat) (e47:Bool) (x48 x49:Int) (h:Zaa):Prop:=Zdt (Den pg fn.ntmps (C [1,1,0,1,0,0])) ((kp.find 1000004).getD []) (K2 Q) [(2,.ptr (i2,o2)),(3,.ptr (i3,o3)),(47,.slice a47 n47 c47 e47),(48,.int .i64 x48),(49,.int .i64 x49)] h
def J8 (Q:QT) (R4:T4) (x49 x48:Int) (a47:Pt) (n47 c47:Nat) (e47:Bool) (i2 o2 i3 o3:Nat) (h:Zaa):Prop:=Den pg fn.ntmps (C [1,1,0,1,0,0,1,1,1]) [(49,.int .i64 x49),(48,.int .i64 x48),(47,.slice a47 n47 c47 e47),(2,.ptr (i2,o2)),(3,.ptr (i3,o3))] h (K3 Q R4)
def Zrs (Q:QT) (h:Zaa):Prop:=At (K1 Q) (.exit 0) [(4,.undef)] h
theorem J3i (Q:QT) (i3 o3 i2 o2:Nat) (h:Zaa) (ht :
 xSl (Zaf h (.ptr (i3,o3 + 2))) fun A B C D=>L4 Q i2 o2 i3 o3 A B C D (((B:Nat):Int)) 0 h):J3 Q i3 o3 i2 o2 h:=
 Zax (kp:=kp) (cast (by kernel_rfl) ht)
def L4t (Q:QT) (R4:T4) (i2 o2 i3 o3:Nat) (a47:Pt) (n47 c47:Nat) (e47:Bool) (x48 x49:Int) (h:Zaa):Prop:=
 bcase (decide ((x49:Int) < x48)) ((0≤(x49:Int)∧(x49:Int) < (n47:Nat))∧(Zbf a47 fun A B=>Zcy (Zbo h (.ptr (A,B + (Int.toNat x49) * 2)) 2) fun A=>Zam A fun A B=>Zcb A fun A=>Zam B fun B C=>Zcb B fun B=>Zcq C (Zdn (h ++ [.cells Zbl [.str [],.str []] false]) fun C=>Zcf (Zbd C (.ptr (h.length,0)) [.str A,.str B]) fun A=>Zcy (Zbo A (.ptr (i2,o2)) 2) fun B=>Zam B fun B C=>xSl B fun B D E F=>Zam C fun C G=>xSl C fun C H I J=>Zcq G (Zcb (Zaf A (.ptr (h.length,0 + 0))) fun G=>(Zbo A (.ptr (i2,o2)) 2=Zbo A (.ptr (i2,o2)) 2)∧Zad pg Zhf [.agg [.slice B D E F,.slice C H I J],.str G] A fun A B=>
 Zco .i64 A fun A=>bcase (decide ((A:Int) < 0)) ((Zbo B (.ptr (i2,o2)) 2=Zbo B (.ptr (i2,o2)) 2)∧(Zbo B (.ptr (i2,o2)) 2=Zbo B (.ptr (i2,o2)) 2)∧(Zbo B (.ptr (i2,o2)) 2=Zbo B (.ptr (i2,o2)) 2)∧(Zaf B (.tup [])=Zaf B (.tup []))∧(Zbo B (.ptr (i2,o2)) 2=Zbo B (.ptr (i2,o2)) 2)∧(Zaf B (.tup [])=Zaf B (.tup []))∧(Zbo B (.ptr (i2,o2)) 2=Zbo B (.ptr (i2,o2)) 2)∧(Zaf B (.tup [])=Zaf B (.tup []))∧(Zaf B (.tup [])=Zaf B (.tup []))∧(Zbo B (.ptr (i2,o2)) 2=Zbo B (.ptr (i2,o2)) 2)∧Q (.bool false) B) (Zcb (Zaf B (.ptr (h.length,0 + 1))) fun A=>(Zbo B (.ptr (i2,o2)) 2=Zbo B (.ptr (i2,o2)) 2)∧Zad pg Zfk [.str A] B fun A C=>
 Zbw A fun A=>(Zbo C (.ptr (i2,o2)) 2=Zbo B (.ptr (i2,o2)) 2)∧bcase (!A) ((Zbo C (.ptr (i2,o2)) 2=Zbo C (.ptr (i2,o2)) 2)∧(Zaf C (.tup [])=Zaf C (.tup []))∧(Zbo C (.ptr (i2,o2)) 2=Zbo C (.ptr (i2,o2)) 2)∧(Zaf C (.tup [])=Zaf C (.tup []))∧(Zbo C (.ptr (i2,o2)) 2=Zbo C (.ptr (i2,o2)) 2)∧(Zaf C (.tup [])=Zaf C (.tup []))∧(Zaf C (.tup [])=Zaf C (.tup []))∧(Zbo C (.ptr (i2,o2)) 2=Zbo C (.ptr (i2,o2)) 2)∧Q (.bool false) C) (Zcb (Zaf C (.ptr (h.length,0 + 1))) fun A=>(Zbo C (.ptr (i2,o2)) 2=Zbo C (.ptr (i2,o2)) 2)∧bcase (decide (((((List.length A:Nat):Int)):Int) > 20)) ((Zaf C (.tup [])=Zaf C (.tup []))∧(Zbo C (.ptr (i2,o2)) 2=Zbo C (.ptr (i2,o2)) 2)∧(Zaf C (.tup [])=Zaf C (.tup []))∧(Zbo C (.ptr (i2,o2)) 2=Zbo C (.ptr (i2,o2)) 2)∧(Zaf C (.tup [])=Zaf C (.tup []))∧(Zaf C (.tup [])=Zaf C (.tup []))∧(Zbo C (.ptr (i2,o2)) 2=Zbo C (.ptr (i2,o2)) 2)∧Q (.bool false) C) (Zcb (Zaf C (.ptr (h.length,0 + 1))) fun A=>Zcb (Zaf C (.ptr (i3,o3 + 0 + 1))) fun B=>Zad pg Zjq [.str A] C fun A D=>
 Zcb A fun A=>(Zaf D (.ptr (i3,o3 + 0 + 1))=Zaf C (.ptr (i3,o3 + 0 + 1)))∧(Zbo D (.ptr (i2,o2)) 2=Zbo C (.ptr (i2,o2)) 2)∧Zad pg Zjq [.str B] D fun B C=>
 Zcb B fun B=>(Zaf C (.ptr (h.length,0 + 1))=Zaf D (.ptr (h.length,0 + 1)))∧(Zbo C (.ptr (i2,o2)) 2=Zbo D (.ptr (i2,o2)) 2)∧Zad pg Zko [.str A,.str B] C fun A B=>
 Zbw A fun A=>(Zaf B (.ptr (i3,o3 + 0 + 1))=Zaf C (.ptr (i3,o3 + 0 + 1)))∧(Zaf B (.ptr (h.length,0 + 1))=Zaf C (.ptr (h.length,0 + 1)))∧(Zbo B (.ptr (i2,o2)) 2=Zbo C (.ptr (i2,o2)) 2)∧bcase (!A) (Q (.bool false) B) (J8 Q R4 x49 x48 a47 n47 c47 e47 i2 o2 i3 o3 B)))))))) (Zrs Q h)
theorem Zny (Q:QT) (R4:T4) (i2 o2 i3 o3:Nat) (a47:Pt) (n47 c47:Nat) (e47:Bool) (x48 x49:Int) (h:Zaa) (ht:L4t Q R4 i2 o2 i3 o3 a47 n47 c47 e47 x48 x49 h):Den pg fn.ntmps (C [1,1,0,1,0,0]) [(2,.ptr (i2,o2)),(3,.ptr (i3,o3)),(47,.slice a47 n47 c47 e47),(48,.int .i64 x48),(49,.int .i64 x49)] h (K3 Q R4):=
 Zax (kp:=kp) (cast (by kernel_rfl) ht)
theorem L4ind (Q:QT) (i2 o2 i3 o3:Nat) (a47:Pt) (n47 c47:Nat) (e47:Bool) (x48:Int) {G:Type} (J:G→Int→Zaa→Prop) (m:G→Nat)
 (hr:∀ (g:G) (x49:Int) (h:Zaa),J g x49 h→∀ (R4:T4),(∀ g' (x49:Int) (h:Zaa),m g' < m g→J g' x49 h→R4 i2 o2 i3 o3 a47 n47 c47 e47 x48 x49 h)→L4t Q R4 i2 o2 i3 o3 a47 n47 c47 e47 x48 x49 h)
 (g:G) (x49:Int) (h:Zaa) (hj:J g x49 h):L4 Q i2 o2 i3 o3 a47 n47 c47 e47 x48 x49 h:=by
 let P:=fun (K:Int→Zaa→Prop) i2' o2' i3' o3' a47' n47' c47' e47' x48' x49 h=>i2=i2'∧o2=o2'∧i3=i3'∧o3=o3'∧a47=a47'∧n47=n47'∧c47=c47'∧e47=e47'∧x48=x48'∧K x49 h
 refine Zdt.inv2 (fun g=>E4 (P (J g))) (fun g=>E4 (P fun x49 h=>∃ g',m g' < m g∧J g' x49 h)) m ?_ ?_ g ⟨rfl,rfl,rfl,rfl,rfl,rfl,rfl,rfl,rfl,hj⟩
 ·intro g env h hi
  obtain ⟨i2',o2',i3',o3',a47',n47',c47',e47',x48',x49,rfl,rfl,rfl,rfl,rfl,rfl,rfl,rfl,rfl,rfl,hj⟩:=Zfc hi
  exact Zny Q _ i2 o2 i3 o3 a47 n47 c47 e47 x48 x49 h (hr g x49 h hj (P fun x49 h=>∃ g',m g' < m g∧J g' x49 h) fun g' x49 h hlt hj=>⟨rfl,rfl,rfl,rfl,rfl,rfl,rfl,rfl,rfl,g',hlt,hj⟩)
 ·intro g env h hi
  obtain ⟨i2',o2',i3',o3',a47',n47',c47',e47',x48',x49,rfl,rfl,rfl,rfl,rfl,rfl,rfl,rfl,rfl,rfl,g',hlt,hj⟩:=Zfc hi
  exact ⟨g',hlt,rfl,rfl,rfl,rfl,rfl,rfl,rfl,rfl,rfl,hj⟩
theorem J8i (Q:QT) (R4:T4) (x49 x48:Int) (a47:Pt) (n47 c47:Nat) (e47:Bool) (i2 o2 i3 o3:Nat) (h:Zaa) (ht :
 R4 i2 o2 i3 o3 a47 n47 c47 e47 x48 (IntKind.wrap .i64 (x49 + 1)) h):J8 Q R4 x49 x48 a47 n47 c47 e47 i2 o2 i3 o3 h:=
 Zax (kp:=kp) (cast (by kernel_rfl) ht)
theorem A4x0i (Q:QT) (h:Zaa) (ht :
 Q (.bool true) h):Zrs Q h:=
 At.mk (cast (by kernel_rfl) ht)
theorem call (a0x0:Pt) (n0x0 c0x0:Nat) (e0x0:Bool) (a0x1:Pt) (n0x1 c0x1:Nat) (e0x1:Bool) (x1x0 x1x1:List Nat) (a1x2:Pt) (n1x2 c1x2:Nat) (e1x2:Bool) (h:Zaa) (Q:QT) (ht :
 Zdn (h ++ [.cells Zao [.slice a0x0 n0x0 c0x0 e0x0,.slice a0x1 n0x1 c0x1 e0x1] false]) fun A=>Zdn (A ++ [.cells Zac [.str x1x0,.str x1x1,.slice a1x2 n1x2 c1x2 e1x2] false]) fun B=>xSl (Zaf B (.ptr (h.length,0 + 0))) fun C D E F=>Zad pg Zhi [.slice C D E F] B fun B C=>
 Zbw B fun B=>bcase (!B) (Q (.bool false) C) (Zcy (Zbo C (.ptr (h.length,0)) 2) fun B=>Zam B fun B D=>xSl B fun B E F G=>Zam D fun D H=>xSl D fun D I J K=>Zcq H (Zcb (Zaf C (.ptr (A.length,0 + 0 + 0))) fun H=>Zad pg Zhf [.agg [.slice B E F G,.slice D I J K],.str H] C fun B C=>
 Zco .i64 B fun B=>bcase (decide ((B:Int) < 0)) (Q (.bool false) C) (Zcb (Zaf C (.ptr (A.length,0 + 0 + 1))) fun B=>Zad pg Zfk [.str B] C fun B C=>
 Zbw B fun B=>bcase (!B) (Q (.bool false) C) (Zcb (Zaf C (.ptr (A.length,0 + 0 + 1))) fun B=>bcase (decide (((((List.length B:Nat):Int)):Int) > 20)) (Q (.bool false) C) (Zcb (Zaf C (.ptr (A.length,0 + 0 + 1))) fun B=>Zjo B 0 fun B=>Zad pg Zgo [.int .u8 (((B:Nat):Int))] C fun B C=>
 Zbw B fun B=>bcase B (Q (.bool false) C) (xSl (Zaf C (.ptr (A.length,0 + 2))) fun B B D D=>bcase (decide (((((B:Nat):Int)):Int) > 3)) (Q (.bool false) C) (J3 Q A.length 0 h.length 0 C)))))))):Zad pg Zgs [.agg [.slice a0x0 n0x0 c0x0 e0x0,.slice a0x1 n0x1 c0x1 e0x1],.agg [.str x1x0,.str x1x1,.slice a1x2 n1x2 c1x2 e1x2]] h Q:=
 Zad.of_body kp (c:=cod fn) (fn:=fn) Go.Proofs.Try.func84 (by kernel_rfl) (by kernel_rfl) (Nat.le_of_ble_eq_true (by kernel_rfl))
  (cast (by kernel_rfl) ht)
end Zdd
end Go.Sim

set_option maxRecDepth 100000
set_option maxHeartbeats 0
set_option linter.unusedVariables false
namespace Go.Sim
open Go Go.RowKit
namespace Zrg
noncomputable abbrev fn:Func:=Go.Proofs.Try.f103
def kp:Zce:=[]
noncomputable def C (p:List Nat):Code:=(cod fn).sub p
def KR (Q:QT):KT:=Zet pg fn.results.toList Q
theorem call (x0:List Nat) (h:Zaa) (Q:QT) (ht :
 bcase ((((List.length x0:Nat):Int):Int) == 1) (Zad pg Zeq [.str ([120,121,122,88,89,90]),.str x0] h fun A B=>
 Zbw A fun A=>Q (.bool A) B) (Q (.bool false) h)):Zad pg Zde [.str x0] h Q:=
 Zad.of_body kp (c:=cod fn) (fn:=fn) Go.Proofs.Try.func103 (by kernel_rfl) (by kernel_rfl) (Nat.le_of_ble_eq_true (by kernel_rfl))
  (cast (by kernel_rfl) ht)
end Zrg
namespace Zlu
noncomputable abbrev fn:Func:=Go.Proofs.Try.f126
def kp:Zce:=[]
noncomputable def C (p:List Nat):Code:=(cod fn).sub p
def KR (Q:QT):KT:=Zet pg fn.results.toList Q
theorem call (x0:Int) (h:Zaa) (Q:QT) (ht :
 Zad pg Zfq [.str ([105,98,117,108,109,112,120,121,122,88,89,90]),.int .u8 x0] h fun A B=>
 Zco .i64 A fun A=>Q (.bool (decide ((A:Int) ≥ 6))) B):Zad pg Zgo [.int .u8 x0] h Q:=
 Zad.of_body kp (c:=cod fn) (fn:=fn) Go.Proofs.Try.func126 (by kernel_rfl) (by kernel_rfl) (Nat.le_of_ble_eq_true (by kernel_rfl))
  (cast (by kernel_rfl) ht)
end Zlu
namespace Zeb
noncomputable abbrev fn:Func:=Go.Proofs.Try.f155
def kp:Zce:=[(4000003,[0,1]),(3000005,[5]),(1000005,[0,1,5,22,23]),(2000007,[31,5,23,22,0,1]),(4000009,[23,22,0,1,5])]
noncomputable def C (p:List Nat):Code:=(cod fn).sub p
def KR (Q:QT):KT:=Zet pg fn.results.toList Q
abbrev T5:=List Nat→List Nat→Int→Int→Int→Zaa→Prop
def E5 (R5:T5) (env:Env) (h:Zaa):Prop:=Zbx 0 env fun v env=>Zcb v fun x0=>Zbx 1 env fun v env=>Zcb v fun x1=>Zbx 5 env fun v env=>Zdz .i64 v fun x5=>Zbx 22 env fun v env=>Zdz .i64 v fun x22=>Zbx 23 env fun v env=>Zdz .i64 v fun x23=>Ziy env (R5 x0 x1 x5 x22 x23 h)
theorem Zhq {R5:T5} {env:Env} {h:Zaa} (hi:E5 R5 env h):∃ x0,∃ x1,∃ x5,∃ x22,∃ x23,env=[(0,.str x0),(1,.str x1),(5,.int .i64 x5),(22,.int .i64 x22),(23,.int .i64 x23)]∧R5 x0 x1 x5 x22 x23 h:=by
 unfold E5 at hi
 repeat ((first | (have k:=Zae hi; clear hi; obtain ⟨_,_,e,hi⟩:=k) | (have k:=Zat hi; clear hi; obtain ⟨_,e,hi⟩:=k) | (have k:=Zjd hi; clear hi; obtain ⟨_,e,hi⟩:=k)); subst e)
 obtain ⟨rfl,hi⟩:=Zbj hi
 exact ⟨_,_,_,_,_,rfl,hi⟩
def K0 (Q:QT):KT:=andThen (fun env' h'=>(match kp.find 4000010 with | some ks=>Den pg fn.ntmps (C [1,1,1,1]) (env'.keep ks) h' (KR Q) | none=>den pg fn.ntmps kp (C [1,1,1,1]) env' h' (KR Q))) (KR Q)
def K1 (Q:QT):KT:=Zcg 0 (K0 Q)
def K2 (Q:QT):KT:=left kp 5 (K1 Q)
def K3 (Q:QT) (R5:T5):KT:=rnd ((kp.find 1000005).getD []) (E5 R5) (K2 Q)
def J3 (Q:QT) (x0 x1:List Nat) (h:Zaa):Prop:=Den pg fn.ntmps (C [1,1]) [(0,.str x0),(1,.str x1)] h (KR Q)
def L5 (Q:QT) (x0 x1:List Nat) (x5 x22 x23:Int) (h:Zaa):Prop:=Zdt (Den pg fn.ntmps (C [1,1,1,0,1,0,0])) ((kp.find 1000005).getD []) (K2 Q) [(0,.str x0),(1,.str x1),(5,.int .i64 x5),(22,.int .i64 x22),(23,.int .i64 x23)] h
def J9 (Q:QT) (R5:T5) (x23 x22:Int) (x0 x1:List Nat) (x5:Int) (h:Zaa):Prop:=Den pg fn.ntmps (C [1,1,1,0,1,0,0,1,1,1]) [(23,.int .i64 x23),(22,.int .i64 x22),(0,.str x0),(1,.str x1),(5,.int .i64 x5)] h (K3 Q R5)
def A5x0 (Q:QT) (x5:Int) (h:Zaa):Prop:=At (K1 Q) (.exit 0) [(5,.int .i64 x5)] h
theorem J3i (Q:QT) (x0 x1:List Nat) (h:Zaa) (ht :
 L5 Q x0 x1 0 (((List.length x0:Nat):Int)) 0 h):J3 Q x0 x1 h:=
 Zax (kp:=kp) (cast (by kernel_rfl) ht)
def L5t (Q:QT) (R5:T5) (x0 x1:List Nat) (x5 x22 x23:Int) (h:Zaa):Prop:=
 bcase (decide ((x23:Int) < x22)) (Zjo x0 x23 fun A=>Zjo x1 0 fun B=>bcase ((((A:Nat):Int):Int) == (((B:Nat):Int))) (J9 Q R5 x23 x22 x0 x1 (IntKind.wrap .i64 (x5 + 1)) h) (J9 Q R5 x23 x22 x0 x1 x5 h)) (A5x0 Q x5 h)
theorem Zqx (Q:QT) (R5:T5) (x0 x1:List Nat) (x5 x22 x23:Int) (h:Zaa) (ht:L5t Q R5 x0 x1 x5 x22 x23 h):Den pg fn.ntmps (C [1,1,1,0,1,0,0]) [(0,.str x0),(1,.str x1),(5,.int .i64 x5),(22,.int .i64 x22),(23,.int .i64 x23)] h (K3 Q R5):=
 Zax (kp:=kp) (cast (by kernel_rfl) ht)
theorem L5ind (Q:QT) (x0 x1:List Nat) (x22:Int) {G:Type} (J:G→Int→Int→Zaa→Prop) (m:G→Nat)
 (hr:∀ (g:G) (x5 x23:Int) (h:Zaa),J g x5 x23 h→∀ (R5:T5),(∀ g' (x5 x23:Int) (h:Zaa),m g' < m g→J g' x5 x23 h→R5 x0 x1 x5 x22 x23 h)→L5t Q R5 x0 x1 x5 x22 x23 h)
 (g:G) (x5 x23:Int) (h:Zaa) (hj:J g x5 x23 h):L5 Q x0 x1 x5 x22 x23 h:=by
 let P:=fun (K:Int→Int→Zaa→Prop) x0' x1' x5 x22' x23 h=>x0=x0'∧x1=x1'∧x22=x22'∧K x5 x23 h
 refine Zdt.inv2 (fun g=>E5 (P (J g))) (fun g=>E5 (P fun x5 x23 h=>∃ g',m g' < m g∧J g' x5 x23 h)) m ?_ ?_ g ⟨rfl,rfl,rfl,hj⟩
 ·intro g env h hi
  obtain ⟨x0',x1',x5,x22',x23,rfl,rfl,rfl,rfl,hj⟩:=Zhq hi
  exact Zqx Q _ x0 x1 x5 x22 x23 h (hr g x5 x23 h hj (P fun x5 x23 h=>∃ g',m g' < m g∧J g' x5 x23 h) fun g' x5 x23 h hlt hj=>⟨rfl,rfl,rfl,g',hlt,hj⟩)
 ·intro g env h hi
  obtain ⟨x0',x1',x5,x22',x23,rfl,rfl,rfl,rfl,g',hlt,hj⟩:=Zhq hi
  exact ⟨g',hlt,rfl,rfl,rfl,hj⟩
theorem J9i (Q:QT) (R5:T5) (x23 x22:Int) (x0 x1:List Nat) (x5:Int) (h:Zaa) (ht :
 R5 x0 x1 x5 x22 (IntKind.wrap .i64 (x23 + 1)) h):J9 Q R5 x23 x22 x0 x1 x5 h:=
 Zax (kp:=kp) (cast (by kernel_rfl) ht)
theorem A5x0i (Q:QT) (x5:Int) (h:Zaa) (ht :
 Q (.int .i64 x5) h):A5x0 Q x5 h:=
 At.mk (cast (by kernel_rfl) ht)
theorem call (x0 x1:List Nat) (h:Zaa) (Q:QT) (ht :
 Zad pg Zfk [.str x0] h fun A B=>
 Zbw A fun A=>bcase (!A) (Q (.int .i64 (-1)) B) (bcase (!((((List.length x1:Nat):Int):Int) == 1)) (Q (.int .i64 (-1)) B) (Zjo x1 0 fun A=>Zad pg Zgo [.int .u8 (((A:Nat):Int))] B fun A B=>
 Zbw A fun A=>bcase (!A) (Q (.int .i64 (-1)) B) (J3 Q x0 x1 B)))):Zad pg Zkl [.str x0,.str x1] h Q:=
 Zad.of_body kp (c:=cod fn) (fn:=fn) Go.Proofs.Try.func155 (by kernel_rfl) (by kernel_rfl) (Nat.le_of_ble_eq_true (by kernel_rfl))
  (cast (by kernel_rfl) ht)
end Zeb
namespace Zfe
noncomputable abbrev fn:Func:=Go.Proofs.Try.f128
def kp:Zce:=[(3000003,[3]),(1000003,[0,3,6,7,8]),(4000007,[8,7,6,0,3])]
noncomputable def C (p:List Nat):Code:=(cod fn).sub p
def KR (Q:QT):KT:=Zet pg fn.results.toList Q
abbrev T3:=List Nat→List Nat→Pt→Nat→Nat→Bool→Int→Int→Zaa→Prop
def E3 (R3:T3) (env:Env) (h:Zaa):Prop:=Zbx 0 env fun v env=>Zcb v fun x0=>Zbx 3 env fun v env=>Zcb v fun x3=>Zbx 6 env fun v env=>xSl v fun a6 n6 c6 e6=>Zbx 7 env fun v env=>Zdz .i64 v fun x7=>Zbx 8 env fun v env=>Zdz .i64 v fun x8=>Ziy env (R3 x0 x3 a6 n6 c6 e6 x7 x8 h)
theorem Zhp {R3:T3} {env:Env} {h:Zaa} (hi:E3 R3 env h):∃ x0,∃ x3,∃ a6,∃ n6,∃ c6,∃ e6,∃ x7,∃ x8,env=[(0,.str x0),(3,.str x3),(6,.slice a6 n6 c6 e6),(7,.int .i64 x7),(8,.int .i64 x8)]∧R3 x0 x3 a6 n6 c6 e6 x7 x8 h:=by
 unfold E3 at hi
 repeat ((first | (have k:=Zae hi; clear hi; obtain ⟨_,_,e,hi⟩:=k) | (have k:=Zat hi; clear hi; obtain ⟨_,e,hi⟩:=k) | (have k:=Zjd hi; clear hi; obtain ⟨_,e,hi⟩:=k) | (have k:=Zbt hi; clear hi; obtain ⟨_,_,_,_,e,hi⟩:=k)); subst e)
 obtain ⟨rfl,hi⟩:=Zbj hi
 exact ⟨_,_,_,_,_,_,_,_,rfl,hi⟩
def K0 (Q:QT):KT:=andThen (fun env' h'=>(match kp.find 4000008 with | some ks=>Den pg fn.ntmps (C [1,1,1]) (env'.keep ks) h' (KR Q) | none=>den pg fn.ntmps kp (C [1,1,1]) env' h' (KR Q))) (KR Q)
def K1 (Q:QT):KT:=Zcg 0 (K0 Q)
def K2 (Q:QT):KT:=left kp 3 (K1 Q)
def K3 (Q:QT) (R3:T3):KT:=rnd ((kp.find 1000003).getD []) (E3 R3) (K2 Q)
def L3 (Q:QT) (x0 x3:List Nat) (a6:Pt) (n6 c6:Nat) (e6:Bool) (x7 x8:Int) (h:Zaa):Prop:=Zdt (Den pg fn.ntmps (C [1,1,0,1,0,0])) ((kp.find 1000003).getD []) (K2 Q) [(0,.str x0),(3,.str x3),(6,.slice a6 n6 c6 e6),(7,.int .i64 x7),(8,.int .i64 x8)] h
def J7 (Q:QT) (R3:T3) (x8 x7:Int) (a6:Pt) (n6 c6:Nat) (e6:Bool) (x0 x3:List Nat) (h:Zaa):Prop:=Den pg fn.ntmps (C [1,1,0,1,0,0,1,1,1]) [(8,.int .i64 x8),(7,.int .i64 x7),(6,.slice a6 n6 c6 e6),(0,.str x0),(3,.str x3)] h (K3 Q R3)
def Zux (Q:QT) (x3:List Nat) (h:Zaa):Prop:=At (K1 Q) (.exit 0) [(3,.str x3)] h
def L3t (Q:QT) (R3:T3) (x0 x3:List Nat) (a6:Pt) (n6 c6:Nat) (e6:Bool) (x7 x8:Int) (h:Zaa):Prop:=
 bcase (decide ((x8:Int) < x7)) ((0≤(x8:Int)∧(x8:Int) < (n6:Nat))∧(Zbf a6 fun A B=>Zcb (Zaf h (.ptr (A,B + (Int.toNat x8) * 1))) fun A=>Zad pg Zkl [.str x0,.str A] h fun B C=>
 Zco .i64 B fun B=>bcase (decide ((B:Int) > 0)) (List.length x3 + List.length A≤9223372036854775807∧(J7 Q R3 x8 x7 a6 n6 c6 e6 x0 (x3 ++ A) C)) (J7 Q R3 x8 x7 a6 n6 c6 e6 x0 x3 C))) (Zux Q x3 h)
theorem Zqo (Q:QT) (R3:T3) (x0 x3:List Nat) (a6:Pt) (n6 c6:Nat) (e6:Bool) (x7 x8:Int) (h:Zaa) (ht:L3t Q R3 x0 x3 a6 n6 c6 e6 x7 x8 h):Den pg fn.ntmps (C [1,1,0,1,0,0]) [(0,.str x0),(3,.str x3),(6,.slice a6 n6 c6 e6),(7,.int .i64 x7),(8,.int .i64 x8)] h (K3 Q R3):=
 Zax (kp:=kp) (cast (by kernel_rfl) ht)
theorem L3ind (Q:QT) (x0:List Nat) (a6:Pt) (n6 c6:Nat) (e6:Bool) (x7:Int) {G:Type} (J:G→List Nat→Int→Zaa→Prop) (m:G→Nat)
 (hr:∀ (g:G) (x3:List Nat) (x8:Int) (h:Zaa),J g x3 x8 h→∀ (R3:T3),(∀ g' (x3:List Nat) (x8:Int) (h:Zaa),m g' < m g→J g' x3 x8 h→R3 x0 x3 a6 n6 c6 e6 x7 x8 h)→L3t Q R3 x0 x3 a6 n6 c6 e6 x7 x8 h)
 (g:G) (x3:List Nat) (x8:Int) (h:Zaa) (hj:J g x3 x8 h):L3 Q x0 x3 a6 n6 c6 e6 x7 x8 h:=by
 let P:=fun (K:List Nat→Int→Zaa→Prop) x0' x3 a6' n6' c6' e6' x7' x8 h=>x0=x0'∧a6=a6'∧n6=n6'∧c6=c6'∧e6=e6'∧x7=x7'∧K x3 x8 h
 refine Zdt.inv2 (fun g=>E3 (P (J g))) (fun g=>E3 (P fun x3 x8 h=>∃ g',m g' < m g∧J g' x3 x8 h)) m ?_ ?_ g ⟨rfl,rfl,rfl,rfl,rfl,rfl,hj⟩
 ·intro g env h hi
  obtain ⟨x0',x3,a6',n6',c6',e6',x7',x8,rfl,rfl,rfl,rfl,rfl,rfl,rfl,hj⟩:=Zhp hi
  exact Zqo Q _ x0 x3 a6 n6 c6 e6 x7 x8 h (hr g x3 x8 h hj (P fun x3 x8 h=>∃ g',m g' < m g∧J g' x3 x8 h) fun g' x3 x8 h hlt hj=>⟨rfl,rfl,rfl,rfl,rfl,rfl,g',hlt,hj⟩)
 ·intro g env h hi
  obtain ⟨x0',x3,a6',n6',c6',e6',x7',x8,rfl,rfl,rfl,rfl,rfl,rfl,rfl,g',hlt,hj⟩:=Zhp hi
  exact ⟨g',hlt,rfl,rfl,rfl,rfl,rfl,rfl,hj⟩
theorem J7i (Q:QT) (R3:T3) (x8 x7:Int) (a6:Pt) (n6 c6:Nat) (e6:Bool) (x0 x3:List Nat) (h:Zaa) (ht :
 R3 x0 x3 a6 n6 c6 e6 x7 (IntKind.wrap .i64 (x8 + 1)) h):J7 Q R3 x8 x7 a6 n6 c6 e6 x0 x3 h:=
 Zax (kp:=kp) (cast (by kernel_rfl) ht)
theorem A3x0i (Q:QT) (x3:List Nat) (h:Zaa) (ht :
 Q (.str x3) h):Zux Q x3 h:=
 At.mk (cast (by kernel_rfl) ht)
theorem call (x0:List Nat) (h:Zaa) (Q:QT) (ht :
 Zdn (h ++ [.cells Zdx [.str [88],.str [89],.str [90],.str [120],.str [121],.str [122]] false]) fun A=>L3 Q x0 [] (h.length,0) 6 6 true (((6:Nat):Int)) 0 A):Zad pg Zjq [.str x0] h Q:=
 Zad.of_body kp (c:=cod fn) (fn:=fn) Go.Proofs.Try.func128 (by kernel_rfl) (by kernel_rfl) (Nat.le_of_ble_eq_true (by kernel_rfl))
  (cast (by kernel_rfl) ht)
end Zfe
namespace Zgd
noncomputable abbrev fn:Func:=Go.Proofs.Try.f127
def kp:Zce:=[(3000002,[4]),(1000002,[0,1,7,8])]
noncomputable def C (p:List Nat):Code:=(cod fn).sub p
def KR (Q:QT):KT:=Zet pg fn.results.toList Q
abbrev T2:=List Nat→List Nat→Int→Int→Zaa→Prop
def E2 (R2:T2) (env:Env) (h:Zaa):Prop:=Zbx 0 env fun v env=>Zcb v fun x0=>Zbx 1 env fun v env=>Zcb v fun x1=>Zbx 7 env fun v env=>Zdz .i64 v fun x7=>Zbx 8 env fun v env=>Zdz .i64 v fun x8=>Ziy env (R2 x0 x1 x7 x8 h)
theorem Zda {R2:T2} {env:Env} {h:Zaa} (hi:E2 R2 env h):∃ x0,∃ x1,∃ x7,∃ x8,env=[(0,.str x0),(1,.str x1),(7,.int .i64 x7),(8,.int .i64 x8)]∧R2 x0 x1 x7 x8 h:=by
 unfold E2 at hi
 repeat ((first | (have k:=Zae hi; clear hi; obtain ⟨_,_,e,hi⟩:=k) | (have k:=Zat hi; clear hi; obtain ⟨_,e,hi⟩:=k) | (have k:=Zjd hi; clear hi; obtain ⟨_,e,hi⟩:=k)); subst e)
 obtain ⟨rfl,hi⟩:=Zbj hi
 exact ⟨_,_,_,_,rfl,hi⟩
def K0 (Q:QT):KT:=andThen (fun env' h'=>(match kp.find 4000007 with | some ks=>Den pg fn.ntmps (C [1,1]) (env'.keep ks) h' (KR Q) | none=>den pg fn.ntmps kp (C [1,1]) env' h' (KR Q))) (KR Q)
def K1 (Q:QT):KT:=Zcg 0 (K0 Q)
def K2 (Q:QT):KT:=left kp 2 (K1 Q)
def K3 (Q:QT) (R2:T2):KT:=rnd ((kp.find 1000002).getD []) (E2 R2) (K2 Q)
def L2 (Q:QT) (x0 x1:List Nat) (x7 x8:Int) (h:Zaa):Prop:=Zdt (Den pg fn.ntmps (C [1,0,1,0,0])) ((kp.find 1000002).getD []) (K2 Q) [(0,.str x0),(1,.str x1),(7,.int .i64 x7),(8,.int .i64 x8)] h
def A2x0 (Q:QT) (h:Zaa):Prop:=At (K1 Q) (.exit 0) [(4,.undef)] h
def L2t (Q:QT) (R2:T2) (x0 x1:List Nat) (x7 x8:Int) (h:Zaa):Prop:=
 bcase (decide ((x8:Int) < x7)) (Zjo x0 x8 fun A=>Zad pg Zfq [.str x1,.int .u8 (((A:Nat):Int))] h fun A B=>
 Zco .i64 A fun A=>bcase (decide ((A:Int) < 0)) (Q (.bool false) B) (R2 x0 x1 x7 (IntKind.wrap .i64 (x8 + 1)) B)) (A2x0 Q h)
theorem Zhm (Q:QT) (R2:T2) (x0 x1:List Nat) (x7 x8:Int) (h:Zaa) (ht:L2t Q R2 x0 x1 x7 x8 h):Den pg fn.ntmps (C [1,0,1,0,0]) [(0,.str x0),(1,.str x1),(7,.int .i64 x7),(8,.int .i64 x8)] h (K3 Q R2):=
 Zax (kp:=kp) (cast (by kernel_rfl) ht)
theorem L2ind (Q:QT) (x0 x1:List Nat) (x7:Int) {G:Type} (J:G→Int→Zaa→Prop) (m:G→Nat)
 (hr:∀ (g:G) (x8:Int) (h:Zaa),J g x8 h→∀ (R2:T2),(∀ g' (x8:Int) (h:Zaa),m g' < m g→J g' x8 h→R2 x0 x1 x7 x8 h)→L2t Q R2 x0 x1 x7 x8 h)
 (g:G) (x8:Int) (h:Zaa) (hj:J g x8 h):L2 Q x0 x1 x7 x8 h:=by
 let P:=fun (K:Int→Zaa→Prop) x0' x1' x7' x8 h=>x0=x0'∧x1=x1'∧x7=x7'∧K x8 h
 refine Zdt.inv2 (fun g=>E2 (P (J g))) (fun g=>E2 (P fun x8 h=>∃ g',m g' < m g∧J g' x8 h)) m ?_ ?_ g ⟨rfl,rfl,rfl,hj⟩
 ·intro g env h hi
  obtain ⟨x0',x1',x7',x8,rfl,rfl,rfl,rfl,hj⟩:=Zda hi
  exact Zhm Q _ x0 x1 x7 x8 h (hr g x8 h hj (P fun x8 h=>∃ g',m g' < m g∧J g' x8 h) fun g' x8 h hlt hj=>⟨rfl,rfl,rfl,g',hlt,hj⟩)
 ·intro g env h hi
  obtain ⟨x0',x1',x7',x8,rfl,rfl,rfl,rfl,g',hlt,hj⟩:=Zda hi
  exact ⟨g',hlt,rfl,rfl,rfl,hj⟩
theorem A2x0i (Q:QT) (h:Zaa) (ht :
 Q (.bool true) h):A2x0 Q h:=
 At.mk (cast (by kernel_rfl) ht)
theorem call (x0 x1:List Nat) (h:Zaa) (Q:QT) (ht :
 L2 Q x0 x1 (((List.length x0:Nat):Int)) 0 h):Zad pg Zko [.str x0,.str x1] h Q:=
 Zad.of_body kp (c:=cod fn) (fn:=fn) Go.Proofs.Try.func127 (by kernel_rfl) (by kernel_rfl) (Nat.le_of_ble_eq_true (by kernel_rfl))
  (cast (by kernel_rfl) ht)
end Zgd
namespace Zcd
noncomputable abbrev fn:Func:=Go.Proofs.Try.f94
def kp:Zce:=[(4000003,[3,2]),(3000004,[4]),(1000004,[2,3,48,49,50]),(4000008,[6,2,3,48,49,50]),(3000009,[50,49,48,2,3,4]),(1000009,[2,3,48,49,50,74,75,76]),(4000014,[50,49,48,2,3])]
noncomputable def C (p:List Nat):Code:=(cod fn).sub p
def KR (Q:QT):KT:=Zet pg fn.results.toList Q
abbrev T4:=Nat→Nat→Nat→Nat→Pt→Nat→Nat→Bool→Int→Int→Zaa→Prop
def E4 (R4:T4) (env:Env) (h:Zaa):Prop:=Zbx 2 env fun v env=>Zfw v fun a=>Zbf a fun i2 o2=>Zbx 3 env fun v env=>Zfw v fun a=>Zbf a fun i3 o3=>Zbx 48 env fun v env=>xSl v fun a48 n48 c48 e48=>Zbx 49 env fun v env=>Zdz .i64 v fun x49=>Zbx 50 env fun v env=>Zdz .i64 v fun x50=>Ziy env (R4 i2 o2 i3 o3 a48 n48 c48 e48 x49 x50 h)
theorem Zfc {R4:T4} {env:Env} {h:Zaa} (hi:E4 R4 env h):∃ i2,∃ o2,∃ i3,∃ o3,∃ a48,∃ n48,∃ c48,∃ e48,∃ x49,∃ x50,env=[(2,.ptr (i2,o2)),(3,.ptr (i3,o3)),(48,.slice a48 n48 c48 e48),(49,.int .i64 x49),(50,.int .i64 x50)]∧R4 i2 o2 i3 o3 a48 n48 c48 e48 x49 x50 h:=by
 unfold E4 at hi
 have hi0:=hi
 clear hi
 obtain ⟨_,_,rfl,hi1⟩:=Zae hi0
 obtain ⟨a,rfl,hi2⟩:=Zbu hi1
 obtain ⟨i2,o2,rfl,hi3⟩:=Zbn hi2
 obtain ⟨_,_,rfl,hi4⟩:=Zae hi3
 obtain ⟨a,rfl,hi5⟩:=Zbu hi4
 obtain ⟨i3,o3,rfl,hi6⟩:=Zbn hi5
 obtain ⟨_,_,rfl,hi7⟩:=Zae hi6
 obtain ⟨a48,n48,c48,e48,rfl,hi8⟩:=Zbt hi7
 obtain ⟨_,_,rfl,hi9⟩:=Zae hi8
 obtain ⟨x49,rfl,hi10⟩:=Zat hi9
 obtain ⟨_,_,rfl,hi11⟩:=Zae hi10
 obtain ⟨x50,rfl,hi12⟩:=Zat hi11
 obtain ⟨rfl,hi13⟩:=Zbj hi12
 have hi:=hi13
 exact ⟨i2,o2,i3,o3,a48,n48,c48,e48,x49,x50,rfl,hi⟩
abbrev T9:=Nat→Nat→Nat→Nat→Pt→Nat→Nat→Bool→Int→Int→Pt→Nat→Nat→Bool→Int→Int→Zaa→Prop
def E9 (R9:T9) (env:Env) (h:Zaa):Prop:=Zbx 2 env fun v env=>Zfw v fun a=>Zbf a fun i2 o2=>Zbx 3 env fun v env=>Zfw v fun a=>Zbf a fun i3 o3=>Zbx 48 env fun v env=>xSl v fun a48 n48 c48 e48=>Zbx 49 env fun v env=>Zdz .i64 v fun x49=>Zbx 50 env fun v env=>Zdz .i64 v fun x50=>Zbx 74 env fun v env=>xSl v fun a74 n74 c74 e74=>Zbx 75 env fun v env=>Zdz .i64 v fun x75=>Zbx 76 env fun v env=>Zdz .i64 v fun x76=>Ziy env (R9 i2 o2 i3 o3 a48 n48 c48 e48 x49 x50 a74 n74 c74 e74 x75 x76 h)
theorem Ykg {R9:T9} {env:Env} {h:Zaa} (hi:E9 R9 env h):∃ i2,∃ o2,∃ i3,∃ o3,∃ a48,∃ n48,∃ c48,∃ e48,∃ x49,∃ x50,∃ a74,∃ n74,∃ c74,∃ e74,∃ x75,∃ x76,env=[(2,.ptr (i2,o2)),(3,.ptr (i3,o3)),(48,.slice a48 n48 c48 e48),(49,.int .i64 x49),(50,.int .i64 x50),(74,.slice a74 n74 c74 e74),(75,.int .i64 x75),(76,.int .i64 x76)]∧R9 i2 o2 i3 o3 a48 n48 c48 e48 x49 x50 a74 n74 c74 e74 x75 x76 h:=by
 unfold E9 at hi
 have hi0:=hi
 clear hi
 obtain ⟨_,_,rfl,hi1⟩:=Zae hi0
 obtain ⟨a,rfl,hi2⟩:=Zbu hi1
 obtain ⟨i2,o2,rfl,hi3⟩:=Zbn hi2
 obtain ⟨_,_,rfl,hi4⟩:=Zae hi3
 obtain ⟨a,rfl,hi5⟩:=Zbu hi4
 obtain ⟨i3,o3,rfl,hi6⟩:=Zbn hi5
 obtain ⟨_,_,rfl,hi7⟩:=Zae hi6
 obtain ⟨a48,n48,c48,e48,rfl,hi8⟩:=Zbt hi7
 obtain ⟨_,_,rfl,hi9⟩:=Zae hi8
 obtain ⟨x49,rfl,hi10⟩:=Zat hi9
 obtain ⟨_,_,rfl,hi11⟩:=Zae hi10
 obtain ⟨x50,rfl,hi12⟩:=Zat hi11
 obtain ⟨_,_,rfl,hi13⟩:=Zae hi12
 obtain ⟨a74,n74,c74,e74,rfl,hi14⟩:=Zbt hi13
 obtain ⟨_,_,rfl,hi15⟩:=Zae hi14
 obtain ⟨x75,rfl,hi16⟩:=Zat hi15
 obtain ⟨_,_,rfl,hi17⟩:=Zae hi16
 obtain ⟨x76,rfl,hi18⟩:=Zat hi17
 obtain ⟨rfl,hi19⟩:=Zbj hi18
 have hi:=hi19
 exact ⟨i2,o2,i3,o3,a48,n48,c48,e48,x49,x50,a74,n74,c74,e74,x75,x76,rfl,hi⟩
def K0 (Q:QT):KT:=andThen (fun env' h'=>(match kp.find 4000015 with | some ks=>Den pg fn.ntmps (C [1,1,1]) (env'.keep ks) h' (KR Q) | none=>den pg fn.ntmps kp (C [1,1,1]) env' h' (KR Q))) (KR Q)
def K1 (Q:QT):KT:=Zcg 0 (K0 Q)
def K2 (Q:QT):KT:=left kp 4 (K1 Q)
def K3 (Q:QT) (R4:T4):KT:=rnd ((kp.find 1000004).getD []) (E4 R4) (K2 Q)
def K4 (Q:QT) (R4:T4):KT:=andThen (fun env' h'=>(match kp.find 4000014 with | some ks=>Den pg fn.ntmps (C [1,1,0,1,0,0,1,1,1]) (env'.keep ks) h' (K3 Q R4) | none=>den pg fn.ntmps kp (C [1,1,0,1,0,0,1,1,1]) env' h' (K3 Q R4))) (K3 Q R4)
def K5 (Q:QT) (R4:T4):KT:=Zcg 1 (K4 Q R4)
def K6 (Q:QT) (R4:T4):KT:=Zcg 2 (K5 Q R4)
def K7 (Q:QT) (R4:T4):KT:=left kp 9 (K6 Q R4)
def K8 (Q:QT) (R4:T4) (R9:T9):KT:=rnd ((kp.find 1000009).getD []) (E9 R9) (K7 Q R4)
def J3 (Q:QT) (i3 o3 i2 o2:Nat) (h:Zaa):Prop:=Den pg fn.ntmps (C [1,1]) [(3,.ptr (i3,o3)),(2,.ptr (i2,o2))] h (KR Q)
def L4 (Q:QT) (i2 o2 i3 o3:Nat) (a48:Pt) (n48 c48:Nat) (e48:Bool) (x49 x50:Int) (h:Zaa):Prop:=Zdt (Den pg fn.ntmps (C [1,1,0,1,0,0])) ((kp.find 1000004).getD []) (K2 Q) [(2,.ptr (i2,o2)),(3,.ptr (i3,o3)),(48,.slice a48 n48 c48 e48),(49,.int .i64 x49),(50,.int .i64 x50)] h
def J8 (Q:QT) (R4:T4) (i6 o6 i2 o2 i3 o3:Nat) (a48:Pt) (n48 c48:Nat) (e48:Bool) (x49 x50:Int) (h:Zaa):Prop:=Den pg fn.ntmps (C [1,1,0,1,0,0,1,1,0,0,1,1]) [(6,.ptr (i6,o6)),(2,.ptr (i2,o2)),(3,.ptr (i3,o3)),(48,.slice a48 n48 c48 e48),(49,.int .i64 x49),(50,.int .i64 x50)] h (K5 Q R4)
def Zrs (Q:QT) (h:Zaa):Prop:=At (K1 Q) (.exit 0) [(4,.undef)] h
def L9 (Q:QT) (R4:T4) (i2 o2 i3 o3:Nat) (a48:Pt) (n48 c48:Nat) (e48:Bool) (x49 x50:Int) (a74:Pt) (n74 c74:Nat) (e74:Bool) (x75 x76:Int) (h:Zaa):Prop:=Zdt (Den pg fn.ntmps (C [1,1,0,1,0,0,1,1,0,0,1,1,1,0,0])) ((kp.find 1000009).getD []) (K7 Q R4) [(2,.ptr (i2,o2)),(3,.ptr (i3,o3)),(48,.slice a48 n48 c48 e48),(49,.int .i64 x49),(50,.int .i64 x50),(74,.slice a74 n74 c74 e74),(75,.int .i64 x75),(76,.int .i64 x76)] h
def Yqc (Q:QT) (R4:T4) (x50 x49:Int) (a48:Pt) (n48 c48:Nat) (e48:Bool) (i2 o2 i3 o3:Nat) (h:Zaa):Prop:=At (K6 Q R4) (.exit 2) [(50,.int .i64 x50),(49,.int .i64 x49),(48,.slice a48 n48 c48 e48),(2,.ptr (i2,o2)),(3,.ptr (i3,o3)),(4,.undef)] h
def J14 (Q:QT) (R4:T4) (x50 x49:Int) (a48:Pt) (n48 c48:Nat) (e48:Bool) (i2 o2 i3 o3:Nat) (h:Zaa):Prop:=Den pg fn.ntmps (C [1,1,0,1,0,0,1,1,1]) [(50,.int .i64 x50),(49,.int .i64 x49),(48,.slice a48 n48 c48 e48),(2,.ptr (i2,o2)),(3,.ptr (i3,o3))] h (K3 Q R4)
theorem J3i (Q:QT) (i3 o3 i2 o2:Nat) (h:Zaa) (ht :
 xSl (Zaf h (.ptr (i3,o3 + 2))) fun A B C D=>L4 Q i2 o2 i3 o3 A B C D (((B:Nat):Int)) 0 h):J3 Q i3 o3 i2 o2 h:=
 Zax (kp:=kp) (cast (by kernel_rfl) ht)
def L4t (Q:QT) (R4:T4) (i2 o2 i3 o3:Nat) (a48:Pt) (n48 c48:Nat) (e48:Bool) (x49 x50:Int) (h:Zaa):Prop:=
 bcase (decide ((x50:Int) < x49)) ((0≤(x50:Int)∧(x50:Int) < (n48:Nat))∧(Zbf a48 fun A B=>Zcy (Zbo h (.ptr (A,B + (Int.toNat x50) * 2)) 2) fun A=>Zam A fun A B=>Zcb A fun A=>Zam B fun B C=>Zcb B fun B=>Zcq C (Zdn (h ++ [.cells Zbl [.str [],.str []] false]) fun C=>Zcf (Zbd C (.ptr (h.length,0)) [.str A,.str B]) fun A=>xSl (Zaf A (.ptr (i2,o2 + 0))) fun B C D E=>Zcb (Zaf A (.ptr (h.length,0 + 0))) fun F=>Zad pg Zjf [.slice B C D E,.str F] A fun A B=>
 Zbw A fun A=>bcase (!A) (Q (.bool false) B) (Zcb (Zaf B (.ptr (h.length,0 + 1))) fun A=>Zad pg Zem [.str A] B fun A B=>
 Zbw A fun A=>bcase (!A) (Q (.bool false) B) (Zcb (Zaf B (.ptr (h.length,0 + 1))) fun A=>bcase (decide (((((List.length A:Nat):Int)):Int) > 20)) (Q (.bool false) B) (J8 Q R4 h.length 0 i2 o2 i3 o3 a48 n48 c48 e48 x49 x50 B)))))) (Zrs Q h)
theorem Zny (Q:QT) (R4:T4) (i2 o2 i3 o3:Nat) (a48:Pt) (n48 c48:Nat) (e48:Bool) (x49 x50:Int) (h:Zaa) (ht:L4t Q R4 i2 o2 i3 o3 a48 n48 c48 e48 x49 x50 h):Den pg fn.ntmps (C [1,1,0,1,0,0]) [(2,.ptr (i2,o2)),(3,.ptr (i3,o3)),(48,.slice a48 n48 c48 e48),(49,.int .i64 x49),(50,.int .i64 x50)] h (K3 Q R4):=
 Zax (kp:=kp) (cast (by kernel_rfl) ht)
theorem L4ind (Q:QT) (i2 o2 i3 o3:Nat) (a48:Pt) (n48 c48:Nat) (e48:Bool) (x49:Int) {G:Type} (J:G→Int→Zaa→Prop) (m:G→Nat)
 (hr:∀ (g:G) (x50:Int) (h:Zaa),J g x50 h→∀ (R4:T4),(∀ g' (x50:Int) (h:Zaa),m g' < m g→J g' x50 h→R4 i2 o2 i3 o3 a48 n48 c48 e48 x49 x50 h)→L4t Q R4 i2 o2 i3 o3 a48 n48 c48 e48 x49 x50 h)
 (g:G) (x50:Int) (h:Zaa) (hj:J g x50 h):L4 Q i2 o2 i3 o3 a48 n48 c48 e48 x49 x50 h:=by
 let P:=fun (K:Int→Zaa→Prop) i2' o2' i3' o3' a48' n48' c48' e48' x49' x50 h=>i2=i2'∧o2=o2'∧i3=i3'∧o3=o3'∧a48=a48'∧n48=n48'∧c48=c48'∧e48=e48'∧x49=x49'∧K x50 h
 refine Zdt.inv2 (fun g=>E4 (P (J g))) (fun g=>E4 (P fun x50 h=>∃ g',m g' < m g∧J g' x50 h)) m ?_ ?_ g ⟨rfl,rfl,rfl,rfl,rfl,rfl,rfl,rfl,rfl,hj⟩
 ·intro g env h hi
  obtain ⟨i2',o2',i3',o3',a48',n48',c48',e48',x49',x50,rfl,rfl,rfl,rfl,rfl,rfl,rfl,rfl,rfl,rfl,hj⟩:=Zfc hi
  exact Zny Q _ i2 o2 i3 o3 a48 n48 c48 e48 x49 x50 h (hr g x50 h hj (P fun x50 h=>∃ g',m g' < m g∧J g' x50 h) fun g' x50 h hlt hj=>⟨rfl,rfl,rfl,rfl,rfl,rfl,rfl,rfl,rfl,g',hlt,hj⟩)
 ·intro g env h hi
  obtain ⟨i2',o2',i3',o3',a48',n48',c48',e48',x49',x50,rfl,rfl,rfl,rfl,rfl,rfl,rfl,rfl,rfl,rfl,g',hlt,hj⟩:=Zfc hi
  exact ⟨g',hlt,rfl,rfl,rfl,rfl,rfl,rfl,rfl,rfl,rfl,hj⟩
theorem J8i (Q:QT) (R4:T4) (i6 o6 i2 o2 i3 o3:Nat) (a48:Pt) (n48 c48:Nat) (e48:Bool) (x49 x50:Int) (h:Zaa) (ht :
 Zcb (Zaf h (.ptr (i6,o6 + 1))) fun A=>Zad pg Zpi [.str A] h fun A B=>
 xSl A fun A C D E=>L9 Q R4 i2 o2 i3 o3 a48 n48 c48 e48 x49 x50 A C D E (((C:Nat):Int)) 0 B):J8 Q R4 i6 o6 i2 o2 i3 o3 a48 n48 c48 e48 x49 x50 h:=
 Zax (kp:=kp) (cast (by kernel_rfl) ht)
theorem A4x0i (Q:QT) (h:Zaa) (ht :
 Q (.bool true) h):Zrs Q h:=
 At.mk (cast (by kernel_rfl) ht)
def L9t (Q:QT) (R4:T4) (R9:T9) (i2 o2 i3 o3:Nat) (a48:Pt) (n48 c48:Nat) (e48:Bool) (x49 x50:Int) (a74:Pt) (n74 c74:Nat) (e74:Bool) (x75 x76:Int) (h:Zaa):Prop:=
 bcase (decide ((x76:Int) < x75)) ((0≤(x76:Int)∧(x76:Int) < (n74:Nat))∧(Zbf a74 fun A B=>Zcb (Zaf h (.ptr (A,B + (Int.toNat x76) * 1))) fun A=>Zcb (Zaf h (.ptr (i3,o3 + 0 + 1))) fun B=>Zad pg Zeq [.str B,.str A] h fun A B=>
 Zbw A fun A=>bcase (!A) (Q (.bool false) B) (R9 i2 o2 i3 o3 a48 n48 c48 e48 x49 x50 a74 n74 c74 e74 x75 (IntKind.wrap .i64 (x76 + 1)) B))) (Yqc Q R4 x50 x49 a48 n48 c48 e48 i2 o2 i3 o3 h)
theorem Ype (Q:QT) (R4:T4) (R9:T9) (i2 o2 i3 o3:Nat) (a48:Pt) (n48 c48:Nat) (e48:Bool) (x49 x50:Int) (a74:Pt) (n74 c74:Nat) (e74:Bool) (x75 x76:Int) (h:Zaa) (ht:L9t Q R4 R9 i2 o2 i3 o3 a48 n48 c48 e48 x49 x50 a74 n74 c74 e74 x75 x76 h):Den pg fn.ntmps (C [1,1,0,1,0,0,1,1,0,0,1,1,1,0,0]) [(2,.ptr (i2,o2)),(3,.ptr (i3,o3)),(48,.slice a48 n48 c48 e48),(49,.int .i64 x49),(50,.int .i64 x50),(74,.slice a74 n74 c74 e74),(75,.int .i64 x75),(76,.int .i64 x76)] h (K8 Q R4 R9):=
 Zax (kp:=kp) (cast (by kernel_rfl) ht)
theorem L9ind (Q:QT) (R4:T4) (i2 o2 i3 o3:Nat) (a48:Pt) (n48 c48:Nat) (e48:Bool) (x49 x50:Int) (a74:Pt) (n74 c74:Nat) (e74:Bool) (x75:Int) {G:Type} (J:G→Int→Zaa→Prop) (m:G→Nat)
 (hr:∀ (g:G) (x76:Int) (h:Zaa),J g x76 h→∀ (R9:T9),(∀ g' (x76:Int) (h:Zaa),m g' < m g→J g' x76 h→R9 i2 o2 i3 o3 a48 n48 c48 e48 x49 x50 a74 n74 c74 e74 x75 x76 h)→L9t Q R4 R9 i2 o2 i3 o3 a48 n48 c48 e48 x49 x50 a74 n74 c74 e74 x75 x76 h)
 (g:G) (x76:Int) (h:Zaa) (hj:J g x76 h):L9 Q R4 i2 o2 i3 o3 a48 n48 c48 e48 x49 x50 a74 n74 c74 e74 x75 x76 h:=by
 let P:=fun (K:Int→Zaa→Prop) i2' o2' i3' o3' a48' n48' c48' e48' x49' x50' a74' n74' c74' e74' x75' x76 h=>i2=i2'∧o2=o2'∧i3=i3'∧o3=o3'∧a48=a48'∧n48=n48'∧c48=c48'∧e48=e48'∧x49=x49'∧x50=x50'∧a74=a74'∧n74=n74'∧c74=c74'∧e74=e74'∧x75=x75'∧K x76 h
 refine Zdt.inv2 (fun g=>E9 (P (J g))) (fun g=>E9 (P fun x76 h=>∃ g',m g' < m g∧J g' x76 h)) m ?_ ?_ g ⟨rfl,rfl,rfl,rfl,rfl,rfl,rfl,rfl,rfl,rfl,rfl,rfl,rfl,rfl,rfl,hj⟩
 ·intro g env h hi
  obtain ⟨i2',o2',i3',o3',a48',n48',c48',e48',x49',x50',a74',n74',c74',e74',x75',x76,rfl,rfl,rfl,rfl,rfl,rfl,rfl,rfl,rfl,rfl,rfl,rfl,rfl,rfl,rfl,rfl,hj⟩:=Ykg hi
  exact Ype Q R4 (P fun x76 h=>∃ g',m g' < m g∧J g' x76 h) i2 o2 i3 o3 a48 n48 c48 e48 x49 x50 a74 n74 c74 e74 x75 x76 h (hr g x76 h hj (P fun x76 h=>∃ g',m g' < m g∧J g' x76 h) fun g' x76 h hlt hj=>⟨rfl,rfl,rfl,rfl,rfl,rfl,rfl,rfl,rfl,rfl,rfl,rfl,rfl,rfl,rfl,g',hlt,hj⟩)
 ·intro g env h hi
  obtain ⟨i2',o2',i3',o3',a48',n48',c48',e48',x49',x50',a74',n74',c74',e74',x75',x76,rfl,rfl,rfl,rfl,rfl,rfl,rfl,rfl,rfl,rfl,rfl,rfl,rfl,rfl,rfl,rfl,g',hlt,hj⟩:=Ykg hi
  exact ⟨g',hlt,rfl,rfl,rfl,rfl,rfl,rfl,rfl,rfl,rfl,rfl,rfl,rfl,rfl,rfl,rfl,hj⟩
theorem A9x2i (Q:QT) (R4:T4) (x50 x49:Int) (a48:Pt) (n48 c48:Nat) (e48:Bool) (i2 o2 i3 o3:Nat) (h:Zaa) (ht :
 J14 Q R4 x50 x49 a48 n48 c48 e48 i2 o2 i3 o3 h):Yqc Q R4 x50 x49 a48 n48 c48 e48 i2 o2 i3 o3 h:=
 At.mk (cast (by kernel_rfl) ht)
theorem J14i (Q:QT) (R4:T4) (x50 x49:Int) (a48:Pt) (n48 c48:Nat) (e48:Bool) (i2 o2 i3 o3:Nat) (h:Zaa) (ht :
 R4 i2 o2 i3 o3 a48 n48 c48 e48 x49 (IntKind.wrap .i64 (x50 + 1)) h):J14 Q R4 x50 x49 a48 n48 c48 e48 i2 o2 i3 o3 h:=
 Zax (kp:=kp) (cast (by kernel_rfl) ht)
theorem call (a0x0:Pt) (n0x0 c0x0:Nat) (e0x0:Bool) (a0x1:Pt) (n0x1 c0x1:Nat) (e0x1:Bool) (x1x0 x1x1:List Nat) (a1x2:Pt) (n1x2 c1x2:Nat) (e1x2:Bool) (h:Zaa) (Q:QT) (ht :
 Zdn (h ++ [.cells Zao [.slice a0x0 n0x0 c0x0 e0x0,.slice a0x1 n0x1 c0x1 e0x1] false]) fun A=>Zdn (A ++ [.cells Zac [.str x1x0,.str x1x1,.slice a1x2 n1x2 c1x2 e1x2] false]) fun B=>Zcy (Zbo B (.ptr (h.length,0)) 2) fun C=>Zam C fun C D=>xSl C fun C E F G=>Zam D fun D H=>xSl D fun D I J K=>Zcq H (Zad pg Zhj [.agg [.slice C E F G,.slice D I J K]] B fun B C=>
 Zbw B fun B=>bcase (!B) (Q (.bool false) C) (xSl (Zaf C (.ptr (h.length,0 + 0))) fun B D E F=>Zcb (Zaf C (.ptr (A.length,0 + 0 + 0))) fun G=>Zad pg Zjf [.slice B D E F,.str G] C fun B C=>
 Zbw B fun B=>bcase (!B) (Q (.bool false) C) (Zcb (Zaf C (.ptr (A.length,0 + 0 + 1))) fun B=>Zad pg Zem [.str B] C fun B C=>
 Zbw B fun B=>bcase (!B) (Q (.bool false) C) (Zcb (Zaf C (.ptr (A.length,0 + 0 + 1))) fun B=>bcase (decide (((((List.length B:Nat):Int)):Int) > 20)) (Q (.bool false) C) (Zcb (Zaf C (.ptr (A.length,0 + 0 + 1))) fun B=>Zad pg Zde [.str B] C fun B C=>
 Zbw B fun B=>bcase B (Q (.bool false) C) (xSl (Zaf C (.ptr (A.length,0 + 2))) fun B B D D=>bcase (decide (((((B:Nat):Int)):Int) > 3)) (Q (.bool false) C) (J3 Q A.length 0 h.length 0 C)))))))):Zad pg Zgu [.agg [.slice a0x0 n0x0 c0x0 e0x0,.slice a0x1 n0x1 c0x1 e0x1],.agg [.str x1x0,.str x1x1,.slice a1x2 n1x2 c1x2 e1x2]] h Q:=
 Zad.of_body kp (c:=cod fn) (fn:=fn) Go.Proofs.Try.func94 (by kernel_rfl) (by kernel_rfl) (Nat.le_of_ble_eq_true (by kernel_rfl))
  (cast (by kernel_rfl) ht)
end Zcd
end Go.Sim

set_option maxRecDepth 100000
set_option maxHeartbeats 0
set_option linter.unusedVariables false
namespace Go.Sim
open Go Go.RowKit
namespace Zch
noncomputable abbrev fn:Func:=Go.Proofs.Try.f85
def kp:Zce:=[(3000002,[0,2]),(1000002,[0,6,7,8]),(2000004,[31,4,0,3,6,7,8]),(4000006,[4,0,3,6,7,8]),(3000007,[8,7,6,0,2]),(1000007,[0,3,4,6,7,8,34,35]),(2000009,[65,35,34,0,3,4,8,7,6]),(4000011,[35,34,0,3,4,8,7,6]),(4000012,[8,7,6,0])]
noncomputable def C (p:List Nat):Code:=(cod fn).sub p
def KR (Q:QT):KT:=Zet pg fn.results.toList Q
abbrev T2:=Pt→Nat→Nat→Bool→Pt→Nat→Nat→Bool→Int→Int→Zaa→Prop
def E2 (R2:T2) (env:Env) (h:Zaa):Prop:=Zbx 0 env fun v env=>xSl v fun a0 n0 c0 e0=>Zbx 6 env fun v env=>xSl v fun a6 n6 c6 e6=>Zbx 7 env fun v env=>Zdz .i64 v fun x7=>Zbx 8 env fun v env=>Zdz .i64 v fun x8=>Ziy env (R2 a0 n0 c0 e0 a6 n6 c6 e6 x7 x8 h)
theorem Zda {R2:T2} {env:Env} {h:Zaa} (hi:E2 R2 env h):∃ a0,∃ n0,∃ c0,∃ e0,∃ a6,∃ n6,∃ c6,∃ e6,∃ x7,∃ x8,env=[(0,.slice a0 n0 c0 e0),(6,.slice a6 n6 c6 e6),(7,.int .i64 x7),(8,.int .i64 x8)]∧R2 a0 n0 c0 e0 a6 n6 c6 e6 x7 x8 h:=by
 unfold E2 at hi
 repeat ((first | (have k:=Zae hi; clear hi; obtain ⟨_,_,e,hi⟩:=k) | (have k:=Zbt hi; clear hi; obtain ⟨_,_,_,_,e,hi⟩:=k) | (have k:=Zat hi; clear hi; obtain ⟨_,e,hi⟩:=k)); subst e)
 obtain ⟨rfl,hi⟩:=Zbj hi
 exact ⟨_,_,_,_,_,_,_,_,_,_,rfl,hi⟩
abbrev T7:=Pt→Nat→Nat→Bool→Int→Nat→Nat→Pt→Nat→Nat→Bool→Int→Int→Int→Int→Zaa→Prop
def E7 (R7:T7) (env:Env) (h:Zaa):Prop:=Zbx 0 env fun v env=>xSl v fun a0 n0 c0 e0=>Zbx 3 env fun v env=>Zdz .i64 v fun x3=>Zbx 4 env fun v env=>Zfw v fun a=>Zbf a fun i4 o4=>Zbx 6 env fun v env=>xSl v fun a6 n6 c6 e6=>Zbx 7 env fun v env=>Zdz .i64 v fun x7=>Zbx 8 env fun v env=>Zdz .i64 v fun x8=>Zbx 34 env fun v env=>Zdz .i64 v fun x34=>Zbx 35 env fun v env=>Zdz .i64 v fun x35=>Ziy env (R7 a0 n0 c0 e0 x3 i4 o4 a6 n6 c6 e6 x7 x8 x34 x35 h)
theorem Zrj {R7:T7} {env:Env} {h:Zaa} (hi:E7 R7 env h):∃ a0,∃ n0,∃ c0,∃ e0,∃ x3,∃ i4,∃ o4,∃ a6,∃ n6,∃ c6,∃ e6,∃ x7,∃ x8,∃ x34,∃ x35,env=[(0,.slice a0 n0 c0 e0),(3,.int .i64 x3),(4,.ptr (i4,o4)),(6,.slice a6 n6 c6 e6),(7,.int .i64 x7),(8,.int .i64 x8),(34,.int .i64 x34),(35,.int .i64 x35)]∧R7 a0 n0 c0 e0 x3 i4 o4 a6 n6 c6 e6 x7 x8 x34 x35 h:=by
 unfold E7 at hi
 have hi0:=hi
 clear hi
 obtain ⟨_,_,rfl,hi1⟩:=Zae hi0
 obtain ⟨a0,n0,c0,e0,rfl,hi2⟩:=Zbt hi1
 obtain ⟨_,_,rfl,hi3⟩:=Zae hi2
 obtain ⟨x3,rfl,hi4⟩:=Zat hi3
 obtain ⟨_,_,rfl,hi5⟩:=Zae hi4
 obtain ⟨a,rfl,hi6⟩:=Zbu hi5
 obtain ⟨i4,o4,rfl,hi7⟩:=Zbn hi6
 obtain ⟨_,_,rfl,hi8⟩:=Zae hi7
 obtain ⟨a6,n6,c6,e6,rfl,hi9⟩:=Zbt hi8
 obtain ⟨_,_,rfl,hi10⟩:=Zae hi9
 obtain ⟨x7,rfl,hi11⟩:=Zat hi10
 obtain ⟨_,_,rfl,hi12⟩:=Zae hi11
 obtain ⟨x8,rfl,hi13⟩:=Zat hi12
 obtain ⟨_,_,rfl,hi14⟩:=Zae hi13
 obtain ⟨x34,rfl,hi15⟩:=Zat hi14
 obtain ⟨_,_,rfl,hi16⟩:=Zae hi15
 obtain ⟨x35,rfl,hi17⟩:=Zat hi16
 obtain ⟨rfl,hi18⟩:=Zbj hi17
 have hi:=hi18
 exact ⟨a0,n0,c0,e0,x3,i4,o4,a6,n6,c6,e6,x7,x8,x34,x35,rfl,hi⟩
def K0 (Q:QT):KT:=andThen (fun env' h'=>(match kp.find 4000013 with | some ks=>Den pg fn.ntmps (C [1,1]) (env'.keep ks) h' (KR Q) | none=>den pg fn.ntmps kp (C [1,1]) env' h' (KR Q))) (KR Q)
def K1 (Q:QT):KT:=Zcg 0 (K0 Q)
def K2 (Q:QT):KT:=left kp 2 (K1 Q)
def K3 (Q:QT) (R2:T2):KT:=rnd ((kp.find 1000002).getD []) (E2 R2) (K2 Q)
def K4 (Q:QT) (R2:T2):KT:=andThen (fun env' h'=>(match kp.find 4000012 with | some ks=>Den pg fn.ntmps (C [1,0,1,0,0,1,1,1]) (env'.keep ks) h' (K3 Q R2) | none=>den pg fn.ntmps kp (C [1,0,1,0,0,1,1,1]) env' h' (K3 Q R2))) (K3 Q R2)
def K5 (Q:QT) (R2:T2):KT:=Zcg 1 (K4 Q R2)
def K6 (Q:QT) (R2:T2):KT:=Zcg 2 (K5 Q R2)
def K7 (Q:QT) (R2:T2):KT:=left kp 7 (K6 Q R2)
def K8 (Q:QT) (R2:T2) (R7:T7):KT:=rnd ((kp.find 1000007).getD []) (E7 R7) (K7 Q R2)
def L2 (Q:QT) (a0:Pt) (n0 c0:Nat) (e0:Bool) (a6:Pt) (n6 c6:Nat) (e6:Bool) (x7 x8:Int) (h:Zaa):Prop:=Zdt (Den pg fn.ntmps (C [1,0,1,0,0])) ((kp.find 1000002).getD []) (K2 Q) [(0,.slice a0 n0 c0 e0),(6,.slice a6 n6 c6 e6),(7,.int .i64 x7),(8,.int .i64 x8)] h
def J6 (Q:QT) (R2:T2) (i4 o4:Nat) (a0:Pt) (n0 c0:Nat) (e0:Bool) (x3:Int) (a6:Pt) (n6 c6:Nat) (e6:Bool) (x7 x8:Int) (h:Zaa):Prop:=Den pg fn.ntmps (C [1,0,1,0,0,1,1,0,0,1,1]) [(4,.ptr (i4,o4)),(0,.slice a0 n0 c0 e0),(3,.int .i64 x3),(6,.slice a6 n6 c6 e6),(7,.int .i64 x7),(8,.int .i64 x8)] h (K5 Q R2)
def A2x0 (Q:QT) (a0:Pt) (n0 c0:Nat) (e0:Bool) (h:Zaa):Prop:=At (K1 Q) (.exit 0) [(0,.slice a0 n0 c0 e0),(2,.undef)] h
def L7 (Q:QT) (R2:T2) (a0:Pt) (n0 c0:Nat) (e0:Bool) (x3:Int) (i4 o4:Nat) (a6:Pt) (n6 c6:Nat) (e6:Bool) (x7 x8 x34 x35:Int) (h:Zaa):Prop:=Zdt (Den pg fn.ntmps (C [1,0,1,0,0,1,1,0,0,1,1,1,0,0])) ((kp.find 1000007).getD []) (K7 Q R2) [(0,.slice a0 n0 c0 e0),(3,.int .i64 x3),(4,.ptr (i4,o4)),(6,.slice a6 n6 c6 e6),(7,.int .i64 x7),(8,.int .i64 x8),(34,.int .i64 x34),(35,.int .i64 x35)] h
def J11 (Q:QT) (R2:T2) (R7:T7) (x35 x34:Int) (a0:Pt) (n0 c0:Nat) (e0:Bool) (x3:Int) (i4 o4:Nat) (x8 x7:Int) (a6:Pt) (n6 c6:Nat) (e6:Bool) (h:Zaa):Prop:=Den pg fn.ntmps (C [1,0,1,0,0,1,1,0,0,1,1,1,0,0,1,1,1]) [(35,.int .i64 x35),(34,.int .i64 x34),(0,.slice a0 n0 c0 e0),(3,.int .i64 x3),(4,.ptr (i4,o4)),(8,.int .i64 x8),(7,.int .i64 x7),(6,.slice a6 n6 c6 e6)] h (K8 Q R2 R7)
def Ynl (Q:QT) (R2:T2) (x8 x7:Int) (a6:Pt) (n6 c6:Nat) (e6:Bool) (a0:Pt) (n0 c0:Nat) (e0:Bool) (h:Zaa):Prop:=At (K6 Q R2) (.exit 2) [(8,.int .i64 x8),(7,.int .i64 x7),(6,.slice a6 n6 c6 e6),(0,.slice a0 n0 c0 e0),(2,.undef)] h
def J12 (Q:QT) (R2:T2) (x8 x7:Int) (a6:Pt) (n6 c6:Nat) (e6:Bool) (a0:Pt) (n0 c0:Nat) (e0:Bool) (h:Zaa):Prop:=Den pg fn.ntmps (C [1,0,1,0,0,1,1,1]) [(8,.int .i64 x8),(7,.int .i64 x7),(6,.slice a6 n6 c6 e6),(0,.slice a0 n0 c0 e0)] h (K3 Q R2)
def L2t (Q:QT) (R2:T2) (a0:Pt) (n0 c0:Nat) (e0:Bool) (a6:Pt) (n6 c6:Nat) (e6:Bool) (x7 x8:Int) (h:Zaa):Prop:=
 bcase (decide ((x8:Int) < x7)) ((0≤(x8:Int)∧(x8:Int) < (n6:Nat))∧(Zbf a6 fun A B=>Zcy (Zbo h (.ptr (A,B + (Int.toNat x8) * 2)) 2) fun A=>Zam A fun A B=>Zcb A fun A=>Zam B fun B C=>Zcb B fun B=>Zcq C (Zdn (h ++ [.cells Zbh [.str [],.str []] false]) fun C=>Zcf (Zbd C (.ptr (h.length,0)) [.str A,.str B]) fun A=>Zcb (Zaf A (.ptr (h.length,0 + 0))) fun B=>Zad pg Zjg [.str B] A fun A B=>
 Zbw A fun A=>bcase (!A) ((Zaf B (.tup [])=Zaf B (.tup []))∧Q (.bool false) B) (bcase (decide ((x8:Int) > 0)) ((0≤(IntKind.wrap .i64 (x8 - 1):Int)∧(IntKind.wrap .i64 (x8 - 1):Int) < (n0:Nat))∧(Zbf a0 fun A C=>Zcb (Zaf B (.ptr (A,C + (Int.toNat (IntKind.wrap .i64 (x8 - 1))) * 2 + 0))) fun D=>Zcb (Zaf B (.ptr (h.length,0 + 0))) fun E=>(Zaf B (.ptr (A,C + (Int.toNat (IntKind.wrap .i64 (x8 - 1))) * 2 + 0))=Zaf B (.ptr (A,C + (Int.toNat (IntKind.wrap .i64 (x8 - 1))) * 2 + 0)))∧bcase (!Zdy D E) (Q (.bool false) B) (J6 Q R2 h.length 0 a0 n0 c0 e0 x8 a6 n6 c6 e6 x7 x8 B))) ((Zaf B (.tup [])=Zaf B (.tup []))∧J6 Q R2 h.length 0 a0 n0 c0 e0 x8 a6 n6 c6 e6 x7 x8 B))))) (A2x0 Q a0 n0 c0 e0 h)
theorem Zhm (Q:QT) (R2:T2) (a0:Pt) (n0 c0:Nat) (e0:Bool) (a6:Pt) (n6 c6:Nat) (e6:Bool) (x7 x8:Int) (h:Zaa) (ht:L2t Q R2 a0 n0 c0 e0 a6 n6 c6 e6 x7 x8 h):Den pg fn.ntmps (C [1,0,1,0,0]) [(0,.slice a0 n0 c0 e0),(6,.slice a6 n6 c6 e6),(7,.int .i64 x7),(8,.int .i64 x8)] h (K3 Q R2):=
 Zax (kp:=kp) (cast (by kernel_rfl) ht)
theorem L2ind (Q:QT) (a0:Pt) (n0 c0:Nat) (e0:Bool) (a6:Pt) (n6 c6:Nat) (e6:Bool) (x7:Int) {G:Type} (J:G→Int→Zaa→Prop) (m:G→Nat)
 (hr:∀ (g:G) (x8:Int) (h:Zaa),J g x8 h→∀ (R2:T2),(∀ g' (x8:Int) (h:Zaa),m g' < m g→J g' x8 h→R2 a0 n0 c0 e0 a6 n6 c6 e6 x7 x8 h)→L2t Q R2 a0 n0 c0 e0 a6 n6 c6 e6 x7 x8 h)
 (g:G) (x8:Int) (h:Zaa) (hj:J g x8 h):L2 Q a0 n0 c0 e0 a6 n6 c6 e6 x7 x8 h:=by
 let P:=fun (K:Int→Zaa→Prop) a0' n0' c0' e0' a6' n6' c6' e6' x7' x8 h=>a0=a0'∧n0=n0'∧c0=c0'∧e0=e0'∧a6=a6'∧n6=n6'∧c6=c6'∧e6=e6'∧x7=x7'∧K x8 h
 refine Zdt.inv2 (fun g=>E2 (P (J g))) (fun g=>E2 (P fun x8 h=>∃ g',m g' < m g∧J g' x8 h)) m ?_ ?_ g ⟨rfl,rfl,rfl,rfl,rfl,rfl,rfl,rfl,rfl,hj⟩
 ·intro g env h hi
  obtain ⟨a0',n0',c0',e0',a6',n6',c6',e6',x7',x8,rfl,rfl,rfl,rfl,rfl,rfl,rfl,rfl,rfl,rfl,hj⟩:=Zda hi
  exact Zhm Q _ a0 n0 c0 e0 a6 n6 c6 e6 x7 x8 h (hr g x8 h hj (P fun x8 h=>∃ g',m g' < m g∧J g' x8 h) fun g' x8 h hlt hj=>⟨rfl,rfl,rfl,rfl,rfl,rfl,rfl,rfl,rfl,g',hlt,hj⟩)
 ·intro g env h hi
  obtain ⟨a0',n0',c0',e0',a6',n6',c6',e6',x7',x8,rfl,rfl,rfl,rfl,rfl,rfl,rfl,rfl,rfl,rfl,g',hlt,hj⟩:=Zda hi
  exact ⟨g',hlt,rfl,rfl,rfl,rfl,rfl,rfl,rfl,rfl,rfl,hj⟩
theorem J6i (Q:QT) (R2:T2) (i4 o4:Nat) (a0:Pt) (n0 c0:Nat) (e0:Bool) (x3:Int) (a6:Pt) (n6 c6:Nat) (e6:Bool) (x7 x8:Int) (h:Zaa) (ht :
 Zcb (Zaf h (.ptr (i4,o4 + 1))) fun A=>L7 Q R2 a0 n0 c0 e0 x3 i4 o4 a6 n6 c6 e6 x7 x8 (((List.length A:Nat):Int)) 0 h):J6 Q R2 i4 o4 a0 n0 c0 e0 x3 a6 n6 c6 e6 x7 x8 h:=
 Zax (kp:=kp) (cast (by kernel_rfl) ht)
theorem A2x0i (Q:QT) (a0:Pt) (n0 c0:Nat) (e0:Bool) (h:Zaa) (ht :
 Zad pg Zmu [.int .i64 (((n0:Nat):Int)),.int .i64 1,.int .i64 4] h fun A B=>
 Zbw A fun A=>Q (.bool A) B):A2x0 Q a0 n0 c0 e0 h:=
 At.mk (cast (by kernel_rfl) ht)
def L7t (Q:QT) (R2:T2) (R7:T7) (a0:Pt) (n0 c0:Nat) (e0:Bool) (x3:Int) (i4 o4:Nat) (a6:Pt) (n6 c6:Nat) (e6:Bool) (x7 x8 x34 x35:Int) (h:Zaa):Prop:=
 bcase (decide ((x35:Int) < x34)) (Zms a0 n0 c0 e0 2 none (some (.int .i64 x3)) none fun A=>xSl A fun A B C D=>Zcb (Zaf h (.ptr (i4,o4 + 1))) fun E=>(0≤(x35:Int)∧(x35:Int)≤IntKind.wrap .i64 (x35 + 1)∧(IntKind.wrap .i64 (x35 + 1):Int)≤(List.length E:Nat))∧(Zad pg Zhf [.agg [.slice A B C D,.slice none 0 0 true],.str (sub E x35 (IntKind.wrap .i64 (x35 + 1)))] h fun A B=>
 Zco .i64 A fun A=>bcase (decide ((A:Int) < 0)) ((Zaf B (.tup [])=Zaf B (.tup []))∧Q (.bool false) B) (bcase (decide ((x35:Int) > 0)) (Zcb (Zaf B (.ptr (i4,o4 + 1))) fun A=>Zjo A (IntKind.wrap .i64 (x35 - 1)) fun A=>Zcb (Zaf B (.ptr (i4,o4 + 1))) fun C=>(Zaf B (.ptr (i4,o4 + 1))=Zaf B (.ptr (i4,o4 + 1)))∧Zjo C x35 fun C=>bcase (decide (((((A:Nat):Int)):Int) ≥ (((C:Nat):Int)))) (Q (.bool false) B) (J11 Q R2 R7 x35 x34 a0 n0 c0 e0 x3 i4 o4 x8 x7 a6 n6 c6 e6 B)) ((Zaf B (.tup [])=Zaf B (.tup []))∧J11 Q R2 R7 x35 x34 a0 n0 c0 e0 x3 i4 o4 x8 x7 a6 n6 c6 e6 B)))) (Ynl Q R2 x8 x7 a6 n6 c6 e6 a0 n0 c0 e0 h)
theorem Yhe (Q:QT) (R2:T2) (R7:T7) (a0:Pt) (n0 c0:Nat) (e0:Bool) (x3:Int) (i4 o4:Nat) (a6:Pt) (n6 c6:Nat) (e6:Bool) (x7 x8 x34 x35:Int) (h:Zaa) (ht:L7t Q R2 R7 a0 n0 c0 e0 x3 i4 o4 a6 n6 c6 e6 x7 x8 x34 x35 h):Den pg fn.ntmps (C [1,0,1,0,0,1,1,0,0,1,1,1,0,0]) [(0,.slice a0 n0 c0 e0),(3,.int .i64 x3),(4,.ptr (i4,o4)),(6,.slice a6 n6 c6 e6),(7,.int .i64 x7),(8,.int .i64 x8),(34,.int .i64 x34),(35,.int .i64 x35)] h (K8 Q R2 R7):=
 Zax (kp:=kp) (cast (by kernel_rfl) ht)
theorem L7ind (Q:QT) (R2:T2) (a0:Pt) (n0 c0:Nat) (e0:Bool) (x3:Int) (i4 o4:Nat) (a6:Pt) (n6 c6:Nat) (e6:Bool) (x7 x8 x34:Int) {G:Type} (J:G→Int→Zaa→Prop) (m:G→Nat)
 (hr:∀ (g:G) (x35:Int) (h:Zaa),J g x35 h→∀ (R7:T7),(∀ g' (x35:Int) (h:Zaa),m g' < m g→J g' x35 h→R7 a0 n0 c0 e0 x3 i4 o4 a6 n6 c6 e6 x7 x8 x34 x35 h)→L7t Q R2 R7 a0 n0 c0 e0 x3 i4 o4 a6 n6 c6 e6 x7 x8 x34 x35 h)
 (g:G) (x35:Int) (h:Zaa) (hj:J g x35 h):L7 Q R2 a0 n0 c0 e0 x3 i4 o4 a6 n6 c6 e6 x7 x8 x34 x35 h:=by
 let P:=fun (K:Int→Zaa→Prop) a0' n0' c0' e0' x3' i4' o4' a6' n6' c6' e6' x7' x8' x34' x35 h=>a0=a0'∧n0=n0'∧c0=c0'∧e0=e0'∧x3=x3'∧i4=i4'∧o4=o4'∧a6=a6'∧n6=n6'∧c6=c6'∧e6=e6'∧x7=x7'∧x8=x8'∧x34=x34'∧K x35 h
 refine Zdt.inv2 (fun g=>E7 (P (J g))) (fun g=>E7 (P fun x35 h=>∃ g',m g' < m g∧J g' x35 h)) m ?_ ?_ g ⟨rfl,rfl,rfl,rfl,rfl,rfl,rfl,rfl,rfl,rfl,rfl,rfl,rfl,rfl,hj⟩
 ·intro g env h hi
  obtain ⟨a0',n0',c0',e0',x3',i4',o4',a6',n6',c6',e6',x7',x8',x34',x35,rfl,rfl,rfl,rfl,rfl,rfl,rfl,rfl,rfl,rfl,rfl,rfl,rfl,rfl,rfl,hj⟩:=Zrj hi
  exact Yhe Q R2 (P fun x35 h=>∃ g',m g' < m g∧J g' x35 h) a0 n0 c0 e0 x3 i4 o4 a6 n6 c6 e6 x7 x8 x34 x35 h (hr g x35 h hj (P fun x35 h=>∃ g',m g' < m g∧J g' x35 h) fun g' x35 h hlt hj=>⟨rfl,rfl,rfl,rfl,rfl,rfl,rfl,rfl,rfl,rfl,rfl,rfl,rfl,rfl,g',hlt,hj⟩)
 ·intro g env h hi
  obtain ⟨a0',n0',c0',e0',x3',i4',o4',a6',n6',c6',e6',x7',x8',x34',x35,rfl,rfl,rfl,rfl,rfl,rfl,rfl,rfl,rfl,rfl,rfl,rfl,rfl,rfl,rfl,g',hlt,hj⟩:=Zrj hi
  exact ⟨g',hlt,rfl,rfl,rfl,rfl,rfl,rfl,rfl,rfl,rfl,rfl,rfl,rfl,rfl,rfl,hj⟩
theorem J11i (Q:QT) (R2:T2) (R7:T7) (x35 x34:Int) (a0:Pt) (n0 c0:Nat) (e0:Bool) (x3:Int) (i4 o4:Nat) (x8 x7:Int) (a6:Pt) (n6 c6:Nat) (e6:Bool) (h:Zaa) (ht :
 R7 a0 n0 c0 e0 x3 i4 o4 a6 n6 c6 e6 x7 x8 x34 (IntKind.wrap .i64 (x35 + 1)) h):J11 Q R2 R7 x35 x34 a0 n0 c0 e0 x3 i4 o4 x8 x7 a6 n6 c6 e6 h:=
 Zax (kp:=kp) (cast (by kernel_rfl) ht)
theorem A7x2i (Q:QT) (R2:T2) (x8 x7:Int) (a6:Pt) (n6 c6:Nat) (e6:Bool) (a0:Pt) (n0 c0:Nat) (e0:Bool) (h:Zaa) (ht :
 J12 Q R2 x8 x7 a6 n6 c6 e6 a0 n0 c0 e0 h):Ynl Q R2 x8 x7 a6 n6 c6 e6 a0 n0 c0 e0 h:=
 At.mk (cast (by kernel_rfl) ht)
theorem J12i (Q:QT) (R2:T2) (x8 x7:Int) (a6:Pt) (n6 c6:Nat) (e6:Bool) (a0:Pt) (n0 c0:Nat) (e0:Bool) (h:Zaa) (ht :
 R2 a0 n0 c0 e0 a6 n6 c6 e6 x7 (IntKind.wrap .i64 (x8 + 1)) h):J12 Q R2 x8 x7 a6 n6 c6 e6 a0 n0 c0 e0 h:=
 Zax (kp:=kp) (cast (by kernel_rfl) ht)
theorem call (a0:Pt) (n0 c0:Nat) (e0:Bool) (h:Zaa) (Q:QT) (ht :
 L2 Q a0 n0 c0 e0 a0 n0 c0 e0 (((n0:Nat):Int)) 0 h):Zad pg Zhi [.slice a0 n0 c0 e0] h Q:=
 Zad.of_body kp (c:=cod fn) (fn:=fn) Go.Proofs.Try.func85 (by kernel_rfl) (by kernel_rfl) (Nat.le_of_ble_eq_true (by kernel_rfl))
  (cast (by kernel_rfl) ht)
end Zch
end Go.Sim

set_option maxRecDepth 100000
set_option maxHeartbeats 0
set_option linter.unusedVariables false
namespace Go.Sim
open Go Go.RowKit
namespace Zlr
noncomputable abbrev fn:Func:=Go.Proofs.Try.f157
def kp:Zce:=[]
noncomputable def C (p:List Nat):Code:=(cod fn).sub p
def KR (Q:QT):KT:=Zet pg fn.results.toList Q
theorem call (x0x0 x0x1:List Nat) (v1:Zag) (h:Zaa) (Q:QT) (ht :
 Zdn (h ++ [.cells Zbh [.str x0x0,.str x0x1] false]) fun A=>Zcb (Zaf A (.ptr (h.length,0 + 0))) fun B=>Zcb (Zaf A (v1)) fun C=>Q (.bool (decide (B=C))) A):Zad pg Zcj [.agg [.str x0x0,.str x0x1],v1] h Q:=
 Zad.of_body kp (c:=cod fn) (fn:=fn) Go.Proofs.Try.func157 (by kernel_rfl) (by kernel_rfl) (Nat.le_of_ble_eq_true (by kernel_rfl))
  (cast (by kernel_rfl) ht)
end Zlr
namespace Zbe
noncomputable abbrev fn:Func:=Go.Proofs.Try.f165
def kp:Zce:=[(3000002,[4]),(1000002,[0,1,7,8])]
noncomputable def C (p:List Nat):Code:=(cod fn).sub p
def KR (Q:QT):KT:=Zet pg fn.results.toList Q
abbrev T2:=Pt→Nat→Nat→Bool→Zag→Int→Int→Zaa→Prop
def E2 (R2:T2) (env:Env) (h:Zaa):Prop:=Zbx 0 env fun v env=>xSl v fun a0 n0 c0 e0=>Zbx 1 env fun v env=>eFn Zcj v fun cs=>Zam cs fun c cs'=>Zzn c fun v1x0=>Zcq cs' (Zbx 7 env fun v env=>Zdz .i64 v fun x7=>Zbx 8 env fun v env=>Zdz .i64 v fun x8=>Ziy env (R2 a0 n0 c0 e0 v1x0 x7 x8 h))
theorem Zda {R2:T2} {env:Env} {h:Zaa} (hi:E2 R2 env h):∃ a0,∃ n0,∃ c0,∃ e0,∃ v1x0,∃ x7,∃ x8,env=[(0,.slice a0 n0 c0 e0),(1,.fn Zcj [v1x0]),(7,.int .i64 x7),(8,.int .i64 x8)]∧R2 a0 n0 c0 e0 v1x0 x7 x8 h:=by
 unfold E2 at hi
 have hi0:=hi
 clear hi
 obtain ⟨_,_,rfl,hi1⟩:=Zae hi0
 obtain ⟨a0,n0,c0,e0,rfl,hi2⟩:=Zbt hi1
 obtain ⟨_,_,rfl,hi3⟩:=Zae hi2
 obtain ⟨cs,rfl,hi4⟩:=Ybx hi3
 obtain ⟨c,cs',rfl,hi5⟩:=Zvp hi4
 obtain ⟨v1x0,hx,hi6⟩:=Zlx hi5
 replace hx:=(Option.some.inj hx).symm
 subst hx
 obtain ⟨rfl,hi7⟩:=Zxm hi6
 obtain ⟨_,_,rfl,hi8⟩:=Zae hi7
 obtain ⟨x7,rfl,hi9⟩:=Zat hi8
 obtain ⟨_,_,rfl,hi10⟩:=Zae hi9
 obtain ⟨x8,rfl,hi11⟩:=Zat hi10
 obtain ⟨rfl,hi12⟩:=Zbj hi11
 have hi:=hi12
 exact ⟨a0,n0,c0,e0,v1x0,x7,x8,rfl,hi⟩
def K0 (Q:QT):KT:=andThen (fun env' h'=>(match kp.find 4000007 with | some ks=>Den pg fn.ntmps (C [1,1]) (env'.keep ks) h' (KR Q) | none=>den pg fn.ntmps kp (C [1,1]) env' h' (KR Q))) (KR Q)
def K1 (Q:QT):KT:=Zcg 0 (K0 Q)
def K2 (Q:QT):KT:=left kp 2 (K1 Q)
def K3 (Q:QT) (R2:T2):KT:=rnd ((kp.find 1000002).getD []) (E2 R2) (K2 Q)
def L2 (Q:QT) (a0:Pt) (n0 c0:Nat) (e0:Bool) (v1x0:Zag) (x7 x8:Int) (h:Zaa):Prop:=Zdt (Den pg fn.ntmps (C [1,0,1,0,0])) ((kp.find 1000002).getD []) (K2 Q) [(0,.slice a0 n0 c0 e0),(1,.fn Zcj [v1x0]),(7,.int .i64 x7),(8,.int .i64 x8)] h
def A2x0 (Q:QT) (h:Zaa):Prop:=At (K1 Q) (.exit 0) [(4,.undef)] h
def L2t (Q:QT) (R2:T2) (a0:Pt) (n0 c0:Nat) (e0:Bool) (v1x0:Zag) (x7 x8:Int) (h:Zaa):Prop:=
 bcase (decide ((x8:Int) < x7)) ((0≤(x8:Int)∧(x8:Int) < (n0:Nat))∧(Zbf a0 fun A B=>Zcy (Zbo h (.ptr (A,B + (Int.toNat x8) * 2)) 2) fun A=>Zam A fun A B=>Zcb A fun A=>Zam B fun B C=>Zcb B fun B=>Zcq C (Zad pg Zcj [.agg [.str A,.str B],v1x0] h fun A B=>
 Zbw A fun A=>bcase A (Q (.int .i64 x8) B) (R2 a0 n0 c0 e0 v1x0 x7 (IntKind.wrap .i64 (x8 + 1)) B)))) (A2x0 Q h)
theorem Zhm (Q:QT) (R2:T2) (a0:Pt) (n0 c0:Nat) (e0:Bool) (v1x0:Zag) (x7 x8:Int) (h:Zaa) (ht:L2t Q R2 a0 n0 c0 e0 v1x0 x7 x8 h):Den pg fn.ntmps (C [1,0,1,0,0]) [(0,.slice a0 n0 c0 e0),(1,.fn Zcj [v1x0]),(7,.int .i64 x7),(8,.int .i64 x8)] h (K3 Q R2):=
 Zax (kp:=kp) (cast (by kernel_rfl) ht)
theorem L2ind (Q:QT) (a0:Pt) (n0 c0:Nat) (e0:Bool) (v1x0:Zag) (x7:Int) {G:Type} (J:G→Int→Zaa→Prop) (m:G→Nat)
 (hr:∀ (g:G) (x8:Int) (h:Zaa),J g x8 h→∀ (R2:T2),(∀ g' (x8:Int) (h:Zaa),m g' < m g→J g' x8 h→R2 a0 n0 c0 e0 v1x0 x7 x8 h)→L2t Q R2 a0 n0 c0 e0 v1x0 x7 x8 h)
 (g:G) (x8:Int) (h:Zaa) (hj:J g x8 h):L2 Q a0 n0 c0 e0 v1x0 x7 x8 h:=by
 let P:=fun (K:Int→Zaa→Prop) a0' n0' c0' e0' v1x0' x7' x8 h=>a0=a0'∧n0=n0'∧c0=c0'∧e0=e0'∧v1x0=v1x0'∧x7=x7'∧K x8 h
 refine Zdt.inv2 (fun g=>E2 (P (J g))) (fun g=>E2 (P fun x8 h=>∃ g',m g' < m g∧J g' x8 h)) m ?_ ?_ g ⟨rfl,rfl,rfl,rfl,rfl,rfl,hj⟩
 ·intro g env h hi
  obtain ⟨a0',n0',c0',e0',v1x0',x7',x8,rfl,rfl,rfl,rfl,rfl,rfl,rfl,hj⟩:=Zda hi
  exact Zhm Q _ a0 n0 c0 e0 v1x0 x7 x8 h (hr g x8 h hj (P fun x8 h=>∃ g',m g' < m g∧J g' x8 h) fun g' x8 h hlt hj=>⟨rfl,rfl,rfl,rfl,rfl,rfl,g',hlt,hj⟩)
 ·intro g env h hi
  obtain ⟨a0',n0',c0',e0',v1x0',x7',x8,rfl,rfl,rfl,rfl,rfl,rfl,rfl,g',hlt,hj⟩:=Zda hi
  exact ⟨g',hlt,rfl,rfl,rfl,rfl,rfl,rfl,hj⟩
theorem A2x0i (Q:QT) (h:Zaa) (ht :
 Q (.int .i64 (-1)) h):A2x0 Q h:=
 At.mk (cast (by kernel_rfl) ht)
theorem call (a0:Pt) (n0 c0:Nat) (e0:Bool) (v1x0:Zag) (h:Zaa) (Q:QT) (ht :
 L2 Q a0 n0 c0 e0 v1x0 (((n0:Nat):Int)) 0 h):Zad pg Zcu [.slice a0 n0 c0 e0,.fn Zcj [v1x0]] h Q:=
 Zad.of_body kp (c:=cod fn) (fn:=fn) Go.Proofs.Try.func165 (by kernel_rfl) (by kernel_rfl) (Nat.le_of_ble_eq_true (by kernel_rfl))
  (cast (by kernel_rfl) ht)
end Zbe
namespace Zrp
noncomputable abbrev fn:Func:=Go.Proofs.Try.f136
def kp:Zce:=[]
noncomputable def C (p:List Nat):Code:=(cod fn).sub p
def KR (Q:QT):KT:=Zet pg fn.results.toList Q
theorem call (a0:Pt) (n0 c0:Nat) (e0:Bool) (x1:List Nat) (h:Zaa) (Q:QT) (ht :
 Zdn (h ++ [.cells Zdx [.str x1] false]) fun A=>Zad pg Zdi [.slice a0 n0 c0 e0,.fn Zcj [.ptr (h.length,0)]] A fun A B=>
 Zbw A fun A=>Q (.bool A) B):Zad pg Zjf [.slice a0 n0 c0 e0,.str x1] h Q:=
 Zad.of_body kp (c:=cod fn) (fn:=fn) Go.Proofs.Try.func136 (by kernel_rfl) (by kernel_rfl) (Nat.le_of_ble_eq_true (by kernel_rfl))
  (cast (by kernel_rfl) ht)
end Zrp
namespace Zcm
noncomputable abbrev fn:Func:=Go.Proofs.Try.f156
def kp:Zce:=[]
noncomputable def C (p:List Nat):Code:=(cod fn).sub p
def KR (Q:QT):KT:=Zet pg fn.results.toList Q
theorem call (a0:Pt) (n0 c0:Nat) (e0:Bool) (v1x0:Zag) (h:Zaa) (Q:QT) (ht :
 Zad pg Zcu [.slice a0 n0 c0 e0,.fn Zcj [v1x0]] h fun A B=>
 Zco .i64 A fun A=>Q (.bool (decide ((A:Int) ≥ 0))) B):Zad pg Zdi [.slice a0 n0 c0 e0,.fn Zcj [v1x0]] h Q:=
 Zad.of_body kp (c:=cod fn) (fn:=fn) Go.Proofs.Try.func156 (by kernel_rfl) (by kernel_rfl) (Nat.le_of_ble_eq_true (by kernel_rfl))
  (cast (by kernel_rfl) ht)
end Zcm
namespace Zhd
noncomputable abbrev fn:Func:=Go.Proofs.Try.f125
def kp:Zce:=[(3000002,[4]),(1000002,[1,8,9,10])]
noncomputable def C (p:List Nat):Code:=(cod fn).sub p
def KR (Q:QT):KT:=Zet pg fn.results.toList Q
abbrev T2:=List Nat→Pt→Nat→Nat→Bool→Int→Int→Zaa→Prop
def E2 (R2:T2) (env:Env) (h:Zaa):Prop:=Zbx 1 env fun v env=>Zcb v fun x1=>Zbx 8 env fun v env=>xSl v fun a8 n8 c8 e8=>Zbx 9 env fun v env=>Zdz .i64 v fun x9=>Zbx 10 env fun v env=>Zdz .i64 v fun x10=>Ziy env (R2 x1 a8 n8 c8 e8 x9 x10 h)
theorem Zda {R2:T2} {env:Env} {h:Zaa} (hi:E2 R2 env h):∃ x1,∃ a8,∃ n8,∃ c8,∃ e8,∃ x9,∃ x10,env=[(1,.str x1),(8,.slice a8 n8 c8 e8),(9,.int .i64 x9),(10,.int .i64 x10)]∧R2 x1 a8 n8 c8 e8 x9 x10 h:=by
 unfold E2 at hi
 repeat ((first | (have k:=Zae hi; clear hi; obtain ⟨_,_,e,hi⟩:=k) | (have k:=Zat hi; clear hi; obtain ⟨_,e,hi⟩:=k) | (have k:=Zjd hi; clear hi; obtain ⟨_,e,hi⟩:=k) | (have k:=Zbt hi; clear hi; obtain ⟨_,_,_,_,e,hi⟩:=k)); subst e)
 obtain ⟨rfl,hi⟩:=Zbj hi
 exact ⟨_,_,_,_,_,_,_,rfl,hi⟩
def K0 (Q:QT):KT:=andThen (fun env' h'=>(match kp.find 4000007 with | some ks=>Den pg fn.ntmps (C [1,1]) (env'.keep ks) h' (KR Q) | none=>den pg fn.ntmps kp (C [1,1]) env' h' (KR Q))) (KR Q)
def K1 (Q:QT):KT:=Zcg 0 (K0 Q)
def K2 (Q:QT):KT:=left kp 2 (K1 Q)
def K3 (Q:QT) (R2:T2):KT:=rnd ((kp.find 1000002).getD []) (E2 R2) (K2 Q)
def L2 (Q:QT) (x1:List Nat) (a8:Pt) (n8 c8:Nat) (e8:Bool) (x9 x10:Int) (h:Zaa):Prop:=Zdt (Den pg fn.ntmps (C [1,0,1,0,0])) ((kp.find 1000002).getD []) (K2 Q) [(1,.str x1),(8,.slice a8 n8 c8 e8),(9,.int .i64 x9),(10,.int .i64 x10)] h
def A2x0 (Q:QT) (h:Zaa):Prop:=At (K1 Q) (.exit 0) [(4,.undef)] h
def L2t (Q:QT) (R2:T2) (x1:List Nat) (a8:Pt) (n8 c8:Nat) (e8:Bool) (x9 x10:Int) (h:Zaa):Prop:=
 bcase (decide ((x10:Int) < x9)) ((0≤(x10:Int)∧(x10:Int) < (n8:Nat))∧(Zbf a8 fun A B=>Zcy (Zbo h (.ptr (A,B + (Int.toNat x10) * 2)) 2) fun A=>Zam A fun A B=>Zcb A fun A=>Zam B fun B C=>Zcb B fun B=>Zcq C (Zdn (h ++ [.cells Zbh [.str [],.str []] false]) fun C=>Zcf (Zbd C (.ptr (h.length,0)) [.str A,.str B]) fun A=>Zcb (Zaf A (.ptr (h.length,0 + 0))) fun B=>bcase (decide (B=x1)) (Q (.int .i64 x10) A) (R2 x1 a8 n8 c8 e8 x9 (IntKind.wrap .i64 (x10 + 1)) A)))) (A2x0 Q h)
theorem Zhm (Q:QT) (R2:T2) (x1:List Nat) (a8:Pt) (n8 c8:Nat) (e8:Bool) (x9 x10:Int) (h:Zaa) (ht:L2t Q R2 x1 a8 n8 c8 e8 x9 x10 h):Den pg fn.ntmps (C [1,0,1,0,0]) [(1,.str x1),(8,.slice a8 n8 c8 e8),(9,.int .i64 x9),(10,.int .i64 x10)] h (K3 Q R2):=
 Zax (kp:=kp) (cast (by kernel_rfl) ht)
theorem L2ind (Q:QT) (x1:List Nat) (a8:Pt) (n8 c8:Nat) (e8:Bool) (x9:Int) {G:Type} (J:G→Int→Zaa→Prop) (m:G→Nat)
 (hr:∀ (g:G) (x10:Int) (h:Zaa),J g x10 h→∀ (R2:T2),(∀ g' (x10:Int) (h:Zaa),m g' < m g→J g' x10 h→R2 x1 a8 n8 c8 e8 x9 x10 h)→L2t Q R2 x1 a8 n8 c8 e8 x9 x10 h)
 (g:G) (x10:Int) (h:Zaa) (hj:J g x10 h):L2 Q x1 a8 n8 c8 e8 x9 x10 h:=by
 let P:=fun (K:Int→Zaa→Prop) x1' a8' n8' c8' e8' x9' x10 h=>x1=x1'∧a8=a8'∧n8=n8'∧c8=c8'∧e8=e8'∧x9=x9'∧K x10 h
 refine Zdt.inv2 (fun g=>E2 (P (J g))) (fun g=>E2 (P fun x10 h=>∃ g',m g' < m g∧J g' x10 h)) m ?_ ?_ g ⟨rfl,rfl,rfl,rfl,rfl,rfl,hj⟩
 ·intro g env h hi
  obtain ⟨x1',a8',n8',c8',e8',x9',x10,rfl,rfl,rfl,rfl,rfl,rfl,rfl,hj⟩:=Zda hi
  exact Zhm Q _ x1 a8 n8 c8 e8 x9 x10 h (hr g x10 h hj (P fun x10 h=>∃ g',m g' < m g∧J g' x10 h) fun g' x10 h hlt hj=>⟨rfl,rfl,rfl,rfl,rfl,rfl,g',hlt,hj⟩)
 ·intro g env h hi
  obtain ⟨x1',a8',n8',c8',e8',x9',x10,rfl,rfl,rfl,rfl,rfl,rfl,rfl,g',hlt,hj⟩:=Zda hi
  exact ⟨g',hlt,rfl,rfl,rfl,rfl,rfl,rfl,hj⟩
theorem A2x0i (Q:QT) (h:Zaa) (ht :
 Q (.int .i64 (-1)) h):A2x0 Q h:=
 At.mk (cast (by kernel_rfl) ht)
theorem call (a0x0:Pt) (n0x0 c0x0:Nat) (e0x0:Bool) (a0x1:Pt) (n0x1 c0x1:Nat) (e0x1:Bool) (x1:List Nat) (h:Zaa) (Q:QT) (ht :
 Zdn (h ++ [.cells Zao [.slice a0x0 n0x0 c0x0 e0x0,.slice a0x1 n0x1 c0x1 e0x1] false]) fun A=>xSl (Zaf A (.ptr (h.length,0 + 0))) fun B C D E=>L2 Q x1 B C D E (((C:Nat):Int)) 0 A):Zad pg Zhf [.agg [.slice a0x0 n0x0 c0x0 e0x0,.slice a0x1 n0x1 c0x1 e0x1],.str x1] h Q:=
 Zad.of_body kp (c:=cod fn) (fn:=fn) Go.Proofs.Try.func125 (by kernel_rfl) (by kernel_rfl) (Nat.le_of_ble_eq_true (by kernel_rfl))
  (cast (by kernel_rfl) ht)
end Zhd
namespace Zci
noncomputable abbrev fn:Func:=Go.Proofs.Try.f91
def kp:Zce:=[(3000002,[1,2]),(1000002,[1,7,8,9]),(2000004,[33,4,1,3,7,8,9]),(4000006,[4,1,3,7,8,9]),(3000007,[9,8,7,1,2]),(1000007,[1,3,4,7,8,9,36,37]),(2000009,[67,37,36,1,3,4,9,8,7]),(4000011,[37,36,1,3,4,9,8,7]),(4000012,[9,8,7,1])]
noncomputable def C (p:List Nat):Code:=(cod fn).sub p
def KR (Q:QT):KT:=Zet pg fn.results.toList Q
abbrev T2:=Nat→Nat→Pt→Nat→Nat→Bool→Int→Int→Zaa→Prop
def E2 (R2:T2) (env:Env) (h:Zaa):Prop:=Zbx 1 env fun v env=>Zfw v fun a=>Zbf a fun i1 o1=>Zbx 7 env fun v env=>xSl v fun a7 n7 c7 e7=>Zbx 8 env fun v env=>Zdz .i64 v fun x8=>Zbx 9 env fun v env=>Zdz .i64 v fun x9=>Ziy env (R2 i1 o1 a7 n7 c7 e7 x8 x9 h)
theorem Zda {R2:T2} {env:Env} {h:Zaa} (hi:E2 R2 env h):∃ i1,∃ o1,∃ a7,∃ n7,∃ c7,∃ e7,∃ x8,∃ x9,env=[(1,.ptr (i1,o1)),(7,.slice a7 n7 c7 e7),(8,.int .i64 x8),(9,.int .i64 x9)]∧R2 i1 o1 a7 n7 c7 e7 x8 x9 h:=by
 unfold E2 at hi
 have hi0:=hi
 clear hi
 obtain ⟨_,_,rfl,hi1⟩:=Zae hi0
 obtain ⟨a,rfl,hi2⟩:=Zbu hi1
 obtain ⟨i1,o1,rfl,hi3⟩:=Zbn hi2
 obtain ⟨_,_,rfl,hi4⟩:=Zae hi3
 obtain ⟨a7,n7,c7,e7,rfl,hi5⟩:=Zbt hi4
 obtain ⟨_,_,rfl,hi6⟩:=Zae hi5
 obtain ⟨x8,rfl,hi7⟩:=Zat hi6
 obtain ⟨_,_,rfl,hi8⟩:=Zae hi7
 obtain ⟨x9,rfl,hi9⟩:=Zat hi8
 obtain ⟨rfl,hi10⟩:=Zbj hi9
 have hi:=hi10
 exact ⟨i1,o1,a7,n7,c7,e7,x8,x9,rfl,hi⟩
abbrev T7:=Nat→Nat→Int→Nat→Nat→Pt→Nat→Nat→Bool→Int→Int→Int→Int→Zaa→Prop
def E7 (R7:T7) (env:Env) (h:Zaa):Prop:=Zbx 1 env fun v env=>Zfw v fun a=>Zbf a fun i1 o1=>Zbx 3 env fun v env=>Zdz .i64 v fun x3=>Zbx 4 env fun v env=>Zfw v fun a=>Zbf a fun i4 o4=>Zbx 7 env fun v env=>xSl v fun a7 n7 c7 e7=>Zbx 8 env fun v env=>Zdz .i64 v fun x8=>Zbx 9 env fun v env=>Zdz .i64 v fun x9=>Zbx 36 env fun v env=>Zdz .i64 v fun x36=>Zbx 37 env fun v env=>Zdz .i64 v fun x37=>Ziy env (R7 i1 o1 x3 i4 o4 a7 n7 c7 e7 x8 x9 x36 x37 h)
theorem Zrj {R7:T7} {env:Env} {h:Zaa} (hi:E7 R7 env h):∃ i1,∃ o1,∃ x3,∃ i4,∃ o4,∃ a7,∃ n7,∃ c7,∃ e7,∃ x8,∃ x9,∃ x36,∃ x37,env=[(1,.ptr (i1,o1)),(3,.int .i64 x3),(4,.ptr (i4,o4)),(7,.slice a7 n7 c7 e7),(8,.int .i64 x8),(9,.int .i64 x9),(36,.int .i64 x36),(37,.int .i64 x37)]∧R7 i1 o1 x3 i4 o4 a7 n7 c7 e7 x8 x9 x36 x37 h:=by
 unfold E7 at hi
 have hi0:=hi
 clear hi
 obtain ⟨_,_,rfl,hi1⟩:=Zae hi0
 obtain ⟨a,rfl,hi2⟩:=Zbu hi1
 obtain ⟨i1,o1,rfl,hi3⟩:=Zbn hi2
 obtain ⟨_,_,rfl,hi4⟩:=Zae hi3
 obtain ⟨x3,rfl,hi5⟩:=Zat hi4
 obtain ⟨_,_,rfl,hi6⟩:=Zae hi5
 obtain ⟨a,rfl,hi7⟩:=Zbu hi6
 obtain ⟨i4,o4,rfl,hi8⟩:=Zbn hi7
 obtain ⟨_,_,rfl,hi9⟩:=Zae hi8
 obtain ⟨a7,n7,c7,e7,rfl,hi10⟩:=Zbt hi9
 obtain ⟨_,_,rfl,hi11⟩:=Zae hi10
 obtain ⟨x8,rfl,hi12⟩:=Zat hi11
 obtain ⟨_,_,rfl,hi13⟩:=Zae hi12
 obtain ⟨x9,rfl,hi14⟩:=Zat hi13
 obtain ⟨_,_,rfl,hi15⟩:=Zae hi14
 obtain ⟨x36,rfl,hi16⟩:=Zat hi15
 obtain ⟨_,_,rfl,hi17⟩:=Zae hi16
 obtain ⟨x37,rfl,hi18⟩:=Zat hi17
 obtain ⟨rfl,hi19⟩:=Zbj hi18
 have hi:=hi19
 exact ⟨i1,o1,x3,i4,o4,a7,n7,c7,e7,x8,x9,x36,x37,rfl,hi⟩
def K0 (Q:QT):KT:=andThen (fun env' h'=>(match kp.find 4000013 with | some ks=>Den pg fn.ntmps (C [1,1]) (env'.keep ks) h' (KR Q) | none=>den pg fn.ntmps kp (C [1,1]) env' h' (KR Q))) (KR Q)
def K1 (Q:QT):KT:=Zcg 0 (K0 Q)
def K2 (Q:QT):KT:=left kp 2 (K1 Q)
def K3 (Q:QT) (R2:T2):KT:=rnd ((kp.find 1000002).getD []) (E2 R2) (K2 Q)
def K4 (Q:QT) (R2:T2):KT:=andThen (fun env' h'=>(match kp.find 4000012 with | some ks=>Den pg fn.ntmps (C [1,0,1,0,0,1,1,1]) (env'.keep ks) h' (K3 Q R2) | none=>den pg fn.ntmps kp (C [1,0,1,0,0,1,1,1]) env' h' (K3 Q R2))) (K3 Q R2)
def K5 (Q:QT) (R2:T2):KT:=Zcg 1 (K4 Q R2)
def K6 (Q:QT) (R2:T2):KT:=Zcg 2 (K5 Q R2)
def K7 (Q:QT) (R2:T2):KT:=left kp 7 (K6 Q R2)
def K8 (Q:QT) (R2:T2) (R7:T7):KT:=rnd ((kp.find 1000007).getD []) (E7 R7) (K7 Q R2)
def L2 (Q:QT) (i1 o1:Nat) (a7:Pt) (n7 c7:Nat) (e7:Bool) (x8 x9:Int) (h:Zaa):Prop:=Zdt (Den pg fn.ntmps (C [1,0,1,0,0])) ((kp.find 1000002).getD []) (K2 Q) [(1,.ptr (i1,o1)),(7,.slice a7 n7 c7 e7),(8,.int .i64 x8),(9,.int .i64 x9)] h
def J6 (Q:QT) (R2:T2) (i4 o4 i1 o1:Nat) (x3:Int) (a7:Pt) (n7 c7:Nat) (e7:Bool) (x8 x9:Int) (h:Zaa):Prop:=Den pg fn.ntmps (C [1,0,1,0,0,1,1,0,0,1,1]) [(4,.ptr (i4,o4)),(1,.ptr (i1,o1)),(3,.int .i64 x3),(7,.slice a7 n7 c7 e7),(8,.int .i64 x8),(9,.int .i64 x9)] h (K5 Q R2)
def A2x0 (Q:QT) (i1 o1:Nat) (h:Zaa):Prop:=At (K1 Q) (.exit 0) [(1,.ptr (i1,o1)),(2,.undef)] h
def L7 (Q:QT) (R2:T2) (i1 o1:Nat) (x3:Int) (i4 o4:Nat) (a7:Pt) (n7 c7:Nat) (e7:Bool) (x8 x9 x36 x37:Int) (h:Zaa):Prop:=Zdt (Den pg fn.ntmps (C [1,0,1,0,0,1,1,0,0,1,1,1,0,0])) ((kp.find 1000007).getD []) (K7 Q R2) [(1,.ptr (i1,o1)),(3,.int .i64 x3),(4,.ptr (i4,o4)),(7,.slice a7 n7 c7 e7),(8,.int .i64 x8),(9,.int .i64 x9),(36,.int .i64 x36),(37,.int .i64 x37)] h
def J11 (Q:QT) (R2:T2) (R7:T7) (x37 x36:Int) (i1 o1:Nat) (x3:Int) (i4 o4:Nat) (x9 x8:Int) (a7:Pt) (n7 c7:Nat) (e7:Bool) (h:Zaa):Prop:=Den pg fn.ntmps (C [1,0,1,0,0,1,1,0,0,1,1,1,0,0,1,1,1]) [(37,.int .i64 x37),(36,.int .i64 x36),(1,.ptr (i1,o1)),(3,.int .i64 x3),(4,.ptr (i4,o4)),(9,.int .i64 x9),(8,.int .i64 x8),(7,.slice a7 n7 c7 e7)] h (K8 Q R2 R7)
def Ynl (Q:QT) (R2:T2) (x9 x8:Int) (a7:Pt) (n7 c7:Nat) (e7:Bool) (i1 o1:Nat) (h:Zaa):Prop:=At (K6 Q R2) (.exit 2) [(9,.int .i64 x9),(8,.int .i64 x8),(7,.slice a7 n7 c7 e7),(1,.ptr (i1,o1)),(2,.undef)] h
def J12 (Q:QT) (R2:T2) (x9 x8:Int) (a7:Pt) (n7 c7:Nat) (e7:Bool) (i1 o1:Nat) (h:Zaa):Prop:=Den pg fn.ntmps (C [1,0,1,0,0,1,1,1]) [(9,.int .i64 x9),(8,.int .i64 x8),(7,.slice a7 n7 c7 e7),(1,.ptr (i1,o1))] h (K3 Q R2)
def L2t (Q:QT) (R2:T2) (i1 o1:Nat) (a7:Pt) (n7 c7:Nat) (e7:Bool) (x8 x9:Int) (h:Zaa):Prop:=
 bcase (decide ((x9:Int) < x8)) ((0≤(x9:Int)∧(x9:Int) < (n7:Nat))∧(Zbf a7 fun A B=>Zcy (Zbo h (.ptr (A,B + (Int.toNat x9) * 2)) 2) fun A=>Zam A fun A B=>Zcb A fun A=>Zam B fun B C=>Zcb B fun B=>Zcq C (Zdn (h ++ [.cells Zbh [.str [],.str []] false]) fun C=>Zcf (Zbd C (.ptr (h.length,0)) [.str A,.str B]) fun A=>Zcb (Zaf A (.ptr (h.length,0 + 0))) fun B=>Zad pg Zlj [.str B] A fun A B=>
 Zbw A fun A=>bcase (!A) ((Zaf B (.tup [])=Zaf B (.tup []))∧(Zaf B (.tup [])=Zaf B (.tup []))∧Q (.bool false) B) (bcase (decide ((x9:Int) > 0)) (xSl (Zaf B (.ptr (i1,o1 + 0))) fun A C D D=>(0≤(IntKind.wrap .i64 (x9 - 1):Int)∧(IntKind.wrap .i64 (x9 - 1):Int) < (C:Nat))∧(Zbf A fun A C=>Zcb (Zaf B (.ptr (A,C + (Int.toNat (IntKind.wrap .i64 (x9 - 1))) * 2 + 0))) fun D=>Zcb (Zaf B (.ptr (h.length,0 + 0))) fun E=>(Zaf B (.ptr (A,C + (Int.toNat (IntKind.wrap .i64 (x9 - 1))) * 2 + 0))=Zaf B (.ptr (A,C + (Int.toNat (IntKind.wrap .i64 (x9 - 1))) * 2 + 0)))∧(Zaf B (.ptr (i1,o1 + 0))=Zaf B (.ptr (i1,o1 + 0)))∧bcase (!Zdy D E) (Q (.bool false) B) (J6 Q R2 h.length 0 i1 o1 x9 a7 n7 c7 e7 x8 x9 B))) ((Zaf B (.tup [])=Zaf B (.tup []))∧(Zaf B (.tup [])=Zaf B (.tup []))∧J6 Q R2 h.length 0 i1 o1 x9 a7 n7 c7 e7 x8 x9 B))))) (A2x0 Q i1 o1 h)
theorem Zhm (Q:QT) (R2:T2) (i1 o1:Nat) (a7:Pt) (n7 c7:Nat) (e7:Bool) (x8 x9:Int) (h:Zaa) (ht:L2t Q R2 i1 o1 a7 n7 c7 e7 x8 x9 h):Den pg fn.ntmps (C [1,0,1,0,0]) [(1,.ptr (i1,o1)),(7,.slice a7 n7 c7 e7),(8,.int .i64 x8),(9,.int .i64 x9)] h (K3 Q R2):=
 Zax (kp:=kp) (cast (by kernel_rfl) ht)
theorem L2ind (Q:QT) (i1 o1:Nat) (a7:Pt) (n7 c7:Nat) (e7:Bool) (x8:Int) {G:Type} (J:G→Int→Zaa→Prop) (m:G→Nat)
 (hr:∀ (g:G) (x9:Int) (h:Zaa),J g x9 h→∀ (R2:T2),(∀ g' (x9:Int) (h:Zaa),m g' < m g→J g' x9 h→R2 i1 o1 a7 n7 c7 e7 x8 x9 h)→L2t Q R2 i1 o1 a7 n7 c7 e7 x8 x9 h)
 (g:G) (x9:Int) (h:Zaa) (hj:J g x9 h):L2 Q i1 o1 a7 n7 c7 e7 x8 x9 h:=by
 let P:=fun (K:Int→Zaa→Prop) i1' o1' a7' n7' c7' e7' x8' x9 h=>i1=i1'∧o1=o1'∧a7=a7'∧n7=n7'∧c7=c7'∧e7=e7'∧x8=x8'∧K x9 h
 refine Zdt.inv2 (fun g=>E2 (P (J g))) (fun g=>E2 (P fun x9 h=>∃ g',m g' < m g∧J g' x9 h)) m ?_ ?_ g ⟨rfl,rfl,rfl,rfl,rfl,rfl,rfl,hj⟩
 ·intro g env h hi
  obtain ⟨i1',o1',a7',n7',c7',e7',x8',x9,rfl,rfl,rfl,rfl,rfl,rfl,rfl,rfl,hj⟩:=Zda hi
  exact Zhm Q _ i1 o1 a7 n7 c7 e7 x8 x9 h (hr g x9 h hj (P fun x9 h=>∃ g',m g' < m g∧J g' x9 h) fun g' x9 h hlt hj=>⟨rfl,rfl,rfl,rfl,rfl,rfl,rfl,g',hlt,hj⟩)
 ·intro g env h hi
  obtain ⟨i1',o1',a7',n7',c7',e7',x8',x9,rfl,rfl,rfl,rfl,rfl,rfl,rfl,rfl,g',hlt,hj⟩:=Zda hi
  exact ⟨g',hlt,rfl,rfl,rfl,rfl,rfl,rfl,rfl,hj⟩
theorem J6i (Q:QT) (R2:T2) (i4 o4 i1 o1:Nat) (x3:Int) (a7:Pt) (n7 c7:Nat) (e7:Bool) (x8 x9:Int) (h:Zaa) (ht :
 Zcb (Zaf h (.ptr (i4,o4 + 1))) fun A=>L7 Q R2 i1 o1 x3 i4 o4 a7 n7 c7 e7 x8 x9 (((List.length A:Nat):Int)) 0 h):J6 Q R2 i4 o4 i1 o1 x3 a7 n7 c7 e7 x8 x9 h:=
 Zax (kp:=kp) (cast (by kernel_rfl) ht)
theorem A2x0i (Q:QT) (i1 o1:Nat) (h:Zaa) (ht :
 xSl (Zaf h (.ptr (i1,o1 + 0))) fun A A B B=>bcase (decide (((((A:Nat):Int)):Int) ≥ 1)) (xSl (Zaf h (.ptr (i1,o1 + 0))) fun A A B B=>Q (.bool (decide (((((A:Nat):Int)):Int)≤4))) h) (Q (.bool false) h)):A2x0 Q i1 o1 h:=
 At.mk (cast (by kernel_rfl) ht)
def L7t (Q:QT) (R2:T2) (R7:T7) (i1 o1:Nat) (x3:Int) (i4 o4:Nat) (a7:Pt) (n7 c7:Nat) (e7:Bool) (x8 x9 x36 x37:Int) (h:Zaa):Prop:=
 bcase (decide ((x37:Int) < x36)) (xSl (Zaf h (.ptr (i1,o1 + 0))) fun A B C D=>Zms A B C D 2 none (some (.int .i64 x3)) none fun A=>xSl A fun A B C D=>Zcb (Zaf h (.ptr (i4,o4 + 1))) fun E=>(Zaf h (.ptr (i1,o1 + 0))=Zaf h (.ptr (i1,o1 + 0)))∧(0≤(x37:Int)∧(x37:Int)≤IntKind.wrap .i64 (x37 + 1)∧(IntKind.wrap .i64 (x37 + 1):Int)≤(List.length E:Nat))∧(Zad pg Zjf [.slice A B C D,.str (sub E x37 (IntKind.wrap .i64 (x37 + 1)))] h fun A B=>
 Zbw A fun A=>(Zaf B (.ptr (i1,o1 + 0))=Zaf h (.ptr (i1,o1 + 0)))∧bcase (!A) ((Zaf B (.tup [])=Zaf B (.tup []))∧(Zaf B (.ptr (i1,o1 + 0))=Zaf B (.ptr (i1,o1 + 0)))∧Q (.bool false) B) (bcase (decide ((x37:Int) > 0)) (Zcb (Zaf B (.ptr (i4,o4 + 1))) fun A=>Zjo A (IntKind.wrap .i64 (x37 - 1)) fun A=>Zcb (Zaf B (.ptr (i4,o4 + 1))) fun C=>(Zaf B (.ptr (i4,o4 + 1))=Zaf B (.ptr (i4,o4 + 1)))∧(Zaf B (.ptr (i1,o1 + 0))=Zaf B (.ptr (i1,o1 + 0)))∧Zjo C x37 fun C=>bcase (decide (((((A:Nat):Int)):Int) ≥ (((C:Nat):Int)))) (Q (.bool false) B) (J11 Q R2 R7 x37 x36 i1 o1 x3 i4 o4 x9 x8 a7 n7 c7 e7 B)) ((Zaf B (.tup [])=Zaf B (.tup []))∧(Zaf B (.ptr (i1,o1 + 0))=Zaf B (.ptr (i1,o1 + 0)))∧J11 Q R2 R7 x37 x36 i1 o1 x3 i4 o4 x9 x8 a7 n7 c7 e7 B)))) (Ynl Q R2 x9 x8 a7 n7 c7 e7 i1 o1 h)
theorem Yhe (Q:QT) (R2:T2) (R7:T7) (i1 o1:Nat) (x3:Int) (i4 o4:Nat) (a7:Pt) (n7 c7:Nat) (e7:Bool) (x8 x9 x36 x37:Int) (h:Zaa) (ht:L7t Q R2 R7 i1 o1 x3 i4 o4 a7 n7 c7 e7 x8 x9 x36 x37 h):Den pg fn.ntmps (C [1,0,1,0,0,1,1,0,0,1,1,1,0,0]) [(1,.ptr (i1,o1)),(3,.int .i64 x3),(4,.ptr (i4,o4)),(7,.slice a7 n7 c7 e7),(8,.int .i64 x8),(9,.int .i64 x9),(36,.int .i64 x36),(37,.int .i64 x37)] h (K8 Q R2 R7):=
 Zax (kp:=kp) (cast (by kernel_rfl) ht)
theorem L7ind (Q:QT) (R2:T2) (i1 o1:Nat) (x3:Int) (i4 o4:Nat) (a7:Pt) (n7 c7:Nat) (e7:Bool) (x8 x9 x36:Int) {G:Type} (J:G→Int→Zaa→Prop) (m:G→Nat)
 (hr:∀ (g:G) (x37:Int) (h:Zaa),J g x37 h→∀ (R7:T7),(∀ g' (x37:Int) (h:Zaa),m g' < m g→J g' x37 h→R7 i1 o1 x3 i4 o4 a7 n7 c7 e7 x8 x9 x36 x37 h)→L7t Q R2 R7 i1 o1 x3 i4 o4 a7 n7 c7 e7 x8 x9 x36 x37 h)
 (g:G) (x37:Int) (h:Zaa) (hj:J g x37 h):L7 Q R2 i1 o1 x3 i4 o4 a7 n7 c7 e7 x8 x9 x36 x37 h:=by
 let P:=fun (K:Int→Zaa→Prop) i1' o1' x3' i4' o4' a7' n7' c7' e7' x8' x9' x36' x37 h=>i1=i1'∧o1=o1'∧x3=x3'∧i4=i4'∧o4=o4'∧a7=a7'∧n7=n7'∧c7=c7'∧e7=e7'∧x8=x8'∧x9=x9'∧x36=x36'∧K x37 h
 refine Zdt.inv2 (fun g=>E7 (P (J g))) (fun g=>E7 (P fun x37 h=>∃ g',m g' < m g∧J g' x37 h)) m ?_ ?_ g ⟨rfl,rfl,rfl,rfl,rfl,rfl,rfl,rfl,rfl,rfl,rfl,rfl,hj⟩
 ·intro g env h hi
  obtain ⟨i1',o1',x3',i4',o4',a7',n7',c7',e7',x8',x9',x36',x37,rfl,rfl,rfl,rfl,rfl,rfl,rfl,rfl,rfl,rfl,rfl,rfl,rfl,hj⟩:=Zrj hi
  exact Yhe Q R2 (P fun x37 h=>∃ g',m g' < m g∧J g' x37 h) i1 o1 x3 i4 o4 a7 n7 c7 e7 x8 x9 x36 x37 h (hr g x37 h hj (P fun x37 h=>∃ g',m g' < m g∧J g' x37 h) fun g' x37 h hlt hj=>⟨rfl,rfl,rfl,rfl,rfl,rfl,rfl,rfl,rfl,rfl,rfl,rfl,g',hlt,hj⟩)
 ·intro g env h hi
  obtain ⟨i1',o1',x3',i4',o4',a7',n7',c7',e7',x8',x9',x36',x37,rfl,rfl,rfl,rfl,rfl,rfl,rfl,rfl,rfl,rfl,rfl,rfl,rfl,g',hlt,hj⟩:=Zrj hi
  exact ⟨g',hlt,rfl,rfl,rfl,rfl,rfl,rfl,rfl,rfl,rfl,rfl,rfl,rfl,hj⟩
theorem J11i (Q:QT) (R2:T2) (R7:T7) (x37 x36:Int) (i1 o1:Nat) (x3:Int) (i4 o4:Nat) (x9 x8:Int) (a7:Pt) (n7 c7:Nat) (e7:Bool) (h:Zaa) (ht :
 R7 i1 o1 x3 i4 o4 a7 n7 c7 e7 x8 x9 x36 (IntKind.wrap .i64 (x37 + 1)) h):J11 Q R2 R7 x37 x36 i1 o1 x3 i4 o4 x9 x8 a7 n7 c7 e7 h:=
 Zax (kp:=kp) (cast (by kernel_rfl) ht)
theorem A7x2i (Q:QT) (R2:T2) (x9 x8:Int) (a7:Pt) (n7 c7:Nat) (e7:Bool) (i1 o1:Nat) (h:Zaa) (ht :
 J12 Q R2 x9 x8 a7 n7 c7 e7 i1 o1 h):Ynl Q R2 x9 x8 a7 n7 c7 e7 i1 o1 h:=
 At.mk (cast (by kernel_rfl) ht)
theorem J12i (Q:QT) (R2:T2) (x9 x8:Int) (a7:Pt) (n7 c7:Nat) (e7:Bool) (i1 o1:Nat) (h:Zaa) (ht :
 R2 i1 o1 a7 n7 c7 e7 x8 (IntKind.wrap .i64 (x9 + 1)) h):J12 Q R2 x9 x8 a7 n7 c7 e7 i1 o1 h:=
 Zax (kp:=kp) (cast (by kernel_rfl) ht)
theorem call (a0x0:Pt) (n0x0 c0x0:Nat) (e0x0:Bool) (a0x1:Pt) (n0x1 c0x1:Nat) (e0x1:Bool) (h:Zaa) (Q:QT) (ht :
 Zdn (h ++ [.cells Zao [.slice a0x0 n0x0 c0x0 e0x0,.slice a0x1 n0x1 c0x1 e0x1] false]) fun A=>xSl (Zaf A (.ptr (h.length,0 + 0))) fun B C D E=>L2 Q h.length 0 B C D E (((C:Nat):Int)) 0 A):Zad pg Zhj [.agg [.slice a0x0 n0x0 c0x0 e0x0,.slice a0x1 n0x1 c0x1 e0x1]] h Q:=
 Zad.of_body kp (c:=cod fn) (fn:=fn) Go.Proofs.Try.func91 (by kernel_rfl) (by kernel_rfl) (Nat.le_of_ble_eq_true (by kernel_rfl))
  (cast (by kernel_rfl) ht)
end Zci
end Go.Sim

set_option maxRecDepth 100000
set_option maxHeartbeats 0
set_option linter.unusedVariables false
namespace Go.Sim
open Go Go.RowKit
namespace Zfl
noncomputable abbrev fn:Func:=Go.Proofs.Try.f95
def kp:Zce:=[(3000002,[1]),(1000002,[0,1,5])]
noncomputable def C (p:List Nat):Code:=(cod fn).sub p
def KR (Q:QT):KT:=Zet pg fn.results.toList Q
abbrev T2:=Pt→Nat→Nat→Bool→Int→Int→Zaa→Prop
def E2 (R2:T2) (env:Env) (h:Zaa):Prop:=Zbx 0 env fun v env=>xSl v fun a0 n0 c0 e0=>Zbx 1 env fun v env=>Zdz .i64 v fun x1=>Zbx 5 env fun v env=>Zdz .i64 v fun x5=>Ziy env (R2 a0 n0 c0 e0 x1 x5 h)
theorem Zda {R2:T2} {env:Env} {h:Zaa} (hi:E2 R2 env h):∃ a0,∃ n0,∃ c0,∃ e0,∃ x1,∃ x5,env=[(0,.slice a0 n0 c0 e0),(1,.int .i64 x1),(5,.int .i64 x5)]∧R2 a0 n0 c0 e0 x1 x5 h:=by
 unfold E2 at hi
 repeat ((first | (have k:=Zae hi; clear hi; obtain ⟨_,_,e,hi⟩:=k) | (have k:=Zbt hi; clear hi; obtain ⟨_,_,_,_,e,hi⟩:=k) | (have k:=Zat hi; clear hi; obtain ⟨_,e,hi⟩:=k)); subst e)
 obtain ⟨rfl,hi⟩:=Zbj hi
 exact ⟨_,_,_,_,_,_,rfl,hi⟩
def K0 (Q:QT):KT:=andThen (fun env' h'=>(match kp.find 4000008 with | some ks=>Den pg fn.ntmps (C [1,1]) (env'.keep ks) h' (KR Q) | none=>den pg fn.ntmps kp (C [1,1]) env' h' (KR Q))) (KR Q)
def K1 (Q:QT):KT:=Zcg 0 (K0 Q)
def K2 (Q:QT):KT:=left kp 2 (K1 Q)
def K3 (Q:QT) (R2:T2):KT:=rnd ((kp.find 1000002).getD []) (E2 R2) (K2 Q)
def L2 (Q:QT) (a0:Pt) (n0 c0:Nat) (e0:Bool) (x1 x5:Int) (h:Zaa):Prop:=Zdt (Den pg fn.ntmps (C [1,0,1,0,0])) ((kp.find 1000002).getD []) (K2 Q) [(0,.slice a0 n0 c0 e0),(1,.int .i64 x1),(5,.int .i64 x5)] h
def A2x0 (Q:QT) (x1:Int) (h:Zaa):Prop:=At (K1 Q) (.exit 0) [(1,.int .i64 x1)] h
def L2t (Q:QT) (R2:T2) (a0:Pt) (n0 c0:Nat) (e0:Bool) (x1 x5:Int) (h:Zaa):Prop:=
 bcase (decide ((x5:Int) < (((n0:Nat):Int)))) (Zad pg Zee [.int .i64 x1] h fun A B=>
 Zcb A fun A=>(0≤(x5:Int)∧(x5:Int) < (n0:Nat))∧(Zbf a0 fun C D=>Zcf (Zbd B (.ptr (C,D + (Int.toNat x5) * 2 + 0)) [.str A]) fun A=>Zad pg Zee [.int .i64 (IntKind.wrap .i64 (x1 + 1))] A fun A B=>
 Zcb A fun A=>(0≤(x5:Int)∧(x5:Int) < (n0:Nat))∧(Zbf a0 fun C D=>Zcf (Zbd B (.ptr (C,D + (Int.toNat x5) * 2 + 1)) [.str A]) fun A=>R2 a0 n0 c0 e0 (IntKind.wrap .i64 ((IntKind.wrap .i64 (x1 + 1)) + 1)) (IntKind.wrap .i64 (x5 + 1)) A))) (A2x0 Q x1 h)
theorem Zhm (Q:QT) (R2:T2) (a0:Pt) (n0 c0:Nat) (e0:Bool) (x1 x5:Int) (h:Zaa) (ht:L2t Q R2 a0 n0 c0 e0 x1 x5 h):Den pg fn.ntmps (C [1,0,1,0,0]) [(0,.slice a0 n0 c0 e0),(1,.int .i64 x1),(5,.int .i64 x5)] h (K3 Q R2):=
 Zax (kp:=kp) (cast (by kernel_rfl) ht)
theorem L2ind (Q:QT) (a0:Pt) (n0 c0:Nat) (e0:Bool) {G:Type} (J:G→Int→Int→Zaa→Prop) (m:G→Nat)
 (hr:∀ (g:G) (x1 x5:Int) (h:Zaa),J g x1 x5 h→∀ (R2:T2),(∀ g' (x1 x5:Int) (h:Zaa),m g' < m g→J g' x1 x5 h→R2 a0 n0 c0 e0 x1 x5 h)→L2t Q R2 a0 n0 c0 e0 x1 x5 h)
 (g:G) (x1 x5:Int) (h:Zaa) (hj:J g x1 x5 h):L2 Q a0 n0 c0 e0 x1 x5 h:=by
 let P:=fun (K:Int→Int→Zaa→Prop) a0' n0' c0' e0' x1 x5 h=>a0=a0'∧n0=n0'∧c0=c0'∧e0=e0'∧K x1 x5 h
 refine Zdt.inv2 (fun g=>E2 (P (J g))) (fun g=>E2 (P fun x1 x5 h=>∃ g',m g' < m g∧J g' x1 x5 h)) m ?_ ?_ g ⟨rfl,rfl,rfl,rfl,hj⟩
 ·intro g env h hi
  obtain ⟨a0',n0',c0',e0',x1,x5,rfl,rfl,rfl,rfl,rfl,hj⟩:=Zda hi
  exact Zhm Q _ a0 n0 c0 e0 x1 x5 h (hr g x1 x5 h hj (P fun x1 x5 h=>∃ g',m g' < m g∧J g' x1 x5 h) fun g' x1 x5 h hlt hj=>⟨rfl,rfl,rfl,rfl,g',hlt,hj⟩)
 ·intro g env h hi
  obtain ⟨a0',n0',c0',e0',x1,x5,rfl,rfl,rfl,rfl,rfl,g',hlt,hj⟩:=Zda hi
  exact ⟨g',hlt,rfl,rfl,rfl,rfl,hj⟩
theorem A2x0i (Q:QT) (x1:Int) (h:Zaa) (ht :
 Q (.int .i64 x1) h):A2x0 Q x1 h:=
 At.mk (cast (by kernel_rfl) ht)
theorem call (a0:Pt) (n0 c0:Nat) (e0:Bool) (x1:Int) (h:Zaa) (Q:QT) (ht :
 L2 Q a0 n0 c0 e0 x1 0 h):Zad pg Zji [.slice a0 n0 c0 e0,.int .i64 x1] h Q:=
 Zad.of_body kp (c:=cod fn) (fn:=fn) Go.Proofs.Try.func95 (by kernel_rfl) (by kernel_rfl) (Nat.le_of_ble_eq_true (by kernel_rfl))
  (cast (by kernel_rfl) ht)
end Zfl
end Go.Sim
