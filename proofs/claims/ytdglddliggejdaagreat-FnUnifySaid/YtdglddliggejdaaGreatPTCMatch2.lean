/- A part of the proof of a statement of this seat: see the text that holds the theorem. No condition. -/
import Derived.Test.YtdglddliggejdaaGreatNm
set_option linter.unusedVariables false
set_option linter.unusedSimpArgs false
set_option linter.all false
set_option maxRecDepth 100000
set_option maxHeartbeats 0
set_option linter.unusedVariables false
namespace Go.Sim
open Go Go.RowKit
namespace Zhj
noncomputable abbrev fn:Func:=Go.Proofs.Tryz.f6
def kp:Zcu:=[]
noncomputable def C (p:List Nat):Code:=(cod fn).sub p
def KR (Q:QT):KT:=Zha pg fn.results.toList Q
theorem call (a0:Pt) (n0 c0:Nat) (e0:Bool) (h:Zaa) (Q:QT) (ht :
 Zac pg Zjf [.slice a0 n0 c0 e0] h fun A B=>
 Zep A fun A=>Zac pg Zlp [.ptr A] B fun A B=>
 Zmb A fun A=>Zai A fun A C=>Zck A fun A=>Zai C fun C D=>Zck C fun C=>Zcg D (Q (.tup [.str A,.str C]) B)):Zac pg Zff [.slice a0 n0 c0 e0] h Q:=
 Zac.of_body kp (c:=cod fn) (fn:=fn) Go.Proofs.Tryz.func6 (by kernel_rfl) (by kernel_rfl) (Nat.le_of_ble_eq_true (by kernel_rfl))
  (cast (by kernel_rfl) ht)
end Zhj
namespace Zcx
noncomputable abbrev fn:Func:=Go.Proofs.Tryz.f3
def kp:Zcu:=[(4000010,[5,3,4,9,10]),(3000011,[5,3,4,10,9,2]),(1000011,[3,4,5,9,10,97,98,99]),(3000014,[99,98,97,5,3,4,10,9,2]),(1000014,[3,4,5,9,10,14,97,98,99,103,104,105])]
noncomputable def C (p:List Nat):Code:=(cod fn).sub p
def KR (Q:QT):KT:=Zha pg fn.results.toList Q
abbrev T11:=List Nat→List Nat→Pt→Nat→Nat→Bool→List Nat→Bool→Pt→Nat→Nat→Bool→Int→Int→Zaa→Prop
def E11 (R11:T11) (env:Env) (h:Zaa):Prop:=Zcd 3 env fun v env=>Zck v fun x3=>Zcd 4 env fun v env=>Zck v fun x4=>Zcd 5 env fun v env=>xSl v fun a5 n5 c5 e5=>Zcd 9 env fun v env=>Zck v fun x9=>Zcd 10 env fun v env=>Zbh v fun x10=>Zcd 97 env fun v env=>xSl v fun a97 n97 c97 e97=>Zcd 98 env fun v env=>Zgj .i64 v fun x98=>Zcd 99 env fun v env=>Zgj .i64 v fun x99=>Znc env (R11 x3 x4 a5 n5 c5 e5 x9 x10 a97 n97 c97 e97 x98 x99 h)
theorem Zqt {R11:T11} {env:Env} {h:Zaa} (hi:E11 R11 env h):∃ x3,∃ x4,∃ a5,∃ n5,∃ c5,∃ e5,∃ x9,∃ x10,∃ a97,∃ n97,∃ c97,∃ e97,∃ x98,∃ x99,env=[(3,.str x3),(4,.str x4),(5,.slice a5 n5 c5 e5),(9,.str x9),(10,.bool x10),(97,.slice a97 n97 c97 e97),(98,.int .i64 x98),(99,.int .i64 x99)]∧R11 x3 x4 a5 n5 c5 e5 x9 x10 a97 n97 c97 e97 x98 x99 h:=by
 unfold E11 at hi
 repeat ((first | (have k:=Zaj hi; clear hi; obtain ⟨_,_,e,hi⟩:=k) | (have k:=Zcy hi; clear hi; obtain ⟨_,_,_,_,e,hi⟩:=k) | (have k:=Ztn hi; clear hi; obtain ⟨_,e,hi⟩:=k) | (have k:=Zbd hi; clear hi; obtain ⟨_,e,hi⟩:=k) | (have k:=Zgb hi; clear hi; obtain ⟨_,e,hi⟩:=k)); subst e)
 obtain ⟨rfl,hi⟩:=Zbq hi
 exact ⟨_,_,_,_,_,_,_,_,_,_,_,_,_,_,rfl,hi⟩
abbrev T14:=List Nat→List Nat→Pt→Nat→Nat→Bool→List Nat→Bool→Nat→Nat→Pt→Nat→Nat→Bool→Int→Int→Pt→Nat→Nat→Bool→Int→Int→Zaa→Prop
def E14 (R14:T14) (env:Env) (h:Zaa):Prop:=Zcd 3 env fun v env=>Zck v fun x3=>Zcd 4 env fun v env=>Zck v fun x4=>Zcd 5 env fun v env=>xSl v fun a5 n5 c5 e5=>Zcd 9 env fun v env=>Zck v fun x9=>Zcd 10 env fun v env=>Zbh v fun x10=>Zcd 14 env fun v env=>Zep v fun a=>Zax a fun i14 o14=>Zcd 97 env fun v env=>xSl v fun a97 n97 c97 e97=>Zcd 98 env fun v env=>Zgj .i64 v fun x98=>Zcd 99 env fun v env=>Zgj .i64 v fun x99=>Zcd 103 env fun v env=>xSl v fun a103 n103 c103 e103=>Zcd 104 env fun v env=>Zgj .i64 v fun x104=>Zcd 105 env fun v env=>Zgj .i64 v fun x105=>Znc env (R14 x3 x4 a5 n5 c5 e5 x9 x10 i14 o14 a97 n97 c97 e97 x98 x99 a103 n103 c103 e103 x104 x105 h)
theorem Yeq {R14:T14} {env:Env} {h:Zaa} (hi:E14 R14 env h):∃ x3,∃ x4,∃ a5,∃ n5,∃ c5,∃ e5,∃ x9,∃ x10,∃ i14,∃ o14,∃ a97,∃ n97,∃ c97,∃ e97,∃ x98,∃ x99,∃ a103,∃ n103,∃ c103,∃ e103,∃ x104,∃ x105,env=[(3,.str x3),(4,.str x4),(5,.slice a5 n5 c5 e5),(9,.str x9),(10,.bool x10),(14,.ptr (i14,o14)),(97,.slice a97 n97 c97 e97),(98,.int .i64 x98),(99,.int .i64 x99),(103,.slice a103 n103 c103 e103),(104,.int .i64 x104),(105,.int .i64 x105)]∧R14 x3 x4 a5 n5 c5 e5 x9 x10 i14 o14 a97 n97 c97 e97 x98 x99 a103 n103 c103 e103 x104 x105 h:=by
 unfold E14 at hi
 have hi0:=hi
 clear hi
 obtain ⟨_,_,rfl,hi1⟩:=Zaj hi0
 obtain ⟨x3,rfl,hi2⟩:=Zgb hi1
 obtain ⟨_,_,rfl,hi3⟩:=Zaj hi2
 obtain ⟨x4,rfl,hi4⟩:=Zgb hi3
 obtain ⟨_,_,rfl,hi5⟩:=Zaj hi4
 obtain ⟨a5,n5,c5,e5,rfl,hi6⟩:=Zcy hi5
 obtain ⟨_,_,rfl,hi7⟩:=Zaj hi6
 obtain ⟨x9,rfl,hi8⟩:=Zgb hi7
 obtain ⟨_,_,rfl,hi9⟩:=Zaj hi8
 obtain ⟨x10,rfl,hi10⟩:=Ztn hi9
 obtain ⟨_,_,rfl,hi11⟩:=Zaj hi10
 obtain ⟨a,rfl,hi12⟩:=Zbk hi11
 obtain ⟨i14,o14,rfl,hi13⟩:=Zbm hi12
 obtain ⟨_,_,rfl,hi14⟩:=Zaj hi13
 obtain ⟨a97,n97,c97,e97,rfl,hi15⟩:=Zcy hi14
 obtain ⟨_,_,rfl,hi16⟩:=Zaj hi15
 obtain ⟨x98,rfl,hi17⟩:=Zbd hi16
 obtain ⟨_,_,rfl,hi18⟩:=Zaj hi17
 obtain ⟨x99,rfl,hi19⟩:=Zbd hi18
 obtain ⟨_,_,rfl,hi20⟩:=Zaj hi19
 obtain ⟨a103,n103,c103,e103,rfl,hi21⟩:=Zcy hi20
 obtain ⟨_,_,rfl,hi22⟩:=Zaj hi21
 obtain ⟨x104,rfl,hi23⟩:=Zbd hi22
 obtain ⟨_,_,rfl,hi24⟩:=Zaj hi23
 obtain ⟨x105,rfl,hi25⟩:=Zbd hi24
 obtain ⟨rfl,hi26⟩:=Zbq hi25
 have hi:=hi26
 exact ⟨x3,x4,a5,n5,c5,e5,x9,x10,i14,o14,a97,n97,c97,e97,x98,x99,a103,n103,c103,e103,x104,x105,rfl,hi⟩
def K0 (Q:QT):KT:=andThen (fun env' h'=>(match kp.find 4000020 with | some ks=>Den pg fn.ntmps (C [1,1,1,1,1,1,1,1,1]) (env'.keep ks) h' (KR Q) | none=>den pg fn.ntmps kp (C [1,1,1,1,1,1,1,1,1]) env' h' (KR Q))) (KR Q)
def K1 (Q:QT):KT:=Zdj 0 (K0 Q)
def K2 (Q:QT):KT:=left kp 11 (K1 Q)
def K3 (Q:QT) (R11:T11):KT:=rnd ((kp.find 1000011).getD []) (E11 R11) (K2 Q)
def K4 (Q:QT) (R11:T11):KT:=andThen (fun env' h'=>(match kp.find 4000019 with | some ks=>Den pg fn.ntmps (C [1,1,1,1,1,1,1,1,0,1,0,0,1,1,1]) (env'.keep ks) h' (K3 Q R11) | none=>den pg fn.ntmps kp (C [1,1,1,1,1,1,1,1,0,1,0,0,1,1,1]) env' h' (K3 Q R11))) (K3 Q R11)
def K5 (Q:QT) (R11:T11):KT:=Zdj 1 (K4 Q R11)
def K6 (Q:QT) (R11:T11):KT:=Zdj 2 (K5 Q R11)
def K7 (Q:QT) (R11:T11):KT:=left kp 14 (K6 Q R11)
def K8 (Q:QT) (R11:T11) (R14:T14):KT:=rnd ((kp.find 1000014).getD []) (E14 R14) (K7 Q R11)
def J10 (Q:QT) (a5:Pt) (n5 c5:Nat) (e5:Bool) (x3 x4 x9:List Nat) (x10:Bool) (h:Zaa):Prop:=Den pg fn.ntmps (C [1,1,1,1,1,1,1,1]) [(5,.slice a5 n5 c5 e5),(3,.str x3),(4,.str x4),(9,.str x9),(10,.bool x10)] h (KR Q)
def L11 (Q:QT) (x3 x4:List Nat) (a5:Pt) (n5 c5:Nat) (e5:Bool) (x9:List Nat) (x10:Bool) (a97:Pt) (n97 c97:Nat) (e97:Bool) (x98 x99:Int) (h:Zaa):Prop:=Zfy (Den pg fn.ntmps (C [1,1,1,1,1,1,1,1,0,1,0,0])) ((kp.find 1000011).getD []) (K2 Q) [(3,.str x3),(4,.str x4),(5,.slice a5 n5 c5 e5),(9,.str x9),(10,.bool x10),(97,.slice a97 n97 c97 e97),(98,.int .i64 x98),(99,.int .i64 x99)] h
def L14 (Q:QT) (R11:T11) (x3 x4:List Nat) (a5:Pt) (n5 c5:Nat) (e5:Bool) (x9:List Nat) (x10:Bool) (i14 o14:Nat) (a97:Pt) (n97 c97:Nat) (e97:Bool) (x98 x99:Int) (a103:Pt) (n103 c103:Nat) (e103:Bool) (x104 x105:Int) (h:Zaa):Prop:=Zfy (Den pg fn.ntmps (C [1,1,1,1,1,1,1,1,0,1,0,0,1,1,0,0,1,1,0,0])) ((kp.find 1000014).getD []) (K7 Q R11) [(3,.str x3),(4,.str x4),(5,.slice a5 n5 c5 e5),(9,.str x9),(10,.bool x10),(14,.ptr (i14,o14)),(97,.slice a97 n97 c97 e97),(98,.int .i64 x98),(99,.int .i64 x99),(103,.slice a103 n103 c103 e103),(104,.int .i64 x104),(105,.int .i64 x105)] h
def Yds (Q:QT) (a5:Pt) (n5 c5:Nat) (e5:Bool) (x3 x4:List Nat) (x10:Bool) (x9:List Nat) (h:Zaa):Prop:=At (K1 Q) (.exit 0) [(5,.slice a5 n5 c5 e5),(3,.str x3),(4,.str x4),(10,.bool x10),(9,.str x9),(2,.undef)] h
def Ylt (Q:QT) (R11:T11) (x99 x98:Int) (a97:Pt) (n97 c97:Nat) (e97:Bool) (a5:Pt) (n5 c5:Nat) (e5:Bool) (x3 x4:List Nat) (x10:Bool) (x9:List Nat) (h:Zaa):Prop:=At (K6 Q R11) (.exit 2) [(99,.int .i64 x99),(98,.int .i64 x98),(97,.slice a97 n97 c97 e97),(5,.slice a5 n5 c5 e5),(3,.str x3),(4,.str x4),(10,.bool x10),(9,.str x9),(2,.undef)] h
theorem J10i (Q:QT) (a5:Pt) (n5 c5:Nat) (e5:Bool) (x3 x4 x9:List Nat) (x10:Bool) (h:Zaa) (ht :
 L11 Q x3 x4 a5 n5 c5 e5 x9 x10 a5 n5 c5 e5 (((n5:Nat):Int)) 0 h):J10 Q a5 n5 c5 e5 x3 x4 x9 x10 h:=
 Zbb (kp:=kp) (cast (by kernel_rfl) ht)
def L11t (Q:QT) (R11:T11) (x3 x4:List Nat) (a5:Pt) (n5 c5:Nat) (e5:Bool) (x9:List Nat) (x10:Bool) (a97:Pt) (n97 c97:Nat) (e97:Bool) (x98 x99:Int) (h:Zaa):Prop:=
 bcase (decide ((x99:Int) < x98)) ((0≤(x99:Int)∧(x99:Int) < (n97:Nat))∧(Zax a97 fun A B=>Zdg (Zcv h (.ptr (A,B + (Int.toNat x99) * 2)) 2) fun A=>Zai A fun A B=>Zck A fun A=>Zai B fun B C=>Zck B fun B=>Zcg C (Zeg (h ++ [.cells Zaq [.str [],.str []] false]) fun C=>Zcc (Zbf C (.ptr (h.length,0)) [.str A,.str B]) fun A=>L14 Q R11 x3 x4 a5 n5 c5 e5 x9 x10 h.length 0 a97 n97 c97 e97 x98 x99 a5 n5 c5 e5 (((n5:Nat):Int)) 0 A))) (Yds Q a5 n5 c5 e5 x3 x4 x10 x9 h)
theorem Ycm (Q:QT) (R11:T11) (x3 x4:List Nat) (a5:Pt) (n5 c5:Nat) (e5:Bool) (x9:List Nat) (x10:Bool) (a97:Pt) (n97 c97:Nat) (e97:Bool) (x98 x99:Int) (h:Zaa) (ht:L11t Q R11 x3 x4 a5 n5 c5 e5 x9 x10 a97 n97 c97 e97 x98 x99 h):Den pg fn.ntmps (C [1,1,1,1,1,1,1,1,0,1,0,0]) [(3,.str x3),(4,.str x4),(5,.slice a5 n5 c5 e5),(9,.str x9),(10,.bool x10),(97,.slice a97 n97 c97 e97),(98,.int .i64 x98),(99,.int .i64 x99)] h (K3 Q R11):=
 Zbb (kp:=kp) (cast (by kernel_rfl) ht)
theorem L11ind (Q:QT) (x3 x4:List Nat) (a5:Pt) (n5 c5:Nat) (e5:Bool) (x9:List Nat) (x10:Bool) (a97:Pt) (n97 c97:Nat) (e97:Bool) (x98:Int) {G:Type} (J:G→Int→Zaa→Prop) (m:G→Nat)
 (hr:∀ (g:G) (x99:Int) (h:Zaa),J g x99 h→∀ (R11:T11),(∀ g' (x99:Int) (h:Zaa),m g' < m g→J g' x99 h→R11 x3 x4 a5 n5 c5 e5 x9 x10 a97 n97 c97 e97 x98 x99 h)→L11t Q R11 x3 x4 a5 n5 c5 e5 x9 x10 a97 n97 c97 e97 x98 x99 h)
 (g:G) (x99:Int) (h:Zaa) (hj:J g x99 h):L11 Q x3 x4 a5 n5 c5 e5 x9 x10 a97 n97 c97 e97 x98 x99 h:=by
 let P:=fun (K:Int→Zaa→Prop) x3' x4' a5' n5' c5' e5' x9' x10' a97' n97' c97' e97' x98' x99 h=>x3=x3'∧x4=x4'∧a5=a5'∧n5=n5'∧c5=c5'∧e5=e5'∧x9=x9'∧x10=x10'∧a97=a97'∧n97=n97'∧c97=c97'∧e97=e97'∧x98=x98'∧K x99 h
 refine Zfy.inv2 (fun g=>E11 (P (J g))) (fun g=>E11 (P fun x99 h=>∃ g',m g' < m g∧J g' x99 h)) m ?_ ?_ g ⟨rfl,rfl,rfl,rfl,rfl,rfl,rfl,rfl,rfl,rfl,rfl,rfl,rfl,hj⟩
 ·intro g env h hi
  obtain ⟨x3',x4',a5',n5',c5',e5',x9',x10',a97',n97',c97',e97',x98',x99,rfl,rfl,rfl,rfl,rfl,rfl,rfl,rfl,rfl,rfl,rfl,rfl,rfl,rfl,hj⟩:=Zqt hi
  exact Ycm Q _ x3 x4 a5 n5 c5 e5 x9 x10 a97 n97 c97 e97 x98 x99 h (hr g x99 h hj (P fun x99 h=>∃ g',m g' < m g∧J g' x99 h) fun g' x99 h hlt hj=>⟨rfl,rfl,rfl,rfl,rfl,rfl,rfl,rfl,rfl,rfl,rfl,rfl,rfl,g',hlt,hj⟩)
 ·intro g env h hi
  obtain ⟨x3',x4',a5',n5',c5',e5',x9',x10',a97',n97',c97',e97',x98',x99,rfl,rfl,rfl,rfl,rfl,rfl,rfl,rfl,rfl,rfl,rfl,rfl,rfl,rfl,g',hlt,hj⟩:=Zqt hi
  exact ⟨g',hlt,rfl,rfl,rfl,rfl,rfl,rfl,rfl,rfl,rfl,rfl,rfl,rfl,rfl,hj⟩
def L14t (Q:QT) (R11:T11) (R14:T14) (x3 x4:List Nat) (a5:Pt) (n5 c5:Nat) (e5:Bool) (x9:List Nat) (x10:Bool) (i14 o14:Nat) (a97:Pt) (n97 c97:Nat) (e97:Bool) (x98 x99:Int) (a103:Pt) (n103 c103:Nat) (e103:Bool) (x104 x105:Int) (h:Zaa):Prop:=
 bcase (decide ((x105:Int) < x104)) ((0≤(x105:Int)∧(x105:Int) < (n103:Nat))∧(Zax a103 fun A B=>Zdg (Zcv h (.ptr (A,B + (Int.toNat x105) * 2)) 2) fun A=>Zai A fun A B=>Zck A fun A=>Zai B fun B C=>Zck B fun B=>Zcg C (Zeg (h ++ [.cells Zaq [.str [],.str []] false]) fun C=>Zcc (Zbf C (.ptr (h.length,0)) [.str A,.str B]) fun A=>Zck (Zah A (.ptr (h.length,0 + 1))) fun B=>Zck (Zah A (.ptr (i14,o14 + 0))) fun C=>Zac pg Zim [.str B,.str C] A fun A B=>
 Zbo .i64 A fun A=>bcase (!((A:Int) == 0)) (Q (.bool false) B) (R14 x3 x4 a5 n5 c5 e5 x9 x10 i14 o14 a97 n97 c97 e97 x98 x99 a103 n103 c103 e103 x104 (IntKind.wrap .i64 (x105 + 1)) B)))) (Ylt Q R11 x99 x98 a97 n97 c97 e97 a5 n5 c5 e5 x3 x4 x10 x9 h)
theorem Yks (Q:QT) (R11:T11) (R14:T14) (x3 x4:List Nat) (a5:Pt) (n5 c5:Nat) (e5:Bool) (x9:List Nat) (x10:Bool) (i14 o14:Nat) (a97:Pt) (n97 c97:Nat) (e97:Bool) (x98 x99:Int) (a103:Pt) (n103 c103:Nat) (e103:Bool) (x104 x105:Int) (h:Zaa) (ht:L14t Q R11 R14 x3 x4 a5 n5 c5 e5 x9 x10 i14 o14 a97 n97 c97 e97 x98 x99 a103 n103 c103 e103 x104 x105 h):Den pg fn.ntmps (C [1,1,1,1,1,1,1,1,0,1,0,0,1,1,0,0,1,1,0,0]) [(3,.str x3),(4,.str x4),(5,.slice a5 n5 c5 e5),(9,.str x9),(10,.bool x10),(14,.ptr (i14,o14)),(97,.slice a97 n97 c97 e97),(98,.int .i64 x98),(99,.int .i64 x99),(103,.slice a103 n103 c103 e103),(104,.int .i64 x104),(105,.int .i64 x105)] h (K8 Q R11 R14):=
 Zbb (kp:=kp) (cast (by kernel_rfl) ht)
theorem L14ind (Q:QT) (R11:T11) (x3 x4:List Nat) (a5:Pt) (n5 c5:Nat) (e5:Bool) (x9:List Nat) (x10:Bool) (i14 o14:Nat) (a97:Pt) (n97 c97:Nat) (e97:Bool) (x98 x99:Int) (a103:Pt) (n103 c103:Nat) (e103:Bool) (x104:Int) {G:Type} (J:G→Int→Zaa→Prop) (m:G→Nat)
 (hr:∀ (g:G) (x105:Int) (h:Zaa),J g x105 h→∀ (R14:T14),(∀ g' (x105:Int) (h:Zaa),m g' < m g→J g' x105 h→R14 x3 x4 a5 n5 c5 e5 x9 x10 i14 o14 a97 n97 c97 e97 x98 x99 a103 n103 c103 e103 x104 x105 h)→L14t Q R11 R14 x3 x4 a5 n5 c5 e5 x9 x10 i14 o14 a97 n97 c97 e97 x98 x99 a103 n103 c103 e103 x104 x105 h)
 (g:G) (x105:Int) (h:Zaa) (hj:J g x105 h):L14 Q R11 x3 x4 a5 n5 c5 e5 x9 x10 i14 o14 a97 n97 c97 e97 x98 x99 a103 n103 c103 e103 x104 x105 h:=by
 let P:=fun (K:Int→Zaa→Prop) x3' x4' a5' n5' c5' e5' x9' x10' i14' o14' a97' n97' c97' e97' x98' x99' a103' n103' c103' e103' x104' x105 h=>x3=x3'∧x4=x4'∧a5=a5'∧n5=n5'∧c5=c5'∧e5=e5'∧x9=x9'∧x10=x10'∧i14=i14'∧o14=o14'∧a97=a97'∧n97=n97'∧c97=c97'∧e97=e97'∧x98=x98'∧x99=x99'∧a103=a103'∧n103=n103'∧c103=c103'∧e103=e103'∧x104=x104'∧K x105 h
 refine Zfy.inv2 (fun g=>E14 (P (J g))) (fun g=>E14 (P fun x105 h=>∃ g',m g' < m g∧J g' x105 h)) m ?_ ?_ g ⟨rfl,rfl,rfl,rfl,rfl,rfl,rfl,rfl,rfl,rfl,rfl,rfl,rfl,rfl,rfl,rfl,rfl,rfl,rfl,rfl,rfl,hj⟩
 ·intro g env h hi
  obtain ⟨x3',x4',a5',n5',c5',e5',x9',x10',i14',o14',a97',n97',c97',e97',x98',x99',a103',n103',c103',e103',x104',x105,rfl,rfl,rfl,rfl,rfl,rfl,rfl,rfl,rfl,rfl,rfl,rfl,rfl,rfl,rfl,rfl,rfl,rfl,rfl,rfl,rfl,rfl,hj⟩:=Yeq hi
  exact Yks Q R11 (P fun x105 h=>∃ g',m g' < m g∧J g' x105 h) x3 x4 a5 n5 c5 e5 x9 x10 i14 o14 a97 n97 c97 e97 x98 x99 a103 n103 c103 e103 x104 x105 h (hr g x105 h hj (P fun x105 h=>∃ g',m g' < m g∧J g' x105 h) fun g' x105 h hlt hj=>⟨rfl,rfl,rfl,rfl,rfl,rfl,rfl,rfl,rfl,rfl,rfl,rfl,rfl,rfl,rfl,rfl,rfl,rfl,rfl,rfl,rfl,g',hlt,hj⟩)
 ·intro g env h hi
  obtain ⟨x3',x4',a5',n5',c5',e5',x9',x10',i14',o14',a97',n97',c97',e97',x98',x99',a103',n103',c103',e103',x104',x105,rfl,rfl,rfl,rfl,rfl,rfl,rfl,rfl,rfl,rfl,rfl,rfl,rfl,rfl,rfl,rfl,rfl,rfl,rfl,rfl,rfl,rfl,g',hlt,hj⟩:=Yeq hi
  exact ⟨g',hlt,rfl,rfl,rfl,rfl,rfl,rfl,rfl,rfl,rfl,rfl,rfl,rfl,rfl,rfl,rfl,rfl,rfl,rfl,rfl,rfl,rfl,hj⟩
theorem A11x0i (Q:QT) (a5:Pt) (n5 c5:Nat) (e5:Bool) (x3 x4:List Nat) (x10:Bool) (x9:List Nat) (h:Zaa) (ht :
 Zac pg Zdn [.slice a5 n5 c5 e5,.str x3] h fun A B=>
 Zmb A fun A=>Zai A fun A C=>Zck A fun A=>Zai C fun C D=>Zbh C fun C=>Zcg D (Zac pg Zdn [.slice a5 n5 c5 e5,.str x4] B fun B D=>
 Zmb B fun B=>Zai B fun B E=>Zck B fun B=>Zai E fun E F=>Zbh E fun E=>Zcg F (Zac pg Zem [.str x4,.str x3] D fun D F=>
 Zmb D fun D=>Zai D fun D G=>xSl D fun D H I J=>Zai G fun G K=>Zbh G fun G=>Zcg K (Zac pg Zej [.slice a5 n5 c5 e5] F fun F G=>
 Zbh F fun F=>bcase F (bcase (C == E) (bcase (decide (A=B)) (bcase (!x10) (Zac pg Zbs [.slice D H I J,.slice a5 n5 c5 e5] G fun B C=>
 Zbh B fun B=>Q (.bool B) C) (bcase (decide (A=x9)) (Zac pg Zfq [.str x3,.str x9] G fun A B=>
 Zbh A fun A=>bcase A (Zac pg Zfq [.str x4,.str x9] B fun A C=>
 Zbh A fun A=>bcase A (Zac pg Zbs [.slice D H I J,.slice a5 n5 c5 e5] C fun A D=>
 Zbh A fun A=>Q (.bool A) D) (Q (.bool false) C)) (Q (.bool false) B)) (Q (.bool false) G))) (Q (.bool false) G)) (Q (.bool false) G)) (Q (.bool false) G))))):Yds Q a5 n5 c5 e5 x3 x4 x10 x9 h:=
 At.mk (cast (by kernel_rfl) ht)
theorem A14x2i (Q:QT) (R11:T11) (x99 x98:Int) (a97:Pt) (n97 c97:Nat) (e97:Bool) (a5:Pt) (n5 c5:Nat) (e5:Bool) (x3 x4:List Nat) (x10:Bool) (x9:List Nat) (h:Zaa) (ht :
 R11 x3 x4 a5 n5 c5 e5 x9 x10 a97 n97 c97 e97 x98 (IntKind.wrap .i64 (x99 + 1)) h):Ylt Q R11 x99 x98 a97 n97 c97 e97 a5 n5 c5 e5 x3 x4 x10 x9 h:=
 At.mk (cast (by kernel_rfl) ht)
theorem call (a0:Pt) (n0 c0:Nat) (e0:Bool) (h:Zaa) (Q:QT) (ht :
 bcase (decide (((((n0:Nat):Int)):Int) > 1048576)) (Q (.bool true) h) (Zac pg Zff [.slice a0 n0 c0 e0] h fun A B=>
 Zmb A fun A=>Zai A fun A C=>Zck A fun A=>Zai C fun C D=>Zck C fun C=>Zcg D (Zac pg Zem [.str A,.str C] B fun B D=>
 Zmb B fun B=>Zai B fun B E=>xSl B fun B F G H=>Zai E fun E I=>Zbh E fun E=>Zcg I (Zac pg Zfs [.str A,.str C] D fun D I=>
 Zmb D fun D=>Zai D fun D J=>xSl D fun D K L M=>Zai J fun J N=>Zbh J fun J=>Zcg N (Zac pg Zjw [.str A,.str C] I fun I N=>
 Zmb I fun I=>Zai I fun I O=>Zck I fun I=>Zai O fun O P=>Zbh O fun O=>Zcg P (Zac pg Zkm [.str A,.str C] N fun N P=>
 Zmb N fun N=>Zai N fun N R=>Zck N fun N=>Zai R fun R S=>Zbh R fun R=>Zcg S (Zac pg Zbs [.slice B F G H,.slice D K L M] P fun P R=>
 Zbh P fun P=>bcase (!P) (Zac pg Zbs [.slice B F G H,.slice D K L M] R fun P S=>
 Zbh P fun P=>bcase P (bcase (E == J) (bcase (decide (I=N)) (Q (.bool (!O)) S) (Q (.bool false) S)) (Q (.bool false) S)) (Q (.bool false) S)) (bcase (!(E == J)) (Zac pg Zbs [.slice B F G H,.slice D K L M] R fun P S=>
 Zbh P fun P=>bcase P (bcase (E == J) (bcase (decide (I=N)) (Q (.bool (!O)) S) (Q (.bool false) S)) (Q (.bool false) S)) (Q (.bool false) S)) (bcase (!(decide (I=N))) (Zac pg Zbs [.slice B F G H,.slice D K L M] R fun P S=>
 Zbh P fun P=>bcase P (bcase (E == J) (bcase (decide (I=N)) (Q (.bool (!O)) S) (Q (.bool false) S)) (Q (.bool false) S)) (Q (.bool false) S)) (bcase O (bcase (!E) (Zac pg Zbs [.slice B F G H,.slice D K L M] R fun P S=>
 Zbh P fun P=>bcase P (bcase (E == J) (bcase (decide (I=N)) (Q (.bool (!O)) S) (Q (.bool false) S)) (Q (.bool false) S)) (Q (.bool false) S)) (bcase (!E) (Zac pg Zbs [.slice B F G H,.slice D K L M] R fun P S=>
 Zbh P fun P=>bcase P (bcase (E == J) (bcase (decide (I=N)) (Q (.bool (!O)) S) (Q (.bool false) S)) (Q (.bool false) S)) (Q (.bool false) S)) (J10 Q B F G H A C I O R))) (bcase (!E) (Zac pg Zbs [.slice B F G H,.slice D K L M] R fun D K=>
 Zbh D fun D=>bcase D (bcase (E == J) (bcase (decide (I=N)) (Q (.bool (!O)) K) (Q (.bool false) K)) (Q (.bool false) K)) (Q (.bool false) K)) (J10 Q B F G H A C I O R)))))))))))):Zac pg Zmw [.slice a0 n0 c0 e0] h Q:=
 Zac.of_body kp (c:=cod fn) (fn:=fn) Go.Proofs.Tryz.func3 (by kernel_rfl) (by kernel_rfl) (Nat.le_of_ble_eq_true (by kernel_rfl))
  (cast (by kernel_rfl) ht)
end Zcx
end Go.Sim

set_option maxRecDepth 100000
set_option maxHeartbeats 0
set_option linter.unusedVariables false
namespace Go.Sim
open Go Go.RowKit
namespace Zhb
noncomputable abbrev fn:Func:=Go.Proofs.Tryz.f8
def kp:Zcu:=[(4000005,[6,8])]
noncomputable def C (p:List Nat):Code:=(cod fn).sub p
def KR (Q:QT):KT:=Zha pg fn.results.toList Q
def J5 (Q:QT) (i6 o6 i8 o8:Nat) (h:Zaa):Prop:=Den pg fn.ntmps (C [1,1,1,1]) [(6,.ptr (i6,o6)),(8,.ptr (i8,o8))] h (KR Q)
theorem J5i (Q:QT) (i6 o6 i8 o8:Nat) (h:Zaa) (ht :
 Zdg (Zcv h (.ptr (i6,o6)) 2) fun A=>Zai A fun A B=>Zbo .u8 A fun A=>Zai B fun B C=>xSl B fun B D E F=>Zcg C (Zdg (Zcv h (.ptr (i8,o8)) 2) fun C=>Zai C fun C G=>Zbo .u8 C fun C=>Zai G fun G H=>xSl G fun G I J K=>Zcg H (Zac pg Zjg [.agg [.int .u8 A,.slice B D E F],.agg [.int .u8 C,.slice G I J K]] h fun A B=>
 Zmb A fun A=>Zai A fun A C=>Zep A fun A=>Zai C fun C D=>Zbh C fun C=>Zcg D (bcase (!C) (Zeg (B ++ [.cells Zaq [] false]) fun C=>Q (.tup [.slice (B.length,0) 0 0 true,.bool false]) C) (Zac pg Zko [.ptr A] B fun A B=>
 Zmb A fun A=>Zai A fun A C=>xSl A fun A D E F=>Zai C fun C G=>Zbh C fun C=>Zcg G (Q (.tup [.slice A D E F,.bool C]) B)))))):J5 Q i6 o6 i8 o8 h:=
 Zbb (kp:=kp) (cast (by kernel_rfl) ht)
theorem call (x0 x1:List Nat) (h:Zaa) (Q:QT) (ht :
 Zac pg Zds [.str x0] h fun A B=>
 Zmb A fun A=>Zai A fun A C=>Zqb A fun A=>Zai A fun A D=>Zbo .u8 A fun A=>Zai D fun D E=>xSl D fun D F G H=>Zcg E (Zai C fun C E=>Zbh C fun C=>Zcg E (Zeg (B ++ [.cells Zab [.int .u8 0,.slice none 0 0 true] false]) fun E=>Zcc (Zbf E (.ptr (B.length,0)) [.int .u8 A,.slice D F G H]) fun A=>Zac pg Zds [.str x1] A fun A D=>
 Zmb A fun A=>Zai A fun A E=>Zqb A fun A=>Zai A fun A F=>Zbo .u8 A fun A=>Zai F fun F G=>xSl F fun F H I J=>Zcg G (Zai E fun E G=>Zbh E fun E=>Zcg G (Zeg (D ++ [.cells Zab [.int .u8 0,.slice none 0 0 true] false]) fun G=>Zcc (Zbf G (.ptr (D.length,0)) [.int .u8 A,.slice F H I J]) fun A=>bcase (!C) (Zeg (A ++ [.cells Zaq [] false]) fun C=>Q (.tup [.slice (A.length,0) 0 0 true,.bool false]) C) (bcase (!E) (Zeg (A ++ [.cells Zaq [] false]) fun C=>Q (.tup [.slice (A.length,0) 0 0 true,.bool false]) C) (J5 Q B.length 0 D.length 0 A))))))):Zac pg Zfs [.str x0,.str x1] h Q:=
 Zac.of_body kp (c:=cod fn) (fn:=fn) Go.Proofs.Tryz.func8 (by kernel_rfl) (by kernel_rfl) (Nat.le_of_ble_eq_true (by kernel_rfl))
  (cast (by kernel_rfl) ht)
end Zhb
namespace Znz
noncomputable abbrev fn:Func:=Go.Proofs.Tryz.f10
def kp:Zcu:=[]
noncomputable def C (p:List Nat):Code:=(cod fn).sub p
def KR (Q:QT):KT:=Zha pg fn.results.toList Q
theorem call (x0 x1:List Nat) (h:Zaa) (Q:QT) (ht :
 Zac pg Zfs [.str x0,.str x1] h fun A B=>
 Zmb A fun A=>Zai A fun A C=>xSl A fun A D E F=>Zai C fun C G=>Zbh C fun C=>Zcg G (bcase (!C) (Q (.tup [.str [],.bool false]) B) (Zac pg Zfx [.slice A D E F,.str x0] B fun A B=>
 Zmb A fun A=>Zai A fun A C=>Zck A fun A=>Zai C fun C D=>Zbh C fun C=>Zcg D (Q (.tup [.str A,.bool C]) B)))):Zac pg Zkm [.str x0,.str x1] h Q:=
 Zac.of_body kp (c:=cod fn) (fn:=fn) Go.Proofs.Tryz.func10 (by kernel_rfl) (by kernel_rfl) (Nat.le_of_ble_eq_true (by kernel_rfl))
  (cast (by kernel_rfl) ht)
end Znz
end Go.Sim

set_option maxRecDepth 100000
set_option maxHeartbeats 0
set_option linter.unusedVariables false
namespace Go.Sim
open Go Go.RowKit
namespace Zei
noncomputable abbrev fn:Func:=Go.Proofs.Tryz.f42
def kp:Zcu:=[(3000006,[7]),(1000006,[6,7,19]),(2000009,[19,6,7]),(4000010,[19,6,7])]
noncomputable def C (p:List Nat):Code:=(cod fn).sub p
def KR (Q:QT):KT:=Zha pg fn.results.toList Q
abbrev T6:=Nat→Nat→Nat→Nat→Int→Zaa→Prop
def E6 (R6:T6) (env:Env) (h:Zaa):Prop:=Zcd 6 env fun v env=>Zep v fun a=>Zax a fun i6 o6=>Zcd 7 env fun v env=>Zep v fun a=>Zax a fun i7 o7=>Zcd 19 env fun v env=>Zgj .i64 v fun x19=>Znc env (R6 i6 o6 i7 o7 x19 h)
theorem Ziw {R6:T6} {env:Env} {h:Zaa} (hi:E6 R6 env h):∃ i6,∃ o6,∃ i7,∃ o7,∃ x19,env=[(6,.ptr (i6,o6)),(7,.ptr (i7,o7)),(19,.int .i64 x19)]∧R6 i6 o6 i7 o7 x19 h:=by
 unfold E6 at hi
 have hi0:=hi
 clear hi
 obtain ⟨_,_,rfl,hi1⟩:=Zaj hi0
 obtain ⟨a,rfl,hi2⟩:=Zbk hi1
 obtain ⟨i6,o6,rfl,hi3⟩:=Zbm hi2
 obtain ⟨_,_,rfl,hi4⟩:=Zaj hi3
 obtain ⟨a,rfl,hi5⟩:=Zbk hi4
 obtain ⟨i7,o7,rfl,hi6⟩:=Zbm hi5
 obtain ⟨_,_,rfl,hi7⟩:=Zaj hi6
 obtain ⟨x19,rfl,hi8⟩:=Zbd hi7
 obtain ⟨rfl,hi9⟩:=Zbq hi8
 have hi:=hi9
 exact ⟨i6,o6,i7,o7,x19,rfl,hi⟩
def K0 (Q:QT):KT:=andThen (fun env' h'=>(match kp.find 4000011 with | some ks=>Den pg fn.ntmps (C [1,1,1,1,1]) (env'.keep ks) h' (KR Q) | none=>den pg fn.ntmps kp (C [1,1,1,1,1]) env' h' (KR Q))) (KR Q)
def K1 (Q:QT):KT:=Zdj 0 (K0 Q)
def K2 (Q:QT):KT:=left kp 6 (K1 Q)
def K3 (Q:QT) (R6:T6):KT:=rnd ((kp.find 1000006).getD []) (E6 R6) (K2 Q)
def L6 (Q:QT) (i6 o6 i7 o7:Nat) (x19:Int) (h:Zaa):Prop:=Zfy (Den pg fn.ntmps (C [1,1,1,1,0,1,0,0])) ((kp.find 1000006).getD []) (K2 Q) [(6,.ptr (i6,o6)),(7,.ptr (i7,o7)),(19,.int .i64 x19)] h
def J10 (Q:QT) (R6:T6) (x19:Int) (i6 o6 i7 o7:Nat) (h:Zaa):Prop:=Den pg fn.ntmps (C [1,1,1,1,0,1,0,0,1,1,1]) [(19,.int .i64 x19),(6,.ptr (i6,o6)),(7,.ptr (i7,o7))] h (K3 Q R6)
def Zzt (Q:QT) (i7 o7:Nat) (h:Zaa):Prop:=At (K1 Q) (.exit 0) [(7,.ptr (i7,o7))] h
def L6t (Q:QT) (R6:T6) (i6 o6 i7 o7:Nat) (x19:Int) (h:Zaa):Prop:=
 bcase (decide ((x19:Int) < 12)) ((0≤(x19:Int)∧(x19:Int) < (12:Nat))∧(Zbo .u8 (Zah h (.ptr (i6,o6 + (Int.toNat x19) * 2 + 0))) fun A=>bcase (!((A:Int) == 0)) ((0≤(x19:Int)∧(x19:Int) < (12:Nat))∧(Zdg (Zcv h (.ptr (i6,o6 + (Int.toNat x19) * 2)) 2) fun A=>Zai A fun A B=>Zbo .u8 A fun A=>Zai B fun B C=>xSl B fun B D E F=>Zcg C (Zac pg Zia [.ptr (i6,o6),.agg [.int .u8 A,.slice B D E F]] h fun A B=>
 Zqb A fun A=>Zai A fun A C=>Zbo .u8 A fun A=>Zai C fun C D=>xSl C fun C E F G=>Zcg D ((0≤(x19:Int)∧(x19:Int) < (12:Nat))∧(Zcc (Zbf B (.ptr (i7,o7 + (Int.toNat x19) * 2)) [.int .u8 A,.slice C E F G]) fun A=>J10 Q R6 x19 i6 o6 i7 o7 A))))) (J10 Q R6 x19 i6 o6 i7 o7 h))) (Zzt Q i7 o7 h)
theorem Zum (Q:QT) (R6:T6) (i6 o6 i7 o7:Nat) (x19:Int) (h:Zaa) (ht:L6t Q R6 i6 o6 i7 o7 x19 h):Den pg fn.ntmps (C [1,1,1,1,0,1,0,0]) [(6,.ptr (i6,o6)),(7,.ptr (i7,o7)),(19,.int .i64 x19)] h (K3 Q R6):=
 Zbb (kp:=kp) (cast (by kernel_rfl) ht)
theorem L6ind (Q:QT) (i6 o6 i7 o7:Nat) {G:Type} (J:G→Int→Zaa→Prop) (m:G→Nat)
 (hr:∀ (g:G) (x19:Int) (h:Zaa),J g x19 h→∀ (R6:T6),(∀ g' (x19:Int) (h:Zaa),m g' < m g→J g' x19 h→R6 i6 o6 i7 o7 x19 h)→L6t Q R6 i6 o6 i7 o7 x19 h)
 (g:G) (x19:Int) (h:Zaa) (hj:J g x19 h):L6 Q i6 o6 i7 o7 x19 h:=by
 let P:=fun (K:Int→Zaa→Prop) i6' o6' i7' o7' x19 h=>i6=i6'∧o6=o6'∧i7=i7'∧o7=o7'∧K x19 h
 refine Zfy.inv2 (fun g=>E6 (P (J g))) (fun g=>E6 (P fun x19 h=>∃ g',m g' < m g∧J g' x19 h)) m ?_ ?_ g ⟨rfl,rfl,rfl,rfl,hj⟩
 ·intro g env h hi
  obtain ⟨i6',o6',i7',o7',x19,rfl,rfl,rfl,rfl,rfl,hj⟩:=Ziw hi
  exact Zum Q _ i6 o6 i7 o7 x19 h (hr g x19 h hj (P fun x19 h=>∃ g',m g' < m g∧J g' x19 h) fun g' x19 h hlt hj=>⟨rfl,rfl,rfl,rfl,g',hlt,hj⟩)
 ·intro g env h hi
  obtain ⟨i6',o6',i7',o7',x19,rfl,rfl,rfl,rfl,rfl,g',hlt,hj⟩:=Ziw hi
  exact ⟨g',hlt,rfl,rfl,rfl,rfl,hj⟩
theorem J10i (Q:QT) (R6:T6) (x19:Int) (i6 o6 i7 o7:Nat) (h:Zaa) (ht :
 R6 i6 o6 i7 o7 (IntKind.wrap .i64 (x19 + 1)) h):J10 Q R6 x19 i6 o6 i7 o7 h:=
 Zbb (kp:=kp) (cast (by kernel_rfl) ht)
theorem A6x0i (Q:QT) (i7 o7:Nat) (h:Zaa) (ht :
 Q (.tup [.ptr (i7,o7),.bool true]) h):Zzt Q i7 o7 h:=
 At.mk (cast (by kernel_rfl) ht)
theorem call (x0x0:Int) (a0x1:Pt) (n0x1 c0x1:Nat) (e0x1:Bool) (x1x0:Int) (a1x1:Pt) (n1x1 c1x1:Nat) (e1x1:Bool) (h:Zaa) (Q:QT) (ht :
 Zeg (h ++ [.cells Zab [.int .u8 x0x0,.slice a0x1 n0x1 c0x1 e0x1] false]) fun A=>Zeg (A ++ [.cells Zab [.int .u8 x1x0,.slice a1x1 n1x1 c1x1 e1x1] false]) fun B=>Zeg (B ++ [.cells Zbe [.int .u8 0,.slice none 0 0 true,.int .u8 0,.slice none 0 0 true,.int .u8 0,.slice none 0 0 true,.int .u8 0,.slice none 0 0 true,.int .u8 0,.slice none 0 0 true,.int .u8 0,.slice none 0 0 true,.int .u8 0,.slice none 0 0 true,.int .u8 0,.slice none 0 0 true,.int .u8 0,.slice none 0 0 true,.int .u8 0,.slice none 0 0 true,.int .u8 0,.slice none 0 0 true,.int .u8 0,.slice none 0 0 true] false]) fun C=>Zdg (Zcv C (.ptr (h.length,0)) 2) fun D=>Zai D fun D E=>Zbo .u8 D fun D=>Zai E fun E F=>xSl E fun E G H I=>Zcg F (Zdg (Zcv C (.ptr (A.length,0)) 2) fun A=>Zai A fun A F=>Zbo .u8 A fun A=>Zai F fun F J=>xSl F fun F K L M=>Zcg J (Zac pg Zbt [.ptr (B.length,0),.agg [.int .u8 D,.slice E G H I],.agg [.int .u8 A,.slice F K L M]] C fun A C=>
 Zbh A fun A=>bcase (!A) (Q (.tup [.ptr (B.length,0),.bool false]) C) (Zeg (C ++ [.cells Zbe [.int .u8 0,.slice none 0 0 true,.int .u8 0,.slice none 0 0 true,.int .u8 0,.slice none 0 0 true,.int .u8 0,.slice none 0 0 true,.int .u8 0,.slice none 0 0 true,.int .u8 0,.slice none 0 0 true,.int .u8 0,.slice none 0 0 true,.int .u8 0,.slice none 0 0 true,.int .u8 0,.slice none 0 0 true,.int .u8 0,.slice none 0 0 true,.int .u8 0,.slice none 0 0 true,.int .u8 0,.slice none 0 0 true] false]) fun A=>L6 Q B.length 0 C.length 0 0 A)))):Zac pg Zjg [.agg [.int .u8 x0x0,.slice a0x1 n0x1 c0x1 e0x1],.agg [.int .u8 x1x0,.slice a1x1 n1x1 c1x1 e1x1]] h Q:=
 Zac.of_body kp (c:=cod fn) (fn:=fn) Go.Proofs.Tryz.func42 (by kernel_rfl) (by kernel_rfl) (Nat.le_of_ble_eq_true (by kernel_rfl))
  (cast (by kernel_rfl) ht)
end Zei
end Go.Sim

set_option maxRecDepth 100000
set_option maxHeartbeats 0
set_option linter.unusedVariables false
namespace Go.Sim
open Go Go.RowKit
namespace Zgr
noncomputable abbrev fn:Func:=Go.Proofs.Tryz.f80
def kp:Zcu:=[(3000004,[5,4]),(1000004,[0,4,5,16,17,18]),(2000006,[18,17,16,5,0,4])]
noncomputable def C (p:List Nat):Code:=(cod fn).sub p
def KR (Q:QT):KT:=Zha pg fn.results.toList Q
abbrev T4:=Pt→Nat→Nat→Nat→Nat→Pt→Nat→Nat→Bool→Int→Int→Zaa→Prop
def E4 (R4:T4) (env:Env) (h:Zaa):Prop:=Zcd 0 env fun v env=>Zep v fun a0=>Zcd 4 env fun v env=>Zep v fun a=>Zax a fun i4 o4=>Zcd 5 env fun v env=>Zep v fun a=>Zax a fun i5 o5=>Zcd 16 env fun v env=>xSl v fun a16 n16 c16 e16=>Zcd 17 env fun v env=>Zgj .i64 v fun x17=>Zcd 18 env fun v env=>Zgj .i64 v fun x18=>Znc env (R4 a0 i4 o4 i5 o5 a16 n16 c16 e16 x17 x18 h)
theorem Yht {R4:T4} {env:Env} {h:Zaa} (hi:E4 R4 env h):∃ a0,∃ i4,∃ o4,∃ i5,∃ o5,∃ a16,∃ n16,∃ c16,∃ e16,∃ x17,∃ x18,env=[(0,.ptr a0),(4,.ptr (i4,o4)),(5,.ptr (i5,o5)),(16,.slice a16 n16 c16 e16),(17,.int .i64 x17),(18,.int .i64 x18)]∧R4 a0 i4 o4 i5 o5 a16 n16 c16 e16 x17 x18 h:=by
 unfold E4 at hi
 have hi0:=hi
 clear hi
 obtain ⟨_,_,rfl,hi1⟩:=Zaj hi0
 obtain ⟨a0,rfl,hi2⟩:=Zbk hi1
 obtain ⟨_,_,rfl,hi3⟩:=Zaj hi2
 obtain ⟨a,rfl,hi4⟩:=Zbk hi3
 obtain ⟨i4,o4,rfl,hi5⟩:=Zbm hi4
 obtain ⟨_,_,rfl,hi6⟩:=Zaj hi5
 obtain ⟨a,rfl,hi7⟩:=Zbk hi6
 obtain ⟨i5,o5,rfl,hi8⟩:=Zbm hi7
 obtain ⟨_,_,rfl,hi9⟩:=Zaj hi8
 obtain ⟨a16,n16,c16,e16,rfl,hi10⟩:=Zcy hi9
 obtain ⟨_,_,rfl,hi11⟩:=Zaj hi10
 obtain ⟨x17,rfl,hi12⟩:=Zbd hi11
 obtain ⟨_,_,rfl,hi13⟩:=Zaj hi12
 obtain ⟨x18,rfl,hi14⟩:=Zbd hi13
 obtain ⟨rfl,hi15⟩:=Zbq hi14
 have hi:=hi15
 exact ⟨a0,i4,o4,i5,o5,a16,n16,c16,e16,x17,x18,rfl,hi⟩
def K0 (Q:QT):KT:=andThen (fun env' h'=>(match kp.find 4000008 with | some ks=>Den pg fn.ntmps (C [1,1,1,1]) (env'.keep ks) h' (KR Q) | none=>den pg fn.ntmps kp (C [1,1,1,1]) env' h' (KR Q))) (KR Q)
def K1 (Q:QT):KT:=Zdj 0 (K0 Q)
def K2 (Q:QT):KT:=left kp 4 (K1 Q)
def K3 (Q:QT) (R4:T4):KT:=rnd ((kp.find 1000004).getD []) (E4 R4) (K2 Q)
def L4 (Q:QT) (a0:Pt) (i4 o4 i5 o5:Nat) (a16:Pt) (n16 c16:Nat) (e16:Bool) (x17 x18:Int) (h:Zaa):Prop:=Zfy (Den pg fn.ntmps (C [1,1,1,0,1,0,0])) ((kp.find 1000004).getD []) (K2 Q) [(0,.ptr a0),(4,.ptr (i4,o4)),(5,.ptr (i5,o5)),(16,.slice a16 n16 c16 e16),(17,.int .i64 x17),(18,.int .i64 x18)] h
def Ymv (Q:QT) (i5 o5 i4 o4:Nat) (h:Zaa):Prop:=At (K1 Q) (.exit 0) [(5,.ptr (i5,o5)),(4,.ptr (i4,o4))] h
def L4t (Q:QT) (R4:T4) (a0:Pt) (i4 o4 i5 o5:Nat) (a16:Pt) (n16 c16:Nat) (e16:Bool) (x17 x18:Int) (h:Zaa):Prop:=
 bcase (decide ((x18:Int) < x17)) ((0≤(x18:Int)∧(x18:Int) < (n16:Nat))∧(Zax a16 fun A B=>Zdg (Zcv h (.ptr (A,B + (Int.toNat x18) * 2)) 2) fun A=>Zai A fun A B=>Zbo .u8 A fun A=>Zai B fun B C=>xSl B fun B D E F=>Zcg C (Zeg (h ++ [.cells Zab [.int .u8 0,.slice none 0 0 true] false]) fun C=>Zcc (Zbf C (.ptr (h.length,0)) [.int .u8 A,.slice B D E F]) fun A=>xSl (Zah A (.ptr (i5,o5 + 1))) fun B C D E=>Zdg (Zcv A (.ptr (h.length,0)) 2) fun F=>Zai F fun F G=>Zbo .u8 F fun F=>Zai G fun G H=>xSl G fun G I J K=>Zcg H ((Zah A (.ptr (i5,o5 + 1))=Zah A (.ptr (i5,o5 + 1)))∧Zac pg Zia [.ptr a0,.agg [.int .u8 F,.slice G I J K]] A fun F G=>
 Zqb F fun F=>Zai F fun F H=>Zbo .u8 F fun F=>Zai H fun H I=>xSl H fun H J K L=>Zcg I ((Zah G (.ptr (i5,o5 + 1))=Zah A (.ptr (i5,o5 + 1)))∧Zeg (G ++ [.cells Zab [.int .u8 F,.slice H J K L] false]) fun A=>(Zah A (.ptr (i5,o5 + 1))=Zah G (.ptr (i5,o5 + 1)))∧Zea pg Zfn A (.slice B C D E) (.slice (G.length,0) 1 1 true) fun A B=>xSl A fun A C D E=>Zcc (Zbf B (.ptr (i5,o5 + 1)) [.slice A C D E]) fun A=>R4 a0 i4 o4 i5 o5 a16 n16 c16 e16 x17 (IntKind.wrap .i64 (x18 + 1)) A))))) (Ymv Q i5 o5 i4 o4 h)
theorem Yme (Q:QT) (R4:T4) (a0:Pt) (i4 o4 i5 o5:Nat) (a16:Pt) (n16 c16:Nat) (e16:Bool) (x17 x18:Int) (h:Zaa) (ht:L4t Q R4 a0 i4 o4 i5 o5 a16 n16 c16 e16 x17 x18 h):Den pg fn.ntmps (C [1,1,1,0,1,0,0]) [(0,.ptr a0),(4,.ptr (i4,o4)),(5,.ptr (i5,o5)),(16,.slice a16 n16 c16 e16),(17,.int .i64 x17),(18,.int .i64 x18)] h (K3 Q R4):=
 Zbb (kp:=kp) (cast (by kernel_rfl) ht)
theorem L4ind (Q:QT) (a0:Pt) (i4 o4 i5 o5:Nat) (a16:Pt) (n16 c16:Nat) (e16:Bool) (x17:Int) {G:Type} (J:G→Int→Zaa→Prop) (m:G→Nat)
 (hr:∀ (g:G) (x18:Int) (h:Zaa),J g x18 h→∀ (R4:T4),(∀ g' (x18:Int) (h:Zaa),m g' < m g→J g' x18 h→R4 a0 i4 o4 i5 o5 a16 n16 c16 e16 x17 x18 h)→L4t Q R4 a0 i4 o4 i5 o5 a16 n16 c16 e16 x17 x18 h)
 (g:G) (x18:Int) (h:Zaa) (hj:J g x18 h):L4 Q a0 i4 o4 i5 o5 a16 n16 c16 e16 x17 x18 h:=by
 let P:=fun (K:Int→Zaa→Prop) a0' i4' o4' i5' o5' a16' n16' c16' e16' x17' x18 h=>a0=a0'∧i4=i4'∧o4=o4'∧i5=i5'∧o5=o5'∧a16=a16'∧n16=n16'∧c16=c16'∧e16=e16'∧x17=x17'∧K x18 h
 refine Zfy.inv2 (fun g=>E4 (P (J g))) (fun g=>E4 (P fun x18 h=>∃ g',m g' < m g∧J g' x18 h)) m ?_ ?_ g ⟨rfl,rfl,rfl,rfl,rfl,rfl,rfl,rfl,rfl,rfl,hj⟩
 ·intro g env h hi
  obtain ⟨a0',i4',o4',i5',o5',a16',n16',c16',e16',x17',x18,rfl,rfl,rfl,rfl,rfl,rfl,rfl,rfl,rfl,rfl,rfl,hj⟩:=Yht hi
  exact Yme Q _ a0 i4 o4 i5 o5 a16 n16 c16 e16 x17 x18 h (hr g x18 h hj (P fun x18 h=>∃ g',m g' < m g∧J g' x18 h) fun g' x18 h hlt hj=>⟨rfl,rfl,rfl,rfl,rfl,rfl,rfl,rfl,rfl,rfl,g',hlt,hj⟩)
 ·intro g env h hi
  obtain ⟨a0',i4',o4',i5',o5',a16',n16',c16',e16',x17',x18,rfl,rfl,rfl,rfl,rfl,rfl,rfl,rfl,rfl,rfl,rfl,g',hlt,hj⟩:=Yht hi
  exact ⟨g',hlt,rfl,rfl,rfl,rfl,rfl,rfl,rfl,rfl,rfl,rfl,hj⟩
theorem A4x0i (Q:QT) (i5 o5 i4 o4:Nat) (h:Zaa) (ht :
 Zdg (Zcv h (.ptr (i5,o5)) 2) fun A=>Zai A fun A B=>Zbo .u8 A fun A=>Zai B fun B C=>xSl B fun B D E F=>Zcg C (Zcc (Zbf h (.ptr (i4,o4)) [.int .u8 A,.slice B D E F]) fun A=>Zdg (Zcv A (.ptr (i4,o4)) 2) fun B=>Zai B fun B C=>Zbo .u8 B fun B=>Zai C fun C D=>xSl C fun C E F G=>Zcg D (Q (.agg [.int .u8 B,.slice C E F G]) A))):Ymv Q i5 o5 i4 o4 h:=
 At.mk (cast (by kernel_rfl) ht)
theorem call (a0:Pt) (x1x0:Int) (a1x1:Pt) (n1x1 c1x1:Nat) (e1x1:Bool) (h:Zaa) (Q:QT) (ht :
 Zeg (h ++ [.cells Zab [.int .u8 x1x0,.slice a1x1 n1x1 c1x1 e1x1] false]) fun A=>Zeg (A ++ [.cells Zab [.int .u8 0,.slice none 0 0 true] false]) fun B=>Zdg (Zcv B (.ptr (h.length,0)) 2) fun C=>Zai C fun C D=>Zbo .u8 C fun C=>Zai D fun D E=>xSl D fun D F G H=>Zcg E (Zac pg Zft [.ptr a0,.agg [.int .u8 C,.slice D F G H]] B fun B C=>
 Zqb B fun B=>Zai B fun B D=>Zbo .u8 B fun B=>Zai D fun D E=>xSl D fun D F G H=>Zcg E (Zcc (Zbf C (.ptr (h.length,0)) [.int .u8 B,.slice D F G H]) fun B=>Zbo .u8 (Zah B (.ptr (h.length,0 + 0))) fun C=>Zeg (B ++ [.cells Zab [] false]) fun D=>Zeg (D ++ [.cells Zab [.int .u8 0,.slice none 0 0 true] false]) fun E=>Zcc (Zbf E (.ptr (D.length,0)) [.int .u8 C,.slice (B.length,0) 0 0 true]) fun B=>xSl (Zah B (.ptr (h.length,0 + 1))) fun C E F G=>L4 Q a0 A.length 0 D.length 0 C E F G (((E:Nat):Int)) 0 B))):Zac pg Zia [.ptr a0,.agg [.int .u8 x1x0,.slice a1x1 n1x1 c1x1 e1x1]] h Q:=
 Zac.of_body kp (c:=cod fn) (fn:=fn) Go.Proofs.Tryz.func80 (by kernel_rfl) (by kernel_rfl) (Nat.le_of_ble_eq_true (by kernel_rfl))
  (cast (by kernel_rfl) ht)
end Zgr
end Go.Sim

set_option maxRecDepth 100000
set_option maxHeartbeats 0
set_option linter.unusedVariables false
namespace Go.Sim
open Go Go.RowKit
namespace Zcw
noncomputable abbrev fn:Func:=Go.Proofs.Tryz.f79
def kp:Zcu:=[(2000003,[7,8,0,4,5]),(2000009,[]),(4000015,[4,0,5]),(3000016,[6]),(1000016,[0,4,5,67,68]),(2000018,[83,68,67,0,4,5])]
noncomputable def C (p:List Nat):Code:=(cod fn).sub p
def KR (Q:QT):KT:=Zha pg fn.results.toList Q
abbrev T16:=Pt→Nat→Nat→Nat→Nat→Int→Int→Zaa→Prop
def E16 (R16:T16) (env:Env) (h:Zaa):Prop:=Zcd 0 env fun v env=>Zep v fun a0=>Zcd 4 env fun v env=>Zep v fun a=>Zax a fun i4 o4=>Zcd 5 env fun v env=>Zep v fun a=>Zax a fun i5 o5=>Zcd 67 env fun v env=>Zgj .i64 v fun x67=>Zcd 68 env fun v env=>Zgj .i64 v fun x68=>Znc env (R16 a0 i4 o4 i5 o5 x67 x68 h)
theorem Ydk {R16:T16} {env:Env} {h:Zaa} (hi:E16 R16 env h):∃ a0,∃ i4,∃ o4,∃ i5,∃ o5,∃ x67,∃ x68,env=[(0,.ptr a0),(4,.ptr (i4,o4)),(5,.ptr (i5,o5)),(67,.int .i64 x67),(68,.int .i64 x68)]∧R16 a0 i4 o4 i5 o5 x67 x68 h:=by
 unfold E16 at hi
 have hi0:=hi
 clear hi
 obtain ⟨_,_,rfl,hi1⟩:=Zaj hi0
 obtain ⟨a0,rfl,hi2⟩:=Zbk hi1
 obtain ⟨_,_,rfl,hi3⟩:=Zaj hi2
 obtain ⟨a,rfl,hi4⟩:=Zbk hi3
 obtain ⟨i4,o4,rfl,hi5⟩:=Zbm hi4
 obtain ⟨_,_,rfl,hi6⟩:=Zaj hi5
 obtain ⟨a,rfl,hi7⟩:=Zbk hi6
 obtain ⟨i5,o5,rfl,hi8⟩:=Zbm hi7
 obtain ⟨_,_,rfl,hi9⟩:=Zaj hi8
 obtain ⟨x67,rfl,hi10⟩:=Zbd hi9
 obtain ⟨_,_,rfl,hi11⟩:=Zaj hi10
 obtain ⟨x68,rfl,hi12⟩:=Zbd hi11
 obtain ⟨rfl,hi13⟩:=Zbq hi12
 have hi:=hi13
 exact ⟨a0,i4,o4,i5,o5,x67,x68,rfl,hi⟩
def K0 (Q:QT):KT:=andThen (fun env' h'=>(match kp.find 4000021 with | some ks=>Den pg fn.ntmps (C [1,1,1,1,1,1]) (env'.keep ks) h' (KR Q) | none=>den pg fn.ntmps kp (C [1,1,1,1,1,1]) env' h' (KR Q))) (KR Q)
def K1 (Q:QT):KT:=Zdj 1 (K0 Q)
def K2 (Q:QT):KT:=left kp 16 (K1 Q)
def K3 (Q:QT) (R16:T16):KT:=rnd ((kp.find 1000016).getD []) (E16 R16) (K2 Q)
def J15 (Q:QT) (i4 o4:Nat) (a0:Pt) (i5 o5:Nat) (h:Zaa):Prop:=Den pg fn.ntmps (C [1,1,1,1,1]) [(4,.ptr (i4,o4)),(0,.ptr a0),(5,.ptr (i5,o5))] h (KR Q)
def L16 (Q:QT) (a0:Pt) (i4 o4 i5 o5:Nat) (x67 x68:Int) (h:Zaa):Prop:=Zfy (Den pg fn.ntmps (C [1,1,1,1,1,0,1,0,0])) ((kp.find 1000016).getD []) (K2 Q) [(0,.ptr a0),(4,.ptr (i4,o4)),(5,.ptr (i5,o5)),(67,.int .i64 x67),(68,.int .i64 x68)] h
def Ylr (Q:QT) (h:Zaa):Prop:=At (K1 Q) (.exit 1) [(6,.undef)] h
theorem J15i (Q:QT) (i4 o4:Nat) (a0:Pt) (i5 o5:Nat) (h:Zaa) (ht :
 xSl (Zah h (.ptr (i4,o4 + 1))) fun A A B B=>L16 Q a0 i4 o4 i5 o5 (((A:Nat):Int)) 0 h):J15 Q i4 o4 a0 i5 o5 h:=
 Zbb (kp:=kp) (cast (by kernel_rfl) ht)
def L16t (Q:QT) (R16:T16) (a0:Pt) (i4 o4 i5 o5:Nat) (x67 x68:Int) (h:Zaa):Prop:=
 bcase (decide ((x68:Int) < x67)) (xSl (Zah h (.ptr (i4,o4 + 1))) fun A B C C=>(0≤(x68:Int)∧(x68:Int) < (B:Nat))∧(Zax A fun A B=>Zdg (Zcv h (.ptr (A,B + (Int.toNat x68) * 2)) 2) fun C=>Zai C fun C D=>Zbo .u8 C fun C=>Zai D fun D E=>xSl D fun D F G H=>Zcg E (xSl (Zah h (.ptr (i5,o5 + 1))) fun E I J J=>(Zcv h (.ptr (A,B + (Int.toNat x68) * 2)) 2=Zcv h (.ptr (A,B + (Int.toNat x68) * 2)) 2)∧(Zah h (.ptr (i4,o4 + 1))=Zah h (.ptr (i4,o4 + 1)))∧(0≤(x68:Int)∧(x68:Int) < (I:Nat))∧(Zax E fun E I=>Zdg (Zcv h (.ptr (E,I + (Int.toNat x68) * 2)) 2) fun E=>Zai E fun E I=>Zbo .u8 E fun E=>Zai I fun I J=>xSl I fun I K L M=>Zcg J ((Zcv h (.ptr (A,B + (Int.toNat x68) * 2)) 2=Zcv h (.ptr (A,B + (Int.toNat x68) * 2)) 2)∧(Zah h (.ptr (i4,o4 + 1))=Zah h (.ptr (i4,o4 + 1)))∧Zac pg Zbt [.ptr a0,.agg [.int .u8 C,.slice D F G H],.agg [.int .u8 E,.slice I K L M]] h fun A B=>
 Zbh A fun A=>(Zah B (.ptr (i4,o4 + 1))=Zah h (.ptr (i4,o4 + 1)))∧bcase (!A) (Q (.bool false) B) (R16 a0 i4 o4 i5 o5 x67 (IntKind.wrap .i64 (x68 + 1)) B)))))) (Ylr Q h)
theorem Ylg (Q:QT) (R16:T16) (a0:Pt) (i4 o4 i5 o5:Nat) (x67 x68:Int) (h:Zaa) (ht:L16t Q R16 a0 i4 o4 i5 o5 x67 x68 h):Den pg fn.ntmps (C [1,1,1,1,1,0,1,0,0]) [(0,.ptr a0),(4,.ptr (i4,o4)),(5,.ptr (i5,o5)),(67,.int .i64 x67),(68,.int .i64 x68)] h (K3 Q R16):=
 Zbb (kp:=kp) (cast (by kernel_rfl) ht)
theorem L16ind (Q:QT) (a0:Pt) (i4 o4 i5 o5:Nat) (x67:Int) {G:Type} (J:G→Int→Zaa→Prop) (m:G→Nat)
 (hr:∀ (g:G) (x68:Int) (h:Zaa),J g x68 h→∀ (R16:T16),(∀ g' (x68:Int) (h:Zaa),m g' < m g→J g' x68 h→R16 a0 i4 o4 i5 o5 x67 x68 h)→L16t Q R16 a0 i4 o4 i5 o5 x67 x68 h)
 (g:G) (x68:Int) (h:Zaa) (hj:J g x68 h):L16 Q a0 i4 o4 i5 o5 x67 x68 h:=by
 let P:=fun (K:Int→Zaa→Prop) a0' i4' o4' i5' o5' x67' x68 h=>a0=a0'∧i4=i4'∧o4=o4'∧i5=i5'∧o5=o5'∧x67=x67'∧K x68 h
 refine Zfy.inv2 (fun g=>E16 (P (J g))) (fun g=>E16 (P fun x68 h=>∃ g',m g' < m g∧J g' x68 h)) m ?_ ?_ g ⟨rfl,rfl,rfl,rfl,rfl,rfl,hj⟩
 ·intro g env h hi
  obtain ⟨a0',i4',o4',i5',o5',x67',x68,rfl,rfl,rfl,rfl,rfl,rfl,rfl,hj⟩:=Ydk hi
  exact Ylg Q _ a0 i4 o4 i5 o5 x67 x68 h (hr g x68 h hj (P fun x68 h=>∃ g',m g' < m g∧J g' x68 h) fun g' x68 h hlt hj=>⟨rfl,rfl,rfl,rfl,rfl,rfl,g',hlt,hj⟩)
 ·intro g env h hi
  obtain ⟨a0',i4',o4',i5',o5',x67',x68,rfl,rfl,rfl,rfl,rfl,rfl,rfl,g',hlt,hj⟩:=Ydk hi
  exact ⟨g',hlt,rfl,rfl,rfl,rfl,rfl,rfl,hj⟩
theorem A16x1i (Q:QT) (h:Zaa) (ht :
 Q (.bool true) h):Ylr Q h:=
 At.mk (cast (by kernel_rfl) ht)
theorem call (a0:Pt) (x1x0:Int) (a1x1:Pt) (n1x1 c1x1:Nat) (e1x1:Bool) (x2x0:Int) (a2x1:Pt) (n2x1 c2x1:Nat) (e2x1:Bool) (h:Zaa) (Q:QT) (ht :
 Zeg (h ++ [.cells Zab [.int .u8 x1x0,.slice a1x1 n1x1 c1x1 e1x1] false]) fun A=>Zeg (A ++ [.cells Zab [.int .u8 x2x0,.slice a2x1 n2x1 c2x1 e2x1] false]) fun B=>Zdg (Zcv B (.ptr (h.length,0)) 2) fun C=>Zai C fun C D=>Zbo .u8 C fun C=>Zai D fun D E=>xSl D fun D F G H=>Zcg E (Zac pg Zft [.ptr a0,.agg [.int .u8 C,.slice D F G H]] B fun B C=>
 Zqb B fun B=>Zai B fun B D=>Zbo .u8 B fun B=>Zai D fun D E=>xSl D fun D F G H=>Zcg E (Zcc (Zbf C (.ptr (h.length,0)) [.int .u8 B,.slice D F G H]) fun B=>Zdg (Zcv B (.ptr (A.length,0)) 2) fun C=>Zai C fun C D=>Zbo .u8 C fun C=>Zai D fun D E=>xSl D fun D F G H=>Zcg E (Zac pg Zft [.ptr a0,.agg [.int .u8 C,.slice D F G H]] B fun B C=>
 Zqb B fun B=>Zai B fun B D=>Zbo .u8 B fun B=>Zai D fun D E=>xSl D fun D F G H=>Zcg E (Zcc (Zbf C (.ptr (A.length,0)) [.int .u8 B,.slice D F G H]) fun B=>Zbo .u8 (Zah B (.ptr (h.length,0 + 0))) fun C=>Zbo .u8 (Zah B (.ptr (A.length,0 + 0))) fun D=>Zac pg Zdu [.int .u8 C] B fun C E=>
 Zbo .i64 C fun C=>(Zah E (.ptr (A.length,0 + 0))=Zah B (.ptr (A.length,0 + 0)))∧Zac pg Zdu [.int .u8 D] E fun B D=>
 Zbo .i64 B fun B=>(Zah D (.ptr (h.length,0 + 0))=Zah E (.ptr (h.length,0 + 0)))∧bcase (decide ((C:Int) ≥ 0)) (bcase ((C:Int) == B) (Q (.bool true) D) (bcase (decide ((C:Int) ≥ 0)) (bcase (decide ((B:Int) < 0)) (Zbo .u8 (Zah D (.ptr (h.length,0 + 0))) fun E=>Zdg (Zcv D (.ptr (A.length,0)) 2) fun F=>Zai F fun F G=>Zbo .u8 F fun F=>Zai G fun G H=>xSl G fun G I J K=>Zcg H (Zac pg Zca [.ptr a0,.int .u8 E,.agg [.int .u8 F,.slice G I J K]] D fun E F=>
 Zbh E fun E=>bcase E (Q (.bool false) F) (Zax a0 fun E G=>Zdg (Zcv F (.ptr (A.length,0)) 2) fun H=>Zai H fun H I=>Zbo .u8 H fun H=>Zai I fun I J=>xSl I fun I K L M=>Zcg J ((0≤(C:Int)∧(C:Int) < (12:Nat))∧(Zcc (Zbf F (.ptr (E,G + (Int.toNat C) * 2)) [.int .u8 H,.slice I K L M]) fun E=>Q (.bool true) E))))) (bcase (decide ((C:Int) < B)) (Zbo .u8 (Zah D (.ptr (h.length,0 + 0))) fun E=>Zdg (Zcv D (.ptr (A.length,0)) 2) fun F=>Zai F fun F G=>Zbo .u8 F fun F=>Zai G fun G H=>xSl G fun G I J K=>Zcg H (Zac pg Zca [.ptr a0,.int .u8 E,.agg [.int .u8 F,.slice G I J K]] D fun E F=>
 Zbh E fun E=>bcase E (Q (.bool false) F) (Zax a0 fun E G=>Zdg (Zcv F (.ptr (A.length,0)) 2) fun H=>Zai H fun H I=>Zbo .u8 H fun H=>Zai I fun I J=>xSl I fun I K L M=>Zcg J ((0≤(C:Int)∧(C:Int) < (12:Nat))∧(Zcc (Zbf F (.ptr (E,G + (Int.toNat C) * 2)) [.int .u8 H,.slice I K L M]) fun E=>Q (.bool true) E))))) (bcase (decide ((B:Int) ≥ 0)) (Zdg (Zcv D (.ptr (A.length,0)) 2) fun E=>Zai E fun E F=>Zbo .u8 E fun E=>Zai F fun F G=>xSl F fun F H I J=>Zcg G (Zdg (Zcv D (.ptr (h.length,0)) 2) fun G=>Zai G fun G K=>Zbo .u8 G fun G=>Zai K fun K L=>xSl K fun K M N O=>Zcg L (Zac pg Zbt [.ptr a0,.agg [.int .u8 E,.slice F H I J],.agg [.int .u8 G,.slice K M N O]] D fun E F=>
 Zbh E fun E=>Q (.bool E) F))) (Zbo .u8 (Zah D (.ptr (h.length,0 + 0))) fun E=>Zbo .u8 (Zah D (.ptr (A.length,0 + 0))) fun F=>bcase (!((E:Int) == F)) (Q (.bool false) D) (J15 Q h.length 0 a0 A.length 0 D))))) (bcase (decide ((B:Int) ≥ 0)) (Zdg (Zcv D (.ptr (A.length,0)) 2) fun E=>Zai E fun E F=>Zbo .u8 E fun E=>Zai F fun F G=>xSl F fun F H I J=>Zcg G (Zdg (Zcv D (.ptr (h.length,0)) 2) fun G=>Zai G fun G K=>Zbo .u8 G fun G=>Zai K fun K L=>xSl K fun K M N O=>Zcg L (Zac pg Zbt [.ptr a0,.agg [.int .u8 E,.slice F H I J],.agg [.int .u8 G,.slice K M N O]] D fun E F=>
 Zbh E fun E=>Q (.bool E) F))) (Zbo .u8 (Zah D (.ptr (h.length,0 + 0))) fun E=>Zbo .u8 (Zah D (.ptr (A.length,0 + 0))) fun F=>bcase (!((E:Int) == F)) (Q (.bool false) D) (J15 Q h.length 0 a0 A.length 0 D))))) (bcase (decide ((C:Int) ≥ 0)) (bcase (decide ((B:Int) < 0)) (Zbo .u8 (Zah D (.ptr (h.length,0 + 0))) fun E=>Zdg (Zcv D (.ptr (A.length,0)) 2) fun F=>Zai F fun F G=>Zbo .u8 F fun F=>Zai G fun G H=>xSl G fun G I J K=>Zcg H (Zac pg Zca [.ptr a0,.int .u8 E,.agg [.int .u8 F,.slice G I J K]] D fun E F=>
 Zbh E fun E=>bcase E (Q (.bool false) F) (Zax a0 fun E G=>Zdg (Zcv F (.ptr (A.length,0)) 2) fun H=>Zai H fun H I=>Zbo .u8 H fun H=>Zai I fun I J=>xSl I fun I K L M=>Zcg J ((0≤(C:Int)∧(C:Int) < (12:Nat))∧(Zcc (Zbf F (.ptr (E,G + (Int.toNat C) * 2)) [.int .u8 H,.slice I K L M]) fun E=>Q (.bool true) E))))) (bcase (decide ((C:Int) < B)) (Zbo .u8 (Zah D (.ptr (h.length,0 + 0))) fun E=>Zdg (Zcv D (.ptr (A.length,0)) 2) fun F=>Zai F fun F G=>Zbo .u8 F fun F=>Zai G fun G H=>xSl G fun G I J K=>Zcg H (Zac pg Zca [.ptr a0,.int .u8 E,.agg [.int .u8 F,.slice G I J K]] D fun E F=>
 Zbh E fun E=>bcase E (Q (.bool false) F) (Zax a0 fun E G=>Zdg (Zcv F (.ptr (A.length,0)) 2) fun H=>Zai H fun H I=>Zbo .u8 H fun H=>Zai I fun I J=>xSl I fun I K L M=>Zcg J ((0≤(C:Int)∧(C:Int) < (12:Nat))∧(Zcc (Zbf F (.ptr (E,G + (Int.toNat C) * 2)) [.int .u8 H,.slice I K L M]) fun C=>Q (.bool true) C))))) (bcase (decide ((B:Int) ≥ 0)) (Zdg (Zcv D (.ptr (A.length,0)) 2) fun C=>Zai C fun C E=>Zbo .u8 C fun C=>Zai E fun E F=>xSl E fun E G H I=>Zcg F (Zdg (Zcv D (.ptr (h.length,0)) 2) fun F=>Zai F fun F J=>Zbo .u8 F fun F=>Zai J fun J K=>xSl J fun J L M N=>Zcg K (Zac pg Zbt [.ptr a0,.agg [.int .u8 C,.slice E G H I],.agg [.int .u8 F,.slice J L M N]] D fun C E=>
 Zbh C fun C=>Q (.bool C) E))) (Zbo .u8 (Zah D (.ptr (h.length,0 + 0))) fun C=>Zbo .u8 (Zah D (.ptr (A.length,0 + 0))) fun E=>bcase (!((C:Int) == E)) (Q (.bool false) D) (J15 Q h.length 0 a0 A.length 0 D))))) (bcase (decide ((B:Int) ≥ 0)) (Zdg (Zcv D (.ptr (A.length,0)) 2) fun B=>Zai B fun B C=>Zbo .u8 B fun B=>Zai C fun C E=>xSl C fun C F G H=>Zcg E (Zdg (Zcv D (.ptr (h.length,0)) 2) fun E=>Zai E fun E I=>Zbo .u8 E fun E=>Zai I fun I J=>xSl I fun I K L M=>Zcg J (Zac pg Zbt [.ptr a0,.agg [.int .u8 B,.slice C F G H],.agg [.int .u8 E,.slice I K L M]] D fun B C=>
 Zbh B fun B=>Q (.bool B) C))) (Zbo .u8 (Zah D (.ptr (h.length,0 + 0))) fun B=>Zbo .u8 (Zah D (.ptr (A.length,0 + 0))) fun C=>bcase (!((B:Int) == C)) (Q (.bool false) D) (J15 Q h.length 0 a0 A.length 0 D))))))))):Zac pg Zbt [.ptr a0,.agg [.int .u8 x1x0,.slice a1x1 n1x1 c1x1 e1x1],.agg [.int .u8 x2x0,.slice a2x1 n2x1 c2x1 e2x1]] h Q:=
 Zac.of_body kp (c:=cod fn) (fn:=fn) Go.Proofs.Tryz.func79 (by kernel_rfl) (by kernel_rfl) (Nat.le_of_ble_eq_true (by kernel_rfl))
  (cast (by kernel_rfl) ht)
end Zcw
end Go.Sim

set_option maxRecDepth 100000
set_option maxHeartbeats 0
set_option linter.unusedVariables false
namespace Go.Sim
open Go Go.RowKit
namespace Zfg
noncomputable abbrev fn:Func:=Go.Proofs.Tryz.f126
def kp:Zcu:=[(3000005,[6]),(1000005,[0,1,17,18,19])]
noncomputable def C (p:List Nat):Code:=(cod fn).sub p
def KR (Q:QT):KT:=Zha pg fn.results.toList Q
abbrev T5:=Pt→Int→Pt→Nat→Nat→Bool→Int→Int→Zaa→Prop
def E5 (R5:T5) (env:Env) (h:Zaa):Prop:=Zcd 0 env fun v env=>Zep v fun a0=>Zcd 1 env fun v env=>Zgj .u8 v fun x1=>Zcd 17 env fun v env=>xSl v fun a17 n17 c17 e17=>Zcd 18 env fun v env=>Zgj .i64 v fun x18=>Zcd 19 env fun v env=>Zgj .i64 v fun x19=>Znc env (R5 a0 x1 a17 n17 c17 e17 x18 x19 h)
theorem Zlv {R5:T5} {env:Env} {h:Zaa} (hi:E5 R5 env h):∃ a0,∃ x1,∃ a17,∃ n17,∃ c17,∃ e17,∃ x18,∃ x19,env=[(0,.ptr a0),(1,.int .u8 x1),(17,.slice a17 n17 c17 e17),(18,.int .i64 x18),(19,.int .i64 x19)]∧R5 a0 x1 a17 n17 c17 e17 x18 x19 h:=by
 unfold E5 at hi
 repeat ((first | (have k:=Zaj hi; clear hi; obtain ⟨_,_,e,hi⟩:=k) | (have k:=Zbk hi; clear hi; obtain ⟨_,e,hi⟩:=k) | (have k:=Zcy hi; clear hi; obtain ⟨_,_,_,_,e,hi⟩:=k) | (have k:=Zbd hi; clear hi; obtain ⟨_,e,hi⟩:=k)); subst e)
 obtain ⟨rfl,hi⟩:=Zbq hi
 exact ⟨_,_,_,_,_,_,_,_,rfl,hi⟩
def K0 (Q:QT):KT:=andThen (fun env' h'=>(match kp.find 4000010 with | some ks=>Den pg fn.ntmps (C [1,1,1,1]) (env'.keep ks) h' (KR Q) | none=>den pg fn.ntmps kp (C [1,1,1,1]) env' h' (KR Q))) (KR Q)
def K1 (Q:QT):KT:=Zdj 0 (K0 Q)
def K2 (Q:QT):KT:=left kp 5 (K1 Q)
def K3 (Q:QT) (R5:T5):KT:=rnd ((kp.find 1000005).getD []) (E5 R5) (K2 Q)
def L5 (Q:QT) (a0:Pt) (x1:Int) (a17:Pt) (n17 c17:Nat) (e17:Bool) (x18 x19:Int) (h:Zaa):Prop:=Zfy (Den pg fn.ntmps (C [1,1,1,0,1,0,0])) ((kp.find 1000005).getD []) (K2 Q) [(0,.ptr a0),(1,.int .u8 x1),(17,.slice a17 n17 c17 e17),(18,.int .i64 x18),(19,.int .i64 x19)] h
def A5x0 (Q:QT) (h:Zaa):Prop:=At (K1 Q) (.exit 0) [(6,.undef)] h
def L5t (Q:QT) (R5:T5) (a0:Pt) (x1:Int) (a17:Pt) (n17 c17:Nat) (e17:Bool) (x18 x19:Int) (h:Zaa):Prop:=
 bcase (decide ((x19:Int) < x18)) ((0≤(x19:Int)∧(x19:Int) < (n17:Nat))∧(Zax a17 fun A B=>Zdg (Zcv h (.ptr (A,B + (Int.toNat x19) * 2)) 2) fun A=>Zai A fun A B=>Zbo .u8 A fun A=>Zai B fun B C=>xSl B fun B D E F=>Zcg C (Zeg (h ++ [.cells Zab [.int .u8 0,.slice none 0 0 true] false]) fun C=>Zcc (Zbf C (.ptr (h.length,0)) [.int .u8 A,.slice B D E F]) fun A=>Zdg (Zcv A (.ptr (h.length,0)) 2) fun B=>Zai B fun B C=>Zbo .u8 B fun B=>Zai C fun C D=>xSl C fun C E F G=>Zcg D (Zac pg Zca [.ptr a0,.int .u8 x1,.agg [.int .u8 B,.slice C E F G]] A fun A B=>
 Zbh A fun A=>bcase A (Q (.bool true) B) (R5 a0 x1 a17 n17 c17 e17 x18 (IntKind.wrap .i64 (x19 + 1)) B))))) (A5x0 Q h)
theorem Zxy (Q:QT) (R5:T5) (a0:Pt) (x1:Int) (a17:Pt) (n17 c17:Nat) (e17:Bool) (x18 x19:Int) (h:Zaa) (ht:L5t Q R5 a0 x1 a17 n17 c17 e17 x18 x19 h):Den pg fn.ntmps (C [1,1,1,0,1,0,0]) [(0,.ptr a0),(1,.int .u8 x1),(17,.slice a17 n17 c17 e17),(18,.int .i64 x18),(19,.int .i64 x19)] h (K3 Q R5):=
 Zbb (kp:=kp) (cast (by kernel_rfl) ht)
theorem L5ind (Q:QT) (a0:Pt) (x1:Int) (a17:Pt) (n17 c17:Nat) (e17:Bool) (x18:Int) {G:Type} (J:G→Int→Zaa→Prop) (m:G→Nat)
 (hr:∀ (g:G) (x19:Int) (h:Zaa),J g x19 h→∀ (R5:T5),(∀ g' (x19:Int) (h:Zaa),m g' < m g→J g' x19 h→R5 a0 x1 a17 n17 c17 e17 x18 x19 h)→L5t Q R5 a0 x1 a17 n17 c17 e17 x18 x19 h)
 (g:G) (x19:Int) (h:Zaa) (hj:J g x19 h):L5 Q a0 x1 a17 n17 c17 e17 x18 x19 h:=by
 let P:=fun (K:Int→Zaa→Prop) a0' x1' a17' n17' c17' e17' x18' x19 h=>a0=a0'∧x1=x1'∧a17=a17'∧n17=n17'∧c17=c17'∧e17=e17'∧x18=x18'∧K x19 h
 refine Zfy.inv2 (fun g=>E5 (P (J g))) (fun g=>E5 (P fun x19 h=>∃ g',m g' < m g∧J g' x19 h)) m ?_ ?_ g ⟨rfl,rfl,rfl,rfl,rfl,rfl,rfl,hj⟩
 ·intro g env h hi
  obtain ⟨a0',x1',a17',n17',c17',e17',x18',x19,rfl,rfl,rfl,rfl,rfl,rfl,rfl,rfl,hj⟩:=Zlv hi
  exact Zxy Q _ a0 x1 a17 n17 c17 e17 x18 x19 h (hr g x19 h hj (P fun x19 h=>∃ g',m g' < m g∧J g' x19 h) fun g' x19 h hlt hj=>⟨rfl,rfl,rfl,rfl,rfl,rfl,rfl,g',hlt,hj⟩)
 ·intro g env h hi
  obtain ⟨a0',x1',a17',n17',c17',e17',x18',x19,rfl,rfl,rfl,rfl,rfl,rfl,rfl,rfl,g',hlt,hj⟩:=Zlv hi
  exact ⟨g',hlt,rfl,rfl,rfl,rfl,rfl,rfl,rfl,hj⟩
theorem A5x0i (Q:QT) (h:Zaa) (ht :
 Q (.bool false) h):A5x0 Q h:=
 At.mk (cast (by kernel_rfl) ht)
theorem call (a0:Pt) (x1 x2x0:Int) (a2x1:Pt) (n2x1 c2x1:Nat) (e2x1:Bool) (h:Zaa) (Q:QT) (ht :
 Zeg (h ++ [.cells Zab [.int .u8 x2x0,.slice a2x1 n2x1 c2x1 e2x1] false]) fun A=>Zdg (Zcv A (.ptr (h.length,0)) 2) fun B=>Zai B fun B C=>Zbo .u8 B fun B=>Zai C fun C D=>xSl C fun C E F G=>Zcg D (Zac pg Zft [.ptr a0,.agg [.int .u8 B,.slice C E F G]] A fun A B=>
 Zqb A fun A=>Zai A fun A C=>Zbo .u8 A fun A=>Zai C fun C D=>xSl C fun C E F G=>Zcg D (Zcc (Zbf B (.ptr (h.length,0)) [.int .u8 A,.slice C E F G]) fun A=>Zbo .u8 (Zah A (.ptr (h.length,0 + 0))) fun B=>bcase ((B:Int) == x1) (Q (.bool true) A) (xSl (Zah A (.ptr (h.length,0 + 1))) fun B C D E=>L5 Q a0 x1 B C D E (((C:Nat):Int)) 0 A)))):Zac pg Zca [.ptr a0,.int .u8 x1,.agg [.int .u8 x2x0,.slice a2x1 n2x1 c2x1 e2x1]] h Q:=
 Zac.of_body kp (c:=cod fn) (fn:=fn) Go.Proofs.Tryz.func126 (by kernel_rfl) (by kernel_rfl) (Nat.le_of_ble_eq_true (by kernel_rfl))
  (cast (by kernel_rfl) ht)
end Zfg
end Go.Sim

set_option maxRecDepth 100000
set_option maxHeartbeats 0
set_option linter.unusedVariables false
namespace Go.Sim
open Go Go.RowKit
namespace Zew
noncomputable abbrev fn:Func:=Go.Proofs.Tryz.f125
def kp:Zcu:=[(3000002,[3,4]),(1000002,[0,3,4,5]),(4000004,[0,5,3,4])]
noncomputable def C (p:List Nat):Code:=(cod fn).sub p
def KR (Q:QT):KT:=Zha pg fn.results.toList Q
abbrev T2:=Pt→Nat→Nat→Nat→Nat→Int→Zaa→Prop
def E2 (R2:T2) (env:Env) (h:Zaa):Prop:=Zcd 0 env fun v env=>Zep v fun a0=>Zcd 3 env fun v env=>Zep v fun a=>Zax a fun i3 o3=>Zcd 4 env fun v env=>Zep v fun a=>Zax a fun i4 o4=>Zcd 5 env fun v env=>Zgj .i64 v fun x5=>Znc env (R2 a0 i3 o3 i4 o4 x5 h)
theorem Zjc {R2:T2} {env:Env} {h:Zaa} (hi:E2 R2 env h):∃ a0,∃ i3,∃ o3,∃ i4,∃ o4,∃ x5,env=[(0,.ptr a0),(3,.ptr (i3,o3)),(4,.ptr (i4,o4)),(5,.int .i64 x5)]∧R2 a0 i3 o3 i4 o4 x5 h:=by
 unfold E2 at hi
 have hi0:=hi
 clear hi
 obtain ⟨_,_,rfl,hi1⟩:=Zaj hi0
 obtain ⟨a0,rfl,hi2⟩:=Zbk hi1
 obtain ⟨_,_,rfl,hi3⟩:=Zaj hi2
 obtain ⟨a,rfl,hi4⟩:=Zbk hi3
 obtain ⟨i3,o3,rfl,hi5⟩:=Zbm hi4
 obtain ⟨_,_,rfl,hi6⟩:=Zaj hi5
 obtain ⟨a,rfl,hi7⟩:=Zbk hi6
 obtain ⟨i4,o4,rfl,hi8⟩:=Zbm hi7
 obtain ⟨_,_,rfl,hi9⟩:=Zaj hi8
 obtain ⟨x5,rfl,hi10⟩:=Zbd hi9
 obtain ⟨rfl,hi11⟩:=Zbq hi10
 have hi:=hi11
 exact ⟨a0,i3,o3,i4,o4,x5,rfl,hi⟩
def K0 (Q:QT):KT:=andThen (fun env' h'=>(match kp.find 4000005 with | some ks=>Den pg fn.ntmps (C [1,1]) (env'.keep ks) h' (KR Q) | none=>den pg fn.ntmps kp (C [1,1]) env' h' (KR Q))) (KR Q)
def K1 (Q:QT):KT:=Zdj 0 (K0 Q)
def K2 (Q:QT):KT:=left kp 2 (K1 Q)
def K3 (Q:QT) (R2:T2):KT:=rnd ((kp.find 1000002).getD []) (E2 R2) (K2 Q)
def L2 (Q:QT) (a0:Pt) (i3 o3 i4 o4:Nat) (x5:Int) (h:Zaa):Prop:=Zfy (Den pg fn.ntmps (C [1,0,1,0,0])) ((kp.find 1000002).getD []) (K2 Q) [(0,.ptr a0),(3,.ptr (i3,o3)),(4,.ptr (i4,o4)),(5,.int .i64 x5)] h
def J4 (Q:QT) (R2:T2) (a0:Pt) (x5:Int) (i3 o3 i4 o4:Nat) (h:Zaa):Prop:=Den pg fn.ntmps (C [1,0,1,0,0,1]) [(0,.ptr a0),(5,.int .i64 x5),(3,.ptr (i3,o3)),(4,.ptr (i4,o4))] h (K3 Q R2)
def A2x0 (Q:QT) (i3 o3 i4 o4:Nat) (h:Zaa):Prop:=At (K1 Q) (.exit 0) [(3,.ptr (i3,o3)),(4,.ptr (i4,o4))] h
def L2t (Q:QT) (R2:T2) (a0:Pt) (i3 o3 i4 o4:Nat) (x5:Int) (h:Zaa):Prop:=
 bcase (decide ((x5:Int) ≥ 0)) (Zax a0 fun A B=>(0≤(x5:Int)∧(x5:Int) < (12:Nat))∧(Zbo .u8 (Zah h (.ptr (A,B + (Int.toNat x5) * 2 + 0))) fun A=>bcase (!((A:Int) == 0)) (J4 Q R2 a0 x5 i3 o3 i4 o4 h) (A2x0 Q i3 o3 i4 o4 h))) (A2x0 Q i3 o3 i4 o4 h)
theorem Ztv (Q:QT) (R2:T2) (a0:Pt) (i3 o3 i4 o4:Nat) (x5:Int) (h:Zaa) (ht:L2t Q R2 a0 i3 o3 i4 o4 x5 h):Den pg fn.ntmps (C [1,0,1,0,0]) [(0,.ptr a0),(3,.ptr (i3,o3)),(4,.ptr (i4,o4)),(5,.int .i64 x5)] h (K3 Q R2):=
 Zbb (kp:=kp) (cast (by kernel_rfl) ht)
theorem L2ind (Q:QT) (a0:Pt) (i3 o3 i4 o4:Nat) {G:Type} (J:G→Int→Zaa→Prop) (m:G→Nat)
 (hr:∀ (g:G) (x5:Int) (h:Zaa),J g x5 h→∀ (R2:T2),(∀ g' (x5:Int) (h:Zaa),m g' < m g→J g' x5 h→R2 a0 i3 o3 i4 o4 x5 h)→L2t Q R2 a0 i3 o3 i4 o4 x5 h)
 (g:G) (x5:Int) (h:Zaa) (hj:J g x5 h):L2 Q a0 i3 o3 i4 o4 x5 h:=by
 let P:=fun (K:Int→Zaa→Prop) a0' i3' o3' i4' o4' x5 h=>a0=a0'∧i3=i3'∧o3=o3'∧i4=i4'∧o4=o4'∧K x5 h
 refine Zfy.inv2 (fun g=>E2 (P (J g))) (fun g=>E2 (P fun x5 h=>∃ g',m g' < m g∧J g' x5 h)) m ?_ ?_ g ⟨rfl,rfl,rfl,rfl,rfl,hj⟩
 ·intro g env h hi
  obtain ⟨a0',i3',o3',i4',o4',x5,rfl,rfl,rfl,rfl,rfl,rfl,hj⟩:=Zjc hi
  exact Ztv Q _ a0 i3 o3 i4 o4 x5 h (hr g x5 h hj (P fun x5 h=>∃ g',m g' < m g∧J g' x5 h) fun g' x5 h hlt hj=>⟨rfl,rfl,rfl,rfl,rfl,g',hlt,hj⟩)
 ·intro g env h hi
  obtain ⟨a0',i3',o3',i4',o4',x5,rfl,rfl,rfl,rfl,rfl,rfl,g',hlt,hj⟩:=Zjc hi
  exact ⟨g',hlt,rfl,rfl,rfl,rfl,rfl,hj⟩
theorem J4i (Q:QT) (R2:T2) (a0:Pt) (x5:Int) (i3 o3 i4 o4:Nat) (h:Zaa) (ht :
 Zax a0 fun A B=>(0≤(x5:Int)∧(x5:Int) < (12:Nat))∧(Zdg (Zcv h (.ptr (A,B + (Int.toNat x5) * 2)) 2) fun A=>Zai A fun A B=>Zbo .u8 A fun A=>Zai B fun B C=>xSl B fun B D E F=>Zcg C (Zcc (Zbf h (.ptr (i3,o3)) [.int .u8 A,.slice B D E F]) fun A=>Zbo .u8 (Zah A (.ptr (i3,o3 + 0))) fun B=>Zac pg Zdu [.int .u8 B] A fun A B=>
 Zbo .i64 A fun A=>R2 a0 i3 o3 i4 o4 A B))):J4 Q R2 a0 x5 i3 o3 i4 o4 h:=
 Zbb (kp:=kp) (cast (by kernel_rfl) ht)
theorem A2x0i (Q:QT) (i3 o3 i4 o4:Nat) (h:Zaa) (ht :
 Zdg (Zcv h (.ptr (i3,o3)) 2) fun A=>Zai A fun A B=>Zbo .u8 A fun A=>Zai B fun B C=>xSl B fun B D E F=>Zcg C (Zcc (Zbf h (.ptr (i4,o4)) [.int .u8 A,.slice B D E F]) fun A=>Zdg (Zcv A (.ptr (i4,o4)) 2) fun B=>Zai B fun B C=>Zbo .u8 B fun B=>Zai C fun C D=>xSl C fun C E F G=>Zcg D (Q (.agg [.int .u8 B,.slice C E F G]) A))):A2x0 Q i3 o3 i4 o4 h:=
 At.mk (cast (by kernel_rfl) ht)
theorem call (a0:Pt) (x1x0:Int) (a1x1:Pt) (n1x1 c1x1:Nat) (e1x1:Bool) (h:Zaa) (Q:QT) (ht :
 Zeg (h ++ [.cells Zab [.int .u8 x1x0,.slice a1x1 n1x1 c1x1 e1x1] false]) fun A=>Zeg (A ++ [.cells Zab [.int .u8 0,.slice none 0 0 true] false]) fun B=>Zbo .u8 (Zah B (.ptr (h.length,0 + 0))) fun C=>Zac pg Zdu [.int .u8 C] B fun B C=>
 Zbo .i64 B fun B=>L2 Q a0 h.length 0 A.length 0 B C):Zac pg Zft [.ptr a0,.agg [.int .u8 x1x0,.slice a1x1 n1x1 c1x1 e1x1]] h Q:=
 Zac.of_body kp (c:=cod fn) (fn:=fn) Go.Proofs.Tryz.func125 (by kernel_rfl) (by kernel_rfl) (Nat.le_of_ble_eq_true (by kernel_rfl))
  (cast (by kernel_rfl) ht)
end Zew
end Go.Sim

set_option maxRecDepth 100000
set_option maxHeartbeats 0
set_option linter.unusedVariables false
namespace Go.Sim
open Go Go.RowKit
namespace Zdy
noncomputable abbrev fn:Func:=Go.Proofs.Tryz.f81
def kp:Zcu:=[(3000003,[1,3]),(1000003,[1,3,7,8,9]),(4000009,[3])]
noncomputable def C (p:List Nat):Code:=(cod fn).sub p
def KR (Q:QT):KT:=Zha pg fn.results.toList Q
abbrev T3:=Nat→Nat→Int→Pt→Nat→Nat→Bool→Int→Int→Zaa→Prop
def E3 (R3:T3) (env:Env) (h:Zaa):Prop:=Zcd 1 env fun v env=>Zep v fun a=>Zax a fun i1 o1=>Zcd 3 env fun v env=>Zgj .i64 v fun x3=>Zcd 7 env fun v env=>xSl v fun a7 n7 c7 e7=>Zcd 8 env fun v env=>Zgj .i64 v fun x8=>Zcd 9 env fun v env=>Zgj .i64 v fun x9=>Znc env (R3 i1 o1 x3 a7 n7 c7 e7 x8 x9 h)
theorem Zlw {R3:T3} {env:Env} {h:Zaa} (hi:E3 R3 env h):∃ i1,∃ o1,∃ x3,∃ a7,∃ n7,∃ c7,∃ e7,∃ x8,∃ x9,env=[(1,.ptr (i1,o1)),(3,.int .i64 x3),(7,.slice a7 n7 c7 e7),(8,.int .i64 x8),(9,.int .i64 x9)]∧R3 i1 o1 x3 a7 n7 c7 e7 x8 x9 h:=by
 unfold E3 at hi
 have hi0:=hi
 clear hi
 obtain ⟨_,_,rfl,hi1⟩:=Zaj hi0
 obtain ⟨a,rfl,hi2⟩:=Zbk hi1
 obtain ⟨i1,o1,rfl,hi3⟩:=Zbm hi2
 obtain ⟨_,_,rfl,hi4⟩:=Zaj hi3
 obtain ⟨x3,rfl,hi5⟩:=Zbd hi4
 obtain ⟨_,_,rfl,hi6⟩:=Zaj hi5
 obtain ⟨a7,n7,c7,e7,rfl,hi7⟩:=Zcy hi6
 obtain ⟨_,_,rfl,hi8⟩:=Zaj hi7
 obtain ⟨x8,rfl,hi9⟩:=Zbd hi8
 obtain ⟨_,_,rfl,hi10⟩:=Zaj hi9
 obtain ⟨x9,rfl,hi11⟩:=Zbd hi10
 obtain ⟨rfl,hi12⟩:=Zbq hi11
 have hi:=hi12
 exact ⟨i1,o1,x3,a7,n7,c7,e7,x8,x9,rfl,hi⟩
def K0 (Q:QT):KT:=andThen (fun env' h'=>(match kp.find 4000007 with | some ks=>Den pg fn.ntmps (C [1,1,1]) (env'.keep ks) h' (KR Q) | none=>den pg fn.ntmps kp (C [1,1,1]) env' h' (KR Q))) (KR Q)
def K1 (Q:QT):KT:=Zdj 0 (K0 Q)
def K2 (Q:QT):KT:=left kp 3 (K1 Q)
def K3 (Q:QT) (R3:T3):KT:=rnd ((kp.find 1000003).getD []) (E3 R3) (K2 Q)
def L3 (Q:QT) (i1 o1:Nat) (x3:Int) (a7:Pt) (n7 c7:Nat) (e7:Bool) (x8 x9:Int) (h:Zaa):Prop:=Zfy (Den pg fn.ntmps (C [1,1,0,1,0,0])) ((kp.find 1000003).getD []) (K2 Q) [(1,.ptr (i1,o1)),(3,.int .i64 x3),(7,.slice a7 n7 c7 e7),(8,.int .i64 x8),(9,.int .i64 x9)] h
def Ydl (Q:QT) (i1 o1:Nat) (x3:Int) (h:Zaa):Prop:=At (K1 Q) (.exit 0) [(1,.ptr (i1,o1)),(3,.int .i64 x3)] h
def J9 (Q:QT) (x3:Int) (h:Zaa):Prop:=Den pg fn.ntmps (C [1,1,1,1]) [(3,.int .i64 x3)] h (KR Q)
def L3t (Q:QT) (R3:T3) (i1 o1:Nat) (x3:Int) (a7:Pt) (n7 c7:Nat) (e7:Bool) (x8 x9:Int) (h:Zaa):Prop:=
 bcase (decide ((x9:Int) < x8)) ((0≤(x9:Int)∧(x9:Int) < (n7:Nat))∧(Zax a7 fun A B=>Zdg (Zcv h (.ptr (A,B + (Int.toNat x9) * 2)) 2) fun A=>Zai A fun A B=>Zbo .u8 A fun A=>Zai B fun B C=>xSl B fun B D E F=>Zcg C (Zeg (h ++ [.cells Zab [.int .u8 0,.slice none 0 0 true] false]) fun C=>Zcc (Zbf C (.ptr (h.length,0)) [.int .u8 A,.slice B D E F]) fun A=>Zdg (Zcv A (.ptr (h.length,0)) 2) fun B=>Zai B fun B C=>Zbo .u8 B fun B=>Zai C fun C D=>xSl C fun C E F G=>Zcg D (Zac pg Zek [.agg [.int .u8 B,.slice C E F G]] A fun A B=>
 Zbo .i64 A fun A=>R3 i1 o1 (IntKind.wrap .i64 ((IntKind.wrap .i64 (x3 + 1)) + A)) a7 n7 c7 e7 x8 (IntKind.wrap .i64 (x9 + 1)) B)))) (Ydl Q i1 o1 x3 h)
theorem Zxb (Q:QT) (R3:T3) (i1 o1:Nat) (x3:Int) (a7:Pt) (n7 c7:Nat) (e7:Bool) (x8 x9:Int) (h:Zaa) (ht:L3t Q R3 i1 o1 x3 a7 n7 c7 e7 x8 x9 h):Den pg fn.ntmps (C [1,1,0,1,0,0]) [(1,.ptr (i1,o1)),(3,.int .i64 x3),(7,.slice a7 n7 c7 e7),(8,.int .i64 x8),(9,.int .i64 x9)] h (K3 Q R3):=
 Zbb (kp:=kp) (cast (by kernel_rfl) ht)
theorem L3ind (Q:QT) (i1 o1:Nat) (a7:Pt) (n7 c7:Nat) (e7:Bool) (x8:Int) {G:Type} (J:G→Int→Int→Zaa→Prop) (m:G→Nat)
 (hr:∀ (g:G) (x3 x9:Int) (h:Zaa),J g x3 x9 h→∀ (R3:T3),(∀ g' (x3 x9:Int) (h:Zaa),m g' < m g→J g' x3 x9 h→R3 i1 o1 x3 a7 n7 c7 e7 x8 x9 h)→L3t Q R3 i1 o1 x3 a7 n7 c7 e7 x8 x9 h)
 (g:G) (x3 x9:Int) (h:Zaa) (hj:J g x3 x9 h):L3 Q i1 o1 x3 a7 n7 c7 e7 x8 x9 h:=by
 let P:=fun (K:Int→Int→Zaa→Prop) i1' o1' x3 a7' n7' c7' e7' x8' x9 h=>i1=i1'∧o1=o1'∧a7=a7'∧n7=n7'∧c7=c7'∧e7=e7'∧x8=x8'∧K x3 x9 h
 refine Zfy.inv2 (fun g=>E3 (P (J g))) (fun g=>E3 (P fun x3 x9 h=>∃ g',m g' < m g∧J g' x3 x9 h)) m ?_ ?_ g ⟨rfl,rfl,rfl,rfl,rfl,rfl,rfl,hj⟩
 ·intro g env h hi
  obtain ⟨i1',o1',x3,a7',n7',c7',e7',x8',x9,rfl,rfl,rfl,rfl,rfl,rfl,rfl,rfl,hj⟩:=Zlw hi
  exact Zxb Q _ i1 o1 x3 a7 n7 c7 e7 x8 x9 h (hr g x3 x9 h hj (P fun x3 x9 h=>∃ g',m g' < m g∧J g' x3 x9 h) fun g' x3 x9 h hlt hj=>⟨rfl,rfl,rfl,rfl,rfl,rfl,rfl,g',hlt,hj⟩)
 ·intro g env h hi
  obtain ⟨i1',o1',x3,a7',n7',c7',e7',x8',x9,rfl,rfl,rfl,rfl,rfl,rfl,rfl,rfl,g',hlt,hj⟩:=Zlw hi
  exact ⟨g',hlt,rfl,rfl,rfl,rfl,rfl,rfl,rfl,hj⟩
theorem A3x0i (Q:QT) (i1 o1:Nat) (x3:Int) (h:Zaa) (ht :
 xSl (Zah h (.ptr (i1,o1 + 1))) fun A A B B=>bcase (decide (((((A:Nat):Int)):Int) > 0)) (J9 Q (IntKind.wrap .i64 (x3 + 1)) h) (J9 Q x3 h)):Ydl Q i1 o1 x3 h:=
 At.mk (cast (by kernel_rfl) ht)
theorem J9i (Q:QT) (x3:Int) (h:Zaa) (ht :
 Q (.int .i64 x3) h):J9 Q x3 h:=
 Zbb (kp:=kp) (cast (by kernel_rfl) ht)
theorem call (x0x0:Int) (a0x1:Pt) (n0x1 c0x1:Nat) (e0x1:Bool) (h:Zaa) (Q:QT) (ht :
 Zeg (h ++ [.cells Zab [.int .u8 x0x0,.slice a0x1 n0x1 c0x1 e0x1] false]) fun A=>xSl (Zah A (.ptr (h.length,0 + 1))) fun B C D E=>L3 Q h.length 0 1 B C D E (((C:Nat):Int)) 0 A):Zac pg Zek [.agg [.int .u8 x0x0,.slice a0x1 n0x1 c0x1 e0x1]] h Q:=
 Zac.of_body kp (c:=cod fn) (fn:=fn) Go.Proofs.Tryz.func81 (by kernel_rfl) (by kernel_rfl) (Nat.le_of_ble_eq_true (by kernel_rfl))
  (cast (by kernel_rfl) ht)
end Zdy
namespace Zdr
noncomputable abbrev fn:Func:=Go.Proofs.Tryz.f43
def kp:Zcu:=[(3000003,[4,2,3]),(1000003,[4,8,10]),(2000004,[6,5,10,8,4]),(4000006,[6,4,5,10,8]),(2000008,[10,8,4]),(4000009,[10,8,4])]
noncomputable def C (p:List Nat):Code:=(cod fn).sub p
def KR (Q:QT):KT:=Zha pg fn.results.toList Q
abbrev T3:=Pt→Nat→Nat→Bool→Pt→Int→Zaa→Prop
def E3 (R3:T3) (env:Env) (h:Zaa):Prop:=Zcd 4 env fun v env=>xSl v fun a4 n4 c4 e4=>Zcd 8 env fun v env=>Zep v fun a8=>Zcd 10 env fun v env=>Zgj .i64 v fun x10=>Znc env (R3 a4 n4 c4 e4 a8 x10 h)
theorem Zlw {R3:T3} {env:Env} {h:Zaa} (hi:E3 R3 env h):∃ a4,∃ n4,∃ c4,∃ e4,∃ a8,∃ x10,env=[(4,.slice a4 n4 c4 e4),(8,.ptr a8),(10,.int .i64 x10)]∧R3 a4 n4 c4 e4 a8 x10 h:=by
 unfold E3 at hi
 repeat ((first | (have k:=Zaj hi; clear hi; obtain ⟨_,_,e,hi⟩:=k) | (have k:=Zcy hi; clear hi; obtain ⟨_,_,_,_,e,hi⟩:=k) | (have k:=Zbd hi; clear hi; obtain ⟨_,e,hi⟩:=k) | (have k:=Zbk hi; clear hi; obtain ⟨_,e,hi⟩:=k)); subst e)
 obtain ⟨rfl,hi⟩:=Zbq hi
 exact ⟨_,_,_,_,_,_,rfl,hi⟩
def K0 (Q:QT):KT:=andThen (fun env' h'=>(match kp.find 4000010 with | some ks=>Den pg fn.ntmps (C [1,1,1]) (env'.keep ks) h' (KR Q) | none=>den pg fn.ntmps kp (C [1,1,1]) env' h' (KR Q))) (KR Q)
def K1 (Q:QT):KT:=Zdj 0 (K0 Q)
def K2 (Q:QT):KT:=left kp 3 (K1 Q)
def K3 (Q:QT) (R3:T3):KT:=rnd ((kp.find 1000003).getD []) (E3 R3) (K2 Q)
def K4 (Q:QT) (R3:T3):KT:=andThen (fun env' h'=>(match kp.find 4000009 with | some ks=>Den pg fn.ntmps (C [1,1,0,1,0,0,1,1,1]) (env'.keep ks) h' (K3 Q R3) | none=>den pg fn.ntmps kp (C [1,1,0,1,0,0,1,1,1]) env' h' (K3 Q R3))) (K3 Q R3)
def K5 (Q:QT) (R3:T3):KT:=Zdj 1 (K4 Q R3)
def L3 (Q:QT) (a4:Pt) (n4 c4:Nat) (e4:Bool) (a8:Pt) (x10:Int) (h:Zaa):Prop:=Zfy (Den pg fn.ntmps (C [1,1,0,1,0,0])) ((kp.find 1000003).getD []) (K2 Q) [(4,.slice a4 n4 c4 e4),(8,.ptr a8),(10,.int .i64 x10)] h
def J9 (Q:QT) (R3:T3) (x10:Int) (a8 a4:Pt) (n4 c4:Nat) (e4:Bool) (h:Zaa):Prop:=Den pg fn.ntmps (C [1,1,0,1,0,0,1,1,1]) [(10,.int .i64 x10),(8,.ptr a8),(4,.slice a4 n4 c4 e4)] h (K3 Q R3)
def J6 (Q:QT) (R3:T3) (i6 o6:Nat) (a4:Pt) (n4 c4:Nat) (e4:Bool) (x5 x10:Int) (a8:Pt) (h:Zaa):Prop:=Den pg fn.ntmps (C [1,1,0,1,0,0,1,1,0,0,1,1]) [(6,.ptr (i6,o6)),(4,.slice a4 n4 c4 e4),(5,.int .i64 x5),(10,.int .i64 x10),(8,.ptr a8)] h (K5 Q R3)
def Ydl (Q:QT) (a4:Pt) (n4 c4:Nat) (e4:Bool) (h:Zaa):Prop:=At (K1 Q) (.exit 0) [(4,.slice a4 n4 c4 e4),(2,.undef),(3,.undef)] h
def L3t (Q:QT) (R3:T3) (a4:Pt) (n4 c4:Nat) (e4:Bool) (a8:Pt) (x10:Int) (h:Zaa):Prop:=
 bcase (decide ((x10:Int) < 12)) (Zax a8 fun A B=>(0≤(x10:Int)∧(x10:Int) < (12:Nat))∧(Zdg (Zcv h (.ptr (A,B + (Int.toNat x10) * 2)) 2) fun C=>Zai C fun C D=>Zbo .u8 C fun C=>Zai D fun D E=>xSl D fun D F G H=>Zcg E (Zeg (h ++ [.cells Zab [.int .u8 0,.slice none 0 0 true] false]) fun E=>(Zcv E (.ptr (A,B + (Int.toNat x10) * 2)) 2=Zcv h (.ptr (A,B + (Int.toNat x10) * 2)) 2)∧Zcc (Zbf E (.ptr (h.length,0)) [.int .u8 C,.slice D F G H]) fun A=>Zbo .u8 (Zah A (.ptr (h.length,0 + 0))) fun B=>bcase ((B:Int) == 0) (J9 Q R3 x10 a8 a4 n4 c4 e4 A) (bcase (decide ((x10:Int) ≥ 6)) (J9 Q R3 x10 a8 a4 n4 c4 e4 A) (J6 Q R3 h.length 0 a4 n4 c4 e4 x10 x10 a8 A))))) (Ydl Q a4 n4 c4 e4 h)
theorem Zxb (Q:QT) (R3:T3) (a4:Pt) (n4 c4:Nat) (e4:Bool) (a8:Pt) (x10:Int) (h:Zaa) (ht:L3t Q R3 a4 n4 c4 e4 a8 x10 h):Den pg fn.ntmps (C [1,1,0,1,0,0]) [(4,.slice a4 n4 c4 e4),(8,.ptr a8),(10,.int .i64 x10)] h (K3 Q R3):=
 Zbb (kp:=kp) (cast (by kernel_rfl) ht)
theorem L3ind (Q:QT) (a8:Pt) {G:Type} (J:G→Pt→Nat→Nat→Bool→Int→Zaa→Prop) (m:G→Nat)
 (hr:∀ (g:G) (a4:Pt) (n4 c4:Nat) (e4:Bool) (x10:Int) (h:Zaa),J g a4 n4 c4 e4 x10 h→∀ (R3:T3),(∀ g' (a4:Pt) (n4 c4:Nat) (e4:Bool) (x10:Int) (h:Zaa),m g' < m g→J g' a4 n4 c4 e4 x10 h→R3 a4 n4 c4 e4 a8 x10 h)→L3t Q R3 a4 n4 c4 e4 a8 x10 h)
 (g:G) (a4:Pt) (n4 c4:Nat) (e4:Bool) (x10:Int) (h:Zaa) (hj:J g a4 n4 c4 e4 x10 h):L3 Q a4 n4 c4 e4 a8 x10 h:=by
 let P:=fun (K:Pt→Nat→Nat→Bool→Int→Zaa→Prop) a4 n4 c4 e4 a8' x10 h=>a8=a8'∧K a4 n4 c4 e4 x10 h
 refine Zfy.inv2 (fun g=>E3 (P (J g))) (fun g=>E3 (P fun a4 n4 c4 e4 x10 h=>∃ g',m g' < m g∧J g' a4 n4 c4 e4 x10 h)) m ?_ ?_ g ⟨rfl,hj⟩
 ·intro g env h hi
  obtain ⟨a4,n4,c4,e4,a8',x10,rfl,rfl,hj⟩:=Zlw hi
  exact Zxb Q _ a4 n4 c4 e4 a8 x10 h (hr g a4 n4 c4 e4 x10 h hj (P fun a4 n4 c4 e4 x10 h=>∃ g',m g' < m g∧J g' a4 n4 c4 e4 x10 h) fun g' a4 n4 c4 e4 x10 h hlt hj=>⟨rfl,g',hlt,hj⟩)
 ·intro g env h hi
  obtain ⟨a4,n4,c4,e4,a8',x10,rfl,rfl,g',hlt,hj⟩:=Zlw hi
  exact ⟨g',hlt,rfl,hj⟩
theorem J9i (Q:QT) (R3:T3) (x10:Int) (a8 a4:Pt) (n4 c4:Nat) (e4:Bool) (h:Zaa) (ht :
 R3 a4 n4 c4 e4 a8 (IntKind.wrap .i64 (x10 + 1)) h):J9 Q R3 x10 a8 a4 n4 c4 e4 h:=
 Zbb (kp:=kp) (cast (by kernel_rfl) ht)
theorem J6i (Q:QT) (R3:T3) (i6 o6:Nat) (a4:Pt) (n4 c4:Nat) (e4:Bool) (x5 x10:Int) (a8:Pt) (h:Zaa) (ht :
 Zdg (Zcv h (.ptr (i6,o6)) 2) fun A=>Zai A fun A B=>Zbo .u8 A fun A=>Zai B fun B C=>xSl B fun B D E F=>Zcg C (Zac pg Zek [.agg [.int .u8 A,.slice B D E F]] h fun A B=>
 Zbo .i64 A fun A=>bcase (decide ((A:Int) > 60)) (Zeg (B ++ [.cells Zaq [] false]) fun A=>Q (.tup [.slice (B.length,0) 0 0 true,.bool false]) A) ((0≤(x5:Int)∧(x5:Int)≤IntKind.wrap .i64 (x5 + 1)∧(IntKind.wrap .i64 (x5 + 1):Int)≤(List.length ([88,89,90,120,121,122,49,50,51,52,53,54]):Nat))∧(Zdg (Zcv B (.ptr (i6,o6)) 2) fun A=>Zai A fun A C=>Zbo .u8 A fun A=>Zai C fun C D=>xSl C fun C E F G=>Zcg D (Zac pg Zfr [.agg [.int .u8 A,.slice C E F G]] B fun A B=>
 Zck A fun A=>Zeg (B ++ [.cells Zaq [.str (sub ([88,89,90,120,121,122,49,50,51,52,53,54]) x5 (IntKind.wrap .i64 (x5 + 1))),.str A] false]) fun A=>Zea pg Zhr A (.slice a4 n4 c4 e4) (.slice (B.length,0) 1 1 true) fun A B=>xSl A fun A C D E=>J9 Q R3 x10 a8 A C D E B))))):J6 Q R3 i6 o6 a4 n4 c4 e4 x5 x10 a8 h:=
 Zbb (kp:=kp) (cast (by kernel_rfl) ht)
theorem A3x0i (Q:QT) (a4:Pt) (n4 c4:Nat) (e4:Bool) (h:Zaa) (ht :
 Q (.tup [.slice a4 n4 c4 e4,.bool true]) h):Ydl Q a4 n4 c4 e4 h:=
 At.mk (cast (by kernel_rfl) ht)
theorem call (a0:Pt) (h:Zaa) (Q:QT) (ht :
 Zeg (h ++ [.cells Zaq [] false]) fun A=>Zax a0 fun B B=>L3 Q (h.length,0) 0 0 true a0 0 A):Zac pg Zko [.ptr a0] h Q:=
 Zac.of_body kp (c:=cod fn) (fn:=fn) Go.Proofs.Tryz.func43 (by kernel_rfl) (by kernel_rfl) (Nat.le_of_ble_eq_true (by kernel_rfl))
  (cast (by kernel_rfl) ht)
end Zdr
end Go.Sim

set_option maxRecDepth 100000
set_option maxHeartbeats 0
set_option linter.unusedVariables false
namespace Go.Sim
open Go Go.RowKit
namespace Zmp
noncomputable abbrev fn:Func:=Go.Proofs.Tryz.f84
def kp:Zcu:=[]
noncomputable def C (p:List Nat):Code:=(cod fn).sub p
def KR (Q:QT):KT:=Zha pg fn.results.toList Q
theorem call (x0:Int) (h:Zaa) (Q:QT) (ht :
 Zac pg Zgc [.str ([88,89,90,120,121,122,49,50,51,52,53,54]),.int .u8 x0] h fun A B=>
 Zbo .i64 A fun A=>Q (.int .i64 A) B):Zac pg Zdu [.int .u8 x0] h Q:=
 Zac.of_body kp (c:=cod fn) (fn:=fn) Go.Proofs.Tryz.func84 (by kernel_rfl) (by kernel_rfl) (Nat.le_of_ble_eq_true (by kernel_rfl))
  (cast (by kernel_rfl) ht)
end Zmp
end Go.Sim

set_option maxRecDepth 100000
set_option maxHeartbeats 0
set_option linter.unusedVariables false
namespace Go.Sim
open Go Go.RowKit
namespace Zfk
noncomputable abbrev fn:Func:=Go.Proofs.Tryz.f40
def kp:Zcu:=[(3000003,[3]),(1000003,[0,3,9,10,11])]
noncomputable def C (p:List Nat):Code:=(cod fn).sub p
def KR (Q:QT):KT:=Zha pg fn.results.toList Q
abbrev T3:=Option Nat→Pt→Nat→Nat→Bool→Pt→Nat→Nat→Bool→Int→Int→Zaa→Prop
def E3 (R3:T3) (env:Env) (h:Zaa):Prop:=Zcd 0 env fun v env=>Zwy v fun m0=>Zcd 3 env fun v env=>xSl v fun a3 n3 c3 e3=>Zcd 9 env fun v env=>xSl v fun a9 n9 c9 e9=>Zcd 10 env fun v env=>Zgj .i64 v fun x10=>Zcd 11 env fun v env=>Zgj .i64 v fun x11=>Znc env (R3 m0 a3 n3 c3 e3 a9 n9 c9 e9 x10 x11 h)
theorem Zlw {R3:T3} {env:Env} {h:Zaa} (hi:E3 R3 env h):∃ m0,∃ a3,∃ n3,∃ c3,∃ e3,∃ a9,∃ n9,∃ c9,∃ e9,∃ x10,∃ x11,env=[(0,.map m0),(3,.slice a3 n3 c3 e3),(9,.slice a9 n9 c9 e9),(10,.int .i64 x10),(11,.int .i64 x11)]∧R3 m0 a3 n3 c3 e3 a9 n9 c9 e9 x10 x11 h:=by
 unfold E3 at hi
 repeat ((first | (have k:=Zaj hi; clear hi; obtain ⟨_,_,e,hi⟩:=k) | (have k:=Zcy hi; clear hi; obtain ⟨_,_,_,_,e,hi⟩:=k) | (have k:=Zlt hi; clear hi; obtain ⟨_,e,hi⟩:=k) | (have k:=Zbd hi; clear hi; obtain ⟨_,e,hi⟩:=k)); subst e)
 obtain ⟨rfl,hi⟩:=Zbq hi
 exact ⟨_,_,_,_,_,_,_,_,_,_,_,rfl,hi⟩
def K0 (Q:QT):KT:=andThen (fun env' h'=>(match kp.find 4000007 with | some ks=>Den pg fn.ntmps (C [1,1,1]) (env'.keep ks) h' (KR Q) | none=>den pg fn.ntmps kp (C [1,1,1]) env' h' (KR Q))) (KR Q)
def K1 (Q:QT):KT:=Zdj 0 (K0 Q)
def K2 (Q:QT):KT:=left kp 3 (K1 Q)
def K3 (Q:QT) (R3:T3):KT:=rnd ((kp.find 1000003).getD []) (E3 R3) (K2 Q)
def L3 (Q:QT) (m0:Option Nat) (a3:Pt) (n3 c3:Nat) (e3:Bool) (a9:Pt) (n9 c9:Nat) (e9:Bool) (x10 x11:Int) (h:Zaa):Prop:=Zfy (Den pg fn.ntmps (C [1,1,0,1,0,0])) ((kp.find 1000003).getD []) (K2 Q) [(0,.map m0),(3,.slice a3 n3 c3 e3),(9,.slice a9 n9 c9 e9),(10,.int .i64 x10),(11,.int .i64 x11)] h
def Ydl (Q:QT) (a3:Pt) (n3 c3:Nat) (e3:Bool) (h:Zaa):Prop:=At (K1 Q) (.exit 0) [(3,.slice a3 n3 c3 e3)] h
def L3t (Q:QT) (R3:T3) (m0:Option Nat) (a3:Pt) (n3 c3:Nat) (e3:Bool) (a9:Pt) (n9 c9:Nat) (e9:Bool) (x10 x11:Int) (h:Zaa):Prop:=
 bcase (decide ((x11:Int) < x10)) ((0≤(x11:Int)∧(x11:Int) < (n9:Nat))∧(Zax a9 fun A B=>Zck (Zah h (.ptr (A,B + (Int.toNat x11) * 1))) fun A=>Zbv h m0 fun es_13 k_14=>Znd es_13 A fun B=>Zck (some (Option.getD B (.str []))) fun B=>Zeg (h ++ [.cells Zaq [.str A,.str B] false]) fun A=>Zea pg Zhr A (.slice a3 n3 c3 e3) (.slice (h.length,0) 1 1 true) fun A B=>xSl A fun A C D E=>R3 m0 A C D E a9 n9 c9 e9 x10 (IntKind.wrap .i64 (x11 + 1)) B)) (Ydl Q a3 n3 c3 e3 h)
theorem Zxb (Q:QT) (R3:T3) (m0:Option Nat) (a3:Pt) (n3 c3:Nat) (e3:Bool) (a9:Pt) (n9 c9:Nat) (e9:Bool) (x10 x11:Int) (h:Zaa) (ht:L3t Q R3 m0 a3 n3 c3 e3 a9 n9 c9 e9 x10 x11 h):Den pg fn.ntmps (C [1,1,0,1,0,0]) [(0,.map m0),(3,.slice a3 n3 c3 e3),(9,.slice a9 n9 c9 e9),(10,.int .i64 x10),(11,.int .i64 x11)] h (K3 Q R3):=
 Zbb (kp:=kp) (cast (by kernel_rfl) ht)
theorem L3ind (Q:QT) (m0:Option Nat) (a9:Pt) (n9 c9:Nat) (e9:Bool) (x10:Int) {G:Type} (J:G→Pt→Nat→Nat→Bool→Int→Zaa→Prop) (m:G→Nat)
 (hr:∀ (g:G) (a3:Pt) (n3 c3:Nat) (e3:Bool) (x11:Int) (h:Zaa),J g a3 n3 c3 e3 x11 h→∀ (R3:T3),(∀ g' (a3:Pt) (n3 c3:Nat) (e3:Bool) (x11:Int) (h:Zaa),m g' < m g→J g' a3 n3 c3 e3 x11 h→R3 m0 a3 n3 c3 e3 a9 n9 c9 e9 x10 x11 h)→L3t Q R3 m0 a3 n3 c3 e3 a9 n9 c9 e9 x10 x11 h)
 (g:G) (a3:Pt) (n3 c3:Nat) (e3:Bool) (x11:Int) (h:Zaa) (hj:J g a3 n3 c3 e3 x11 h):L3 Q m0 a3 n3 c3 e3 a9 n9 c9 e9 x10 x11 h:=by
 let P:=fun (K:Pt→Nat→Nat→Bool→Int→Zaa→Prop) m0' a3 n3 c3 e3 a9' n9' c9' e9' x10' x11 h=>m0=m0'∧a9=a9'∧n9=n9'∧c9=c9'∧e9=e9'∧x10=x10'∧K a3 n3 c3 e3 x11 h
 refine Zfy.inv2 (fun g=>E3 (P (J g))) (fun g=>E3 (P fun a3 n3 c3 e3 x11 h=>∃ g',m g' < m g∧J g' a3 n3 c3 e3 x11 h)) m ?_ ?_ g ⟨rfl,rfl,rfl,rfl,rfl,rfl,hj⟩
 ·intro g env h hi
  obtain ⟨m0',a3,n3,c3,e3,a9',n9',c9',e9',x10',x11,rfl,rfl,rfl,rfl,rfl,rfl,rfl,hj⟩:=Zlw hi
  exact Zxb Q _ m0 a3 n3 c3 e3 a9 n9 c9 e9 x10 x11 h (hr g a3 n3 c3 e3 x11 h hj (P fun a3 n3 c3 e3 x11 h=>∃ g',m g' < m g∧J g' a3 n3 c3 e3 x11 h) fun g' a3 n3 c3 e3 x11 h hlt hj=>⟨rfl,rfl,rfl,rfl,rfl,rfl,g',hlt,hj⟩)
 ·intro g env h hi
  obtain ⟨m0',a3,n3,c3,e3,a9',n9',c9',e9',x10',x11,rfl,rfl,rfl,rfl,rfl,rfl,rfl,g',hlt,hj⟩:=Zlw hi
  exact ⟨g',hlt,rfl,rfl,rfl,rfl,rfl,rfl,hj⟩
theorem A3x0i (Q:QT) (a3:Pt) (n3 c3:Nat) (e3:Bool) (h:Zaa) (ht :
 Q (.slice a3 n3 c3 e3) h):Ydl Q a3 n3 c3 e3 h:=
 At.mk (cast (by kernel_rfl) ht)
theorem call (m0:Option Nat) (h:Zaa) (Q:QT) (ht :
 Zeg (h ++ [.cells Zaq [] false]) fun A=>Zac pg Zda [.map m0] A fun A B=>
 Zsq A fun A=>Zac pg Zgx [A] B fun A B=>
 xSl A fun A C D E=>L3 Q m0 (h.length,0) 0 0 true A C D E (((C:Nat):Int)) 0 B):Zac pg Zgs [.map m0] h Q:=
 Zac.of_body kp (c:=cod fn) (fn:=fn) Go.Proofs.Tryz.func40 (by kernel_rfl) (by kernel_rfl) (Nat.le_of_ble_eq_true (by kernel_rfl))
  (cast (by kernel_rfl) ht)
end Zfk
namespace Zhp
noncomputable abbrev fn:Func:=Go.Proofs.Tryz.f47
def kp:Zcu:=[(4000004,[8])]
noncomputable def C (p:List Nat):Code:=(cod fn).sub p
def KR (Q:QT):KT:=Zha pg fn.results.toList Q
def J4 (Q:QT) (m8:Option Nat) (h:Zaa):Prop:=Den pg fn.ntmps (C [1,1,1]) [(8,.map m8)] h (KR Q)
theorem J4i (Q:QT) (m8:Option Nat) (h:Zaa) (ht :
 Zac pg Zgs [.map m8] h fun A B=>
 xSl A fun A C D E=>Q (.tup [.slice A C D E,.bool true]) B):J4 Q m8 h:=
 Zbb (kp:=kp) (cast (by kernel_rfl) ht)
theorem call (x0 x1:List Nat) (h:Zaa) (Q:QT) (ht :
 Zac pg Zgu [.str x0] h fun A B=>
 Zep A fun A=>Zac pg Zgu [.str x1] B fun B C=>
 Zep B fun B=>Zeg (C ++ [.map [] 0]) fun D=>bcase (Option.isNone A) (Q (.tup [.slice none 0 0 true,.bool false]) D) (bcase (Option.isNone B) (Q (.tup [.slice none 0 0 true,.bool false]) D) (Zac pg Zfp [.ptr A,.ptr B,.map ((some C.length))] D fun A B=>
 Zbh A fun A=>bcase (!A) (Q (.tup [.slice none 0 0 true,.bool false]) B) (J4 Q ((some C.length)) B)))):Zac pg Zhq [.str x0,.str x1] h Q:=
 Zac.of_body kp (c:=cod fn) (fn:=fn) Go.Proofs.Tryz.func47 (by kernel_rfl) (by kernel_rfl) (Nat.le_of_ble_eq_true (by kernel_rfl))
  (cast (by kernel_rfl) ht)
end Zhp
namespace Zjk
noncomputable abbrev fn:Func:=Go.Proofs.Tryz.f15
def kp:Zcu:=[]
noncomputable def C (p:List Nat):Code:=(cod fn).sub p
def KR (Q:QT):KT:=Zha pg fn.results.toList Q
theorem call (x0 x1:List Nat) (h:Zaa) (Q:QT) (ht :
 Zac pg Zhq [.str x0,.str x1] h fun A B=>
 Zmb A fun A=>Zai A fun A C=>xSl A fun A A A A=>Zai C fun A C=>Zbh A fun A=>Zcg C (Q (.bool A) B)):Zac pg Zfq [.str x0,.str x1] h Q:=
 Zac.of_body kp (c:=cod fn) (fn:=fn) Go.Proofs.Tryz.func15 (by kernel_rfl) (by kernel_rfl) (Nat.le_of_ble_eq_true (by kernel_rfl))
  (cast (by kernel_rfl) ht)
end Zjk
end Go.Sim
