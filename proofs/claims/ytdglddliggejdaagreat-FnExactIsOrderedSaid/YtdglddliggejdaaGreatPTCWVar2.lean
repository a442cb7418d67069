/- A part of the proof of a statement of this seat: see the text that holds the theorem. No condition. -/
import Derived.Test.YtdglddliggejdaaGreatNm
set_option linter.unusedVariables false
set_option linter.unusedSimpArgs false
set_option linter.all false
set_option maxRecDepth 100000
set_option maxHeartbeats 0
set_option linter.unusedVariables false
namespace Go.Sim
open Go Go.RowKit
namespace Zfa
noncomputable abbrev fn:Func:=Go.Proofs.Tryz.f53
def kp:Zce:=[(3000003,[3]),(1000003,[0,3,4])]
noncomputable def C (p:List Nat):Code:=(cod fn).sub p
def KR (Q:QT):KT:=Zev pg fn.results.toList Q
abbrev T3:=Pt→Nat→Nat→Bool→Pt→Nat→Nat→Bool→Int→Zaa→Prop
def E3 (R3:T3) (env:Env) (h:Zaa):Prop:=Zby 0 env fun v env=>xSl v fun a0 n0 c0 e0=>Zby 3 env fun v env=>xSl v fun a3 n3 c3 e3=>Zby 4 env fun v env=>Zea .i64 v fun x4=>Zjh env (R3 a0 n0 c0 e0 a3 n3 c3 e3 x4 h)
theorem Zdv {R3:T3} {env:Env} {h:Zaa} (hi:E3 R3 env h):∃ a0,∃ n0,∃ c0,∃ e0,∃ a3,∃ n3,∃ c3,∃ e3,∃ x4,env=[(0,.slice a0 n0 c0 e0),(3,.slice a3 n3 c3 e3),(4,.int .i64 x4)]∧R3 a0 n0 c0 e0 a3 n3 c3 e3 x4 h:=by
 unfold E3 at hi
 repeat ((first | (have k:=Zaf hi; clear hi; obtain ⟨_,_,e,hi⟩:=k) | (have k:=Zav hi; clear hi; obtain ⟨_,e,hi⟩:=k) | (have k:=Zbz hi; clear hi; obtain ⟨_,_,_,_,e,hi⟩:=k)); subst e)
 obtain ⟨rfl,hi⟩:=Zbi hi
 exact ⟨_,_,_,_,_,_,_,_,_,rfl,hi⟩
def K0 (Q:QT):KT:=andThen (fun env' h'=>(match kp.find 4000006 with | some ks=>Den pg fn.ntmps (C [1,1,1]) (env'.keep ks) h' (KR Q) | none=>den pg fn.ntmps kp (C [1,1,1]) env' h' (KR Q))) (KR Q)
def K1 (Q:QT):KT:=Zcl 0 (K0 Q)
def K2 (Q:QT):KT:=left kp 3 (K1 Q)
def K3 (Q:QT) (R3:T3):KT:=rnd ((kp.find 1000003).getD []) (E3 R3) (K2 Q)
def L3 (Q:QT) (a0:Pt) (n0 c0:Nat) (e0:Bool) (a3:Pt) (n3 c3:Nat) (e3:Bool) (x4:Int) (h:Zaa):Prop:=Zdz (Den pg fn.ntmps (C [1,1,0,1,0,0])) ((kp.find 1000003).getD []) (K2 Q) [(0,.slice a0 n0 c0 e0),(3,.slice a3 n3 c3 e3),(4,.int .i64 x4)] h
def Znv (Q:QT) (a3:Pt) (n3 c3:Nat) (e3:Bool) (h:Zaa):Prop:=At (K1 Q) (.exit 0) [(3,.slice a3 n3 c3 e3)] h
def L3t (Q:QT) (R3:T3) (a0:Pt) (n0 c0:Nat) (e0:Bool) (a3:Pt) (n3 c3:Nat) (e3:Bool) (x4:Int) (h:Zaa):Prop:=
 bcase (decide ((x4:Int) < (((n0:Nat):Int)))) ((0≤(x4:Int)∧(x4:Int) < (n0:Nat))∧(Zba a0 fun A B=>Zcs (Zbf h (.ptr (A,B + (Int.toNat x4) * 3)) 3) fun A=>Zaj A fun A B=>Zbs A fun A=>Zaj B fun B C=>Zbs B fun B=>Zaj C fun C D=>xSl C fun C E F G=>Zcf D (Zae pg Ziq [.agg [.str A,.str B,.slice C E F G]] h fun A B=>
 Zrs A fun A=>Zaj A fun A C=>Zbs A fun A=>Zaj C fun C D=>Zbs C fun C=>Zaj D fun D E=>xSl D fun D F G H=>Zcf E ((0≤(x4:Int)∧(x4:Int) < (n3:Nat))∧(Zba a3 fun E I=>Zch (Zbe B (.ptr (E,I + (Int.toNat x4) * 3)) [.str A,.str C,.slice D F G H]) fun A=>R3 a0 n0 c0 e0 a3 n3 c3 e3 (IntKind.wrap .i64 (x4 + 1)) A))))) (Znv Q a3 n3 c3 e3 h)
theorem Zjr (Q:QT) (R3:T3) (a0:Pt) (n0 c0:Nat) (e0:Bool) (a3:Pt) (n3 c3:Nat) (e3:Bool) (x4:Int) (h:Zaa) (ht:L3t Q R3 a0 n0 c0 e0 a3 n3 c3 e3 x4 h):Den pg fn.ntmps (C [1,1,0,1,0,0]) [(0,.slice a0 n0 c0 e0),(3,.slice a3 n3 c3 e3),(4,.int .i64 x4)] h (K3 Q R3):=
 Zbb (kp:=kp) (cast (by kernel_rfl) ht)
theorem L3ind (Q:QT) (a0:Pt) (n0 c0:Nat) (e0:Bool) (a3:Pt) (n3 c3:Nat) (e3:Bool) {G:Type} (J:G→Int→Zaa→Prop) (m:G→Nat)
 (hr:∀ (g:G) (x4:Int) (h:Zaa),J g x4 h→∀ (R3:T3),(∀ g' (x4:Int) (h:Zaa),m g' < m g→J g' x4 h→R3 a0 n0 c0 e0 a3 n3 c3 e3 x4 h)→L3t Q R3 a0 n0 c0 e0 a3 n3 c3 e3 x4 h)
 (g:G) (x4:Int) (h:Zaa) (hj:J g x4 h):L3 Q a0 n0 c0 e0 a3 n3 c3 e3 x4 h:=by
 let P:=fun (K:Int→Zaa→Prop) a0' n0' c0' e0' a3' n3' c3' e3' x4 h=>a0=a0'∧n0=n0'∧c0=c0'∧e0=e0'∧a3=a3'∧n3=n3'∧c3=c3'∧e3=e3'∧K x4 h
 refine Zdz.inv2 (fun g=>E3 (P (J g))) (fun g=>E3 (P fun x4 h=>∃ g',m g' < m g∧J g' x4 h)) m ?_ ?_ g ⟨rfl,rfl,rfl,rfl,rfl,rfl,rfl,rfl,hj⟩
 ·intro g env h hi
  obtain ⟨a0',n0',c0',e0',a3',n3',c3',e3',x4,rfl,rfl,rfl,rfl,rfl,rfl,rfl,rfl,rfl,hj⟩:=Zdv hi
  exact Zjr Q _ a0 n0 c0 e0 a3 n3 c3 e3 x4 h (hr g x4 h hj (P fun x4 h=>∃ g',m g' < m g∧J g' x4 h) fun g' x4 h hlt hj=>⟨rfl,rfl,rfl,rfl,rfl,rfl,rfl,rfl,g',hlt,hj⟩)
 ·intro g env h hi
  obtain ⟨a0',n0',c0',e0',a3',n3',c3',e3',x4,rfl,rfl,rfl,rfl,rfl,rfl,rfl,rfl,rfl,g',hlt,hj⟩:=Zdv hi
  exact ⟨g',hlt,rfl,rfl,rfl,rfl,rfl,rfl,rfl,rfl,hj⟩
theorem A3x0i (Q:QT) (a3:Pt) (n3 c3:Nat) (e3:Bool) (h:Zaa) (ht :
 Q (.slice a3 n3 c3 e3) h):Znv Q a3 n3 c3 e3 h:=
 At.mk (cast (by kernel_rfl) ht)
theorem call (a0:Pt) (n0 c0:Nat) (e0:Bool) (h:Zaa) (Q:QT) (ht :
 IntKind.i64=IntKind.i64∧(IntKind.i64=IntKind.i64∧((0≤((((n0:Nat):Int)):Int)∧((((n0:Nat):Int)):Int)≤(((n0:Nat):Int))∧((((n0:Nat):Int)):Int) * (((56:Nat):Int) + 1)≤140737488355328)∧(Zcy (h ++ [.cells Zac (reps (Int.toNat ((((n0:Nat):Int)))) [.str [],.str [],.slice none 0 0 true]) false]) fun A=>L3 Q a0 n0 c0 e0 (h.length,0) (Int.toNat ((((n0:Nat):Int)))) (Int.toNat ((((n0:Nat):Int)))) true 0 A)))):Zae pg Zid [.slice a0 n0 c0 e0] h Q:=
 Zae.of_body kp (c:=cod fn) (fn:=fn) Go.Proofs.Tryz.func53 (by kernel_rfl) (by kernel_rfl) (Nat.le_of_ble_eq_true (by kernel_rfl))
  (cast (by kernel_rfl) ht)
end Zfa
namespace Zpj
noncomputable abbrev fn:Func:=Go.Proofs.Tryz.f18
def kp:Zce:=[]
noncomputable def C (p:List Nat):Code:=(cod fn).sub p
def KR (Q:QT):KT:=Zev pg fn.results.toList Q
theorem call (a0x0:Pt) (n0x0 c0x0:Nat) (e0x0:Bool) (a0x1:Pt) (n0x1 c0x1:Nat) (e0x1:Bool) (h:Zaa) (Q:QT) (ht :
 Zcy (h ++ [.cells Zef [.slice a0x0 n0x0 c0x0 e0x0,.slice a0x1 n0x1 c0x1 e0x1] false]) fun A=>Zcy (A ++ [.cells Zao [.slice none 0 0 true,.slice none 0 0 true] false]) fun B=>Zcy (B ++ [.cells Zao [.slice none 0 0 true,.slice none 0 0 true] false]) fun C=>xSl (Zad C (.ptr (h.length,0 + 0))) fun D E F G=>Zae pg Zkv [.slice D E F G] C fun C D=>
 xSl C fun C E F G=>Zch (Zbe D (.ptr (B.length,0 + 0)) [.slice C E F G]) fun C=>xSl (Zad C (.ptr (h.length,0 + 1))) fun D E F G=>Zae pg Zid [.slice D E F G] C fun C D=>
 xSl C fun C E F G=>Zch (Zbe D (.ptr (B.length,0 + 1)) [.slice C E F G]) fun C=>Zcs (Zbf C (.ptr (B.length,0)) 2) fun B=>Zaj B fun B D=>xSl B fun B E F G=>Zaj D fun D H=>xSl D fun D I J K=>Zcf H (Zch (Zbe C (.ptr (A.length,0)) [.slice B E F G,.slice D I J K]) fun B=>Zcs (Zbf B (.ptr (A.length,0)) 2) fun A=>Zaj A fun A C=>xSl A fun A D E F=>Zaj C fun C G=>xSl C fun C H I J=>Zcf G (Q (.agg [.slice A D E F,.slice C H I J]) B))):Zae pg Zhi [.agg [.slice a0x0 n0x0 c0x0 e0x0,.slice a0x1 n0x1 c0x1 e0x1]] h Q:=
 Zae.of_body kp (c:=cod fn) (fn:=fn) Go.Proofs.Tryz.func18 (by kernel_rfl) (by kernel_rfl) (Nat.le_of_ble_eq_true (by kernel_rfl))
  (cast (by kernel_rfl) ht)
end Zpj
namespace Zmd
noncomputable abbrev fn:Func:=Go.Proofs.Tryz.f100
def kp:Zce:=[]
noncomputable def C (p:List Nat):Code:=(cod fn).sub p
def KR (Q:QT):KT:=Zev pg fn.results.toList Q
theorem call (x0x0 x0x1:List Nat) (a0x2:Pt) (n0x2 c0x2:Nat) (e0x2:Bool) (x1x0 x1x1:List Nat) (a1x2:Pt) (n1x2 c1x2:Nat) (e1x2:Bool) (h:Zaa) (Q:QT) (ht :
 Zcy (h ++ [.cells Zac [.str x0x0,.str x0x1,.slice a0x2 n0x2 c0x2 e0x2] false]) fun A=>Zcy (A ++ [.cells Zac [.str x1x0,.str x1x1,.slice a1x2 n1x2 c1x2 e1x2] false]) fun B=>Zcs (Zbf B (.ptr (h.length,0 + 0)) 2) fun C=>Zaj C fun C D=>Zbs C fun C=>Zaj D fun D E=>Zbs D fun D=>Zcf E (Zcs (Zbf B (.ptr (A.length,0 + 0)) 2) fun E=>Zaj E fun E F=>Zbs E fun E=>Zaj F fun F G=>Zbs F fun F=>Zcf G (Zae pg Zkj [.agg [.str C,.str D],.agg [.str E,.str F]] B fun B C=>
 Zbp B fun B=>bcase (!B) (Q (.bool false) C) (xSl (Zad C (.ptr (h.length,0 + 2))) fun B D E F=>xSl (Zad C (.ptr (A.length,0 + 2))) fun A G H I=>Zae pg Zma [.slice B D E F,.slice A G H I] C fun A B=>
 Zbp A fun A=>bcase (!A) (Q (.bool false) B) (Q (.bool true) B))))):Zae pg Zja [.agg [.str x0x0,.str x0x1,.slice a0x2 n0x2 c0x2 e0x2],.agg [.str x1x0,.str x1x1,.slice a1x2 n1x2 c1x2 e1x2]] h Q:=
 Zae.of_body kp (c:=cod fn) (fn:=fn) Go.Proofs.Tryz.func100 (by kernel_rfl) (by kernel_rfl) (Nat.le_of_ble_eq_true (by kernel_rfl))
  (cast (by kernel_rfl) ht)
end Zmd
namespace Zez
noncomputable abbrev fn:Func:=Go.Proofs.Tryz.f57
def kp:Zce:=[(3000004,[4]),(1000004,[0,1,5]),(2000006,[26,5,0,1])]
noncomputable def C (p:List Nat):Code:=(cod fn).sub p
def KR (Q:QT):KT:=Zev pg fn.results.toList Q
abbrev T4:=Pt→Nat→Nat→Bool→Pt→Nat→Nat→Bool→Int→Zaa→Prop
def E4 (R4:T4) (env:Env) (h:Zaa):Prop:=Zby 0 env fun v env=>xSl v fun a0 n0 c0 e0=>Zby 1 env fun v env=>xSl v fun a1 n1 c1 e1=>Zby 5 env fun v env=>Zea .i64 v fun x5=>Zjh env (R4 a0 n0 c0 e0 a1 n1 c1 e1 x5 h)
theorem Zji {R4:T4} {env:Env} {h:Zaa} (hi:E4 R4 env h):∃ a0,∃ n0,∃ c0,∃ e0,∃ a1,∃ n1,∃ c1,∃ e1,∃ x5,env=[(0,.slice a0 n0 c0 e0),(1,.slice a1 n1 c1 e1),(5,.int .i64 x5)]∧R4 a0 n0 c0 e0 a1 n1 c1 e1 x5 h:=by
 unfold E4 at hi
 repeat ((first | (have k:=Zaf hi; clear hi; obtain ⟨_,_,e,hi⟩:=k) | (have k:=Zav hi; clear hi; obtain ⟨_,e,hi⟩:=k) | (have k:=Zbz hi; clear hi; obtain ⟨_,_,_,_,e,hi⟩:=k)); subst e)
 obtain ⟨rfl,hi⟩:=Zbi hi
 exact ⟨_,_,_,_,_,_,_,_,_,rfl,hi⟩
def K0 (Q:QT):KT:=andThen (fun env' h'=>(match kp.find 4000008 with | some ks=>Den pg fn.ntmps (C [1,1,1]) (env'.keep ks) h' (KR Q) | none=>den pg fn.ntmps kp (C [1,1,1]) env' h' (KR Q))) (KR Q)
def K1 (Q:QT):KT:=Zcl 0 (K0 Q)
def K2 (Q:QT):KT:=left kp 4 (K1 Q)
def K3 (Q:QT) (R4:T4):KT:=rnd ((kp.find 1000004).getD []) (E4 R4) (K2 Q)
def L4 (Q:QT) (a0:Pt) (n0 c0:Nat) (e0:Bool) (a1:Pt) (n1 c1:Nat) (e1:Bool) (x5:Int) (h:Zaa):Prop:=Zdz (Den pg fn.ntmps (C [1,1,0,1,0,0])) ((kp.find 1000004).getD []) (K2 Q) [(0,.slice a0 n0 c0 e0),(1,.slice a1 n1 c1 e1),(5,.int .i64 x5)] h
def Yba (Q:QT) (h:Zaa):Prop:=At (K1 Q) (.exit 0) [(4,.undef)] h
def L4t (Q:QT) (R4:T4) (a0:Pt) (n0 c0:Nat) (e0:Bool) (a1:Pt) (n1 c1:Nat) (e1:Bool) (x5:Int) (h:Zaa):Prop:=
 bcase (decide ((x5:Int) < (((n0:Nat):Int)))) ((0≤(x5:Int)∧(x5:Int) < (n0:Nat))∧(Zba a0 fun A B=>(0≤(x5:Int)∧(x5:Int) < (n1:Nat))∧(Zba a1 fun C D=>Zcs (Zbf h (.ptr (A,B + (Int.toNat x5) * 3)) 3) fun E=>Zaj E fun E F=>Zbs E fun E=>Zaj F fun F G=>Zbs F fun F=>Zaj G fun G H=>xSl G fun G I J K=>Zcf H (Zcs (Zbf h (.ptr (C,D + (Int.toNat x5) * 3)) 3) fun C=>Zaj C fun C D=>Zbs C fun C=>Zaj D fun D H=>Zbs D fun D=>Zaj H fun H L=>xSl H fun H M N O=>Zcf L ((Zbf h (.ptr (A,B + (Int.toNat x5) * 3)) 3=Zbf h (.ptr (A,B + (Int.toNat x5) * 3)) 3)∧Zae pg Zja [.agg [.str E,.str F,.slice G I J K],.agg [.str C,.str D,.slice H M N O]] h fun A B=>
 Zbp A fun A=>bcase (!A) (Q (.bool false) B) (R4 a0 n0 c0 e0 a1 n1 c1 e1 (IntKind.wrap .i64 (x5 + 1)) B)))))) (Yba Q h)
theorem Zvd (Q:QT) (R4:T4) (a0:Pt) (n0 c0:Nat) (e0:Bool) (a1:Pt) (n1 c1:Nat) (e1:Bool) (x5:Int) (h:Zaa) (ht:L4t Q R4 a0 n0 c0 e0 a1 n1 c1 e1 x5 h):Den pg fn.ntmps (C [1,1,0,1,0,0]) [(0,.slice a0 n0 c0 e0),(1,.slice a1 n1 c1 e1),(5,.int .i64 x5)] h (K3 Q R4):=
 Zbb (kp:=kp) (cast (by kernel_rfl) ht)
theorem L4ind (Q:QT) (a0:Pt) (n0 c0:Nat) (e0:Bool) (a1:Pt) (n1 c1:Nat) (e1:Bool) {G:Type} (J:G→Int→Zaa→Prop) (m:G→Nat)
 (hr:∀ (g:G) (x5:Int) (h:Zaa),J g x5 h→∀ (R4:T4),(∀ g' (x5:Int) (h:Zaa),m g' < m g→J g' x5 h→R4 a0 n0 c0 e0 a1 n1 c1 e1 x5 h)→L4t Q R4 a0 n0 c0 e0 a1 n1 c1 e1 x5 h)
 (g:G) (x5:Int) (h:Zaa) (hj:J g x5 h):L4 Q a0 n0 c0 e0 a1 n1 c1 e1 x5 h:=by
 let P:=fun (K:Int→Zaa→Prop) a0' n0' c0' e0' a1' n1' c1' e1' x5 h=>a0=a0'∧n0=n0'∧c0=c0'∧e0=e0'∧a1=a1'∧n1=n1'∧c1=c1'∧e1=e1'∧K x5 h
 refine Zdz.inv2 (fun g=>E4 (P (J g))) (fun g=>E4 (P fun x5 h=>∃ g',m g' < m g∧J g' x5 h)) m ?_ ?_ g ⟨rfl,rfl,rfl,rfl,rfl,rfl,rfl,rfl,hj⟩
 ·intro g env h hi
  obtain ⟨a0',n0',c0',e0',a1',n1',c1',e1',x5,rfl,rfl,rfl,rfl,rfl,rfl,rfl,rfl,rfl,hj⟩:=Zji hi
  exact Zvd Q _ a0 n0 c0 e0 a1 n1 c1 e1 x5 h (hr g x5 h hj (P fun x5 h=>∃ g',m g' < m g∧J g' x5 h) fun g' x5 h hlt hj=>⟨rfl,rfl,rfl,rfl,rfl,rfl,rfl,rfl,g',hlt,hj⟩)
 ·intro g env h hi
  obtain ⟨a0',n0',c0',e0',a1',n1',c1',e1',x5,rfl,rfl,rfl,rfl,rfl,rfl,rfl,rfl,rfl,g',hlt,hj⟩:=Zji hi
  exact ⟨g',hlt,rfl,rfl,rfl,rfl,rfl,rfl,rfl,rfl,hj⟩
theorem A4x0i (Q:QT) (h:Zaa) (ht :
 Q (.bool true) h):Yba Q h:=
 At.mk (cast (by kernel_rfl) ht)
theorem call (a0:Pt) (n0 c0:Nat) (e0:Bool) (a1:Pt) (n1 c1:Nat) (e1:Bool) (h:Zaa) (Q:QT) (ht :
 bcase (!((((n0:Nat):Int):Int) == (((n1:Nat):Int)))) (Q (.bool false) h) (L4 Q a0 n0 c0 e0 a1 n1 c1 e1 0 h)):Zae pg Zhz [.slice a0 n0 c0 e0,.slice a1 n1 c1 e1] h Q:=
 Zae.of_body kp (c:=cod fn) (fn:=fn) Go.Proofs.Tryz.func57 (by kernel_rfl) (by kernel_rfl) (Nat.le_of_ble_eq_true (by kernel_rfl))
  (cast (by kernel_rfl) ht)
end Zez
namespace Zpg
noncomputable abbrev fn:Func:=Go.Proofs.Tryz.f20
def kp:Zce:=[]
noncomputable def C (p:List Nat):Code:=(cod fn).sub p
def KR (Q:QT):KT:=Zev pg fn.results.toList Q
theorem call (a0x0:Pt) (n0x0 c0x0:Nat) (e0x0:Bool) (a0x1:Pt) (n0x1 c0x1:Nat) (e0x1:Bool) (a1x0:Pt) (n1x0 c1x0:Nat) (e1x0:Bool) (a1x1:Pt) (n1x1 c1x1:Nat) (e1x1:Bool) (h:Zaa) (Q:QT) (ht :
 Zcy (h ++ [.cells Zao [.slice a0x0 n0x0 c0x0 e0x0,.slice a0x1 n0x1 c0x1 e0x1] false]) fun A=>Zcy (A ++ [.cells Zao [.slice a1x0 n1x0 c1x0 e1x0,.slice a1x1 n1x1 c1x1 e1x1] false]) fun B=>xSl (Zad B (.ptr (h.length,0 + 0))) fun C D E F=>xSl (Zad B (.ptr (A.length,0 + 0))) fun G H I J=>Zae pg Zlc [.slice C D E F,.slice G H I J] B fun B C=>
 Zbp B fun B=>bcase (!B) (Q (.bool false) C) (xSl (Zad C (.ptr (h.length,0 + 1))) fun B D E F=>xSl (Zad C (.ptr (A.length,0 + 1))) fun A G H I=>Zae pg Zhz [.slice B D E F,.slice A G H I] C fun A B=>
 Zbp A fun A=>bcase (!A) (Q (.bool false) B) (Q (.bool true) B))):Zae pg Zlx [.agg [.slice a0x0 n0x0 c0x0 e0x0,.slice a0x1 n0x1 c0x1 e0x1],.agg [.slice a1x0 n1x0 c1x0 e1x0,.slice a1x1 n1x1 c1x1 e1x1]] h Q:=
 Zae.of_body kp (c:=cod fn) (fn:=fn) Go.Proofs.Tryz.func20 (by kernel_rfl) (by kernel_rfl) (Nat.le_of_ble_eq_true (by kernel_rfl))
  (cast (by kernel_rfl) ht)
end Zpg
end Go.Sim

set_option maxRecDepth 100000
set_option maxHeartbeats 0
set_option linter.unusedVariables false
namespace Go.Sim
open Go Go.RowKit
namespace Zmj
noncomputable abbrev fn:Func:=Go.Proofs.Tryz.f92
def kp:Zce:=[]
noncomputable def C (p:List Nat):Code:=(cod fn).sub p
def KR (Q:QT):KT:=Zev pg fn.results.toList Q
theorem call (x0x0 x0x1:List Nat) (a0x2:Pt) (n0x2 c0x2:Nat) (e0x2:Bool) (x1:Int) (h:Zaa) (Q:QT) (ht :
 Zcy (h ++ [.cells Zeb [.str x0x0,.str x0x1,.slice a0x2 n0x2 c0x2 e0x2] false]) fun A=>Zcs (Zbf A (.ptr (h.length,0 + 0)) 2) fun B=>Zaj B fun B C=>Zbs B fun B=>Zaj C fun C D=>Zbs C fun C=>Zcf D (Zae pg Zkg [.agg [.str B,.str C],.int .i64 x1] A fun A B=>
 Zci .i64 A fun A=>bcase (decide ((A:Int) < 0)) (Q (.int .i64 (-1)) B) (xSl (Zad B (.ptr (h.length,0 + 2))) fun C D E F=>Zae pg Zlo [.slice C D E F,.int .i64 A] B fun A B=>
 Zci .i64 A fun A=>bcase (decide ((A:Int) < 0)) (Q (.int .i64 (-1)) B) (Q (.int .i64 A) B)))):Zae pg Zjd [.agg [.str x0x0,.str x0x1,.slice a0x2 n0x2 c0x2 e0x2],.int .i64 x1] h Q:=
 Zae.of_body kp (c:=cod fn) (fn:=fn) Go.Proofs.Tryz.func92 (by kernel_rfl) (by kernel_rfl) (Nat.le_of_ble_eq_true (by kernel_rfl))
  (cast (by kernel_rfl) ht)
end Zmj
namespace Zfc
noncomputable abbrev fn:Func:=Go.Proofs.Tryz.f49
def kp:Zce:=[(3000005,[1,4]),(1000005,[0,1,5])]
noncomputable def C (p:List Nat):Code:=(cod fn).sub p
def KR (Q:QT):KT:=Zev pg fn.results.toList Q
abbrev T5:=Pt→Nat→Nat→Bool→Int→Int→Zaa→Prop
def E5 (R5:T5) (env:Env) (h:Zaa):Prop:=Zby 0 env fun v env=>xSl v fun a0 n0 c0 e0=>Zby 1 env fun v env=>Zea .i64 v fun x1=>Zby 5 env fun v env=>Zea .i64 v fun x5=>Zjh env (R5 a0 n0 c0 e0 x1 x5 h)
theorem Zgd {R5:T5} {env:Env} {h:Zaa} (hi:E5 R5 env h):∃ a0,∃ n0,∃ c0,∃ e0,∃ x1,∃ x5,env=[(0,.slice a0 n0 c0 e0),(1,.int .i64 x1),(5,.int .i64 x5)]∧R5 a0 n0 c0 e0 x1 x5 h:=by
 unfold E5 at hi
 repeat ((first | (have k:=Zaf hi; clear hi; obtain ⟨_,_,e,hi⟩:=k) | (have k:=Zav hi; clear hi; obtain ⟨_,e,hi⟩:=k) | (have k:=Zbz hi; clear hi; obtain ⟨_,_,_,_,e,hi⟩:=k)); subst e)
 obtain ⟨rfl,hi⟩:=Zbi hi
 exact ⟨_,_,_,_,_,_,rfl,hi⟩
def K0 (Q:QT):KT:=andThen (fun env' h'=>(match kp.find 4000010 with | some ks=>Den pg fn.ntmps (C [1,1,1,1]) (env'.keep ks) h' (KR Q) | none=>den pg fn.ntmps kp (C [1,1,1,1]) env' h' (KR Q))) (KR Q)
def K1 (Q:QT):KT:=Zcl 0 (K0 Q)
def K2 (Q:QT):KT:=left kp 5 (K1 Q)
def K3 (Q:QT) (R5:T5):KT:=rnd ((kp.find 1000005).getD []) (E5 R5) (K2 Q)
def L5 (Q:QT) (a0:Pt) (n0 c0:Nat) (e0:Bool) (x1 x5:Int) (h:Zaa):Prop:=Zdz (Den pg fn.ntmps (C [1,1,1,0,1,0,0])) ((kp.find 1000005).getD []) (K2 Q) [(0,.slice a0 n0 c0 e0),(1,.int .i64 x1),(5,.int .i64 x5)] h
def A5x0 (Q:QT) (x1:Int) (h:Zaa):Prop:=At (K1 Q) (.exit 0) [(1,.int .i64 x1),(4,.undef)] h
def L5t (Q:QT) (R5:T5) (a0:Pt) (n0 c0:Nat) (e0:Bool) (x1 x5:Int) (h:Zaa):Prop:=
 bcase (decide ((x5:Int) < (((n0:Nat):Int)))) ((0≤(x5:Int)∧(x5:Int) < (n0:Nat))∧(Zba a0 fun A B=>Zcs (Zbf h (.ptr (A,B + (Int.toNat x5) * 3)) 3) fun A=>Zaj A fun A B=>Zbs A fun A=>Zaj B fun B C=>Zbs B fun B=>Zaj C fun C D=>xSl C fun C E F G=>Zcf D (Zae pg Zjd [.agg [.str A,.str B,.slice C E F G],.int .i64 x1] h fun A B=>
 Zci .i64 A fun A=>bcase (decide ((A:Int) < 0)) (Q (.int .i64 (-1)) B) (R5 a0 n0 c0 e0 A (IntKind.wrap .i64 (x5 + 1)) B)))) (A5x0 Q x1 h)
theorem Zqk (Q:QT) (R5:T5) (a0:Pt) (n0 c0:Nat) (e0:Bool) (x1 x5:Int) (h:Zaa) (ht:L5t Q R5 a0 n0 c0 e0 x1 x5 h):Den pg fn.ntmps (C [1,1,1,0,1,0,0]) [(0,.slice a0 n0 c0 e0),(1,.int .i64 x1),(5,.int .i64 x5)] h (K3 Q R5):=
 Zbb (kp:=kp) (cast (by kernel_rfl) ht)
theorem L5ind (Q:QT) (a0:Pt) (n0 c0:Nat) (e0:Bool) {G:Type} (J:G→Int→Int→Zaa→Prop) (m:G→Nat)
 (hr:∀ (g:G) (x1 x5:Int) (h:Zaa),J g x1 x5 h→∀ (R5:T5),(∀ g' (x1 x5:Int) (h:Zaa),m g' < m g→J g' x1 x5 h→R5 a0 n0 c0 e0 x1 x5 h)→L5t Q R5 a0 n0 c0 e0 x1 x5 h)
 (g:G) (x1 x5:Int) (h:Zaa) (hj:J g x1 x5 h):L5 Q a0 n0 c0 e0 x1 x5 h:=by
 let P:=fun (K:Int→Int→Zaa→Prop) a0' n0' c0' e0' x1 x5 h=>a0=a0'∧n0=n0'∧c0=c0'∧e0=e0'∧K x1 x5 h
 refine Zdz.inv2 (fun g=>E5 (P (J g))) (fun g=>E5 (P fun x1 x5 h=>∃ g',m g' < m g∧J g' x1 x5 h)) m ?_ ?_ g ⟨rfl,rfl,rfl,rfl,hj⟩
 ·intro g env h hi
  obtain ⟨a0',n0',c0',e0',x1,x5,rfl,rfl,rfl,rfl,rfl,hj⟩:=Zgd hi
  exact Zqk Q _ a0 n0 c0 e0 x1 x5 h (hr g x1 x5 h hj (P fun x1 x5 h=>∃ g',m g' < m g∧J g' x1 x5 h) fun g' x1 x5 h hlt hj=>⟨rfl,rfl,rfl,rfl,g',hlt,hj⟩)
 ·intro g env h hi
  obtain ⟨a0',n0',c0',e0',x1,x5,rfl,rfl,rfl,rfl,rfl,g',hlt,hj⟩:=Zgd hi
  exact ⟨g',hlt,rfl,rfl,rfl,rfl,hj⟩
theorem A5x0i (Q:QT) (x1:Int) (h:Zaa) (ht :
 Q (.int .i64 x1) h):A5x0 Q x1 h:=
 At.mk (cast (by kernel_rfl) ht)
theorem call (a0:Pt) (n0 c0:Nat) (e0:Bool) (x1:Int) (h:Zaa) (Q:QT) (ht :
 bcase (decide (((IntKind.wrap .i64 (x1 - (((n0:Nat):Int)))):Int) < 0)) (Q (.int .i64 (-1)) h) (L5 Q a0 n0 c0 e0 (IntKind.wrap .i64 (x1 - (((n0:Nat):Int)))) 0 h)):Zae pg Zig [.slice a0 n0 c0 e0,.int .i64 x1] h Q:=
 Zae.of_body kp (c:=cod fn) (fn:=fn) Go.Proofs.Tryz.func49 (by kernel_rfl) (by kernel_rfl) (Nat.le_of_ble_eq_true (by kernel_rfl))
  (cast (by kernel_rfl) ht)
end Zfc
namespace Zpn
noncomputable abbrev fn:Func:=Go.Proofs.Tryz.f16
def kp:Zce:=[]
noncomputable def C (p:List Nat):Code:=(cod fn).sub p
def KR (Q:QT):KT:=Zev pg fn.results.toList Q
theorem call (a0x0:Pt) (n0x0 c0x0:Nat) (e0x0:Bool) (a0x1:Pt) (n0x1 c0x1:Nat) (e0x1:Bool) (x1:Int) (h:Zaa) (Q:QT) (ht :
 Zcy (h ++ [.cells Zef [.slice a0x0 n0x0 c0x0 e0x0,.slice a0x1 n0x1 c0x1 e0x1] false]) fun A=>xSl (Zad A (.ptr (h.length,0 + 0))) fun B C D E=>Zae pg Zks [.slice B C D E,.int .i64 x1] A fun A B=>
 Zci .i64 A fun A=>bcase (decide ((A:Int) < 0)) (Q (.int .i64 (-1)) B) (xSl (Zad B (.ptr (h.length,0 + 1))) fun C D E F=>Zae pg Zig [.slice C D E F,.int .i64 A] B fun A B=>
 Zci .i64 A fun A=>bcase (decide ((A:Int) < 0)) (Q (.int .i64 (-1)) B) (Q (.int .i64 A) B))):Zae pg Zlv [.agg [.slice a0x0 n0x0 c0x0 e0x0,.slice a0x1 n0x1 c0x1 e0x1],.int .i64 x1] h Q:=
 Zae.of_body kp (c:=cod fn) (fn:=fn) Go.Proofs.Tryz.func16 (by kernel_rfl) (by kernel_rfl) (Nat.le_of_ble_eq_true (by kernel_rfl))
  (cast (by kernel_rfl) ht)
end Zpn
namespace Zmn
noncomputable abbrev fn:Func:=Go.Proofs.Tryz.f98
def kp:Zce:=[]
noncomputable def C (p:List Nat):Code:=(cod fn).sub p
def KR (Q:QT):KT:=Zev pg fn.results.toList Q
theorem call (x0x0 x0x1:List Nat) (a0x2:Pt) (n0x2 c0x2:Nat) (e0x2:Bool) (h:Zaa) (Q:QT) (ht :
 Zcy (h ++ [.cells Zeb [.str x0x0,.str x0x1,.slice a0x2 n0x2 c0x2 e0x2] false]) fun A=>Zcy (A ++ [.cells Zac [.str [],.str [],.slice none 0 0 true] false]) fun B=>Zcy (B ++ [.cells Zac [.str [],.str [],.slice none 0 0 true] false]) fun C=>Zcs (Zbf C (.ptr (h.length,0 + 0)) 2) fun D=>Zaj D fun D E=>Zbs D fun D=>Zaj E fun E F=>Zbs E fun E=>Zcf F (Zae pg Zkf [.agg [.str D,.str E]] C fun C D=>
 Zrs C fun C=>Zaj C fun C E=>Zbs C fun C=>Zaj E fun E F=>Zbs E fun E=>Zcf F (Zch (Zbe D (.ptr (B.length,0 + 0)) [.str C,.str E]) fun C=>xSl (Zad C (.ptr (h.length,0 + 2))) fun D E F G=>Zae pg Zls [.slice D E F G] C fun C D=>
 xSl C fun C E F G=>Zch (Zbe D (.ptr (B.length,0 + 2)) [.slice C E F G]) fun C=>Zcs (Zbf C (.ptr (B.length,0)) 3) fun B=>Zaj B fun B D=>Zbs B fun B=>Zaj D fun D E=>Zbs D fun D=>Zaj E fun E F=>xSl E fun E G H I=>Zcf F (Zch (Zbe C (.ptr (A.length,0)) [.str B,.str D,.slice E G H I]) fun B=>Zcs (Zbf B (.ptr (A.length,0)) 3) fun A=>Zaj A fun A C=>Zbs A fun A=>Zaj C fun C D=>Zbs C fun C=>Zaj D fun D E=>xSl D fun D F G H=>Zcf E (Q (.agg [.str A,.str C,.slice D F G H]) B))))):Zae pg Ziq [.agg [.str x0x0,.str x0x1,.slice a0x2 n0x2 c0x2 e0x2]] h Q:=
 Zae.of_body kp (c:=cod fn) (fn:=fn) Go.Proofs.Tryz.func98 (by kernel_rfl) (by kernel_rfl) (Nat.le_of_ble_eq_true (by kernel_rfl))
  (cast (by kernel_rfl) ht)
end Zmn
end Go.Sim

set_option maxRecDepth 100000
set_option maxHeartbeats 0
set_option linter.unusedVariables false
namespace Go.Sim
open Go Go.RowKit
namespace Zpq
noncomputable abbrev fn:Func:=Go.Proofs.Tryz.f91
def kp:Zce:=[]
noncomputable def C (p:List Nat):Code:=(cod fn).sub p
def KR (Q:QT):KT:=Zev pg fn.results.toList Q
theorem call (x0x0 x0x1:List Nat) (x1:Int) (h:Zaa) (Q:QT) (ht :
 Zcy (h ++ [.cells Zon [.str x0x0,.str x0x1] false]) fun A=>Zbs (Zad A (.ptr (h.length,0 + 0))) fun B=>bcase (decide (((IntKind.wrap .i64 (x1 - (((List.length B:Nat):Int)))):Int) < 0)) (Q (.int .i64 (-1)) A) (Zbs (Zad A (.ptr (h.length,0 + 1))) fun C=>bcase (decide (((IntKind.wrap .i64 ((IntKind.wrap .i64 (x1 - (((List.length B:Nat):Int)))) - (((List.length C:Nat):Int)))):Int) < 0)) (Q (.int .i64 (-1)) A) (Q (.int .i64 (IntKind.wrap .i64 ((IntKind.wrap .i64 (x1 - (((List.length B:Nat):Int)))) - (((List.length C:Nat):Int))))) A))):Zae pg Zlw [.agg [.str x0x0,.str x0x1],.int .i64 x1] h Q:=
 Zae.of_body kp (c:=cod fn) (fn:=fn) Go.Proofs.Tryz.func91 (by kernel_rfl) (by kernel_rfl) (Nat.le_of_ble_eq_true (by kernel_rfl))
  (cast (by kernel_rfl) ht)
end Zpq
namespace Zpl
noncomputable abbrev fn:Func:=Go.Proofs.Tryz.f99
def kp:Zce:=[]
noncomputable def C (p:List Nat):Code:=(cod fn).sub p
def KR (Q:QT):KT:=Zev pg fn.results.toList Q
theorem call (x0x0 x0x1 x1x0 x1x1:List Nat) (h:Zaa) (Q:QT) (ht :
 Zcy (h ++ [.cells Zbq [.str x0x0,.str x0x1] false]) fun A=>Zcy (A ++ [.cells Zbq [.str x1x0,.str x1x1] false]) fun B=>Zbs (Zad B (.ptr (h.length,0 + 0))) fun C=>Zbs (Zad B (.ptr (A.length,0 + 0))) fun D=>bcase (!(decide (C=D))) (Q (.bool false) B) (Zbs (Zad B (.ptr (h.length,0 + 1))) fun C=>Zbs (Zad B (.ptr (A.length,0 + 1))) fun A=>bcase (!(decide (C=A))) (Q (.bool false) B) (Q (.bool true) B))):Zae pg Zlp [.agg [.str x0x0,.str x0x1],.agg [.str x1x0,.str x1x1]] h Q:=
 Zae.of_body kp (c:=cod fn) (fn:=fn) Go.Proofs.Tryz.func99 (by kernel_rfl) (by kernel_rfl) (Nat.le_of_ble_eq_true (by kernel_rfl))
  (cast (by kernel_rfl) ht)
end Zpl
namespace Zpp
noncomputable abbrev fn:Func:=Go.Proofs.Tryz.f97
def kp:Zce:=[]
noncomputable def C (p:List Nat):Code:=(cod fn).sub p
def KR (Q:QT):KT:=Zev pg fn.results.toList Q
theorem call (x0x0 x0x1:List Nat) (h:Zaa) (Q:QT) (ht :
 Zcy (h ++ [.cells Zon [.str x0x0,.str x0x1] false]) fun A=>Zcy (A ++ [.cells Zbq [.str [],.str []] false]) fun B=>Zcy (B ++ [.cells Zbq [.str [],.str []] false]) fun C=>Zbs (Zad C (.ptr (h.length,0 + 0))) fun D=>Zch (Zbe C (.ptr (B.length,0 + 0)) [.str D]) fun C=>Zbs (Zad C (.ptr (h.length,0 + 1))) fun D=>Zch (Zbe C (.ptr (B.length,0 + 1)) [.str D]) fun C=>Zcs (Zbf C (.ptr (B.length,0)) 2) fun B=>Zaj B fun B D=>Zbs B fun B=>Zaj D fun D E=>Zbs D fun D=>Zcf E (Zch (Zbe C (.ptr (A.length,0)) [.str B,.str D]) fun B=>Zcs (Zbf B (.ptr (A.length,0)) 2) fun A=>Zaj A fun A C=>Zbs A fun A=>Zaj C fun C D=>Zbs C fun C=>Zcf D (Q (.agg [.str A,.str C]) B))):Zae pg Zln [.agg [.str x0x0,.str x0x1]] h Q:=
 Zae.of_body kp (c:=cod fn) (fn:=fn) Go.Proofs.Tryz.func97 (by kernel_rfl) (by kernel_rfl) (Nat.le_of_ble_eq_true (by kernel_rfl))
  (cast (by kernel_rfl) ht)
end Zpp
namespace Zgm
noncomputable abbrev fn:Func:=Go.Proofs.Tryz.f48
def kp:Zce:=[(3000005,[1,4]),(1000005,[0,1,5])]
noncomputable def C (p:List Nat):Code:=(cod fn).sub p
def KR (Q:QT):KT:=Zev pg fn.results.toList Q
abbrev T5:=Pt→Nat→Nat→Bool→Int→Int→Zaa→Prop
def E5 (R5:T5) (env:Env) (h:Zaa):Prop:=Zby 0 env fun v env=>xSl v fun a0 n0 c0 e0=>Zby 1 env fun v env=>Zea .i64 v fun x1=>Zby 5 env fun v env=>Zea .i64 v fun x5=>Zjh env (R5 a0 n0 c0 e0 x1 x5 h)
theorem Zgd {R5:T5} {env:Env} {h:Zaa} (hi:E5 R5 env h):∃ a0,∃ n0,∃ c0,∃ e0,∃ x1,∃ x5,env=[(0,.slice a0 n0 c0 e0),(1,.int .i64 x1),(5,.int .i64 x5)]∧R5 a0 n0 c0 e0 x1 x5 h:=by
 unfold E5 at hi
 repeat ((first | (have k:=Zaf hi; clear hi; obtain ⟨_,_,e,hi⟩:=k) | (have k:=Zav hi; clear hi; obtain ⟨_,e,hi⟩:=k) | (have k:=Zbz hi; clear hi; obtain ⟨_,_,_,_,e,hi⟩:=k)); subst e)
 obtain ⟨rfl,hi⟩:=Zbi hi
 exact ⟨_,_,_,_,_,_,rfl,hi⟩
def K0 (Q:QT):KT:=andThen (fun env' h'=>(match kp.find 4000010 with | some ks=>Den pg fn.ntmps (C [1,1,1,1]) (env'.keep ks) h' (KR Q) | none=>den pg fn.ntmps kp (C [1,1,1,1]) env' h' (KR Q))) (KR Q)
def K1 (Q:QT):KT:=Zcl 0 (K0 Q)
def K2 (Q:QT):KT:=left kp 5 (K1 Q)
def K3 (Q:QT) (R5:T5):KT:=rnd ((kp.find 1000005).getD []) (E5 R5) (K2 Q)
def L5 (Q:QT) (a0:Pt) (n0 c0:Nat) (e0:Bool) (x1 x5:Int) (h:Zaa):Prop:=Zdz (Den pg fn.ntmps (C [1,1,1,0,1,0,0])) ((kp.find 1000005).getD []) (K2 Q) [(0,.slice a0 n0 c0 e0),(1,.int .i64 x1),(5,.int .i64 x5)] h
def A5x0 (Q:QT) (x1:Int) (h:Zaa):Prop:=At (K1 Q) (.exit 0) [(1,.int .i64 x1),(4,.undef)] h
def L5t (Q:QT) (R5:T5) (a0:Pt) (n0 c0:Nat) (e0:Bool) (x1 x5:Int) (h:Zaa):Prop:=
 bcase (decide ((x5:Int) < (((n0:Nat):Int)))) ((0≤(x5:Int)∧(x5:Int) < (n0:Nat))∧(Zba a0 fun A B=>Zcs (Zbf h (.ptr (A,B + (Int.toNat x5) * 2)) 2) fun A=>Zaj A fun A B=>Zbs A fun A=>Zaj B fun B C=>Zbs B fun B=>Zcf C (Zae pg Zlw [.agg [.str A,.str B],.int .i64 x1] h fun A B=>
 Zci .i64 A fun A=>bcase (decide ((A:Int) < 0)) (Q (.int .i64 (-1)) B) (R5 a0 n0 c0 e0 A (IntKind.wrap .i64 (x5 + 1)) B)))) (A5x0 Q x1 h)
theorem Zqk (Q:QT) (R5:T5) (a0:Pt) (n0 c0:Nat) (e0:Bool) (x1 x5:Int) (h:Zaa) (ht:L5t Q R5 a0 n0 c0 e0 x1 x5 h):Den pg fn.ntmps (C [1,1,1,0,1,0,0]) [(0,.slice a0 n0 c0 e0),(1,.int .i64 x1),(5,.int .i64 x5)] h (K3 Q R5):=
 Zbb (kp:=kp) (cast (by kernel_rfl) ht)
theorem L5ind (Q:QT) (a0:Pt) (n0 c0:Nat) (e0:Bool) {G:Type} (J:G→Int→Int→Zaa→Prop) (m:G→Nat)
 (hr:∀ (g:G) (x1 x5:Int) (h:Zaa),J g x1 x5 h→∀ (R5:T5),(∀ g' (x1 x5:Int) (h:Zaa),m g' < m g→J g' x1 x5 h→R5 a0 n0 c0 e0 x1 x5 h)→L5t Q R5 a0 n0 c0 e0 x1 x5 h)
 (g:G) (x1 x5:Int) (h:Zaa) (hj:J g x1 x5 h):L5 Q a0 n0 c0 e0 x1 x5 h:=by
 let P:=fun (K:Int→Int→Zaa→Prop) a0' n0' c0' e0' x1 x5 h=>a0=a0'∧n0=n0'∧c0=c0'∧e0=e0'∧K x1 x5 h
 refine Zdz.inv2 (fun g=>E5 (P (J g))) (fun g=>E5 (P fun x1 x5 h=>∃ g',m g' < m g∧J g' x1 x5 h)) m ?_ ?_ g ⟨rfl,rfl,rfl,rfl,hj⟩
 ·intro g env h hi
  obtain ⟨a0',n0',c0',e0',x1,x5,rfl,rfl,rfl,rfl,rfl,hj⟩:=Zgd hi
  exact Zqk Q _ a0 n0 c0 e0 x1 x5 h (hr g x1 x5 h hj (P fun x1 x5 h=>∃ g',m g' < m g∧J g' x1 x5 h) fun g' x1 x5 h hlt hj=>⟨rfl,rfl,rfl,rfl,g',hlt,hj⟩)
 ·intro g env h hi
  obtain ⟨a0',n0',c0',e0',x1,x5,rfl,rfl,rfl,rfl,rfl,g',hlt,hj⟩:=Zgd hi
  exact ⟨g',hlt,rfl,rfl,rfl,rfl,hj⟩
theorem A5x0i (Q:QT) (x1:Int) (h:Zaa) (ht :
 Q (.int .i64 x1) h):A5x0 Q x1 h:=
 At.mk (cast (by kernel_rfl) ht)
theorem call (a0:Pt) (n0 c0:Nat) (e0:Bool) (x1:Int) (h:Zaa) (Q:QT) (ht :
 bcase (decide (((IntKind.wrap .i64 (x1 - (((n0:Nat):Int)))):Int) < 0)) (Q (.int .i64 (-1)) h) (L5 Q a0 n0 c0 e0 (IntKind.wrap .i64 (x1 - (((n0:Nat):Int)))) 0 h)):Zae pg Zks [.slice a0 n0 c0 e0,.int .i64 x1] h Q:=
 Zae.of_body kp (c:=cod fn) (fn:=fn) Go.Proofs.Tryz.func48 (by kernel_rfl) (by kernel_rfl) (Nat.le_of_ble_eq_true (by kernel_rfl))
  (cast (by kernel_rfl) ht)
end Zgm
namespace Zgo
noncomputable abbrev fn:Func:=Go.Proofs.Tryz.f52
def kp:Zce:=[(3000003,[3]),(1000003,[0,3,4])]
noncomputable def C (p:List Nat):Code:=(cod fn).sub p
def KR (Q:QT):KT:=Zev pg fn.results.toList Q
abbrev T3:=Pt→Nat→Nat→Bool→Pt→Nat→Nat→Bool→Int→Zaa→Prop
def E3 (R3:T3) (env:Env) (h:Zaa):Prop:=Zby 0 env fun v env=>xSl v fun a0 n0 c0 e0=>Zby 3 env fun v env=>xSl v fun a3 n3 c3 e3=>Zby 4 env fun v env=>Zea .i64 v fun x4=>Zjh env (R3 a0 n0 c0 e0 a3 n3 c3 e3 x4 h)
theorem Zdv {R3:T3} {env:Env} {h:Zaa} (hi:E3 R3 env h):∃ a0,∃ n0,∃ c0,∃ e0,∃ a3,∃ n3,∃ c3,∃ e3,∃ x4,env=[(0,.slice a0 n0 c0 e0),(3,.slice a3 n3 c3 e3),(4,.int .i64 x4)]∧R3 a0 n0 c0 e0 a3 n3 c3 e3 x4 h:=by
 unfold E3 at hi
 repeat ((first | (have k:=Zaf hi; clear hi; obtain ⟨_,_,e,hi⟩:=k) | (have k:=Zav hi; clear hi; obtain ⟨_,e,hi⟩:=k) | (have k:=Zbz hi; clear hi; obtain ⟨_,_,_,_,e,hi⟩:=k)); subst e)
 obtain ⟨rfl,hi⟩:=Zbi hi
 exact ⟨_,_,_,_,_,_,_,_,_,rfl,hi⟩
def K0 (Q:QT):KT:=andThen (fun env' h'=>(match kp.find 4000006 with | some ks=>Den pg fn.ntmps (C [1,1,1]) (env'.keep ks) h' (KR Q) | none=>den pg fn.ntmps kp (C [1,1,1]) env' h' (KR Q))) (KR Q)
def K1 (Q:QT):KT:=Zcl 0 (K0 Q)
def K2 (Q:QT):KT:=left kp 3 (K1 Q)
def K3 (Q:QT) (R3:T3):KT:=rnd ((kp.find 1000003).getD []) (E3 R3) (K2 Q)
def L3 (Q:QT) (a0:Pt) (n0 c0:Nat) (e0:Bool) (a3:Pt) (n3 c3:Nat) (e3:Bool) (x4:Int) (h:Zaa):Prop:=Zdz (Den pg fn.ntmps (C [1,1,0,1,0,0])) ((kp.find 1000003).getD []) (K2 Q) [(0,.slice a0 n0 c0 e0),(3,.slice a3 n3 c3 e3),(4,.int .i64 x4)] h
def Znv (Q:QT) (a3:Pt) (n3 c3:Nat) (e3:Bool) (h:Zaa):Prop:=At (K1 Q) (.exit 0) [(3,.slice a3 n3 c3 e3)] h
def L3t (Q:QT) (R3:T3) (a0:Pt) (n0 c0:Nat) (e0:Bool) (a3:Pt) (n3 c3:Nat) (e3:Bool) (x4:Int) (h:Zaa):Prop:=
 bcase (decide ((x4:Int) < (((n0:Nat):Int)))) ((0≤(x4:Int)∧(x4:Int) < (n0:Nat))∧(Zba a0 fun A B=>Zcs (Zbf h (.ptr (A,B + (Int.toNat x4) * 2)) 2) fun A=>Zaj A fun A B=>Zbs A fun A=>Zaj B fun B C=>Zbs B fun B=>Zcf C (Zae pg Zln [.agg [.str A,.str B]] h fun A B=>
 Zrs A fun A=>Zaj A fun A C=>Zbs A fun A=>Zaj C fun C D=>Zbs C fun C=>Zcf D ((0≤(x4:Int)∧(x4:Int) < (n3:Nat))∧(Zba a3 fun D E=>Zch (Zbe B (.ptr (D,E + (Int.toNat x4) * 2)) [.str A,.str C]) fun A=>R3 a0 n0 c0 e0 a3 n3 c3 e3 (IntKind.wrap .i64 (x4 + 1)) A))))) (Znv Q a3 n3 c3 e3 h)
theorem Zjr (Q:QT) (R3:T3) (a0:Pt) (n0 c0:Nat) (e0:Bool) (a3:Pt) (n3 c3:Nat) (e3:Bool) (x4:Int) (h:Zaa) (ht:L3t Q R3 a0 n0 c0 e0 a3 n3 c3 e3 x4 h):Den pg fn.ntmps (C [1,1,0,1,0,0]) [(0,.slice a0 n0 c0 e0),(3,.slice a3 n3 c3 e3),(4,.int .i64 x4)] h (K3 Q R3):=
 Zbb (kp:=kp) (cast (by kernel_rfl) ht)
theorem L3ind (Q:QT) (a0:Pt) (n0 c0:Nat) (e0:Bool) (a3:Pt) (n3 c3:Nat) (e3:Bool) {G:Type} (J:G→Int→Zaa→Prop) (m:G→Nat)
 (hr:∀ (g:G) (x4:Int) (h:Zaa),J g x4 h→∀ (R3:T3),(∀ g' (x4:Int) (h:Zaa),m g' < m g→J g' x4 h→R3 a0 n0 c0 e0 a3 n3 c3 e3 x4 h)→L3t Q R3 a0 n0 c0 e0 a3 n3 c3 e3 x4 h)
 (g:G) (x4:Int) (h:Zaa) (hj:J g x4 h):L3 Q a0 n0 c0 e0 a3 n3 c3 e3 x4 h:=by
 let P:=fun (K:Int→Zaa→Prop) a0' n0' c0' e0' a3' n3' c3' e3' x4 h=>a0=a0'∧n0=n0'∧c0=c0'∧e0=e0'∧a3=a3'∧n3=n3'∧c3=c3'∧e3=e3'∧K x4 h
 refine Zdz.inv2 (fun g=>E3 (P (J g))) (fun g=>E3 (P fun x4 h=>∃ g',m g' < m g∧J g' x4 h)) m ?_ ?_ g ⟨rfl,rfl,rfl,rfl,rfl,rfl,rfl,rfl,hj⟩
 ·intro g env h hi
  obtain ⟨a0',n0',c0',e0',a3',n3',c3',e3',x4,rfl,rfl,rfl,rfl,rfl,rfl,rfl,rfl,rfl,hj⟩:=Zdv hi
  exact Zjr Q _ a0 n0 c0 e0 a3 n3 c3 e3 x4 h (hr g x4 h hj (P fun x4 h=>∃ g',m g' < m g∧J g' x4 h) fun g' x4 h hlt hj=>⟨rfl,rfl,rfl,rfl,rfl,rfl,rfl,rfl,g',hlt,hj⟩)
 ·intro g env h hi
  obtain ⟨a0',n0',c0',e0',a3',n3',c3',e3',x4,rfl,rfl,rfl,rfl,rfl,rfl,rfl,rfl,rfl,g',hlt,hj⟩:=Zdv hi
  exact ⟨g',hlt,rfl,rfl,rfl,rfl,rfl,rfl,rfl,rfl,hj⟩
theorem A3x0i (Q:QT) (a3:Pt) (n3 c3:Nat) (e3:Bool) (h:Zaa) (ht :
 Q (.slice a3 n3 c3 e3) h):Znv Q a3 n3 c3 e3 h:=
 At.mk (cast (by kernel_rfl) ht)
theorem call (a0:Pt) (n0 c0:Nat) (e0:Bool) (h:Zaa) (Q:QT) (ht :
 IntKind.i64=IntKind.i64∧(IntKind.i64=IntKind.i64∧((0≤((((n0:Nat):Int)):Int)∧((((n0:Nat):Int)):Int)≤(((n0:Nat):Int))∧((((n0:Nat):Int)):Int) * (((32:Nat):Int) + 1)≤140737488355328)∧(Zcy (h ++ [.cells Zbq (reps (Int.toNat ((((n0:Nat):Int)))) [.str [],.str []]) false]) fun A=>L3 Q a0 n0 c0 e0 (h.length,0) (Int.toNat ((((n0:Nat):Int)))) (Int.toNat ((((n0:Nat):Int)))) true 0 A)))):Zae pg Zkv [.slice a0 n0 c0 e0] h Q:=
 Zae.of_body kp (c:=cod fn) (fn:=fn) Go.Proofs.Tryz.func52 (by kernel_rfl) (by kernel_rfl) (Nat.le_of_ble_eq_true (by kernel_rfl))
  (cast (by kernel_rfl) ht)
end Zgo
namespace Zgf
noncomputable abbrev fn:Func:=Go.Proofs.Tryz.f56
def kp:Zce:=[(3000004,[4]),(1000004,[0,1,5]),(2000006,[26,5,0,1])]
noncomputable def C (p:List Nat):Code:=(cod fn).sub p
def KR (Q:QT):KT:=Zev pg fn.results.toList Q
abbrev T4:=Pt→Nat→Nat→Bool→Pt→Nat→Nat→Bool→Int→Zaa→Prop
def E4 (R4:T4) (env:Env) (h:Zaa):Prop:=Zby 0 env fun v env=>xSl v fun a0 n0 c0 e0=>Zby 1 env fun v env=>xSl v fun a1 n1 c1 e1=>Zby 5 env fun v env=>Zea .i64 v fun x5=>Zjh env (R4 a0 n0 c0 e0 a1 n1 c1 e1 x5 h)
theorem Zji {R4:T4} {env:Env} {h:Zaa} (hi:E4 R4 env h):∃ a0,∃ n0,∃ c0,∃ e0,∃ a1,∃ n1,∃ c1,∃ e1,∃ x5,env=[(0,.slice a0 n0 c0 e0),(1,.slice a1 n1 c1 e1),(5,.int .i64 x5)]∧R4 a0 n0 c0 e0 a1 n1 c1 e1 x5 h:=by
 unfold E4 at hi
 repeat ((first | (have k:=Zaf hi; clear hi; obtain ⟨_,_,e,hi⟩:=k) | (have k:=Zav hi; clear hi; obtain ⟨_,e,hi⟩:=k) | (have k:=Zbz hi; clear hi; obtain ⟨_,_,_,_,e,hi⟩:=k)); subst e)
 obtain ⟨rfl,hi⟩:=Zbi hi
 exact ⟨_,_,_,_,_,_,_,_,_,rfl,hi⟩
def K0 (Q:QT):KT:=andThen (fun env' h'=>(match kp.find 4000008 with | some ks=>Den pg fn.ntmps (C [1,1,1]) (env'.keep ks) h' (KR Q) | none=>den pg fn.ntmps kp (C [1,1,1]) env' h' (KR Q))) (KR Q)
def K1 (Q:QT):KT:=Zcl 0 (K0 Q)
def K2 (Q:QT):KT:=left kp 4 (K1 Q)
def K3 (Q:QT) (R4:T4):KT:=rnd ((kp.find 1000004).getD []) (E4 R4) (K2 Q)
def L4 (Q:QT) (a0:Pt) (n0 c0:Nat) (e0:Bool) (a1:Pt) (n1 c1:Nat) (e1:Bool) (x5:Int) (h:Zaa):Prop:=Zdz (Den pg fn.ntmps (C [1,1,0,1,0,0])) ((kp.find 1000004).getD []) (K2 Q) [(0,.slice a0 n0 c0 e0),(1,.slice a1 n1 c1 e1),(5,.int .i64 x5)] h
def Yba (Q:QT) (h:Zaa):Prop:=At (K1 Q) (.exit 0) [(4,.undef)] h
def L4t (Q:QT) (R4:T4) (a0:Pt) (n0 c0:Nat) (e0:Bool) (a1:Pt) (n1 c1:Nat) (e1:Bool) (x5:Int) (h:Zaa):Prop:=
 bcase (decide ((x5:Int) < (((n0:Nat):Int)))) ((0≤(x5:Int)∧(x5:Int) < (n0:Nat))∧(Zba a0 fun A B=>(0≤(x5:Int)∧(x5:Int) < (n1:Nat))∧(Zba a1 fun C D=>Zcs (Zbf h (.ptr (A,B + (Int.toNat x5) * 2)) 2) fun E=>Zaj E fun E F=>Zbs E fun E=>Zaj F fun F G=>Zbs F fun F=>Zcf G (Zcs (Zbf h (.ptr (C,D + (Int.toNat x5) * 2)) 2) fun C=>Zaj C fun C D=>Zbs C fun C=>Zaj D fun D G=>Zbs D fun D=>Zcf G ((Zbf h (.ptr (A,B + (Int.toNat x5) * 2)) 2=Zbf h (.ptr (A,B + (Int.toNat x5) * 2)) 2)∧Zae pg Zlp [.agg [.str E,.str F],.agg [.str C,.str D]] h fun A B=>
 Zbp A fun A=>bcase (!A) (Q (.bool false) B) (R4 a0 n0 c0 e0 a1 n1 c1 e1 (IntKind.wrap .i64 (x5 + 1)) B)))))) (Yba Q h)
theorem Zvd (Q:QT) (R4:T4) (a0:Pt) (n0 c0:Nat) (e0:Bool) (a1:Pt) (n1 c1:Nat) (e1:Bool) (x5:Int) (h:Zaa) (ht:L4t Q R4 a0 n0 c0 e0 a1 n1 c1 e1 x5 h):Den pg fn.ntmps (C [1,1,0,1,0,0]) [(0,.slice a0 n0 c0 e0),(1,.slice a1 n1 c1 e1),(5,.int .i64 x5)] h (K3 Q R4):=
 Zbb (kp:=kp) (cast (by kernel_rfl) ht)
theorem L4ind (Q:QT) (a0:Pt) (n0 c0:Nat) (e0:Bool) (a1:Pt) (n1 c1:Nat) (e1:Bool) {G:Type} (J:G→Int→Zaa→Prop) (m:G→Nat)
 (hr:∀ (g:G) (x5:Int) (h:Zaa),J g x5 h→∀ (R4:T4),(∀ g' (x5:Int) (h:Zaa),m g' < m g→J g' x5 h→R4 a0 n0 c0 e0 a1 n1 c1 e1 x5 h)→L4t Q R4 a0 n0 c0 e0 a1 n1 c1 e1 x5 h)
 (g:G) (x5:Int) (h:Zaa) (hj:J g x5 h):L4 Q a0 n0 c0 e0 a1 n1 c1 e1 x5 h:=by
 let P:=fun (K:Int→Zaa→Prop) a0' n0' c0' e0' a1' n1' c1' e1' x5 h=>a0=a0'∧n0=n0'∧c0=c0'∧e0=e0'∧a1=a1'∧n1=n1'∧c1=c1'∧e1=e1'∧K x5 h
 refine Zdz.inv2 (fun g=>E4 (P (J g))) (fun g=>E4 (P fun x5 h=>∃ g',m g' < m g∧J g' x5 h)) m ?_ ?_ g ⟨rfl,rfl,rfl,rfl,rfl,rfl,rfl,rfl,hj⟩
 ·intro g env h hi
  obtain ⟨a0',n0',c0',e0',a1',n1',c1',e1',x5,rfl,rfl,rfl,rfl,rfl,rfl,rfl,rfl,rfl,hj⟩:=Zji hi
  exact Zvd Q _ a0 n0 c0 e0 a1 n1 c1 e1 x5 h (hr g x5 h hj (P fun x5 h=>∃ g',m g' < m g∧J g' x5 h) fun g' x5 h hlt hj=>⟨rfl,rfl,rfl,rfl,rfl,rfl,rfl,rfl,g',hlt,hj⟩)
 ·intro g env h hi
  obtain ⟨a0',n0',c0',e0',a1',n1',c1',e1',x5,rfl,rfl,rfl,rfl,rfl,rfl,rfl,rfl,rfl,g',hlt,hj⟩:=Zji hi
  exact ⟨g',hlt,rfl,rfl,rfl,rfl,rfl,rfl,rfl,rfl,hj⟩
theorem A4x0i (Q:QT) (h:Zaa) (ht :
 Q (.bool true) h):Yba Q h:=
 At.mk (cast (by kernel_rfl) ht)
theorem call (a0:Pt) (n0 c0:Nat) (e0:Bool) (a1:Pt) (n1 c1:Nat) (e1:Bool) (h:Zaa) (Q:QT) (ht :
 bcase (!((((n0:Nat):Int):Int) == (((n1:Nat):Int)))) (Q (.bool false) h) (L4 Q a0 n0 c0 e0 a1 n1 c1 e1 0 h)):Zae pg Zlc [.slice a0 n0 c0 e0,.slice a1 n1 c1 e1] h Q:=
 Zae.of_body kp (c:=cod fn) (fn:=fn) Go.Proofs.Tryz.func56 (by kernel_rfl) (by kernel_rfl) (Nat.le_of_ble_eq_true (by kernel_rfl))
  (cast (by kernel_rfl) ht)
end Zgf
end Go.Sim

set_option maxRecDepth 100000
set_option maxHeartbeats 0
set_option linter.unusedVariables false
namespace Go.Sim
open Go Go.RowKit
namespace Zio
noncomputable abbrev fn:Func:=Go.Proofs.Tryz.f108
def kp:Zce:=[]
noncomputable def C (p:List Nat):Code:=(cod fn).sub p
def KR (Q:QT):KT:=Zev pg fn.results.toList Q
theorem call (x0x0 x0x1:List Nat) (a0x2:Pt) (n0x2 c0x2:Nat) (e0x2:Bool) (v1:Zal) (h:Zaa) (Q:QT) (ht :
 Zcy (h ++ [.cells Zac [.str x0x0,.str x0x1,.slice a0x2 n0x2 c0x2 e0x2] false]) fun A=>Zcs (Zbf A (v1) 2) fun B=>Zaj B fun B C=>xSl B fun B D E F=>Zaj C fun C G=>xSl C fun C H I J=>Zcf G (Zcs (Zbf A (.ptr (h.length,0)) 3) fun G=>Zaj G fun G K=>Zbs G fun G=>Zaj K fun K L=>Zbs K fun K=>Zaj L fun L M=>xSl L fun L N O P=>Zcf M (Zae pg Zha [.agg [.slice B D E F,.slice C H I J],.agg [.str G,.str K,.slice L N O P]] A fun A B=>
 Zbp A fun A=>Q (.bool (!A)) B))):Zae pg Zbu [.agg [.str x0x0,.str x0x1,.slice a0x2 n0x2 c0x2 e0x2],v1] h Q:=
 Zae.of_body kp (c:=cod fn) (fn:=fn) Go.Proofs.Tryz.func108 (by kernel_rfl) (by kernel_rfl) (Nat.le_of_ble_eq_true (by kernel_rfl))
  (cast (by kernel_rfl) ht)
end Zio
namespace Zay
noncomputable abbrev fn:Func:=Go.Proofs.Tryz.f142
def kp:Zce:=[(3000002,[4]),(1000002,[0,1,7,8])]
noncomputable def C (p:List Nat):Code:=(cod fn).sub p
def KR (Q:QT):KT:=Zev pg fn.results.toList Q
abbrev T2:=Pt→Nat→Nat→Bool→Zal→Int→Int→Zaa→Prop
def E2 (R2:T2) (env:Env) (h:Zaa):Prop:=Zby 0 env fun v env=>xSl v fun a0 n0 c0 e0=>Zby 1 env fun v env=>eFn Zbu v fun cs=>Zaj cs fun c cs'=>Zyj c fun v1x0=>Zcf cs' (Zby 7 env fun v env=>Zea .i64 v fun x7=>Zby 8 env fun v env=>Zea .i64 v fun x8=>Zjh env (R2 a0 n0 c0 e0 v1x0 x7 x8 h))
theorem Zfm {R2:T2} {env:Env} {h:Zaa} (hi:E2 R2 env h):∃ a0,∃ n0,∃ c0,∃ e0,∃ v1x0,∃ x7,∃ x8,env=[(0,.slice a0 n0 c0 e0),(1,.fn Zbu [v1x0]),(7,.int .i64 x7),(8,.int .i64 x8)]∧R2 a0 n0 c0 e0 v1x0 x7 x8 h:=by
 unfold E2 at hi
 have hi0:=hi
 clear hi
 obtain ⟨_,_,rfl,hi1⟩:=Zaf hi0
 obtain ⟨a0,n0,c0,e0,rfl,hi2⟩:=Zbz hi1
 obtain ⟨_,_,rfl,hi3⟩:=Zaf hi2
 obtain ⟨cs,rfl,hi4⟩:=Yew hi3
 obtain ⟨c,cs',rfl,hi5⟩:=Zwl hi4
 obtain ⟨v1x0,hx,hi6⟩:=Zmk hi5
 replace hx:=(Option.some.inj hx).symm
 subst hx
 obtain ⟨rfl,hi7⟩:=Zyp hi6
 obtain ⟨_,_,rfl,hi8⟩:=Zaf hi7
 obtain ⟨x7,rfl,hi9⟩:=Zav hi8
 obtain ⟨_,_,rfl,hi10⟩:=Zaf hi9
 obtain ⟨x8,rfl,hi11⟩:=Zav hi10
 obtain ⟨rfl,hi12⟩:=Zbi hi11
 have hi:=hi12
 exact ⟨a0,n0,c0,e0,v1x0,x7,x8,rfl,hi⟩
def K0 (Q:QT):KT:=andThen (fun env' h'=>(match kp.find 4000007 with | some ks=>Den pg fn.ntmps (C [1,1]) (env'.keep ks) h' (KR Q) | none=>den pg fn.ntmps kp (C [1,1]) env' h' (KR Q))) (KR Q)
def K1 (Q:QT):KT:=Zcl 0 (K0 Q)
def K2 (Q:QT):KT:=left kp 2 (K1 Q)
def K3 (Q:QT) (R2:T2):KT:=rnd ((kp.find 1000002).getD []) (E2 R2) (K2 Q)
def L2 (Q:QT) (a0:Pt) (n0 c0:Nat) (e0:Bool) (v1x0:Zal) (x7 x8:Int) (h:Zaa):Prop:=Zdz (Den pg fn.ntmps (C [1,0,1,0,0])) ((kp.find 1000002).getD []) (K2 Q) [(0,.slice a0 n0 c0 e0),(1,.fn Zbu [v1x0]),(7,.int .i64 x7),(8,.int .i64 x8)] h
def A2x0 (Q:QT) (h:Zaa):Prop:=At (K1 Q) (.exit 0) [(4,.undef)] h
def L2t (Q:QT) (R2:T2) (a0:Pt) (n0 c0:Nat) (e0:Bool) (v1x0:Zal) (x7 x8:Int) (h:Zaa):Prop:=
 bcase (decide ((x8:Int) < x7)) ((0≤(x8:Int)∧(x8:Int) < (n0:Nat))∧(Zba a0 fun A B=>Zcs (Zbf h (.ptr (A,B + (Int.toNat x8) * 3)) 3) fun A=>Zaj A fun A B=>Zbs A fun A=>Zaj B fun B C=>Zbs B fun B=>Zaj C fun C D=>xSl C fun C E F G=>Zcf D (Zae pg Zbu [.agg [.str A,.str B,.slice C E F G],v1x0] h fun A B=>
 Zbp A fun A=>bcase A (Q (.int .i64 x8) B) (R2 a0 n0 c0 e0 v1x0 x7 (IntKind.wrap .i64 (x8 + 1)) B)))) (A2x0 Q h)
theorem Zoh (Q:QT) (R2:T2) (a0:Pt) (n0 c0:Nat) (e0:Bool) (v1x0:Zal) (x7 x8:Int) (h:Zaa) (ht:L2t Q R2 a0 n0 c0 e0 v1x0 x7 x8 h):Den pg fn.ntmps (C [1,0,1,0,0]) [(0,.slice a0 n0 c0 e0),(1,.fn Zbu [v1x0]),(7,.int .i64 x7),(8,.int .i64 x8)] h (K3 Q R2):=
 Zbb (kp:=kp) (cast (by kernel_rfl) ht)
theorem L2ind (Q:QT) (a0:Pt) (n0 c0:Nat) (e0:Bool) (v1x0:Zal) (x7:Int) {G:Type} (J:G→Int→Zaa→Prop) (m:G→Nat)
 (hr:∀ (g:G) (x8:Int) (h:Zaa),J g x8 h→∀ (R2:T2),(∀ g' (x8:Int) (h:Zaa),m g' < m g→J g' x8 h→R2 a0 n0 c0 e0 v1x0 x7 x8 h)→L2t Q R2 a0 n0 c0 e0 v1x0 x7 x8 h)
 (g:G) (x8:Int) (h:Zaa) (hj:J g x8 h):L2 Q a0 n0 c0 e0 v1x0 x7 x8 h:=by
 let P:=fun (K:Int→Zaa→Prop) a0' n0' c0' e0' v1x0' x7' x8 h=>a0=a0'∧n0=n0'∧c0=c0'∧e0=e0'∧v1x0=v1x0'∧x7=x7'∧K x8 h
 refine Zdz.inv2 (fun g=>E2 (P (J g))) (fun g=>E2 (P fun x8 h=>∃ g',m g' < m g∧J g' x8 h)) m ?_ ?_ g ⟨rfl,rfl,rfl,rfl,rfl,rfl,hj⟩
 ·intro g env h hi
  obtain ⟨a0',n0',c0',e0',v1x0',x7',x8,rfl,rfl,rfl,rfl,rfl,rfl,rfl,hj⟩:=Zfm hi
  exact Zoh Q _ a0 n0 c0 e0 v1x0 x7 x8 h (hr g x8 h hj (P fun x8 h=>∃ g',m g' < m g∧J g' x8 h) fun g' x8 h hlt hj=>⟨rfl,rfl,rfl,rfl,rfl,rfl,g',hlt,hj⟩)
 ·intro g env h hi
  obtain ⟨a0',n0',c0',e0',v1x0',x7',x8,rfl,rfl,rfl,rfl,rfl,rfl,rfl,g',hlt,hj⟩:=Zfm hi
  exact ⟨g',hlt,rfl,rfl,rfl,rfl,rfl,rfl,hj⟩
theorem A2x0i (Q:QT) (h:Zaa) (ht :
 Q (.int .i64 (-1)) h):A2x0 Q h:=
 At.mk (cast (by kernel_rfl) ht)
theorem call (a0:Pt) (n0 c0:Nat) (e0:Bool) (v1x0:Zal) (h:Zaa) (Q:QT) (ht :
 L2 Q a0 n0 c0 e0 v1x0 (((n0:Nat):Int)) 0 h):Zae pg Zcp [.slice a0 n0 c0 e0,.fn Zbu [v1x0]] h Q:=
 Zae.of_body kp (c:=cod fn) (fn:=fn) Go.Proofs.Tryz.func142 (by kernel_rfl) (by kernel_rfl) (Nat.le_of_ble_eq_true (by kernel_rfl))
  (cast (by kernel_rfl) ht)
end Zay
namespace Zmg
noncomputable abbrev fn:Func:=Go.Proofs.Tryz.f64
def kp:Zce:=[]
noncomputable def C (p:List Nat):Code:=(cod fn).sub p
def KR (Q:QT):KT:=Zev pg fn.results.toList Q
theorem call (a0x0:Pt) (n0x0 c0x0:Nat) (e0x0:Bool) (a0x1:Pt) (n0x1 c0x1:Nat) (e0x1:Bool) (h:Zaa) (Q:QT) (ht :
 Zcy (h ++ [.cells Zao [.slice a0x0 n0x0 c0x0 e0x0,.slice a0x1 n0x1 c0x1 e0x1] false]) fun A=>Zcs (Zbf A (.ptr (h.length,0)) 2) fun B=>Zaj B fun B C=>xSl B fun B D E F=>Zaj C fun C G=>xSl C fun C H I J=>Zcf G (Zae pg Zhr [.agg [.slice B D E F,.slice C H I J]] A fun A B=>
 Zbp A fun A=>bcase A (xSl (Zad B (.ptr (h.length,0 + 1))) fun A A C C=>bcase (decide (((((A:Nat):Int)):Int)≤10)) (xSl (Zad B (.ptr (h.length,0 + 1))) fun A C D E=>Zae pg Zde [.slice A C D E,.fn Zbu [.ptr (h.length,0)]] B fun A C=>
 Zbp A fun A=>Q (.bool (!A)) C) (Q (.bool false) B)) (Q (.bool false) B))):Zae pg Zir [.agg [.slice a0x0 n0x0 c0x0 e0x0,.slice a0x1 n0x1 c0x1 e0x1]] h Q:=
 Zae.of_body kp (c:=cod fn) (fn:=fn) Go.Proofs.Tryz.func64 (by kernel_rfl) (by kernel_rfl) (Nat.le_of_ble_eq_true (by kernel_rfl))
  (cast (by kernel_rfl) ht)
end Zmg
namespace Zcc
noncomputable abbrev fn:Func:=Go.Proofs.Tryz.f107
def kp:Zce:=[]
noncomputable def C (p:List Nat):Code:=(cod fn).sub p
def KR (Q:QT):KT:=Zev pg fn.results.toList Q
theorem call (a0:Pt) (n0 c0:Nat) (e0:Bool) (v1x0:Zal) (h:Zaa) (Q:QT) (ht :
 Zae pg Zcp [.slice a0 n0 c0 e0,.fn Zbu [v1x0]] h fun A B=>
 Zci .i64 A fun A=>Q (.bool (decide ((A:Int) ≥ 0))) B):Zae pg Zde [.slice a0 n0 c0 e0,.fn Zbu [v1x0]] h Q:=
 Zae.of_body kp (c:=cod fn) (fn:=fn) Go.Proofs.Tryz.func107 (by kernel_rfl) (by kernel_rfl) (Nat.le_of_ble_eq_true (by kernel_rfl))
  (cast (by kernel_rfl) ht)
end Zcc
namespace Zfj
noncomputable abbrev fn:Func:=Go.Proofs.Tryz.f66
def kp:Zce:=[(3000002,[1,2]),(1000002,[1,6,7,8])]
noncomputable def C (p:List Nat):Code:=(cod fn).sub p
def KR (Q:QT):KT:=Zev pg fn.results.toList Q
abbrev T2:=Nat→Nat→Pt→Nat→Nat→Bool→Int→Int→Zaa→Prop
def E2 (R2:T2) (env:Env) (h:Zaa):Prop:=Zby 1 env fun v env=>Zfd v fun a=>Zba a fun i1 o1=>Zby 6 env fun v env=>xSl v fun a6 n6 c6 e6=>Zby 7 env fun v env=>Zea .i64 v fun x7=>Zby 8 env fun v env=>Zea .i64 v fun x8=>Zjh env (R2 i1 o1 a6 n6 c6 e6 x7 x8 h)
theorem Zfm {R2:T2} {env:Env} {h:Zaa} (hi:E2 R2 env h):∃ i1,∃ o1,∃ a6,∃ n6,∃ c6,∃ e6,∃ x7,∃ x8,env=[(1,.ptr (i1,o1)),(6,.slice a6 n6 c6 e6),(7,.int .i64 x7),(8,.int .i64 x8)]∧R2 i1 o1 a6 n6 c6 e6 x7 x8 h:=by
 unfold E2 at hi
 have hi0:=hi
 clear hi
 obtain ⟨_,_,rfl,hi1⟩:=Zaf hi0
 obtain ⟨a,rfl,hi2⟩:=Zbk hi1
 obtain ⟨i1,o1,rfl,hi3⟩:=Zbj hi2
 obtain ⟨_,_,rfl,hi4⟩:=Zaf hi3
 obtain ⟨a6,n6,c6,e6,rfl,hi5⟩:=Zbz hi4
 obtain ⟨_,_,rfl,hi6⟩:=Zaf hi5
 obtain ⟨x7,rfl,hi7⟩:=Zav hi6
 obtain ⟨_,_,rfl,hi8⟩:=Zaf hi7
 obtain ⟨x8,rfl,hi9⟩:=Zav hi8
 obtain ⟨rfl,hi10⟩:=Zbi hi9
 have hi:=hi10
 exact ⟨i1,o1,a6,n6,c6,e6,x7,x8,rfl,hi⟩
def K0 (Q:QT):KT:=andThen (fun env' h'=>(match kp.find 4000007 with | some ks=>Den pg fn.ntmps (C [1,1]) (env'.keep ks) h' (KR Q) | none=>den pg fn.ntmps kp (C [1,1]) env' h' (KR Q))) (KR Q)
def K1 (Q:QT):KT:=Zcl 0 (K0 Q)
def K2 (Q:QT):KT:=left kp 2 (K1 Q)
def K3 (Q:QT) (R2:T2):KT:=rnd ((kp.find 1000002).getD []) (E2 R2) (K2 Q)
def L2 (Q:QT) (i1 o1:Nat) (a6:Pt) (n6 c6:Nat) (e6:Bool) (x7 x8:Int) (h:Zaa):Prop:=Zdz (Den pg fn.ntmps (C [1,0,1,0,0])) ((kp.find 1000002).getD []) (K2 Q) [(1,.ptr (i1,o1)),(6,.slice a6 n6 c6 e6),(7,.int .i64 x7),(8,.int .i64 x8)] h
def A2x0 (Q:QT) (i1 o1:Nat) (h:Zaa):Prop:=At (K1 Q) (.exit 0) [(1,.ptr (i1,o1)),(2,.undef)] h
def L2t (Q:QT) (R2:T2) (i1 o1:Nat) (a6:Pt) (n6 c6:Nat) (e6:Bool) (x7 x8:Int) (h:Zaa):Prop:=
 bcase (decide ((x8:Int) < x7)) ((0≤(x8:Int)∧(x8:Int) < (n6:Nat))∧(Zba a6 fun A B=>Zcs (Zbf h (.ptr (A,B + (Int.toNat x8) * 3)) 3) fun A=>Zaj A fun A B=>Zbs A fun A=>Zaj B fun B C=>Zbs B fun B=>Zaj C fun C D=>xSl C fun C E F G=>Zcf D (Zcy (h ++ [.cells Zac [.str [],.str [],.slice none 0 0 true] false]) fun D=>Zch (Zbe D (.ptr (h.length,0)) [.str A,.str B,.slice C E F G]) fun A=>Zcs (Zbf A (.ptr (i1,o1)) 2) fun B=>Zaj B fun B C=>xSl B fun B D E F=>Zaj C fun C G=>xSl C fun C H I J=>Zcf G (Zcs (Zbf A (.ptr (h.length,0)) 3) fun G=>Zaj G fun G K=>Zbs G fun G=>Zaj K fun K L=>Zbs K fun K=>Zaj L fun L M=>xSl L fun L N O P=>Zcf M (Zae pg Zhc [.agg [.slice B D E F,.slice C H I J],.agg [.str G,.str K,.slice L N O P]] A fun A B=>
 Zbp A fun A=>bcase (!A) (Q (.bool false) B) (R2 i1 o1 a6 n6 c6 e6 x7 (IntKind.wrap .i64 (x8 + 1)) B)))))) (A2x0 Q i1 o1 h)
theorem Zoh (Q:QT) (R2:T2) (i1 o1:Nat) (a6:Pt) (n6 c6:Nat) (e6:Bool) (x7 x8:Int) (h:Zaa) (ht:L2t Q R2 i1 o1 a6 n6 c6 e6 x7 x8 h):Den pg fn.ntmps (C [1,0,1,0,0]) [(1,.ptr (i1,o1)),(6,.slice a6 n6 c6 e6),(7,.int .i64 x7),(8,.int .i64 x8)] h (K3 Q R2):=
 Zbb (kp:=kp) (cast (by kernel_rfl) ht)
theorem L2ind (Q:QT) (i1 o1:Nat) (a6:Pt) (n6 c6:Nat) (e6:Bool) (x7:Int) {G:Type} (J:G→Int→Zaa→Prop) (m:G→Nat)
 (hr:∀ (g:G) (x8:Int) (h:Zaa),J g x8 h→∀ (R2:T2),(∀ g' (x8:Int) (h:Zaa),m g' < m g→J g' x8 h→R2 i1 o1 a6 n6 c6 e6 x7 x8 h)→L2t Q R2 i1 o1 a6 n6 c6 e6 x7 x8 h)
 (g:G) (x8:Int) (h:Zaa) (hj:J g x8 h):L2 Q i1 o1 a6 n6 c6 e6 x7 x8 h:=by
 let P:=fun (K:Int→Zaa→Prop) i1' o1' a6' n6' c6' e6' x7' x8 h=>i1=i1'∧o1=o1'∧a6=a6'∧n6=n6'∧c6=c6'∧e6=e6'∧x7=x7'∧K x8 h
 refine Zdz.inv2 (fun g=>E2 (P (J g))) (fun g=>E2 (P fun x8 h=>∃ g',m g' < m g∧J g' x8 h)) m ?_ ?_ g ⟨rfl,rfl,rfl,rfl,rfl,rfl,rfl,hj⟩
 ·intro g env h hi
  obtain ⟨i1',o1',a6',n6',c6',e6',x7',x8,rfl,rfl,rfl,rfl,rfl,rfl,rfl,rfl,hj⟩:=Zfm hi
  exact Zoh Q _ i1 o1 a6 n6 c6 e6 x7 x8 h (hr g x8 h hj (P fun x8 h=>∃ g',m g' < m g∧J g' x8 h) fun g' x8 h hlt hj=>⟨rfl,rfl,rfl,rfl,rfl,rfl,rfl,g',hlt,hj⟩)
 ·intro g env h hi
  obtain ⟨i1',o1',a6',n6',c6',e6',x7',x8,rfl,rfl,rfl,rfl,rfl,rfl,rfl,rfl,g',hlt,hj⟩:=Zfm hi
  exact ⟨g',hlt,rfl,rfl,rfl,rfl,rfl,rfl,rfl,hj⟩
theorem A2x0i (Q:QT) (i1 o1:Nat) (h:Zaa) (ht :
 xSl (Zad h (.ptr (i1,o1 + 0))) fun A B C D=>Zae pg Zhn [.slice A B C D] h fun A B=>
 Zbp A fun A=>bcase A (xSl (Zad B (.ptr (i1,o1 + 1))) fun A A C C=>Q (.bool (decide (((((A:Nat):Int)):Int)≤10))) B) (Q (.bool false) B)):A2x0 Q i1 o1 h:=
 At.mk (cast (by kernel_rfl) ht)
theorem call (a0x0:Pt) (n0x0 c0x0:Nat) (e0x0:Bool) (a0x1:Pt) (n0x1 c0x1:Nat) (e0x1:Bool) (h:Zaa) (Q:QT) (ht :
 Zcy (h ++ [.cells Zao [.slice a0x0 n0x0 c0x0 e0x0,.slice a0x1 n0x1 c0x1 e0x1] false]) fun A=>xSl (Zad A (.ptr (h.length,0 + 1))) fun B C D E=>L2 Q h.length 0 B C D E (((C:Nat):Int)) 0 A):Zae pg Zgv [.agg [.slice a0x0 n0x0 c0x0 e0x0,.slice a0x1 n0x1 c0x1 e0x1]] h Q:=
 Zae.of_body kp (c:=cod fn) (fn:=fn) Go.Proofs.Tryz.func66 (by kernel_rfl) (by kernel_rfl) (Nat.le_of_ble_eq_true (by kernel_rfl))
  (cast (by kernel_rfl) ht)
end Zfj
end Go.Sim

set_option maxRecDepth 100000
set_option maxHeartbeats 0
set_option linter.unusedVariables false
namespace Go.Sim
open Go Go.RowKit
namespace Zdg
noncomputable abbrev fn:Func:=Go.Proofs.Tryz.f111
def kp:Zce:=[(4000003,[3,2]),(3000004,[4]),(1000004,[2,3,47,48,49]),(2000006,[80,49,48,47,2,3]),(4000008,[49,48,47,2,3])]
noncomputable def C (p:List Nat):Code:=(cod fn).sub p
def KR (Q:QT):KT:=Zev pg fn.results.toList Q
abbrev T4:=Nat→Nat→Nat→Nat→Pt→Nat→Nat→Bool→Int→Int→Zaa→Prop
def E4 (R4:T4) (env:Env) (h:Zaa):Prop:=Zby 2 env fun v env=>Zfd v fun a=>Zba a fun i2 o2=>Zby 3 env fun v env=>Zfd v fun a=>Zba a fun i3 o3=>Zby 47 env fun v env=>xSl v fun a47 n47 c47 e47=>Zby 48 env fun v env=>Zea .i64 v fun x48=>Zby 49 env fun v env=>Zea .i64 v fun x49=>Zjh env (R4 i2 o2 i3 o3 a47 n47 c47 e47 x48 x49 h)
theorem Zji {R4:T4} {env:Env} {h:Zaa} (hi:E4 R4 env h):∃ i2,∃ o2,∃ i3,∃ o3,∃ a47,∃ n47,∃ c47,∃ e47,∃ x48,∃ x49,env=[(2,.ptr (i2,o2)),(3,.ptr (i3,o3)),(47,.slice a47 n47 c47 e47),(48,.int .i64 x48),(49,.int .i64 x49)]∧R4 i2 o2 i3 o3 a47 n47 c47 e47 x48 x49 h:=by
 unfold E4 at hi
 have hi0:=hi
 clear hi
 obtain ⟨_,_,rfl,hi1⟩:=Zaf hi0
 obtain ⟨a,rfl,hi2⟩:=Zbk hi1
 obtain ⟨i2,o2,rfl,hi3⟩:=Zbj hi2
 obtain ⟨_,_,rfl,hi4⟩:=Zaf hi3
 obtain ⟨a,rfl,hi5⟩:=Zbk hi4
 obtain ⟨i3,o3,rfl,hi6⟩:=Zbj hi5
 obtain ⟨_,_,rfl,hi7⟩:=Zaf hi6
 obtain ⟨a47,n47,c47,e47,rfl,hi8⟩:=Zbz hi7
 obtain ⟨_,_,rfl,hi9⟩:=Zaf hi8
 obtain ⟨x48,rfl,hi10⟩:=Zav hi9
 obtain ⟨_,_,rfl,hi11⟩:=Zaf hi10
 obtain ⟨x49,rfl,hi12⟩:=Zav hi11
 obtain ⟨rfl,hi13⟩:=Zbi hi12
 have hi:=hi13
 exact ⟨i2,o2,i3,o3,a47,n47,c47,e47,x48,x49,rfl,hi⟩
def K0 (Q:QT):KT:=andThen (fun env' h'=>(match kp.find 4000009 with | some ks=>Den pg fn.ntmps (C [1,1,1]) (env'.keep ks) h' (KR Q) | none=>den pg fn.ntmps kp (C [1,1,1]) env' h' (KR Q))) (KR Q)
def K1 (Q:QT):KT:=Zcl 0 (K0 Q)
def K2 (Q:QT):KT:=left kp 4 (K1 Q)
def K3 (Q:QT) (R4:T4):KT:=rnd ((kp.find 1000004).getD []) (E4 R4) (K2 Q)
def J3 (Q:QT) (i3 o3 i2 o2:Nat) (h:Zaa):Prop:=Den pg fn.ntmps (C [1,1]) [(3,.ptr (i3,o3)),(2,.ptr (i2,o2))] h (KR Q)
def L4 (Q:QT) (i2 o2 i3 o3:Nat) (a47:Pt) (n47 c47:Nat) (e47:Bool) (x48 x49:Int) (h:Zaa):Prop:=Zdz (Den pg fn.ntmps (C [1,1,0,1,0,0])) ((kp.find 1000004).getD []) (K2 Q) [(2,.ptr (i2,o2)),(3,.ptr (i3,o3)),(47,.slice a47 n47 c47 e47),(48,.int .i64 x48),(49,.int .i64 x49)] h
def J8 (Q:QT) (R4:T4) (x49 x48:Int) (a47:Pt) (n47 c47:Nat) (e47:Bool) (i2 o2 i3 o3:Nat) (h:Zaa):Prop:=Den pg fn.ntmps (C [1,1,0,1,0,0,1,1,1]) [(49,.int .i64 x49),(48,.int .i64 x48),(47,.slice a47 n47 c47 e47),(2,.ptr (i2,o2)),(3,.ptr (i3,o3))] h (K3 Q R4)
def Yba (Q:QT) (h:Zaa):Prop:=At (K1 Q) (.exit 0) [(4,.undef)] h
theorem J3i (Q:QT) (i3 o3 i2 o2:Nat) (h:Zaa) (ht :
 xSl (Zad h (.ptr (i3,o3 + 2))) fun A B C D=>L4 Q i2 o2 i3 o3 A B C D (((B:Nat):Int)) 0 h):J3 Q i3 o3 i2 o2 h:=
 Zbb (kp:=kp) (cast (by kernel_rfl) ht)
def L4t (Q:QT) (R4:T4) (i2 o2 i3 o3:Nat) (a47:Pt) (n47 c47:Nat) (e47:Bool) (x48 x49:Int) (h:Zaa):Prop:=
 bcase (decide ((x49:Int) < x48)) ((0≤(x49:Int)∧(x49:Int) < (n47:Nat))∧(Zba a47 fun A B=>Zcs (Zbf h (.ptr (A,B + (Int.toNat x49) * 2)) 2) fun A=>Zaj A fun A B=>Zbs A fun A=>Zaj B fun B C=>Zbs B fun B=>Zcf C (Zcy (h ++ [.cells Zbv [.str [],.str []] false]) fun C=>Zch (Zbe C (.ptr (h.length,0)) [.str A,.str B]) fun A=>Zcs (Zbf A (.ptr (i2,o2)) 2) fun B=>Zaj B fun B C=>xSl B fun B D E F=>Zaj C fun C G=>xSl C fun C H I J=>Zcf G (Zbs (Zad A (.ptr (h.length,0 + 0))) fun G=>(Zbf A (.ptr (i2,o2)) 2=Zbf A (.ptr (i2,o2)) 2)∧Zae pg Zhk [.agg [.slice B D E F,.slice C H I J],.str G] A fun A B=>
 Zci .i64 A fun A=>bcase (decide ((A:Int) < 0)) ((Zbf B (.ptr (i2,o2)) 2=Zbf B (.ptr (i2,o2)) 2)∧(Zbf B (.ptr (i2,o2)) 2=Zbf B (.ptr (i2,o2)) 2)∧(Zbf B (.ptr (i2,o2)) 2=Zbf B (.ptr (i2,o2)) 2)∧(Zad B (.tup [])=Zad B (.tup []))∧(Zbf B (.ptr (i2,o2)) 2=Zbf B (.ptr (i2,o2)) 2)∧(Zad B (.tup [])=Zad B (.tup []))∧(Zbf B (.ptr (i2,o2)) 2=Zbf B (.ptr (i2,o2)) 2)∧(Zad B (.tup [])=Zad B (.tup []))∧(Zad B (.tup [])=Zad B (.tup []))∧(Zbf B (.ptr (i2,o2)) 2=Zbf B (.ptr (i2,o2)) 2)∧Q (.bool false) B) (Zbs (Zad B (.ptr (h.length,0 + 1))) fun A=>(Zbf B (.ptr (i2,o2)) 2=Zbf B (.ptr (i2,o2)) 2)∧Zae pg Zfx [.str A] B fun A C=>
 Zbp A fun A=>(Zbf C (.ptr (i2,o2)) 2=Zbf B (.ptr (i2,o2)) 2)∧bcase (!A) ((Zbf C (.ptr (i2,o2)) 2=Zbf C (.ptr (i2,o2)) 2)∧(Zad C (.tup [])=Zad C (.tup []))∧(Zbf C (.ptr (i2,o2)) 2=Zbf C (.ptr (i2,o2)) 2)∧(Zad C (.tup [])=Zad C (.tup []))∧(Zbf C (.ptr (i2,o2)) 2=Zbf C (.ptr (i2,o2)) 2)∧(Zad C (.tup [])=Zad C (.tup []))∧(Zad C (.tup [])=Zad C (.tup []))∧(Zbf C (.ptr (i2,o2)) 2=Zbf C (.ptr (i2,o2)) 2)∧Q (.bool false) C) (Zbs (Zad C (.ptr (h.length,0 + 1))) fun A=>(Zbf C (.ptr (i2,o2)) 2=Zbf C (.ptr (i2,o2)) 2)∧bcase (decide (((((List.length A:Nat):Int)):Int) > 20)) ((Zad C (.tup [])=Zad C (.tup []))∧(Zbf C (.ptr (i2,o2)) 2=Zbf C (.ptr (i2,o2)) 2)∧(Zad C (.tup [])=Zad C (.tup []))∧(Zbf C (.ptr (i2,o2)) 2=Zbf C (.ptr (i2,o2)) 2)∧(Zad C (.tup [])=Zad C (.tup []))∧(Zad C (.tup [])=Zad C (.tup []))∧(Zbf C (.ptr (i2,o2)) 2=Zbf C (.ptr (i2,o2)) 2)∧Q (.bool false) C) (Zbs (Zad C (.ptr (h.length,0 + 1))) fun A=>Zbs (Zad C (.ptr (i3,o3 + 0 + 1))) fun B=>Zae pg Zke [.str A] C fun A D=>
 Zbs A fun A=>(Zad D (.ptr (i3,o3 + 0 + 1))=Zad C (.ptr (i3,o3 + 0 + 1)))∧(Zbf D (.ptr (i2,o2)) 2=Zbf C (.ptr (i2,o2)) 2)∧Zae pg Zke [.str B] D fun B C=>
 Zbs B fun B=>(Zad C (.ptr (h.length,0 + 1))=Zad D (.ptr (h.length,0 + 1)))∧(Zbf C (.ptr (i2,o2)) 2=Zbf D (.ptr (i2,o2)) 2)∧Zae pg Zkq [.str A,.str B] C fun A B=>
 Zbp A fun A=>(Zad B (.ptr (i3,o3 + 0 + 1))=Zad C (.ptr (i3,o3 + 0 + 1)))∧(Zad B (.ptr (h.length,0 + 1))=Zad C (.ptr (h.length,0 + 1)))∧(Zbf B (.ptr (i2,o2)) 2=Zbf C (.ptr (i2,o2)) 2)∧bcase (!A) (Q (.bool false) B) (J8 Q R4 x49 x48 a47 n47 c47 e47 i2 o2 i3 o3 B)))))))) (Yba Q h)
theorem Zvd (Q:QT) (R4:T4) (i2 o2 i3 o3:Nat) (a47:Pt) (n47 c47:Nat) (e47:Bool) (x48 x49:Int) (h:Zaa) (ht:L4t Q R4 i2 o2 i3 o3 a47 n47 c47 e47 x48 x49 h):Den pg fn.ntmps (C [1,1,0,1,0,0]) [(2,.ptr (i2,o2)),(3,.ptr (i3,o3)),(47,.slice a47 n47 c47 e47),(48,.int .i64 x48),(49,.int .i64 x49)] h (K3 Q R4):=
 Zbb (kp:=kp) (cast (by kernel_rfl) ht)
theorem L4ind (Q:QT) (i2 o2 i3 o3:Nat) (a47:Pt) (n47 c47:Nat) (e47:Bool) (x48:Int) {G:Type} (J:G→Int→Zaa→Prop) (m:G→Nat)
 (hr:∀ (g:G) (x49:Int) (h:Zaa),J g x49 h→∀ (R4:T4),(∀ g' (x49:Int) (h:Zaa),m g' < m g→J g' x49 h→R4 i2 o2 i3 o3 a47 n47 c47 e47 x48 x49 h)→L4t Q R4 i2 o2 i3 o3 a47 n47 c47 e47 x48 x49 h)
 (g:G) (x49:Int) (h:Zaa) (hj:J g x49 h):L4 Q i2 o2 i3 o3 a47 n47 c47 e47 x48 x49 h:=by
 let P:=fun (K:Int→Zaa→Prop) i2' o2' i3' o3' a47' n47' c47' e47' x48' x49 h=>i2=i2'∧o2=o2'∧i3=i3'∧o3=o3'∧a47=a47'∧n47=n47'∧c47=c47'∧e47=e47'∧x48=x48'∧K x49 h
 refine Zdz.inv2 (fun g=>E4 (P (J g))) (fun g=>E4 (P fun x49 h=>∃ g',m g' < m g∧J g' x49 h)) m ?_ ?_ g ⟨rfl,rfl,rfl,rfl,rfl,rfl,rfl,rfl,rfl,hj⟩
 ·intro g env h hi
  obtain ⟨i2',o2',i3',o3',a47',n47',c47',e47',x48',x49,rfl,rfl,rfl,rfl,rfl,rfl,rfl,rfl,rfl,rfl,hj⟩:=Zji hi
  exact Zvd Q _ i2 o2 i3 o3 a47 n47 c47 e47 x48 x49 h (hr g x49 h hj (P fun x49 h=>∃ g',m g' < m g∧J g' x49 h) fun g' x49 h hlt hj=>⟨rfl,rfl,rfl,rfl,rfl,rfl,rfl,rfl,rfl,g',hlt,hj⟩)
 ·intro g env h hi
  obtain ⟨i2',o2',i3',o3',a47',n47',c47',e47',x48',x49,rfl,rfl,rfl,rfl,rfl,rfl,rfl,rfl,rfl,rfl,g',hlt,hj⟩:=Zji hi
  exact ⟨g',hlt,rfl,rfl,rfl,rfl,rfl,rfl,rfl,rfl,rfl,hj⟩
theorem J8i (Q:QT) (R4:T4) (x49 x48:Int) (a47:Pt) (n47 c47:Nat) (e47:Bool) (i2 o2 i3 o3:Nat) (h:Zaa) (ht :
 R4 i2 o2 i3 o3 a47 n47 c47 e47 x48 (IntKind.wrap .i64 (x49 + 1)) h):J8 Q R4 x49 x48 a47 n47 c47 e47 i2 o2 i3 o3 h:=
 Zbb (kp:=kp) (cast (by kernel_rfl) ht)
theorem A4x0i (Q:QT) (h:Zaa) (ht :
 Q (.bool true) h):Yba Q h:=
 At.mk (cast (by kernel_rfl) ht)
theorem call (a0x0:Pt) (n0x0 c0x0:Nat) (e0x0:Bool) (a0x1:Pt) (n0x1 c0x1:Nat) (e0x1:Bool) (x1x0 x1x1:List Nat) (a1x2:Pt) (n1x2 c1x2:Nat) (e1x2:Bool) (h:Zaa) (Q:QT) (ht :
 Zcy (h ++ [.cells Zao [.slice a0x0 n0x0 c0x0 e0x0,.slice a0x1 n0x1 c0x1 e0x1] false]) fun A=>Zcy (A ++ [.cells Zac [.str x1x0,.str x1x1,.slice a1x2 n1x2 c1x2 e1x2] false]) fun B=>xSl (Zad B (.ptr (h.length,0 + 0))) fun C D E F=>Zae pg Zhn [.slice C D E F] B fun B C=>
 Zbp B fun B=>bcase (!B) (Q (.bool false) C) (Zcs (Zbf C (.ptr (h.length,0)) 2) fun B=>Zaj B fun B D=>xSl B fun B E F G=>Zaj D fun D H=>xSl D fun D I J K=>Zcf H (Zbs (Zad C (.ptr (A.length,0 + 0 + 0))) fun H=>Zae pg Zhk [.agg [.slice B E F G,.slice D I J K],.str H] C fun B C=>
 Zci .i64 B fun B=>bcase (decide ((B:Int) < 0)) (Q (.bool false) C) (Zbs (Zad C (.ptr (A.length,0 + 0 + 1))) fun B=>Zae pg Zfx [.str B] C fun B C=>
 Zbp B fun B=>bcase (!B) (Q (.bool false) C) (Zbs (Zad C (.ptr (A.length,0 + 0 + 1))) fun B=>bcase (decide (((((List.length B:Nat):Int)):Int) > 20)) (Q (.bool false) C) (Zbs (Zad C (.ptr (A.length,0 + 0 + 1))) fun B=>Zjy B 0 fun B=>Zae pg Zgw [.int .u8 (((B:Nat):Int))] C fun B C=>
 Zbp B fun B=>bcase B (Q (.bool false) C) (xSl (Zad C (.ptr (A.length,0 + 2))) fun B B D D=>bcase (decide (((((B:Nat):Int)):Int) > 3)) (Q (.bool false) C) (J3 Q A.length 0 h.length 0 C)))))))):Zae pg Zhc [.agg [.slice a0x0 n0x0 c0x0 e0x0,.slice a0x1 n0x1 c0x1 e0x1],.agg [.str x1x0,.str x1x1,.slice a1x2 n1x2 c1x2 e1x2]] h Q:=
 Zae.of_body kp (c:=cod fn) (fn:=fn) Go.Proofs.Tryz.func111 (by kernel_rfl) (by kernel_rfl) (Nat.le_of_ble_eq_true (by kernel_rfl))
  (cast (by kernel_rfl) ht)
end Zdg
end Go.Sim
