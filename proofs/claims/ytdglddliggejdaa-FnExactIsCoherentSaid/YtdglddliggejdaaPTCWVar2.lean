/- A part of the proof of a statement of this seat: see the text that holds the theorem. No condition. -/
import Derived.Test.YtdglddliggejdaaNm
set_option linter.unusedVariables false
set_option linter.unusedSimpArgs false
set_option linter.all false
set_option maxRecDepth 100000
set_option maxHeartbeats 0
set_option linter.unusedVariables false
namespace Go.Sim
open Go Go.RowKit
namespace Zei
noncomputable abbrev fn:Func:=Go.Proofs.Try.f41
def kp:Zcn:=[(3000003,[3]),(1000003,[0,3,4])]
noncomputable def C (p:List Nat):Code:=(cod fn).sub p
def KR (Q:QT):KT:=Zfe pg fn.results.toList Q
abbrev T3:=Pt→Nat→Nat→Bool→Pt→Nat→Nat→Bool→Int→Zaa→Prop
def E3 (R3:T3) (env:Env) (h:Zaa):Prop:=Zcb 0 env fun v env=>xSl v fun a0 n0 c0 e0=>Zcb 3 env fun v env=>xSl v fun a3 n3 c3 e3=>Zcb 4 env fun v env=>Zek .i64 v fun x4=>Zkg env (R3 a0 n0 c0 e0 a3 n3 c3 e3 x4 h)
theorem Zia {R3:T3} {env:Env} {h:Zaa} (hi:E3 R3 env h):∃ a0,∃ n0,∃ c0,∃ e0,∃ a3,∃ n3,∃ c3,∃ e3,∃ x4,env=[(0,.slice a0 n0 c0 e0),(3,.slice a3 n3 c3 e3),(4,.int .i64 x4)]∧R3 a0 n0 c0 e0 a3 n3 c3 e3 x4 h:=by
 unfold E3 at hi
 repeat ((first | (have k:=Zaf hi; clear hi; obtain ⟨_,_,e,hi⟩:=k) | (have k:=Zau hi; clear hi; obtain ⟨_,e,hi⟩:=k) | (have k:=Zcc hi; clear hi; obtain ⟨_,_,_,_,e,hi⟩:=k)); subst e)
 obtain ⟨rfl,hi⟩:=Zbm hi
 exact ⟨_,_,_,_,_,_,_,_,_,rfl,hi⟩
def K0 (Q:QT):KT:=andThen (fun env' h'=>(match kp.find 4000006 with | some ks=>Den pg fn.ntmps (C [1,1,1]) (env'.keep ks) h' (KR Q) | none=>den pg fn.ntmps kp (C [1,1,1]) env' h' (KR Q))) (KR Q)
def K1 (Q:QT):KT:=Zcv 0 (K0 Q)
def K2 (Q:QT):KT:=left kp 3 (K1 Q)
def K3 (Q:QT) (R3:T3):KT:=rnd ((kp.find 1000003).getD []) (E3 R3) (K2 Q)
def L3 (Q:QT) (a0:Pt) (n0 c0:Nat) (e0:Bool) (a3:Pt) (n3 c3:Nat) (e3:Bool) (x4:Int) (h:Zaa):Prop:=Zeh (Den pg fn.ntmps (C [1,1,0,1,0,0])) ((kp.find 1000003).getD []) (K2 Q) [(0,.slice a0 n0 c0 e0),(3,.slice a3 n3 c3 e3),(4,.int .i64 x4)] h
def Zwn (Q:QT) (a3:Pt) (n3 c3:Nat) (e3:Bool) (h:Zaa):Prop:=At (K1 Q) (.exit 0) [(3,.slice a3 n3 c3 e3)] h
def L3t (Q:QT) (R3:T3) (a0:Pt) (n0 c0:Nat) (e0:Bool) (a3:Pt) (n3 c3:Nat) (e3:Bool) (x4:Int) (h:Zaa):Prop:=
 bcase (decide ((x4:Int) < (((n0:Nat):Int)))) ((0≤(x4:Int)∧(x4:Int) < (n0:Nat))∧(Zbf a0 fun A B=>Zcx (Zbk h (.ptr (A,B + (Int.toNat x4) * 3)) 3) fun A=>Zal A fun A B=>Zbz A fun A=>Zal B fun B C=>Zbz B fun B=>Zal C fun C D=>xSl C fun C E F G=>Zcq D (Zad pg Zhn [.agg [.str A,.str B,.slice C E F G]] h fun A B=>
 Zpz A fun A=>Zal A fun A C=>Zbz A fun A=>Zal C fun C D=>Zbz C fun C=>Zal D fun D E=>xSl D fun D F G H=>Zcq E ((0≤(x4:Int)∧(x4:Int) < (n3:Nat))∧(Zbf a3 fun E I=>Zch (Zbc B (.ptr (E,I + (Int.toNat x4) * 3)) [.str A,.str C,.slice D F G H]) fun A=>R3 a0 n0 c0 e0 a3 n3 c3 e3 (IntKind.wrap .i64 (x4 + 1)) A))))) (Zwn Q a3 n3 c3 e3 h)
theorem Zrc (Q:QT) (R3:T3) (a0:Pt) (n0 c0:Nat) (e0:Bool) (a3:Pt) (n3 c3:Nat) (e3:Bool) (x4:Int) (h:Zaa) (ht:L3t Q R3 a0 n0 c0 e0 a3 n3 c3 e3 x4 h):Den pg fn.ntmps (C [1,1,0,1,0,0]) [(0,.slice a0 n0 c0 e0),(3,.slice a3 n3 c3 e3),(4,.int .i64 x4)] h (K3 Q R3):=
 Zbe (kp:=kp) (cast (by kernel_rfl) ht)
theorem L3ind (Q:QT) (a0:Pt) (n0 c0:Nat) (e0:Bool) (a3:Pt) (n3 c3:Nat) (e3:Bool) {G:Type} (J:G→Int→Zaa→Prop) (m:G→Nat)
 (hr:∀ (g:G) (x4:Int) (h:Zaa),J g x4 h→∀ (R3:T3),(∀ g' (x4:Int) (h:Zaa),m g' < m g→J g' x4 h→R3 a0 n0 c0 e0 a3 n3 c3 e3 x4 h)→L3t Q R3 a0 n0 c0 e0 a3 n3 c3 e3 x4 h)
 (g:G) (x4:Int) (h:Zaa) (hj:J g x4 h):L3 Q a0 n0 c0 e0 a3 n3 c3 e3 x4 h:=by
 let P:=fun (K:Int→Zaa→Prop) a0' n0' c0' e0' a3' n3' c3' e3' x4 h=>a0=a0'∧n0=n0'∧c0=c0'∧e0=e0'∧a3=a3'∧n3=n3'∧c3=c3'∧e3=e3'∧K x4 h
 refine Zeh.inv2 (fun g=>E3 (P (J g))) (fun g=>E3 (P fun x4 h=>∃ g',m g' < m g∧J g' x4 h)) m ?_ ?_ g ⟨rfl,rfl,rfl,rfl,rfl,rfl,rfl,rfl,hj⟩
 ·intro g env h hi
  obtain ⟨a0',n0',c0',e0',a3',n3',c3',e3',x4,rfl,rfl,rfl,rfl,rfl,rfl,rfl,rfl,rfl,hj⟩:=Zia hi
  exact Zrc Q _ a0 n0 c0 e0 a3 n3 c3 e3 x4 h (hr g x4 h hj (P fun x4 h=>∃ g',m g' < m g∧J g' x4 h) fun g' x4 h hlt hj=>⟨rfl,rfl,rfl,rfl,rfl,rfl,rfl,rfl,g',hlt,hj⟩)
 ·intro g env h hi
  obtain ⟨a0',n0',c0',e0',a3',n3',c3',e3',x4,rfl,rfl,rfl,rfl,rfl,rfl,rfl,rfl,rfl,g',hlt,hj⟩:=Zia hi
  exact ⟨g',hlt,rfl,rfl,rfl,rfl,rfl,rfl,rfl,rfl,hj⟩
theorem A3x0i (Q:QT) (a3:Pt) (n3 c3:Nat) (e3:Bool) (h:Zaa) (ht :
 Q (.slice a3 n3 c3 e3) h):Zwn Q a3 n3 c3 e3 h:=
 At.mk (cast (by kernel_rfl) ht)
theorem call (a0:Pt) (n0 c0:Nat) (e0:Bool) (h:Zaa) (Q:QT) (ht :
 IntKind.i64=IntKind.i64∧(IntKind.i64=IntKind.i64∧((0≤((((n0:Nat):Int)):Int)∧((((n0:Nat):Int)):Int)≤(((n0:Nat):Int))∧((((n0:Nat):Int)):Int) * (((56:Nat):Int) + 1)≤140737488355328)∧(Zdn (h ++ [.cells Zac (reps (Int.toNat ((((n0:Nat):Int)))) [.str [],.str [],.slice none 0 0 true]) false]) fun A=>L3 Q a0 n0 c0 e0 (h.length,0) (Int.toNat ((((n0:Nat):Int)))) (Int.toNat ((((n0:Nat):Int)))) true 0 A)))):Zad pg Zgu [.slice a0 n0 c0 e0] h Q:=
 Zad.of_body kp (c:=cod fn) (fn:=fn) Go.Proofs.Try.func41 (by kernel_rfl) (by kernel_rfl) (Nat.le_of_ble_eq_true (by kernel_rfl))
  (cast (by kernel_rfl) ht)
end Zei
namespace Znn
noncomputable abbrev fn:Func:=Go.Proofs.Try.f11
def kp:Zcn:=[]
noncomputable def C (p:List Nat):Code:=(cod fn).sub p
def KR (Q:QT):KT:=Zfe pg fn.results.toList Q
theorem call (a0x0:Pt) (n0x0 c0x0:Nat) (e0x0:Bool) (a0x1:Pt) (n0x1 c0x1:Nat) (e0x1:Bool) (h:Zaa) (Q:QT) (ht :
 Zdn (h ++ [.cells Zdt [.slice a0x0 n0x0 c0x0 e0x0,.slice a0x1 n0x1 c0x1 e0x1] false]) fun A=>Zdn (A ++ [.cells Zan [.slice none 0 0 true,.slice none 0 0 true] false]) fun B=>Zdn (B ++ [.cells Zan [.slice none 0 0 true,.slice none 0 0 true] false]) fun C=>xSl (Zae C (.ptr (h.length,0 + 0))) fun D E F G=>Zad pg Zjg [.slice D E F G] C fun C D=>
 xSl C fun C E F G=>Zch (Zbc D (.ptr (B.length,0 + 0)) [.slice C E F G]) fun C=>xSl (Zae C (.ptr (h.length,0 + 1))) fun D E F G=>Zad pg Zgu [.slice D E F G] C fun C D=>
 xSl C fun C E F G=>Zch (Zbc D (.ptr (B.length,0 + 1)) [.slice C E F G]) fun C=>Zcx (Zbk C (.ptr (B.length,0)) 2) fun B=>Zal B fun B D=>xSl B fun B E F G=>Zal D fun D H=>xSl D fun D I J K=>Zcq H (Zch (Zbc C (.ptr (A.length,0)) [.slice B E F G,.slice D I J K]) fun B=>Zcx (Zbk B (.ptr (A.length,0)) 2) fun A=>Zal A fun A C=>xSl A fun A D E F=>Zal C fun C G=>xSl C fun C H I J=>Zcq G (Q (.agg [.slice A D E F,.slice C H I J]) B))):Zad pg Zge [.agg [.slice a0x0 n0x0 c0x0 e0x0,.slice a0x1 n0x1 c0x1 e0x1]] h Q:=
 Zad.of_body kp (c:=cod fn) (fn:=fn) Go.Proofs.Try.func11 (by kernel_rfl) (by kernel_rfl) (Nat.le_of_ble_eq_true (by kernel_rfl))
  (cast (by kernel_rfl) ht)
end Znn
namespace Zkl
noncomputable abbrev fn:Func:=Go.Proofs.Try.f90
def kp:Zcn:=[]
noncomputable def C (p:List Nat):Code:=(cod fn).sub p
def KR (Q:QT):KT:=Zfe pg fn.results.toList Q
theorem call (x0x0 x0x1:List Nat) (a0x2:Pt) (n0x2 c0x2:Nat) (e0x2:Bool) (x1x0 x1x1:List Nat) (a1x2:Pt) (n1x2 c1x2:Nat) (e1x2:Bool) (h:Zaa) (Q:QT) (ht :
 Zdn (h ++ [.cells Zac [.str x0x0,.str x0x1,.slice a0x2 n0x2 c0x2 e0x2] false]) fun A=>Zdn (A ++ [.cells Zac [.str x1x0,.str x1x1,.slice a1x2 n1x2 c1x2 e1x2] false]) fun B=>Zcx (Zbk B (.ptr (h.length,0 + 0)) 2) fun C=>Zal C fun C D=>Zbz C fun C=>Zal D fun D E=>Zbz D fun D=>Zcq E (Zcx (Zbk B (.ptr (A.length,0 + 0)) 2) fun E=>Zal E fun E F=>Zbz E fun E=>Zal F fun F G=>Zbz F fun F=>Zcq G (Zad pg Zin [.agg [.str C,.str D],.agg [.str E,.str F]] B fun B C=>
 Zbr B fun B=>bcase (!B) (Q (.bool false) C) (xSl (Zae C (.ptr (h.length,0 + 2))) fun B D E F=>xSl (Zae C (.ptr (A.length,0 + 2))) fun A G H I=>Zad pg Zkb [.slice B D E F,.slice A G H I] C fun A B=>
 Zbr A fun A=>bcase (!A) (Q (.bool false) B) (Q (.bool true) B))))):Zad pg Zhp [.agg [.str x0x0,.str x0x1,.slice a0x2 n0x2 c0x2 e0x2],.agg [.str x1x0,.str x1x1,.slice a1x2 n1x2 c1x2 e1x2]] h Q:=
 Zad.of_body kp (c:=cod fn) (fn:=fn) Go.Proofs.Try.func90 (by kernel_rfl) (by kernel_rfl) (Nat.le_of_ble_eq_true (by kernel_rfl))
  (cast (by kernel_rfl) ht)
end Zkl
namespace Zef
noncomputable abbrev fn:Func:=Go.Proofs.Try.f43
def kp:Zcn:=[(3000004,[4]),(1000004,[0,1,5]),(2000006,[26,5,0,1])]
noncomputable def C (p:List Nat):Code:=(cod fn).sub p
def KR (Q:QT):KT:=Zfe pg fn.results.toList Q
abbrev T4:=Pt→Nat→Nat→Bool→Pt→Nat→Nat→Bool→Int→Zaa→Prop
def E4 (R4:T4) (env:Env) (h:Zaa):Prop:=Zcb 0 env fun v env=>xSl v fun a0 n0 c0 e0=>Zcb 1 env fun v env=>xSl v fun a1 n1 c1 e1=>Zcb 5 env fun v env=>Zek .i64 v fun x5=>Zkg env (R4 a0 n0 c0 e0 a1 n1 c1 e1 x5 h)
theorem Zib {R4:T4} {env:Env} {h:Zaa} (hi:E4 R4 env h):∃ a0,∃ n0,∃ c0,∃ e0,∃ a1,∃ n1,∃ c1,∃ e1,∃ x5,env=[(0,.slice a0 n0 c0 e0),(1,.slice a1 n1 c1 e1),(5,.int .i64 x5)]∧R4 a0 n0 c0 e0 a1 n1 c1 e1 x5 h:=by
 unfold E4 at hi
 repeat ((first | (have k:=Zaf hi; clear hi; obtain ⟨_,_,e,hi⟩:=k) | (have k:=Zau hi; clear hi; obtain ⟨_,e,hi⟩:=k) | (have k:=Zcc hi; clear hi; obtain ⟨_,_,_,_,e,hi⟩:=k)); subst e)
 obtain ⟨rfl,hi⟩:=Zbm hi
 exact ⟨_,_,_,_,_,_,_,_,_,rfl,hi⟩
def K0 (Q:QT):KT:=andThen (fun env' h'=>(match kp.find 4000008 with | some ks=>Den pg fn.ntmps (C [1,1,1]) (env'.keep ks) h' (KR Q) | none=>den pg fn.ntmps kp (C [1,1,1]) env' h' (KR Q))) (KR Q)
def K1 (Q:QT):KT:=Zcv 0 (K0 Q)
def K2 (Q:QT):KT:=left kp 4 (K1 Q)
def K3 (Q:QT) (R4:T4):KT:=rnd ((kp.find 1000004).getD []) (E4 R4) (K2 Q)
def L4 (Q:QT) (a0:Pt) (n0 c0:Nat) (e0:Bool) (a1:Pt) (n1 c1:Nat) (e1:Bool) (x5:Int) (h:Zaa):Prop:=Zeh (Den pg fn.ntmps (C [1,1,0,1,0,0])) ((kp.find 1000004).getD []) (K2 Q) [(0,.slice a0 n0 c0 e0),(1,.slice a1 n1 c1 e1),(5,.int .i64 x5)] h
def Zxe (Q:QT) (h:Zaa):Prop:=At (K1 Q) (.exit 0) [(4,.undef)] h
def L4t (Q:QT) (R4:T4) (a0:Pt) (n0 c0:Nat) (e0:Bool) (a1:Pt) (n1 c1:Nat) (e1:Bool) (x5:Int) (h:Zaa):Prop:=
 bcase (decide ((x5:Int) < (((n0:Nat):Int)))) ((0≤(x5:Int)∧(x5:Int) < (n0:Nat))∧(Zbf a0 fun A B=>(0≤(x5:Int)∧(x5:Int) < (n1:Nat))∧(Zbf a1 fun C D=>Zcx (Zbk h (.ptr (A,B + (Int.toNat x5) * 3)) 3) fun E=>Zal E fun E F=>Zbz E fun E=>Zal F fun F G=>Zbz F fun F=>Zal G fun G H=>xSl G fun G I J K=>Zcq H (Zcx (Zbk h (.ptr (C,D + (Int.toNat x5) * 3)) 3) fun C=>Zal C fun C D=>Zbz C fun C=>Zal D fun D H=>Zbz D fun D=>Zal H fun H L=>xSl H fun H M N O=>Zcq L ((Zbk h (.ptr (A,B + (Int.toNat x5) * 3)) 3=Zbk h (.ptr (A,B + (Int.toNat x5) * 3)) 3)∧Zad pg Zhp [.agg [.str E,.str F,.slice G I J K],.agg [.str C,.str D,.slice H M N O]] h fun A B=>
 Zbr A fun A=>bcase (!A) (Q (.bool false) B) (R4 a0 n0 c0 e0 a1 n1 c1 e1 (IntKind.wrap .i64 (x5 + 1)) B)))))) (Zxe Q h)
theorem Zrb (Q:QT) (R4:T4) (a0:Pt) (n0 c0:Nat) (e0:Bool) (a1:Pt) (n1 c1:Nat) (e1:Bool) (x5:Int) (h:Zaa) (ht:L4t Q R4 a0 n0 c0 e0 a1 n1 c1 e1 x5 h):Den pg fn.ntmps (C [1,1,0,1,0,0]) [(0,.slice a0 n0 c0 e0),(1,.slice a1 n1 c1 e1),(5,.int .i64 x5)] h (K3 Q R4):=
 Zbe (kp:=kp) (cast (by kernel_rfl) ht)
theorem L4ind (Q:QT) (a0:Pt) (n0 c0:Nat) (e0:Bool) (a1:Pt) (n1 c1:Nat) (e1:Bool) {G:Type} (J:G→Int→Zaa→Prop) (m:G→Nat)
 (hr:∀ (g:G) (x5:Int) (h:Zaa),J g x5 h→∀ (R4:T4),(∀ g' (x5:Int) (h:Zaa),m g' < m g→J g' x5 h→R4 a0 n0 c0 e0 a1 n1 c1 e1 x5 h)→L4t Q R4 a0 n0 c0 e0 a1 n1 c1 e1 x5 h)
 (g:G) (x5:Int) (h:Zaa) (hj:J g x5 h):L4 Q a0 n0 c0 e0 a1 n1 c1 e1 x5 h:=by
 let P:=fun (K:Int→Zaa→Prop) a0' n0' c0' e0' a1' n1' c1' e1' x5 h=>a0=a0'∧n0=n0'∧c0=c0'∧e0=e0'∧a1=a1'∧n1=n1'∧c1=c1'∧e1=e1'∧K x5 h
 refine Zeh.inv2 (fun g=>E4 (P (J g))) (fun g=>E4 (P fun x5 h=>∃ g',m g' < m g∧J g' x5 h)) m ?_ ?_ g ⟨rfl,rfl,rfl,rfl,rfl,rfl,rfl,rfl,hj⟩
 ·intro g env h hi
  obtain ⟨a0',n0',c0',e0',a1',n1',c1',e1',x5,rfl,rfl,rfl,rfl,rfl,rfl,rfl,rfl,rfl,hj⟩:=Zib hi
  exact Zrb Q _ a0 n0 c0 e0 a1 n1 c1 e1 x5 h (hr g x5 h hj (P fun x5 h=>∃ g',m g' < m g∧J g' x5 h) fun g' x5 h hlt hj=>⟨rfl,rfl,rfl,rfl,rfl,rfl,rfl,rfl,g',hlt,hj⟩)
 ·intro g env h hi
  obtain ⟨a0',n0',c0',e0',a1',n1',c1',e1',x5,rfl,rfl,rfl,rfl,rfl,rfl,rfl,rfl,rfl,g',hlt,hj⟩:=Zib hi
  exact ⟨g',hlt,rfl,rfl,rfl,rfl,rfl,rfl,rfl,rfl,hj⟩
theorem A4x0i (Q:QT) (h:Zaa) (ht :
 Q (.bool true) h):Zxe Q h:=
 At.mk (cast (by kernel_rfl) ht)
theorem call (a0:Pt) (n0 c0:Nat) (e0:Bool) (a1:Pt) (n1 c1:Nat) (e1:Bool) (h:Zaa) (Q:QT) (ht :
 bcase (!((((n0:Nat):Int):Int) == (((n1:Nat):Int)))) (Q (.bool false) h) (L4 Q a0 n0 c0 e0 a1 n1 c1 e1 0 h)):Zad pg Zgy [.slice a0 n0 c0 e0,.slice a1 n1 c1 e1] h Q:=
 Zad.of_body kp (c:=cod fn) (fn:=fn) Go.Proofs.Try.func43 (by kernel_rfl) (by kernel_rfl) (Nat.le_of_ble_eq_true (by kernel_rfl))
  (cast (by kernel_rfl) ht)
end Zef
namespace Znd
noncomputable abbrev fn:Func:=Go.Proofs.Try.f13
def kp:Zcn:=[]
noncomputable def C (p:List Nat):Code:=(cod fn).sub p
def KR (Q:QT):KT:=Zfe pg fn.results.toList Q
theorem call (a0x0:Pt) (n0x0 c0x0:Nat) (e0x0:Bool) (a0x1:Pt) (n0x1 c0x1:Nat) (e0x1:Bool) (a1x0:Pt) (n1x0 c1x0:Nat) (e1x0:Bool) (a1x1:Pt) (n1x1 c1x1:Nat) (e1x1:Bool) (h:Zaa) (Q:QT) (ht :
 Zdn (h ++ [.cells Zan [.slice a0x0 n0x0 c0x0 e0x0,.slice a0x1 n0x1 c0x1 e0x1] false]) fun A=>Zdn (A ++ [.cells Zan [.slice a1x0 n1x0 c1x0 e1x0,.slice a1x1 n1x1 c1x1 e1x1] false]) fun B=>xSl (Zae B (.ptr (h.length,0 + 0))) fun C D E F=>xSl (Zae B (.ptr (A.length,0 + 0))) fun G H I J=>Zad pg Zjc [.slice C D E F,.slice G H I J] B fun B C=>
 Zbr B fun B=>bcase (!B) (Q (.bool false) C) (xSl (Zae C (.ptr (h.length,0 + 1))) fun B D E F=>xSl (Zae C (.ptr (A.length,0 + 1))) fun A G H I=>Zad pg Zgy [.slice B D E F,.slice A G H I] C fun A B=>
 Zbr A fun A=>bcase (!A) (Q (.bool false) B) (Q (.bool true) B))):Zad pg Zjv [.agg [.slice a0x0 n0x0 c0x0 e0x0,.slice a0x1 n0x1 c0x1 e0x1],.agg [.slice a1x0 n1x0 c1x0 e1x0,.slice a1x1 n1x1 c1x1 e1x1]] h Q:=
 Zad.of_body kp (c:=cod fn) (fn:=fn) Go.Proofs.Try.func13 (by kernel_rfl) (by kernel_rfl) (Nat.le_of_ble_eq_true (by kernel_rfl))
  (cast (by kernel_rfl) ht)
end Znd
end Go.Sim

set_option maxRecDepth 100000
set_option maxHeartbeats 0
set_option linter.unusedVariables false
namespace Go.Sim
open Go Go.RowKit
namespace Zkv
noncomputable abbrev fn:Func:=Go.Proofs.Try.f83
def kp:Zcn:=[]
noncomputable def C (p:List Nat):Code:=(cod fn).sub p
def KR (Q:QT):KT:=Zfe pg fn.results.toList Q
theorem call (x0x0 x0x1:List Nat) (a0x2:Pt) (n0x2 c0x2:Nat) (e0x2:Bool) (x1:Int) (h:Zaa) (Q:QT) (ht :
 Zdn (h ++ [.cells Zdq [.str x0x0,.str x0x1,.slice a0x2 n0x2 c0x2 e0x2] false]) fun A=>Zcx (Zbk A (.ptr (h.length,0 + 0)) 2) fun B=>Zal B fun B C=>Zbz B fun B=>Zal C fun C D=>Zbz C fun C=>Zcq D (Zad pg Zir [.agg [.str B,.str C],.int .i64 x1] A fun A B=>
 Zcr .i64 A fun A=>bcase (decide ((A:Int) < 0)) (Q (.int .i64 (-1)) B) (xSl (Zae B (.ptr (h.length,0 + 2))) fun C D E F=>Zad pg Zkd [.slice C D E F,.int .i64 A] B fun A B=>
 Zcr .i64 A fun A=>bcase (decide ((A:Int) < 0)) (Q (.int .i64 (-1)) B) (Q (.int .i64 A) B)))):Zad pg Zhx [.agg [.str x0x0,.str x0x1,.slice a0x2 n0x2 c0x2 e0x2],.int .i64 x1] h Q:=
 Zad.of_body kp (c:=cod fn) (fn:=fn) Go.Proofs.Try.func83 (by kernel_rfl) (by kernel_rfl) (Nat.le_of_ble_eq_true (by kernel_rfl))
  (cast (by kernel_rfl) ht)
end Zkv
namespace Zed
noncomputable abbrev fn:Func:=Go.Proofs.Try.f37
def kp:Zcn:=[(3000005,[1,4]),(1000005,[0,1,5])]
noncomputable def C (p:List Nat):Code:=(cod fn).sub p
def KR (Q:QT):KT:=Zfe pg fn.results.toList Q
abbrev T5:=Pt→Nat→Nat→Bool→Int→Int→Zaa→Prop
def E5 (R5:T5) (env:Env) (h:Zaa):Prop:=Zcb 0 env fun v env=>xSl v fun a0 n0 c0 e0=>Zcb 1 env fun v env=>Zek .i64 v fun x1=>Zcb 5 env fun v env=>Zek .i64 v fun x5=>Zkg env (R5 a0 n0 c0 e0 x1 x5 h)
theorem Zgt {R5:T5} {env:Env} {h:Zaa} (hi:E5 R5 env h):∃ a0,∃ n0,∃ c0,∃ e0,∃ x1,∃ x5,env=[(0,.slice a0 n0 c0 e0),(1,.int .i64 x1),(5,.int .i64 x5)]∧R5 a0 n0 c0 e0 x1 x5 h:=by
 unfold E5 at hi
 repeat ((first | (have k:=Zaf hi; clear hi; obtain ⟨_,_,e,hi⟩:=k) | (have k:=Zau hi; clear hi; obtain ⟨_,e,hi⟩:=k) | (have k:=Zcc hi; clear hi; obtain ⟨_,_,_,_,e,hi⟩:=k)); subst e)
 obtain ⟨rfl,hi⟩:=Zbm hi
 exact ⟨_,_,_,_,_,_,rfl,hi⟩
def K0 (Q:QT):KT:=andThen (fun env' h'=>(match kp.find 4000010 with | some ks=>Den pg fn.ntmps (C [1,1,1,1]) (env'.keep ks) h' (KR Q) | none=>den pg fn.ntmps kp (C [1,1,1,1]) env' h' (KR Q))) (KR Q)
def K1 (Q:QT):KT:=Zcv 0 (K0 Q)
def K2 (Q:QT):KT:=left kp 5 (K1 Q)
def K3 (Q:QT) (R5:T5):KT:=rnd ((kp.find 1000005).getD []) (E5 R5) (K2 Q)
def L5 (Q:QT) (a0:Pt) (n0 c0:Nat) (e0:Bool) (x1 x5:Int) (h:Zaa):Prop:=Zeh (Den pg fn.ntmps (C [1,1,1,0,1,0,0])) ((kp.find 1000005).getD []) (K2 Q) [(0,.slice a0 n0 c0 e0),(1,.int .i64 x1),(5,.int .i64 x5)] h
def A5x0 (Q:QT) (x1:Int) (h:Zaa):Prop:=At (K1 Q) (.exit 0) [(1,.int .i64 x1),(4,.undef)] h
def L5t (Q:QT) (R5:T5) (a0:Pt) (n0 c0:Nat) (e0:Bool) (x1 x5:Int) (h:Zaa):Prop:=
 bcase (decide ((x5:Int) < (((n0:Nat):Int)))) ((0≤(x5:Int)∧(x5:Int) < (n0:Nat))∧(Zbf a0 fun A B=>Zcx (Zbk h (.ptr (A,B + (Int.toNat x5) * 3)) 3) fun A=>Zal A fun A B=>Zbz A fun A=>Zal B fun B C=>Zbz B fun B=>Zal C fun C D=>xSl C fun C E F G=>Zcq D (Zad pg Zhx [.agg [.str A,.str B,.slice C E F G],.int .i64 x1] h fun A B=>
 Zcr .i64 A fun A=>bcase (decide ((A:Int) < 0)) (Q (.int .i64 (-1)) B) (R5 a0 n0 c0 e0 A (IntKind.wrap .i64 (x5 + 1)) B)))) (A5x0 Q x1 h)
theorem Zpj (Q:QT) (R5:T5) (a0:Pt) (n0 c0:Nat) (e0:Bool) (x1 x5:Int) (h:Zaa) (ht:L5t Q R5 a0 n0 c0 e0 x1 x5 h):Den pg fn.ntmps (C [1,1,1,0,1,0,0]) [(0,.slice a0 n0 c0 e0),(1,.int .i64 x1),(5,.int .i64 x5)] h (K3 Q R5):=
 Zbe (kp:=kp) (cast (by kernel_rfl) ht)
theorem L5ind (Q:QT) (a0:Pt) (n0 c0:Nat) (e0:Bool) {G:Type} (J:G→Int→Int→Zaa→Prop) (m:G→Nat)
 (hr:∀ (g:G) (x1 x5:Int) (h:Zaa),J g x1 x5 h→∀ (R5:T5),(∀ g' (x1 x5:Int) (h:Zaa),m g' < m g→J g' x1 x5 h→R5 a0 n0 c0 e0 x1 x5 h)→L5t Q R5 a0 n0 c0 e0 x1 x5 h)
 (g:G) (x1 x5:Int) (h:Zaa) (hj:J g x1 x5 h):L5 Q a0 n0 c0 e0 x1 x5 h:=by
 let P:=fun (K:Int→Int→Zaa→Prop) a0' n0' c0' e0' x1 x5 h=>a0=a0'∧n0=n0'∧c0=c0'∧e0=e0'∧K x1 x5 h
 refine Zeh.inv2 (fun g=>E5 (P (J g))) (fun g=>E5 (P fun x1 x5 h=>∃ g',m g' < m g∧J g' x1 x5 h)) m ?_ ?_ g ⟨rfl,rfl,rfl,rfl,hj⟩
 ·intro g env h hi
  obtain ⟨a0',n0',c0',e0',x1,x5,rfl,rfl,rfl,rfl,rfl,hj⟩:=Zgt hi
  exact Zpj Q _ a0 n0 c0 e0 x1 x5 h (hr g x1 x5 h hj (P fun x1 x5 h=>∃ g',m g' < m g∧J g' x1 x5 h) fun g' x1 x5 h hlt hj=>⟨rfl,rfl,rfl,rfl,g',hlt,hj⟩)
 ·intro g env h hi
  obtain ⟨a0',n0',c0',e0',x1,x5,rfl,rfl,rfl,rfl,rfl,g',hlt,hj⟩:=Zgt hi
  exact ⟨g',hlt,rfl,rfl,rfl,rfl,hj⟩
theorem A5x0i (Q:QT) (x1:Int) (h:Zaa) (ht :
 Q (.int .i64 x1) h):A5x0 Q x1 h:=
 At.mk (cast (by kernel_rfl) ht)
theorem call (a0:Pt) (n0 c0:Nat) (e0:Bool) (x1:Int) (h:Zaa) (Q:QT) (ht :
 bcase (decide (((IntKind.wrap .i64 (x1 - (((n0:Nat):Int)))):Int) < 0)) (Q (.int .i64 (-1)) h) (L5 Q a0 n0 c0 e0 (IntKind.wrap .i64 (x1 - (((n0:Nat):Int)))) 0 h)):Zad pg Zhd [.slice a0 n0 c0 e0,.int .i64 x1] h Q:=
 Zad.of_body kp (c:=cod fn) (fn:=fn) Go.Proofs.Try.func37 (by kernel_rfl) (by kernel_rfl) (Nat.le_of_ble_eq_true (by kernel_rfl))
  (cast (by kernel_rfl) ht)
end Zed
namespace Znm
noncomputable abbrev fn:Func:=Go.Proofs.Try.f9
def kp:Zcn:=[]
noncomputable def C (p:List Nat):Code:=(cod fn).sub p
def KR (Q:QT):KT:=Zfe pg fn.results.toList Q
theorem call (a0x0:Pt) (n0x0 c0x0:Nat) (e0x0:Bool) (a0x1:Pt) (n0x1 c0x1:Nat) (e0x1:Bool) (x1:Int) (h:Zaa) (Q:QT) (ht :
 Zdn (h ++ [.cells Zdt [.slice a0x0 n0x0 c0x0 e0x0,.slice a0x1 n0x1 c0x1 e0x1] false]) fun A=>xSl (Zae A (.ptr (h.length,0 + 0))) fun B C D E=>Zad pg Ziz [.slice B C D E,.int .i64 x1] A fun A B=>
 Zcr .i64 A fun A=>bcase (decide ((A:Int) < 0)) (Q (.int .i64 (-1)) B) (xSl (Zae B (.ptr (h.length,0 + 1))) fun C D E F=>Zad pg Zhd [.slice C D E F,.int .i64 A] B fun A B=>
 Zcr .i64 A fun A=>bcase (decide ((A:Int) < 0)) (Q (.int .i64 (-1)) B) (Q (.int .i64 A) B))):Zad pg Zjz [.agg [.slice a0x0 n0x0 c0x0 e0x0,.slice a0x1 n0x1 c0x1 e0x1],.int .i64 x1] h Q:=
 Zad.of_body kp (c:=cod fn) (fn:=fn) Go.Proofs.Try.func9 (by kernel_rfl) (by kernel_rfl) (Nat.le_of_ble_eq_true (by kernel_rfl))
  (cast (by kernel_rfl) ht)
end Znm
namespace Zkr
noncomputable abbrev fn:Func:=Go.Proofs.Try.f88
def kp:Zcn:=[]
noncomputable def C (p:List Nat):Code:=(cod fn).sub p
def KR (Q:QT):KT:=Zfe pg fn.results.toList Q
theorem call (x0x0 x0x1:List Nat) (a0x2:Pt) (n0x2 c0x2:Nat) (e0x2:Bool) (h:Zaa) (Q:QT) (ht :
 Zdn (h ++ [.cells Zdq [.str x0x0,.str x0x1,.slice a0x2 n0x2 c0x2 e0x2] false]) fun A=>Zdn (A ++ [.cells Zac [.str [],.str [],.slice none 0 0 true] false]) fun B=>Zdn (B ++ [.cells Zac [.str [],.str [],.slice none 0 0 true] false]) fun C=>Zcx (Zbk C (.ptr (h.length,0 + 0)) 2) fun D=>Zal D fun D E=>Zbz D fun D=>Zal E fun E F=>Zbz E fun E=>Zcq F (Zad pg Zio [.agg [.str D,.str E]] C fun C D=>
 Zpz C fun C=>Zal C fun C E=>Zbz C fun C=>Zal E fun E F=>Zbz E fun E=>Zcq F (Zch (Zbc D (.ptr (B.length,0 + 0)) [.str C,.str E]) fun C=>xSl (Zae C (.ptr (h.length,0 + 2))) fun D E F G=>Zad pg Zjt [.slice D E F G] C fun C D=>
 xSl C fun C E F G=>Zch (Zbc D (.ptr (B.length,0 + 2)) [.slice C E F G]) fun C=>Zcx (Zbk C (.ptr (B.length,0)) 3) fun B=>Zal B fun B D=>Zbz B fun B=>Zal D fun D E=>Zbz D fun D=>Zal E fun E F=>xSl E fun E G H I=>Zcq F (Zch (Zbc C (.ptr (A.length,0)) [.str B,.str D,.slice E G H I]) fun B=>Zcx (Zbk B (.ptr (A.length,0)) 3) fun A=>Zal A fun A C=>Zbz A fun A=>Zal C fun C D=>Zbz C fun C=>Zal D fun D E=>xSl D fun D F G H=>Zcq E (Q (.agg [.str A,.str C,.slice D F G H]) B))))):Zad pg Zhn [.agg [.str x0x0,.str x0x1,.slice a0x2 n0x2 c0x2 e0x2]] h Q:=
 Zad.of_body kp (c:=cod fn) (fn:=fn) Go.Proofs.Try.func88 (by kernel_rfl) (by kernel_rfl) (Nat.le_of_ble_eq_true (by kernel_rfl))
  (cast (by kernel_rfl) ht)
end Zkr
end Go.Sim

set_option maxRecDepth 100000
set_option maxHeartbeats 0
set_option linter.unusedVariables false
namespace Go.Sim
open Go Go.RowKit
namespace Znc
noncomputable abbrev fn:Func:=Go.Proofs.Try.f82
def kp:Zcn:=[]
noncomputable def C (p:List Nat):Code:=(cod fn).sub p
def KR (Q:QT):KT:=Zfe pg fn.results.toList Q
theorem call (x0x0 x0x1:List Nat) (x1:Int) (h:Zaa) (Q:QT) (ht :
 Zdn (h ++ [.cells Zmd [.str x0x0,.str x0x1] false]) fun A=>Zbz (Zae A (.ptr (h.length,0 + 0))) fun B=>bcase (decide (((IntKind.wrap .i64 (x1 - (((List.length B:Nat):Int)))):Int) < 0)) (Q (.int .i64 (-1)) A) (Zbz (Zae A (.ptr (h.length,0 + 1))) fun C=>bcase (decide (((IntKind.wrap .i64 ((IntKind.wrap .i64 (x1 - (((List.length B:Nat):Int)))) - (((List.length C:Nat):Int)))):Int) < 0)) (Q (.int .i64 (-1)) A) (Q (.int .i64 (IntKind.wrap .i64 ((IntKind.wrap .i64 (x1 - (((List.length B:Nat):Int)))) - (((List.length C:Nat):Int))))) A))):Zad pg Zkf [.agg [.str x0x0,.str x0x1],.int .i64 x1] h Q:=
 Zad.of_body kp (c:=cod fn) (fn:=fn) Go.Proofs.Try.func82 (by kernel_rfl) (by kernel_rfl) (Nat.le_of_ble_eq_true (by kernel_rfl))
  (cast (by kernel_rfl) ht)
end Znc
namespace Znk
noncomputable abbrev fn:Func:=Go.Proofs.Try.f89
def kp:Zcn:=[]
noncomputable def C (p:List Nat):Code:=(cod fn).sub p
def KR (Q:QT):KT:=Zfe pg fn.results.toList Q
theorem call (x0x0 x0x1 x1x0 x1x1:List Nat) (h:Zaa) (Q:QT) (ht :
 Zdn (h ++ [.cells Zbl [.str x0x0,.str x0x1] false]) fun A=>Zdn (A ++ [.cells Zbl [.str x1x0,.str x1x1] false]) fun B=>Zbz (Zae B (.ptr (h.length,0 + 0))) fun C=>Zbz (Zae B (.ptr (A.length,0 + 0))) fun D=>bcase (!(decide (C=D))) (Q (.bool false) B) (Zbz (Zae B (.ptr (h.length,0 + 1))) fun C=>Zbz (Zae B (.ptr (A.length,0 + 1))) fun A=>bcase (!(decide (C=A))) (Q (.bool false) B) (Q (.bool true) B))):Zad pg Zjx [.agg [.str x0x0,.str x0x1],.agg [.str x1x0,.str x1x1]] h Q:=
 Zad.of_body kp (c:=cod fn) (fn:=fn) Go.Proofs.Try.func89 (by kernel_rfl) (by kernel_rfl) (Nat.le_of_ble_eq_true (by kernel_rfl))
  (cast (by kernel_rfl) ht)
end Znk
namespace Zne
noncomputable abbrev fn:Func:=Go.Proofs.Try.f87
def kp:Zcn:=[]
noncomputable def C (p:List Nat):Code:=(cod fn).sub p
def KR (Q:QT):KT:=Zfe pg fn.results.toList Q
theorem call (x0x0 x0x1:List Nat) (h:Zaa) (Q:QT) (ht :
 Zdn (h ++ [.cells Zmd [.str x0x0,.str x0x1] false]) fun A=>Zdn (A ++ [.cells Zbl [.str [],.str []] false]) fun B=>Zdn (B ++ [.cells Zbl [.str [],.str []] false]) fun C=>Zbz (Zae C (.ptr (h.length,0 + 0))) fun D=>Zch (Zbc C (.ptr (B.length,0 + 0)) [.str D]) fun C=>Zbz (Zae C (.ptr (h.length,0 + 1))) fun D=>Zch (Zbc C (.ptr (B.length,0 + 1)) [.str D]) fun C=>Zcx (Zbk C (.ptr (B.length,0)) 2) fun B=>Zal B fun B D=>Zbz B fun B=>Zal D fun D E=>Zbz D fun D=>Zcq E (Zch (Zbc C (.ptr (A.length,0)) [.str B,.str D]) fun B=>Zcx (Zbk B (.ptr (A.length,0)) 2) fun A=>Zal A fun A C=>Zbz A fun A=>Zal C fun C D=>Zbz C fun C=>Zcq D (Q (.agg [.str A,.str C]) B))):Zad pg Zka [.agg [.str x0x0,.str x0x1]] h Q:=
 Zad.of_body kp (c:=cod fn) (fn:=fn) Go.Proofs.Try.func87 (by kernel_rfl) (by kernel_rfl) (Nat.le_of_ble_eq_true (by kernel_rfl))
  (cast (by kernel_rfl) ht)
end Zne
namespace Zfs
noncomputable abbrev fn:Func:=Go.Proofs.Try.f36
def kp:Zcn:=[(3000005,[1,4]),(1000005,[0,1,5])]
noncomputable def C (p:List Nat):Code:=(cod fn).sub p
def KR (Q:QT):KT:=Zfe pg fn.results.toList Q
abbrev T5:=Pt→Nat→Nat→Bool→Int→Int→Zaa→Prop
def E5 (R5:T5) (env:Env) (h:Zaa):Prop:=Zcb 0 env fun v env=>xSl v fun a0 n0 c0 e0=>Zcb 1 env fun v env=>Zek .i64 v fun x1=>Zcb 5 env fun v env=>Zek .i64 v fun x5=>Zkg env (R5 a0 n0 c0 e0 x1 x5 h)
theorem Zgt {R5:T5} {env:Env} {h:Zaa} (hi:E5 R5 env h):∃ a0,∃ n0,∃ c0,∃ e0,∃ x1,∃ x5,env=[(0,.slice a0 n0 c0 e0),(1,.int .i64 x1),(5,.int .i64 x5)]∧R5 a0 n0 c0 e0 x1 x5 h:=by
 unfold E5 at hi
 repeat ((first | (have k:=Zaf hi; clear hi; obtain ⟨_,_,e,hi⟩:=k) | (have k:=Zau hi; clear hi; obtain ⟨_,e,hi⟩:=k) | (have k:=Zcc hi; clear hi; obtain ⟨_,_,_,_,e,hi⟩:=k)); subst e)
 obtain ⟨rfl,hi⟩:=Zbm hi
 exact ⟨_,_,_,_,_,_,rfl,hi⟩
def K0 (Q:QT):KT:=andThen (fun env' h'=>(match kp.find 4000010 with | some ks=>Den pg fn.ntmps (C [1,1,1,1]) (env'.keep ks) h' (KR Q) | none=>den pg fn.ntmps kp (C [1,1,1,1]) env' h' (KR Q))) (KR Q)
def K1 (Q:QT):KT:=Zcv 0 (K0 Q)
def K2 (Q:QT):KT:=left kp 5 (K1 Q)
def K3 (Q:QT) (R5:T5):KT:=rnd ((kp.find 1000005).getD []) (E5 R5) (K2 Q)
def L5 (Q:QT) (a0:Pt) (n0 c0:Nat) (e0:Bool) (x1 x5:Int) (h:Zaa):Prop:=Zeh (Den pg fn.ntmps (C [1,1,1,0,1,0,0])) ((kp.find 1000005).getD []) (K2 Q) [(0,.slice a0 n0 c0 e0),(1,.int .i64 x1),(5,.int .i64 x5)] h
def A5x0 (Q:QT) (x1:Int) (h:Zaa):Prop:=At (K1 Q) (.exit 0) [(1,.int .i64 x1),(4,.undef)] h
def L5t (Q:QT) (R5:T5) (a0:Pt) (n0 c0:Nat) (e0:Bool) (x1 x5:Int) (h:Zaa):Prop:=
 bcase (decide ((x5:Int) < (((n0:Nat):Int)))) ((0≤(x5:Int)∧(x5:Int) < (n0:Nat))∧(Zbf a0 fun A B=>Zcx (Zbk h (.ptr (A,B + (Int.toNat x5) * 2)) 2) fun A=>Zal A fun A B=>Zbz A fun A=>Zal B fun B C=>Zbz B fun B=>Zcq C (Zad pg Zkf [.agg [.str A,.str B],.int .i64 x1] h fun A B=>
 Zcr .i64 A fun A=>bcase (decide ((A:Int) < 0)) (Q (.int .i64 (-1)) B) (R5 a0 n0 c0 e0 A (IntKind.wrap .i64 (x5 + 1)) B)))) (A5x0 Q x1 h)
theorem Zpj (Q:QT) (R5:T5) (a0:Pt) (n0 c0:Nat) (e0:Bool) (x1 x5:Int) (h:Zaa) (ht:L5t Q R5 a0 n0 c0 e0 x1 x5 h):Den pg fn.ntmps (C [1,1,1,0,1,0,0]) [(0,.slice a0 n0 c0 e0),(1,.int .i64 x1),(5,.int .i64 x5)] h (K3 Q R5):=
 Zbe (kp:=kp) (cast (by kernel_rfl) ht)
theorem L5ind (Q:QT) (a0:Pt) (n0 c0:Nat) (e0:Bool) {G:Type} (J:G→Int→Int→Zaa→Prop) (m:G→Nat)
 (hr:∀ (g:G) (x1 x5:Int) (h:Zaa),J g x1 x5 h→∀ (R5:T5),(∀ g' (x1 x5:Int) (h:Zaa),m g' < m g→J g' x1 x5 h→R5 a0 n0 c0 e0 x1 x5 h)→L5t Q R5 a0 n0 c0 e0 x1 x5 h)
 (g:G) (x1 x5:Int) (h:Zaa) (hj:J g x1 x5 h):L5 Q a0 n0 c0 e0 x1 x5 h:=by
 let P:=fun (K:Int→Int→Zaa→Prop) a0' n0' c0' e0' x1 x5 h=>a0=a0'∧n0=n0'∧c0=c0'∧e0=e0'∧K x1 x5 h
 refine Zeh.inv2 (fun g=>E5 (P (J g))) (fun g=>E5 (P fun x1 x5 h=>∃ g',m g' < m g∧J g' x1 x5 h)) m ?_ ?_ g ⟨rfl,rfl,rfl,rfl,hj⟩
 ·intro g env h hi
  obtain ⟨a0',n0',c0',e0',x1,x5,rfl,rfl,rfl,rfl,rfl,hj⟩:=Zgt hi
  exact Zpj Q _ a0 n0 c0 e0 x1 x5 h (hr g x1 x5 h hj (P fun x1 x5 h=>∃ g',m g' < m g∧J g' x1 x5 h) fun g' x1 x5 h hlt hj=>⟨rfl,rfl,rfl,rfl,g',hlt,hj⟩)
 ·intro g env h hi
  obtain ⟨a0',n0',c0',e0',x1,x5,rfl,rfl,rfl,rfl,rfl,g',hlt,hj⟩:=Zgt hi
  exact ⟨g',hlt,rfl,rfl,rfl,rfl,hj⟩
theorem A5x0i (Q:QT) (x1:Int) (h:Zaa) (ht :
 Q (.int .i64 x1) h):A5x0 Q x1 h:=
 At.mk (cast (by kernel_rfl) ht)
theorem call (a0:Pt) (n0 c0:Nat) (e0:Bool) (x1:Int) (h:Zaa) (Q:QT) (ht :
 bcase (decide (((IntKind.wrap .i64 (x1 - (((n0:Nat):Int)))):Int) < 0)) (Q (.int .i64 (-1)) h) (L5 Q a0 n0 c0 e0 (IntKind.wrap .i64 (x1 - (((n0:Nat):Int)))) 0 h)):Zad pg Ziz [.slice a0 n0 c0 e0,.int .i64 x1] h Q:=
 Zad.of_body kp (c:=cod fn) (fn:=fn) Go.Proofs.Try.func36 (by kernel_rfl) (by kernel_rfl) (Nat.le_of_ble_eq_true (by kernel_rfl))
  (cast (by kernel_rfl) ht)
end Zfs
namespace Zfh
noncomputable abbrev fn:Func:=Go.Proofs.Try.f40
def kp:Zcn:=[(3000003,[3]),(1000003,[0,3,4])]
noncomputable def C (p:List Nat):Code:=(cod fn).sub p
def KR (Q:QT):KT:=Zfe pg fn.results.toList Q
abbrev T3:=Pt→Nat→Nat→Bool→Pt→Nat→Nat→Bool→Int→Zaa→Prop
def E3 (R3:T3) (env:Env) (h:Zaa):Prop:=Zcb 0 env fun v env=>xSl v fun a0 n0 c0 e0=>Zcb 3 env fun v env=>xSl v fun a3 n3 c3 e3=>Zcb 4 env fun v env=>Zek .i64 v fun x4=>Zkg env (R3 a0 n0 c0 e0 a3 n3 c3 e3 x4 h)
theorem Zia {R3:T3} {env:Env} {h:Zaa} (hi:E3 R3 env h):∃ a0,∃ n0,∃ c0,∃ e0,∃ a3,∃ n3,∃ c3,∃ e3,∃ x4,env=[(0,.slice a0 n0 c0 e0),(3,.slice a3 n3 c3 e3),(4,.int .i64 x4)]∧R3 a0 n0 c0 e0 a3 n3 c3 e3 x4 h:=by
 unfold E3 at hi
 repeat ((first | (have k:=Zaf hi; clear hi; obtain ⟨_,_,e,hi⟩:=k) | (have k:=Zau hi; clear hi; obtain ⟨_,e,hi⟩:=k) | (have k:=Zcc hi; clear hi; obtain ⟨_,_,_,_,e,hi⟩:=k)); subst e)
 obtain ⟨rfl,hi⟩:=Zbm hi
 exact ⟨_,_,_,_,_,_,_,_,_,rfl,hi⟩
def K0 (Q:QT):KT:=andThen (fun env' h'=>(match kp.find 4000006 with | some ks=>Den pg fn.ntmps (C [1,1,1]) (env'.keep ks) h' (KR Q) | none=>den pg fn.ntmps kp (C [1,1,1]) env' h' (KR Q))) (KR Q)
def K1 (Q:QT):KT:=Zcv 0 (K0 Q)
def K2 (Q:QT):KT:=left kp 3 (K1 Q)
def K3 (Q:QT) (R3:T3):KT:=rnd ((kp.find 1000003).getD []) (E3 R3) (K2 Q)
def L3 (Q:QT) (a0:Pt) (n0 c0:Nat) (e0:Bool) (a3:Pt) (n3 c3:Nat) (e3:Bool) (x4:Int) (h:Zaa):Prop:=Zeh (Den pg fn.ntmps (C [1,1,0,1,0,0])) ((kp.find 1000003).getD []) (K2 Q) [(0,.slice a0 n0 c0 e0),(3,.slice a3 n3 c3 e3),(4,.int .i64 x4)] h
def Zwn (Q:QT) (a3:Pt) (n3 c3:Nat) (e3:Bool) (h:Zaa):Prop:=At (K1 Q) (.exit 0) [(3,.slice a3 n3 c3 e3)] h
def L3t (Q:QT) (R3:T3) (a0:Pt) (n0 c0:Nat) (e0:Bool) (a3:Pt) (n3 c3:Nat) (e3:Bool) (x4:Int) (h:Zaa):Prop:=
 bcase (decide ((x4:Int) < (((n0:Nat):Int)))) ((0≤(x4:Int)∧(x4:Int) < (n0:Nat))∧(Zbf a0 fun A B=>Zcx (Zbk h (.ptr (A,B + (Int.toNat x4) * 2)) 2) fun A=>Zal A fun A B=>Zbz A fun A=>Zal B fun B C=>Zbz B fun B=>Zcq C (Zad pg Zka [.agg [.str A,.str B]] h fun A B=>
 Zpz A fun A=>Zal A fun A C=>Zbz A fun A=>Zal C fun C D=>Zbz C fun C=>Zcq D ((0≤(x4:Int)∧(x4:Int) < (n3:Nat))∧(Zbf a3 fun D E=>Zch (Zbc B (.ptr (D,E + (Int.toNat x4) * 2)) [.str A,.str C]) fun A=>R3 a0 n0 c0 e0 a3 n3 c3 e3 (IntKind.wrap .i64 (x4 + 1)) A))))) (Zwn Q a3 n3 c3 e3 h)
theorem Zrc (Q:QT) (R3:T3) (a0:Pt) (n0 c0:Nat) (e0:Bool) (a3:Pt) (n3 c3:Nat) (e3:Bool) (x4:Int) (h:Zaa) (ht:L3t Q R3 a0 n0 c0 e0 a3 n3 c3 e3 x4 h):Den pg fn.ntmps (C [1,1,0,1,0,0]) [(0,.slice a0 n0 c0 e0),(3,.slice a3 n3 c3 e3),(4,.int .i64 x4)] h (K3 Q R3):=
 Zbe (kp:=kp) (cast (by kernel_rfl) ht)
theorem L3ind (Q:QT) (a0:Pt) (n0 c0:Nat) (e0:Bool) (a3:Pt) (n3 c3:Nat) (e3:Bool) {G:Type} (J:G→Int→Zaa→Prop) (m:G→Nat)
 (hr:∀ (g:G) (x4:Int) (h:Zaa),J g x4 h→∀ (R3:T3),(∀ g' (x4:Int) (h:Zaa),m g' < m g→J g' x4 h→R3 a0 n0 c0 e0 a3 n3 c3 e3 x4 h)→L3t Q R3 a0 n0 c0 e0 a3 n3 c3 e3 x4 h)
 (g:G) (x4:Int) (h:Zaa) (hj:J g x4 h):L3 Q a0 n0 c0 e0 a3 n3 c3 e3 x4 h:=by
 let P:=fun (K:Int→Zaa→Prop) a0' n0' c0' e0' a3' n3' c3' e3' x4 h=>a0=a0'∧n0=n0'∧c0=c0'∧e0=e0'∧a3=a3'∧n3=n3'∧c3=c3'∧e3=e3'∧K x4 h
 refine Zeh.inv2 (fun g=>E3 (P (J g))) (fun g=>E3 (P fun x4 h=>∃ g',m g' < m g∧J g' x4 h)) m ?_ ?_ g ⟨rfl,rfl,rfl,rfl,rfl,rfl,rfl,rfl,hj⟩
 ·intro g env h hi
  obtain ⟨a0',n0',c0',e0',a3',n3',c3',e3',x4,rfl,rfl,rfl,rfl,rfl,rfl,rfl,rfl,rfl,hj⟩:=Zia hi
  exact Zrc Q _ a0 n0 c0 e0 a3 n3 c3 e3 x4 h (hr g x4 h hj (P fun x4 h=>∃ g',m g' < m g∧J g' x4 h) fun g' x4 h hlt hj=>⟨rfl,rfl,rfl,rfl,rfl,rfl,rfl,rfl,g',hlt,hj⟩)
 ·intro g env h hi
  obtain ⟨a0',n0',c0',e0',a3',n3',c3',e3',x4,rfl,rfl,rfl,rfl,rfl,rfl,rfl,rfl,rfl,g',hlt,hj⟩:=Zia hi
  exact ⟨g',hlt,rfl,rfl,rfl,rfl,rfl,rfl,rfl,rfl,hj⟩
theorem A3x0i (Q:QT) (a3:Pt) (n3 c3:Nat) (e3:Bool) (h:Zaa) (ht :
 Q (.slice a3 n3 c3 e3) h):Zwn Q a3 n3 c3 e3 h:=
 At.mk (cast (by kernel_rfl) ht)
theorem call (a0:Pt) (n0 c0:Nat) (e0:Bool) (h:Zaa) (Q:QT) (ht :
 IntKind.i64=IntKind.i64∧(IntKind.i64=IntKind.i64∧((0≤((((n0:Nat):Int)):Int)∧((((n0:Nat):Int)):Int)≤(((n0:Nat):Int))∧((((n0:Nat):Int)):Int) * (((32:Nat):Int) + 1)≤140737488355328)∧(Zdn (h ++ [.cells Zbl (reps (Int.toNat ((((n0:Nat):Int)))) [.str [],.str []]) false]) fun A=>L3 Q a0 n0 c0 e0 (h.length,0) (Int.toNat ((((n0:Nat):Int)))) (Int.toNat ((((n0:Nat):Int)))) true 0 A)))):Zad pg Zjg [.slice a0 n0 c0 e0] h Q:=
 Zad.of_body kp (c:=cod fn) (fn:=fn) Go.Proofs.Try.func40 (by kernel_rfl) (by kernel_rfl) (Nat.le_of_ble_eq_true (by kernel_rfl))
  (cast (by kernel_rfl) ht)
end Zfh
namespace Zfm
noncomputable abbrev fn:Func:=Go.Proofs.Try.f42
def kp:Zcn:=[(3000004,[4]),(1000004,[0,1,5]),(2000006,[26,5,0,1])]
noncomputable def C (p:List Nat):Code:=(cod fn).sub p
def KR (Q:QT):KT:=Zfe pg fn.results.toList Q
abbrev T4:=Pt→Nat→Nat→Bool→Pt→Nat→Nat→Bool→Int→Zaa→Prop
def E4 (R4:T4) (env:Env) (h:Zaa):Prop:=Zcb 0 env fun v env=>xSl v fun a0 n0 c0 e0=>Zcb 1 env fun v env=>xSl v fun a1 n1 c1 e1=>Zcb 5 env fun v env=>Zek .i64 v fun x5=>Zkg env (R4 a0 n0 c0 e0 a1 n1 c1 e1 x5 h)
theorem Zib {R4:T4} {env:Env} {h:Zaa} (hi:E4 R4 env h):∃ a0,∃ n0,∃ c0,∃ e0,∃ a1,∃ n1,∃ c1,∃ e1,∃ x5,env=[(0,.slice a0 n0 c0 e0),(1,.slice a1 n1 c1 e1),(5,.int .i64 x5)]∧R4 a0 n0 c0 e0 a1 n1 c1 e1 x5 h:=by
 unfold E4 at hi
 repeat ((first | (have k:=Zaf hi; clear hi; obtain ⟨_,_,e,hi⟩:=k) | (have k:=Zau hi; clear hi; obtain ⟨_,e,hi⟩:=k) | (have k:=Zcc hi; clear hi; obtain ⟨_,_,_,_,e,hi⟩:=k)); subst e)
 obtain ⟨rfl,hi⟩:=Zbm hi
 exact ⟨_,_,_,_,_,_,_,_,_,rfl,hi⟩
def K0 (Q:QT):KT:=andThen (fun env' h'=>(match kp.find 4000008 with | some ks=>Den pg fn.ntmps (C [1,1,1]) (env'.keep ks) h' (KR Q) | none=>den pg fn.ntmps kp (C [1,1,1]) env' h' (KR Q))) (KR Q)
def K1 (Q:QT):KT:=Zcv 0 (K0 Q)
def K2 (Q:QT):KT:=left kp 4 (K1 Q)
def K3 (Q:QT) (R4:T4):KT:=rnd ((kp.find 1000004).getD []) (E4 R4) (K2 Q)
def L4 (Q:QT) (a0:Pt) (n0 c0:Nat) (e0:Bool) (a1:Pt) (n1 c1:Nat) (e1:Bool) (x5:Int) (h:Zaa):Prop:=Zeh (Den pg fn.ntmps (C [1,1,0,1,0,0])) ((kp.find 1000004).getD []) (K2 Q) [(0,.slice a0 n0 c0 e0),(1,.slice a1 n1 c1 e1),(5,.int .i64 x5)] h
def Zxe (Q:QT) (h:Zaa):Prop:=At (K1 Q) (.exit 0) [(4,.undef)] h
def L4t (Q:QT) (R4:T4) (a0:Pt) (n0 c0:Nat) (e0:Bool) (a1:Pt) (n1 c1:Nat) (e1:Bool) (x5:Int) (h:Zaa):Prop:=
 bcase (decide ((x5:Int) < (((n0:Nat):Int)))) ((0≤(x5:Int)∧(x5:Int) < (n0:Nat))∧(Zbf a0 fun A B=>(0≤(x5:Int)∧(x5:Int) < (n1:Nat))∧(Zbf a1 fun C D=>Zcx (Zbk h (.ptr (A,B + (Int.toNat x5) * 2)) 2) fun E=>Zal E fun E F=>Zbz E fun E=>Zal F fun F G=>Zbz F fun F=>Zcq G (Zcx (Zbk h (.ptr (C,D + (Int.toNat x5) * 2)) 2) fun C=>Zal C fun C D=>Zbz C fun C=>Zal D fun D G=>Zbz D fun D=>Zcq G ((Zbk h (.ptr (A,B + (Int.toNat x5) * 2)) 2=Zbk h (.ptr (A,B + (Int.toNat x5) * 2)) 2)∧Zad pg Zjx [.agg [.str E,.str F],.agg [.str C,.str D]] h fun A B=>
 Zbr A fun A=>bcase (!A) (Q (.bool false) B) (R4 a0 n0 c0 e0 a1 n1 c1 e1 (IntKind.wrap .i64 (x5 + 1)) B)))))) (Zxe Q h)
theorem Zrb (Q:QT) (R4:T4) (a0:Pt) (n0 c0:Nat) (e0:Bool) (a1:Pt) (n1 c1:Nat) (e1:Bool) (x5:Int) (h:Zaa) (ht:L4t Q R4 a0 n0 c0 e0 a1 n1 c1 e1 x5 h):Den pg fn.ntmps (C [1,1,0,1,0,0]) [(0,.slice a0 n0 c0 e0),(1,.slice a1 n1 c1 e1),(5,.int .i64 x5)] h (K3 Q R4):=
 Zbe (kp:=kp) (cast (by kernel_rfl) ht)
theorem L4ind (Q:QT) (a0:Pt) (n0 c0:Nat) (e0:Bool) (a1:Pt) (n1 c1:Nat) (e1:Bool) {G:Type} (J:G→Int→Zaa→Prop) (m:G→Nat)
 (hr:∀ (g:G) (x5:Int) (h:Zaa),J g x5 h→∀ (R4:T4),(∀ g' (x5:Int) (h:Zaa),m g' < m g→J g' x5 h→R4 a0 n0 c0 e0 a1 n1 c1 e1 x5 h)→L4t Q R4 a0 n0 c0 e0 a1 n1 c1 e1 x5 h)
 (g:G) (x5:Int) (h:Zaa) (hj:J g x5 h):L4 Q a0 n0 c0 e0 a1 n1 c1 e1 x5 h:=by
 let P:=fun (K:Int→Zaa→Prop) a0' n0' c0' e0' a1' n1' c1' e1' x5 h=>a0=a0'∧n0=n0'∧c0=c0'∧e0=e0'∧a1=a1'∧n1=n1'∧c1=c1'∧e1=e1'∧K x5 h
 refine Zeh.inv2 (fun g=>E4 (P (J g))) (fun g=>E4 (P fun x5 h=>∃ g',m g' < m g∧J g' x5 h)) m ?_ ?_ g ⟨rfl,rfl,rfl,rfl,rfl,rfl,rfl,rfl,hj⟩
 ·intro g env h hi
  obtain ⟨a0',n0',c0',e0',a1',n1',c1',e1',x5,rfl,rfl,rfl,rfl,rfl,rfl,rfl,rfl,rfl,hj⟩:=Zib hi
  exact Zrb Q _ a0 n0 c0 e0 a1 n1 c1 e1 x5 h (hr g x5 h hj (P fun x5 h=>∃ g',m g' < m g∧J g' x5 h) fun g' x5 h hlt hj=>⟨rfl,rfl,rfl,rfl,rfl,rfl,rfl,rfl,g',hlt,hj⟩)
 ·intro g env h hi
  obtain ⟨a0',n0',c0',e0',a1',n1',c1',e1',x5,rfl,rfl,rfl,rfl,rfl,rfl,rfl,rfl,rfl,g',hlt,hj⟩:=Zib hi
  exact ⟨g',hlt,rfl,rfl,rfl,rfl,rfl,rfl,rfl,rfl,hj⟩
theorem A4x0i (Q:QT) (h:Zaa) (ht :
 Q (.bool true) h):Zxe Q h:=
 At.mk (cast (by kernel_rfl) ht)
theorem call (a0:Pt) (n0 c0:Nat) (e0:Bool) (a1:Pt) (n1 c1:Nat) (e1:Bool) (h:Zaa) (Q:QT) (ht :
 bcase (!((((n0:Nat):Int):Int) == (((n1:Nat):Int)))) (Q (.bool false) h) (L4 Q a0 n0 c0 e0 a1 n1 c1 e1 0 h)):Zad pg Zjc [.slice a0 n0 c0 e0,.slice a1 n1 c1 e1] h Q:=
 Zad.of_body kp (c:=cod fn) (fn:=fn) Go.Proofs.Try.func42 (by kernel_rfl) (by kernel_rfl) (Nat.le_of_ble_eq_true (by kernel_rfl))
  (cast (by kernel_rfl) ht)
end Zfm
end Go.Sim

set_option maxRecDepth 100000
set_option maxHeartbeats 0
set_option linter.unusedVariables false
namespace Go.Sim
open Go Go.RowKit
namespace Zhe
noncomputable abbrev fn:Func:=Go.Proofs.Try.f93
def kp:Zcn:=[]
noncomputable def C (p:List Nat):Code:=(cod fn).sub p
def KR (Q:QT):KT:=Zfe pg fn.results.toList Q
theorem call (x0x0 x0x1:List Nat) (a0x2:Pt) (n0x2 c0x2:Nat) (e0x2:Bool) (v1:Zag) (h:Zaa) (Q:QT) (ht :
 Zdn (h ++ [.cells Zac [.str x0x0,.str x0x1,.slice a0x2 n0x2 c0x2 e0x2] false]) fun A=>Zcx (Zbk A (v1) 2) fun B=>Zal B fun B C=>xSl B fun B D E F=>Zal C fun C G=>xSl C fun C H I J=>Zcq G (Zcx (Zbk A (.ptr (h.length,0)) 3) fun G=>Zal G fun G K=>Zbz G fun G=>Zal K fun K L=>Zbz K fun K=>Zal L fun L M=>xSl L fun L N O P=>Zcq M (Zad pg Zgb [.agg [.slice B D E F,.slice C H I J],.agg [.str G,.str K,.slice L N O P]] A fun A B=>
 Zbr A fun A=>Q (.bool (!A)) B))):Zad pg Zbn [.agg [.str x0x0,.str x0x1,.slice a0x2 n0x2 c0x2 e0x2],v1] h Q:=
 Zad.of_body kp (c:=cod fn) (fn:=fn) Go.Proofs.Try.func93 (by kernel_rfl) (by kernel_rfl) (Nat.le_of_ble_eq_true (by kernel_rfl))
  (cast (by kernel_rfl) ht)
end Zhe
namespace Zaw
noncomputable abbrev fn:Func:=Go.Proofs.Try.f137
def kp:Zcn:=[(3000002,[4]),(1000002,[0,1,7,8])]
noncomputable def C (p:List Nat):Code:=(cod fn).sub p
def KR (Q:QT):KT:=Zfe pg fn.results.toList Q
abbrev T2:=Pt→Nat→Nat→Bool→Zag→Int→Int→Zaa→Prop
def E2 (R2:T2) (env:Env) (h:Zaa):Prop:=Zcb 0 env fun v env=>xSl v fun a0 n0 c0 e0=>Zcb 1 env fun v env=>eFn Zbn v fun cs=>Zal cs fun c cs'=>Zxs c fun v1x0=>Zcq cs' (Zcb 7 env fun v env=>Zek .i64 v fun x7=>Zcb 8 env fun v env=>Zek .i64 v fun x8=>Zkg env (R2 a0 n0 c0 e0 v1x0 x7 x8 h))
theorem Zeq {R2:T2} {env:Env} {h:Zaa} (hi:E2 R2 env h):∃ a0,∃ n0,∃ c0,∃ e0,∃ v1x0,∃ x7,∃ x8,env=[(0,.slice a0 n0 c0 e0),(1,.fn Zbn [v1x0]),(7,.int .i64 x7),(8,.int .i64 x8)]∧R2 a0 n0 c0 e0 v1x0 x7 x8 h:=by
 unfold E2 at hi
 have hi0:=hi
 clear hi
 obtain ⟨_,_,rfl,hi1⟩:=Zaf hi0
 obtain ⟨a0,n0,c0,e0,rfl,hi2⟩:=Zcc hi1
 obtain ⟨_,_,rfl,hi3⟩:=Zaf hi2
 obtain ⟨cs,rfl,hi4⟩:=Yap hi3
 obtain ⟨c,cs',rfl,hi5⟩:=Ztg hi4
 obtain ⟨v1x0,hx,hi6⟩:=Zks hi5
 replace hx:=(Option.some.inj hx).symm
 subst hx
 obtain ⟨rfl,hi7⟩:=Zwv hi6
 obtain ⟨_,_,rfl,hi8⟩:=Zaf hi7
 obtain ⟨x7,rfl,hi9⟩:=Zau hi8
 obtain ⟨_,_,rfl,hi10⟩:=Zaf hi9
 obtain ⟨x8,rfl,hi11⟩:=Zau hi10
 obtain ⟨rfl,hi12⟩:=Zbm hi11
 have hi:=hi12
 exact ⟨a0,n0,c0,e0,v1x0,x7,x8,rfl,hi⟩
def K0 (Q:QT):KT:=andThen (fun env' h'=>(match kp.find 4000007 with | some ks=>Den pg fn.ntmps (C [1,1]) (env'.keep ks) h' (KR Q) | none=>den pg fn.ntmps kp (C [1,1]) env' h' (KR Q))) (KR Q)
def K1 (Q:QT):KT:=Zcv 0 (K0 Q)
def K2 (Q:QT):KT:=left kp 2 (K1 Q)
def K3 (Q:QT) (R2:T2):KT:=rnd ((kp.find 1000002).getD []) (E2 R2) (K2 Q)
def L2 (Q:QT) (a0:Pt) (n0 c0:Nat) (e0:Bool) (v1x0:Zag) (x7 x8:Int) (h:Zaa):Prop:=Zeh (Den pg fn.ntmps (C [1,0,1,0,0])) ((kp.find 1000002).getD []) (K2 Q) [(0,.slice a0 n0 c0 e0),(1,.fn Zbn [v1x0]),(7,.int .i64 x7),(8,.int .i64 x8)] h
def A2x0 (Q:QT) (h:Zaa):Prop:=At (K1 Q) (.exit 0) [(4,.undef)] h
def L2t (Q:QT) (R2:T2) (a0:Pt) (n0 c0:Nat) (e0:Bool) (v1x0:Zag) (x7 x8:Int) (h:Zaa):Prop:=
 bcase (decide ((x8:Int) < x7)) ((0≤(x8:Int)∧(x8:Int) < (n0:Nat))∧(Zbf a0 fun A B=>Zcx (Zbk h (.ptr (A,B + (Int.toNat x8) * 3)) 3) fun A=>Zal A fun A B=>Zbz A fun A=>Zal B fun B C=>Zbz B fun B=>Zal C fun C D=>xSl C fun C E F G=>Zcq D (Zad pg Zbn [.agg [.str A,.str B,.slice C E F G],v1x0] h fun A B=>
 Zbr A fun A=>bcase A (Q (.int .i64 x8) B) (R2 a0 n0 c0 e0 v1x0 x7 (IntKind.wrap .i64 (x8 + 1)) B)))) (A2x0 Q h)
theorem Zmj (Q:QT) (R2:T2) (a0:Pt) (n0 c0:Nat) (e0:Bool) (v1x0:Zag) (x7 x8:Int) (h:Zaa) (ht:L2t Q R2 a0 n0 c0 e0 v1x0 x7 x8 h):Den pg fn.ntmps (C [1,0,1,0,0]) [(0,.slice a0 n0 c0 e0),(1,.fn Zbn [v1x0]),(7,.int .i64 x7),(8,.int .i64 x8)] h (K3 Q R2):=
 Zbe (kp:=kp) (cast (by kernel_rfl) ht)
theorem L2ind (Q:QT) (a0:Pt) (n0 c0:Nat) (e0:Bool) (v1x0:Zag) (x7:Int) {G:Type} (J:G→Int→Zaa→Prop) (m:G→Nat)
 (hr:∀ (g:G) (x8:Int) (h:Zaa),J g x8 h→∀ (R2:T2),(∀ g' (x8:Int) (h:Zaa),m g' < m g→J g' x8 h→R2 a0 n0 c0 e0 v1x0 x7 x8 h)→L2t Q R2 a0 n0 c0 e0 v1x0 x7 x8 h)
 (g:G) (x8:Int) (h:Zaa) (hj:J g x8 h):L2 Q a0 n0 c0 e0 v1x0 x7 x8 h:=by
 let P:=fun (K:Int→Zaa→Prop) a0' n0' c0' e0' v1x0' x7' x8 h=>a0=a0'∧n0=n0'∧c0=c0'∧e0=e0'∧v1x0=v1x0'∧x7=x7'∧K x8 h
 refine Zeh.inv2 (fun g=>E2 (P (J g))) (fun g=>E2 (P fun x8 h=>∃ g',m g' < m g∧J g' x8 h)) m ?_ ?_ g ⟨rfl,rfl,rfl,rfl,rfl,rfl,hj⟩
 ·intro g env h hi
  obtain ⟨a0',n0',c0',e0',v1x0',x7',x8,rfl,rfl,rfl,rfl,rfl,rfl,rfl,hj⟩:=Zeq hi
  exact Zmj Q _ a0 n0 c0 e0 v1x0 x7 x8 h (hr g x8 h hj (P fun x8 h=>∃ g',m g' < m g∧J g' x8 h) fun g' x8 h hlt hj=>⟨rfl,rfl,rfl,rfl,rfl,rfl,g',hlt,hj⟩)
 ·intro g env h hi
  obtain ⟨a0',n0',c0',e0',v1x0',x7',x8,rfl,rfl,rfl,rfl,rfl,rfl,rfl,g',hlt,hj⟩:=Zeq hi
  exact ⟨g',hlt,rfl,rfl,rfl,rfl,rfl,rfl,hj⟩
theorem A2x0i (Q:QT) (h:Zaa) (ht :
 Q (.int .i64 (-1)) h):A2x0 Q h:=
 At.mk (cast (by kernel_rfl) ht)
theorem call (a0:Pt) (n0 c0:Nat) (e0:Bool) (v1x0:Zag) (h:Zaa) (Q:QT) (ht :
 L2 Q a0 n0 c0 e0 v1x0 (((n0:Nat):Int)) 0 h):Zad pg Zcg [.slice a0 n0 c0 e0,.fn Zbn [v1x0]] h Q:=
 Zad.of_body kp (c:=cod fn) (fn:=fn) Go.Proofs.Try.func137 (by kernel_rfl) (by kernel_rfl) (Nat.le_of_ble_eq_true (by kernel_rfl))
  (cast (by kernel_rfl) ht)
end Zaw
namespace Zkw
noncomputable abbrev fn:Func:=Go.Proofs.Try.f46
def kp:Zcn:=[]
noncomputable def C (p:List Nat):Code:=(cod fn).sub p
def KR (Q:QT):KT:=Zfe pg fn.results.toList Q
theorem call (a0x0:Pt) (n0x0 c0x0:Nat) (e0x0:Bool) (a0x1:Pt) (n0x1 c0x1:Nat) (e0x1:Bool) (h:Zaa) (Q:QT) (ht :
 Zdn (h ++ [.cells Zan [.slice a0x0 n0x0 c0x0 e0x0,.slice a0x1 n0x1 c0x1 e0x1] false]) fun A=>Zcx (Zbk A (.ptr (h.length,0)) 2) fun B=>Zal B fun B C=>xSl B fun B D E F=>Zal C fun C G=>xSl C fun C H I J=>Zcq G (Zad pg Zgm [.agg [.slice B D E F,.slice C H I J]] A fun A B=>
 Zbr A fun A=>bcase A (xSl (Zae B (.ptr (h.length,0 + 1))) fun A A C C=>bcase (decide (((((A:Nat):Int)):Int)≤10)) (xSl (Zae B (.ptr (h.length,0 + 1))) fun A C D E=>Zad pg Zcz [.slice A C D E,.fn Zbn [.ptr (h.length,0)]] B fun A C=>
 Zbr A fun A=>Q (.bool (!A)) C) (Q (.bool false) B)) (Q (.bool false) B))):Zad pg Zhr [.agg [.slice a0x0 n0x0 c0x0 e0x0,.slice a0x1 n0x1 c0x1 e0x1]] h Q:=
 Zad.of_body kp (c:=cod fn) (fn:=fn) Go.Proofs.Try.func46 (by kernel_rfl) (by kernel_rfl) (Nat.le_of_ble_eq_true (by kernel_rfl))
  (cast (by kernel_rfl) ht)
end Zkw
namespace Zbv
noncomputable abbrev fn:Func:=Go.Proofs.Try.f92
def kp:Zcn:=[]
noncomputable def C (p:List Nat):Code:=(cod fn).sub p
def KR (Q:QT):KT:=Zfe pg fn.results.toList Q
theorem call (a0:Pt) (n0 c0:Nat) (e0:Bool) (v1x0:Zag) (h:Zaa) (Q:QT) (ht :
 Zad pg Zcg [.slice a0 n0 c0 e0,.fn Zbn [v1x0]] h fun A B=>
 Zcr .i64 A fun A=>Q (.bool (decide ((A:Int) ≥ 0))) B):Zad pg Zcz [.slice a0 n0 c0 e0,.fn Zbn [v1x0]] h Q:=
 Zad.of_body kp (c:=cod fn) (fn:=fn) Go.Proofs.Try.func92 (by kernel_rfl) (by kernel_rfl) (Nat.le_of_ble_eq_true (by kernel_rfl))
  (cast (by kernel_rfl) ht)
end Zbv
namespace Zeo
noncomputable abbrev fn:Func:=Go.Proofs.Try.f38
def kp:Zcn:=[(3000002,[1,2]),(1000002,[1,6,7,8])]
noncomputable def C (p:List Nat):Code:=(cod fn).sub p
def KR (Q:QT):KT:=Zfe pg fn.results.toList Q
abbrev T2:=Nat→Nat→Pt→Nat→Nat→Bool→Int→Int→Zaa→Prop
def E2 (R2:T2) (env:Env) (h:Zaa):Prop:=Zcb 1 env fun v env=>Zfg v fun a=>Zbf a fun i1 o1=>Zcb 6 env fun v env=>xSl v fun a6 n6 c6 e6=>Zcb 7 env fun v env=>Zek .i64 v fun x7=>Zcb 8 env fun v env=>Zek .i64 v fun x8=>Zkg env (R2 i1 o1 a6 n6 c6 e6 x7 x8 h)
theorem Zeq {R2:T2} {env:Env} {h:Zaa} (hi:E2 R2 env h):∃ i1,∃ o1,∃ a6,∃ n6,∃ c6,∃ e6,∃ x7,∃ x8,env=[(1,.ptr (i1,o1)),(6,.slice a6 n6 c6 e6),(7,.int .i64 x7),(8,.int .i64 x8)]∧R2 i1 o1 a6 n6 c6 e6 x7 x8 h:=by
 unfold E2 at hi
 have hi0:=hi
 clear hi
 obtain ⟨_,_,rfl,hi1⟩:=Zaf hi0
 obtain ⟨a,rfl,hi2⟩:=Zbp hi1
 obtain ⟨i1,o1,rfl,hi3⟩:=Zbi hi2
 obtain ⟨_,_,rfl,hi4⟩:=Zaf hi3
 obtain ⟨a6,n6,c6,e6,rfl,hi5⟩:=Zcc hi4
 obtain ⟨_,_,rfl,hi6⟩:=Zaf hi5
 obtain ⟨x7,rfl,hi7⟩:=Zau hi6
 obtain ⟨_,_,rfl,hi8⟩:=Zaf hi7
 obtain ⟨x8,rfl,hi9⟩:=Zau hi8
 obtain ⟨rfl,hi10⟩:=Zbm hi9
 have hi:=hi10
 exact ⟨i1,o1,a6,n6,c6,e6,x7,x8,rfl,hi⟩
def K0 (Q:QT):KT:=andThen (fun env' h'=>(match kp.find 4000007 with | some ks=>Den pg fn.ntmps (C [1,1]) (env'.keep ks) h' (KR Q) | none=>den pg fn.ntmps kp (C [1,1]) env' h' (KR Q))) (KR Q)
def K1 (Q:QT):KT:=Zcv 0 (K0 Q)
def K2 (Q:QT):KT:=left kp 2 (K1 Q)
def K3 (Q:QT) (R2:T2):KT:=rnd ((kp.find 1000002).getD []) (E2 R2) (K2 Q)
def L2 (Q:QT) (i1 o1:Nat) (a6:Pt) (n6 c6:Nat) (e6:Bool) (x7 x8:Int) (h:Zaa):Prop:=Zeh (Den pg fn.ntmps (C [1,0,1,0,0])) ((kp.find 1000002).getD []) (K2 Q) [(1,.ptr (i1,o1)),(6,.slice a6 n6 c6 e6),(7,.int .i64 x7),(8,.int .i64 x8)] h
def A2x0 (Q:QT) (i1 o1:Nat) (h:Zaa):Prop:=At (K1 Q) (.exit 0) [(1,.ptr (i1,o1)),(2,.undef)] h
def L2t (Q:QT) (R2:T2) (i1 o1:Nat) (a6:Pt) (n6 c6:Nat) (e6:Bool) (x7 x8:Int) (h:Zaa):Prop:=
 bcase (decide ((x8:Int) < x7)) ((0≤(x8:Int)∧(x8:Int) < (n6:Nat))∧(Zbf a6 fun A B=>Zcx (Zbk h (.ptr (A,B + (Int.toNat x8) * 3)) 3) fun A=>Zal A fun A B=>Zbz A fun A=>Zal B fun B C=>Zbz B fun B=>Zal C fun C D=>xSl C fun C E F G=>Zcq D (Zdn (h ++ [.cells Zac [.str [],.str [],.slice none 0 0 true] false]) fun D=>Zch (Zbc D (.ptr (h.length,0)) [.str A,.str B,.slice C E F G]) fun A=>Zcx (Zbk A (.ptr (i1,o1)) 2) fun B=>Zal B fun B C=>xSl B fun B D E F=>Zal C fun C G=>xSl C fun C H I J=>Zcq G (Zcx (Zbk A (.ptr (h.length,0)) 3) fun G=>Zal G fun G K=>Zbz G fun G=>Zal K fun K L=>Zbz K fun K=>Zal L fun L M=>xSl L fun L N O P=>Zcq M (Zad pg Zga [.agg [.slice B D E F,.slice C H I J],.agg [.str G,.str K,.slice L N O P]] A fun A B=>
 Zbr A fun A=>bcase (!A) (Q (.bool false) B) (R2 i1 o1 a6 n6 c6 e6 x7 (IntKind.wrap .i64 (x8 + 1)) B)))))) (A2x0 Q i1 o1 h)
theorem Zmj (Q:QT) (R2:T2) (i1 o1:Nat) (a6:Pt) (n6 c6:Nat) (e6:Bool) (x7 x8:Int) (h:Zaa) (ht:L2t Q R2 i1 o1 a6 n6 c6 e6 x7 x8 h):Den pg fn.ntmps (C [1,0,1,0,0]) [(1,.ptr (i1,o1)),(6,.slice a6 n6 c6 e6),(7,.int .i64 x7),(8,.int .i64 x8)] h (K3 Q R2):=
 Zbe (kp:=kp) (cast (by kernel_rfl) ht)
theorem L2ind (Q:QT) (i1 o1:Nat) (a6:Pt) (n6 c6:Nat) (e6:Bool) (x7:Int) {G:Type} (J:G→Int→Zaa→Prop) (m:G→Nat)
 (hr:∀ (g:G) (x8:Int) (h:Zaa),J g x8 h→∀ (R2:T2),(∀ g' (x8:Int) (h:Zaa),m g' < m g→J g' x8 h→R2 i1 o1 a6 n6 c6 e6 x7 x8 h)→L2t Q R2 i1 o1 a6 n6 c6 e6 x7 x8 h)
 (g:G) (x8:Int) (h:Zaa) (hj:J g x8 h):L2 Q i1 o1 a6 n6 c6 e6 x7 x8 h:=by
 let P:=fun (K:Int→Zaa→Prop) i1' o1' a6' n6' c6' e6' x7' x8 h=>i1=i1'∧o1=o1'∧a6=a6'∧n6=n6'∧c6=c6'∧e6=e6'∧x7=x7'∧K x8 h
 refine Zeh.inv2 (fun g=>E2 (P (J g))) (fun g=>E2 (P fun x8 h=>∃ g',m g' < m g∧J g' x8 h)) m ?_ ?_ g ⟨rfl,rfl,rfl,rfl,rfl,rfl,rfl,hj⟩
 ·intro g env h hi
  obtain ⟨i1',o1',a6',n6',c6',e6',x7',x8,rfl,rfl,rfl,rfl,rfl,rfl,rfl,rfl,hj⟩:=Zeq hi
  exact Zmj Q _ i1 o1 a6 n6 c6 e6 x7 x8 h (hr g x8 h hj (P fun x8 h=>∃ g',m g' < m g∧J g' x8 h) fun g' x8 h hlt hj=>⟨rfl,rfl,rfl,rfl,rfl,rfl,rfl,g',hlt,hj⟩)
 ·intro g env h hi
  obtain ⟨i1',o1',a6',n6',c6',e6',x7',x8,rfl,rfl,rfl,rfl,rfl,rfl,rfl,rfl,g',hlt,hj⟩:=Zeq hi
  exact ⟨g',hlt,rfl,rfl,rfl,rfl,rfl,rfl,rfl,hj⟩
theorem A2x0i (Q:QT) (i1 o1:Nat) (h:Zaa) (ht :
 xSl (Zae h (.ptr (i1,o1 + 0))) fun A B C D=>Zad pg Zgn [.slice A B C D] h fun A B=>
 Zbr A fun A=>bcase A (xSl (Zae B (.ptr (i1,o1 + 1))) fun A A C C=>Q (.bool (decide (((((A:Nat):Int)):Int)≤10))) B) (Q (.bool false) B)):A2x0 Q i1 o1 h:=
 At.mk (cast (by kernel_rfl) ht)
theorem call (a0x0:Pt) (n0x0 c0x0:Nat) (e0x0:Bool) (a0x1:Pt) (n0x1 c0x1:Nat) (e0x1:Bool) (h:Zaa) (Q:QT) (ht :
 Zdn (h ++ [.cells Zan [.slice a0x0 n0x0 c0x0 e0x0,.slice a0x1 n0x1 c0x1 e0x1] false]) fun A=>xSl (Zae A (.ptr (h.length,0 + 1))) fun B C D E=>L2 Q h.length 0 B C D E (((C:Nat):Int)) 0 A):Zad pg Zhk [.agg [.slice a0x0 n0x0 c0x0 e0x0,.slice a0x1 n0x1 c0x1 e0x1]] h Q:=
 Zad.of_body kp (c:=cod fn) (fn:=fn) Go.Proofs.Try.func38 (by kernel_rfl) (by kernel_rfl) (Nat.le_of_ble_eq_true (by kernel_rfl))
  (cast (by kernel_rfl) ht)
end Zeo
end Go.Sim

set_option maxRecDepth 100000
set_option maxHeartbeats 0
set_option linter.unusedVariables false
namespace Go.Sim
open Go Go.RowKit
namespace Zda
noncomputable abbrev fn:Func:=Go.Proofs.Try.f84
def kp:Zcn:=[(4000003,[3,2]),(3000004,[4]),(1000004,[2,3,47,48,49]),(2000006,[80,49,48,47,2,3]),(4000008,[49,48,47,2,3])]
noncomputable def C (p:List Nat):Code:=(cod fn).sub p
def KR (Q:QT):KT:=Zfe pg fn.results.toList Q
abbrev T4:=Nat→Nat→Nat→Nat→Pt→Nat→Nat→Bool→Int→Int→Zaa→Prop
def E4 (R4:T4) (env:Env) (h:Zaa):Prop:=Zcb 2 env fun v env=>Zfg v fun a=>Zbf a fun i2 o2=>Zcb 3 env fun v env=>Zfg v fun a=>Zbf a fun i3 o3=>Zcb 47 env fun v env=>xSl v fun a47 n47 c47 e47=>Zcb 48 env fun v env=>Zek .i64 v fun x48=>Zcb 49 env fun v env=>Zek .i64 v fun x49=>Zkg env (R4 i2 o2 i3 o3 a47 n47 c47 e47 x48 x49 h)
theorem Zib {R4:T4} {env:Env} {h:Zaa} (hi:E4 R4 env h):∃ i2,∃ o2,∃ i3,∃ o3,∃ a47,∃ n47,∃ c47,∃ e47,∃ x48,∃ x49,env=[(2,.ptr (i2,o2)),(3,.ptr (i3,o3)),(47,.slice a47 n47 c47 e47),(48,.int .i64 x48),(49,.int .i64 x49)]∧R4 i2 o2 i3 o3 a47 n47 c47 e47 x48 x49 h:=by
 unfold E4 at hi
 have hi0:=hi
 clear hi
 obtain ⟨_,_,rfl,hi1⟩:=Zaf hi0
 obtain ⟨a,rfl,hi2⟩:=Zbp hi1
 obtain ⟨i2,o2,rfl,hi3⟩:=Zbi hi2
 obtain ⟨_,_,rfl,hi4⟩:=Zaf hi3
 obtain ⟨a,rfl,hi5⟩:=Zbp hi4
 obtain ⟨i3,o3,rfl,hi6⟩:=Zbi hi5
 obtain ⟨_,_,rfl,hi7⟩:=Zaf hi6
 obtain ⟨a47,n47,c47,e47,rfl,hi8⟩:=Zcc hi7
 obtain ⟨_,_,rfl,hi9⟩:=Zaf hi8
 obtain ⟨x48,rfl,hi10⟩:=Zau hi9
 obtain ⟨_,_,rfl,hi11⟩:=Zaf hi10
 obtain ⟨x49,rfl,hi12⟩:=Zau hi11
 obtain ⟨rfl,hi13⟩:=Zbm hi12
 have hi:=hi13
 exact ⟨i2,o2,i3,o3,a47,n47,c47,e47,x48,x49,rfl,hi⟩
def K0 (Q:QT):KT:=andThen (fun env' h'=>(match kp.find 4000009 with | some ks=>Den pg fn.ntmps (C [1,1,1]) (env'.keep ks) h' (KR Q) | none=>den pg fn.ntmps kp (C [1,1,1]) env' h' (KR Q))) (KR Q)
def K1 (Q:QT):KT:=Zcv 0 (K0 Q)
def K2 (Q:QT):KT:=left kp 4 (K1 Q)
def K3 (Q:QT) (R4:T4):KT:=rnd ((kp.find 1000004).getD []) (E4 R4) (K2 Q)
def J3 (Q:QT) (i3 o3 i2 o2:Nat) (h:Zaa):Prop:=Den pg fn.ntmps (C [1,1]) [(3,.ptr (i3,o3)),(2,.ptr (i2,o2))] h (KR Q)
def L4 (Q:QT) (i2 o2 i3 o3:Nat) (a47:Pt) (n47 c47:Nat) (e47:Bool) (x48 x49:Int) (h:Zaa):Prop:=Zeh (Den pg fn.ntmps (C [1,1,0,1,0,0])) ((kp.find 1000004).getD []) (K2 Q) [(2,.ptr (i2,o2)),(3,.ptr (i3,o3)),(47,.slice a47 n47 c47 e47),(48,.int .i64 x48),(49,.int .i64 x49)] h
def J8 (Q:QT) (R4:T4) (x49 x48:Int) (a47:Pt) (n47 c47:Nat) (e47:Bool) (i2 o2 i3 o3:Nat) (h:Zaa):Prop:=Den pg fn.ntmps (C [1,1,0,1,0,0,1,1,1]) [(49,.int .i64 x49),(48,.int .i64 x48),(47,.slice a47 n47 c47 e47),(2,.ptr (i2,o2)),(3,.ptr (i3,o3))] h (K3 Q R4)
def Zxe (Q:QT) (h:Zaa):Prop:=At (K1 Q) (.exit 0) [(4,.undef)] h
theorem J3i (Q:QT) (i3 o3 i2 o2:Nat) (h:Zaa) (ht :
 xSl (Zae h (.ptr (i3,o3 + 2))) fun A B C D=>L4 Q i2 o2 i3 o3 A B C D (((B:Nat):Int)) 0 h):J3 Q i3 o3 i2 o2 h:=
 Zbe (kp:=kp) (cast (by kernel_rfl) ht)
def L4t (Q:QT) (R4:T4) (i2 o2 i3 o3:Nat) (a47:Pt) (n47 c47:Nat) (e47:Bool) (x48 x49:Int) (h:Zaa):Prop:=
 bcase (decide ((x49:Int) < x48)) ((0≤(x49:Int)∧(x49:Int) < (n47:Nat))∧(Zbf a47 fun A B=>Zcx (Zbk h (.ptr (A,B + (Int.toNat x49) * 2)) 2) fun A=>Zal A fun A B=>Zbz A fun A=>Zal B fun B C=>Zbz B fun B=>Zcq C (Zdn (h ++ [.cells Zbw [.str [],.str []] false]) fun C=>Zch (Zbc C (.ptr (h.length,0)) [.str A,.str B]) fun A=>Zcx (Zbk A (.ptr (i2,o2)) 2) fun B=>Zal B fun B C=>xSl B fun B D E F=>Zal C fun C G=>xSl C fun C H I J=>Zcq G (Zbz (Zae A (.ptr (h.length,0 + 0))) fun G=>(Zbk A (.ptr (i2,o2)) 2=Zbk A (.ptr (i2,o2)) 2)∧Zad pg Zgc [.agg [.slice B D E F,.slice C H I J],.str G] A fun A B=>
 Zcr .i64 A fun A=>bcase (decide ((A:Int) < 0)) ((Zbk B (.ptr (i2,o2)) 2=Zbk B (.ptr (i2,o2)) 2)∧(Zbk B (.ptr (i2,o2)) 2=Zbk B (.ptr (i2,o2)) 2)∧(Zbk B (.ptr (i2,o2)) 2=Zbk B (.ptr (i2,o2)) 2)∧(Zae B (.tup [])=Zae B (.tup []))∧(Zbk B (.ptr (i2,o2)) 2=Zbk B (.ptr (i2,o2)) 2)∧(Zae B (.tup [])=Zae B (.tup []))∧(Zbk B (.ptr (i2,o2)) 2=Zbk B (.ptr (i2,o2)) 2)∧(Zae B (.tup [])=Zae B (.tup []))∧(Zae B (.tup [])=Zae B (.tup []))∧(Zbk B (.ptr (i2,o2)) 2=Zbk B (.ptr (i2,o2)) 2)∧Q (.bool false) B) (Zbz (Zae B (.ptr (h.length,0 + 1))) fun A=>(Zbk B (.ptr (i2,o2)) 2=Zbk B (.ptr (i2,o2)) 2)∧Zad pg Zfb [.str A] B fun A C=>
 Zbr A fun A=>(Zbk C (.ptr (i2,o2)) 2=Zbk B (.ptr (i2,o2)) 2)∧bcase (!A) ((Zbk C (.ptr (i2,o2)) 2=Zbk C (.ptr (i2,o2)) 2)∧(Zae C (.tup [])=Zae C (.tup []))∧(Zbk C (.ptr (i2,o2)) 2=Zbk C (.ptr (i2,o2)) 2)∧(Zae C (.tup [])=Zae C (.tup []))∧(Zbk C (.ptr (i2,o2)) 2=Zbk C (.ptr (i2,o2)) 2)∧(Zae C (.tup [])=Zae C (.tup []))∧(Zae C (.tup [])=Zae C (.tup []))∧(Zbk C (.ptr (i2,o2)) 2=Zbk C (.ptr (i2,o2)) 2)∧Q (.bool false) C) (Zbz (Zae C (.ptr (h.length,0 + 1))) fun A=>(Zbk C (.ptr (i2,o2)) 2=Zbk C (.ptr (i2,o2)) 2)∧bcase (decide (((((List.length A:Nat):Int)):Int) > 20)) ((Zae C (.tup [])=Zae C (.tup []))∧(Zbk C (.ptr (i2,o2)) 2=Zbk C (.ptr (i2,o2)) 2)∧(Zae C (.tup [])=Zae C (.tup []))∧(Zbk C (.ptr (i2,o2)) 2=Zbk C (.ptr (i2,o2)) 2)∧(Zae C (.tup [])=Zae C (.tup []))∧(Zae C (.tup [])=Zae C (.tup []))∧(Zbk C (.ptr (i2,o2)) 2=Zbk C (.ptr (i2,o2)) 2)∧Q (.bool false) C) (Zbz (Zae C (.ptr (h.length,0 + 1))) fun A=>Zbz (Zae C (.ptr (i3,o3 + 0 + 1))) fun B=>Zad pg Zis [.str A] C fun A D=>
 Zbz A fun A=>(Zae D (.ptr (i3,o3 + 0 + 1))=Zae C (.ptr (i3,o3 + 0 + 1)))∧(Zbk D (.ptr (i2,o2)) 2=Zbk C (.ptr (i2,o2)) 2)∧Zad pg Zis [.str B] D fun B C=>
 Zbz B fun B=>(Zae C (.ptr (h.length,0 + 1))=Zae D (.ptr (h.length,0 + 1)))∧(Zbk C (.ptr (i2,o2)) 2=Zbk D (.ptr (i2,o2)) 2)∧Zad pg Zja [.str A,.str B] C fun A B=>
 Zbr A fun A=>(Zae B (.ptr (i3,o3 + 0 + 1))=Zae C (.ptr (i3,o3 + 0 + 1)))∧(Zae B (.ptr (h.length,0 + 1))=Zae C (.ptr (h.length,0 + 1)))∧(Zbk B (.ptr (i2,o2)) 2=Zbk C (.ptr (i2,o2)) 2)∧bcase (!A) (Q (.bool false) B) (J8 Q R4 x49 x48 a47 n47 c47 e47 i2 o2 i3 o3 B)))))))) (Zxe Q h)
theorem Zrb (Q:QT) (R4:T4) (i2 o2 i3 o3:Nat) (a47:Pt) (n47 c47:Nat) (e47:Bool) (x48 x49:Int) (h:Zaa) (ht:L4t Q R4 i2 o2 i3 o3 a47 n47 c47 e47 x48 x49 h):Den pg fn.ntmps (C [1,1,0,1,0,0]) [(2,.ptr (i2,o2)),(3,.ptr (i3,o3)),(47,.slice a47 n47 c47 e47),(48,.int .i64 x48),(49,.int .i64 x49)] h (K3 Q R4):=
 Zbe (kp:=kp) (cast (by kernel_rfl) ht)
theorem L4ind (Q:QT) (i2 o2 i3 o3:Nat) (a47:Pt) (n47 c47:Nat) (e47:Bool) (x48:Int) {G:Type} (J:G→Int→Zaa→Prop) (m:G→Nat)
 (hr:∀ (g:G) (x49:Int) (h:Zaa),J g x49 h→∀ (R4:T4),(∀ g' (x49:Int) (h:Zaa),m g' < m g→J g' x49 h→R4 i2 o2 i3 o3 a47 n47 c47 e47 x48 x49 h)→L4t Q R4 i2 o2 i3 o3 a47 n47 c47 e47 x48 x49 h)
 (g:G) (x49:Int) (h:Zaa) (hj:J g x49 h):L4 Q i2 o2 i3 o3 a47 n47 c47 e47 x48 x49 h:=by
 let P:=fun (K:Int→Zaa→Prop) i2' o2' i3' o3' a47' n47' c47' e47' x48' x49 h=>i2=i2'∧o2=o2'∧i3=i3'∧o3=o3'∧a47=a47'∧n47=n47'∧c47=c47'∧e47=e47'∧x48=x48'∧K x49 h
 refine Zeh.inv2 (fun g=>E4 (P (J g))) (fun g=>E4 (P fun x49 h=>∃ g',m g' < m g∧J g' x49 h)) m ?_ ?_ g ⟨rfl,rfl,rfl,rfl,rfl,rfl,rfl,rfl,rfl,hj⟩
 ·intro g env h hi
  obtain ⟨i2',o2',i3',o3',a47',n47',c47',e47',x48',x49,rfl,rfl,rfl,rfl,rfl,rfl,rfl,rfl,rfl,rfl,hj⟩:=Zib hi
  exact Zrb Q _ i2 o2 i3 o3 a47 n47 c47 e47 x48 x49 h (hr g x49 h hj (P fun x49 h=>∃ g',m g' < m g∧J g' x49 h) fun g' x49 h hlt hj=>⟨rfl,rfl,rfl,rfl,rfl,rfl,rfl,rfl,rfl,g',hlt,hj⟩)
 ·intro g env h hi
  obtain ⟨i2',o2',i3',o3',a47',n47',c47',e47',x48',x49,rfl,rfl,rfl,rfl,rfl,rfl,rfl,rfl,rfl,rfl,g',hlt,hj⟩:=Zib hi
  exact ⟨g',hlt,rfl,rfl,rfl,rfl,rfl,rfl,rfl,rfl,rfl,hj⟩
theorem J8i (Q:QT) (R4:T4) (x49 x48:Int) (a47:Pt) (n47 c47:Nat) (e47:Bool) (i2 o2 i3 o3:Nat) (h:Zaa) (ht :
 R4 i2 o2 i3 o3 a47 n47 c47 e47 x48 (IntKind.wrap .i64 (x49 + 1)) h):J8 Q R4 x49 x48 a47 n47 c47 e47 i2 o2 i3 o3 h:=
 Zbe (kp:=kp) (cast (by kernel_rfl) ht)
theorem A4x0i (Q:QT) (h:Zaa) (ht :
 Q (.bool true) h):Zxe Q h:=
 At.mk (cast (by kernel_rfl) ht)
theorem call (a0x0:Pt) (n0x0 c0x0:Nat) (e0x0:Bool) (a0x1:Pt) (n0x1 c0x1:Nat) (e0x1:Bool) (x1x0 x1x1:List Nat) (a1x2:Pt) (n1x2 c1x2:Nat) (e1x2:Bool) (h:Zaa) (Q:QT) (ht :
 Zdn (h ++ [.cells Zan [.slice a0x0 n0x0 c0x0 e0x0,.slice a0x1 n0x1 c0x1 e0x1] false]) fun A=>Zdn (A ++ [.cells Zac [.str x1x0,.str x1x1,.slice a1x2 n1x2 c1x2 e1x2] false]) fun B=>xSl (Zae B (.ptr (h.length,0 + 0))) fun C D E F=>Zad pg Zgn [.slice C D E F] B fun B C=>
 Zbr B fun B=>bcase (!B) (Q (.bool false) C) (Zcx (Zbk C (.ptr (h.length,0)) 2) fun B=>Zal B fun B D=>xSl B fun B E F G=>Zal D fun D H=>xSl D fun D I J K=>Zcq H (Zbz (Zae C (.ptr (A.length,0 + 0 + 0))) fun H=>Zad pg Zgc [.agg [.slice B E F G,.slice D I J K],.str H] C fun B C=>
 Zcr .i64 B fun B=>bcase (decide ((B:Int) < 0)) (Q (.bool false) C) (Zbz (Zae C (.ptr (A.length,0 + 0 + 1))) fun B=>Zad pg Zfb [.str B] C fun B C=>
 Zbr B fun B=>bcase (!B) (Q (.bool false) C) (Zbz (Zae C (.ptr (A.length,0 + 0 + 1))) fun B=>bcase (decide (((((List.length B:Nat):Int)):Int) > 20)) (Q (.bool false) C) (Zbz (Zae C (.ptr (A.length,0 + 0 + 1))) fun B=>Zij B 0 fun B=>Zad pg Zfx [.int .u8 (((B:Nat):Int))] C fun B C=>
 Zbr B fun B=>bcase B (Q (.bool false) C) (xSl (Zae C (.ptr (A.length,0 + 2))) fun B B D D=>bcase (decide (((((B:Nat):Int)):Int) > 3)) (Q (.bool false) C) (J3 Q A.length 0 h.length 0 C)))))))):Zad pg Zga [.agg [.slice a0x0 n0x0 c0x0 e0x0,.slice a0x1 n0x1 c0x1 e0x1],.agg [.str x1x0,.str x1x1,.slice a1x2 n1x2 c1x2 e1x2]] h Q:=
 Zad.of_body kp (c:=cod fn) (fn:=fn) Go.Proofs.Try.func84 (by kernel_rfl) (by kernel_rfl) (Nat.le_of_ble_eq_true (by kernel_rfl))
  (cast (by kernel_rfl) ht)
end Zda
end Go.Sim
