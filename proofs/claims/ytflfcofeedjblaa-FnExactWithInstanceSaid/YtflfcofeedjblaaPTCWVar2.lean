/- A part of the proof of a statement of this seat: see the text that holds the theorem. No condition. -/
import Derived.Test.YtflfcofeedjblaaNm
set_option linter.unusedVariables false
set_option linter.unusedSimpArgs false
set_option linter.all false
set_option maxRecDepth 100000
set_option maxHeartbeats 0
set_option linter.unusedVariables false
namespace Go.Sim
open Go Go.RowKit
namespace Zel
noncomputable abbrev fn:Func:=Go.Proofs.Try.f22
def kp:Zcs:=[(3000003,[3]),(1000003,[0,3,4])]
noncomputable def C (p:List Nat):Code:=(cod fn).sub p
def KR (Q:QT):KT:=Zfq pg fn.results.toList Q
abbrev T3:=Pt→Nat→Nat→Bool→Pt→Nat→Nat→Bool→Int→Zab→Prop
def E3 (R3:T3) (env:Env) (h:Zab):Prop:=Zda 0 env fun v env=>xSl v fun a0 n0 c0 e0=>Zda 3 env fun v env=>xSl v fun a3 n3 c3 e3=>Zda 4 env fun v env=>Zfn .i64 v fun x4=>Zmb env (R3 a0 n0 c0 e0 a3 n3 c3 e3 x4 h)
theorem Zhi {R3:T3} {env:Env} {h:Zab} (hi:E3 R3 env h):∃ a0,∃ n0,∃ c0,∃ e0,∃ a3,∃ n3,∃ c3,∃ e3,∃ x4,env=[(0,.slice a0 n0 c0 e0),(3,.slice a3 n3 c3 e3),(4,.int .i64 x4)]∧R3 a0 n0 c0 e0 a3 n3 c3 e3 x4 h:=by
 unfold E3 at hi
 repeat ((first | (have k:=Zas hi; clear hi; obtain ⟨_,_,e,hi⟩:=k) | (have k:=Zct hi; clear hi; obtain ⟨_,_,_,_,e,hi⟩:=k) | (have k:=Zbe hi; clear hi; obtain ⟨_,e,hi⟩:=k)); subst e)
 obtain ⟨rfl,hi⟩:=Zbz hi
 exact ⟨_,_,_,_,_,_,_,_,_,rfl,hi⟩
def K0 (Q:QT):KT:=andThen (fun env' h'=>(match kp.find 4000006 with | some ks=>Den pg fn.ntmps (C [1,1,1]) (env'.keep ks) h' (KR Q) | none=>den pg fn.ntmps kp (C [1,1,1]) env' h' (KR Q))) (KR Q)
def K1 (Q:QT):KT:=Zdm 0 (K0 Q)
def K2 (Q:QT):KT:=left kp 3 (K1 Q)
def K3 (Q:QT) (R3:T3):KT:=rnd ((kp.find 1000003).getD []) (E3 R3) (K2 Q)
def L3 (Q:QT) (a0:Pt) (n0 c0:Nat) (e0:Bool) (a3:Pt) (n3 c3:Nat) (e3:Bool) (x4:Int) (h:Zab):Prop:=Zfd (Den pg fn.ntmps (C [1,1,0,1,0,0])) ((kp.find 1000003).getD []) (K2 Q) [(0,.slice a0 n0 c0 e0),(3,.slice a3 n3 c3 e3),(4,.int .i64 x4)] h
def Zsm (Q:QT) (a3:Pt) (n3 c3:Nat) (e3:Bool) (h:Zab):Prop:=At (K1 Q) (.exit 0) [(3,.slice a3 n3 c3 e3)] h
def L3t (Q:QT) (R3:T3) (a0:Pt) (n0 c0:Nat) (e0:Bool) (a3:Pt) (n3 c3:Nat) (e3:Bool) (x4:Int) (h:Zab):Prop:=
 bcase (decide ((x4:Int) < (((n0:Nat):Int)))) ((0≤(x4:Int)∧(x4:Int) < (n0:Nat))∧(Zcg a0 fun A B=>Zca (Zax h (.ptr (A,B + (Int.toNat x4) * 3)) 3) fun A=>Zad A fun A B=>Zbt A fun A=>Zad B fun B C=>Zbt B fun B=>Zad C fun C D=>xSl C fun C E F G=>Zbq D (Zag pg Zby [.agg [.str A,.str B,.slice C E F G]] h fun A B=>
 Zim A fun A=>Zad A fun A C=>Zbt A fun A=>Zad C fun C D=>Zbt C fun C=>Zad D fun D E=>xSl D fun D F G H=>Zbq E ((0≤(x4:Int)∧(x4:Int) < (n3:Nat))∧(Zcg a3 fun E I=>Zbk (Zaw B (.ptr (E,I + (Int.toNat x4) * 3)) [.str A,.str C,.slice D F G H]) fun A=>R3 a0 n0 c0 e0 a3 n3 c3 e3 (IntKind.wrap .i64 (x4 + 1)) A))))) (Zsm Q a3 n3 c3 e3 h)
theorem Zpg (Q:QT) (R3:T3) (a0:Pt) (n0 c0:Nat) (e0:Bool) (a3:Pt) (n3 c3:Nat) (e3:Bool) (x4:Int) (h:Zab) (ht:L3t Q R3 a0 n0 c0 e0 a3 n3 c3 e3 x4 h):Den pg fn.ntmps (C [1,1,0,1,0,0]) [(0,.slice a0 n0 c0 e0),(3,.slice a3 n3 c3 e3),(4,.int .i64 x4)] h (K3 Q R3):=
 Zbs (kp:=kp) (cast (by kernel_rfl) ht)
theorem L3ind (Q:QT) (a0:Pt) (n0 c0:Nat) (e0:Bool) (a3:Pt) (n3 c3:Nat) (e3:Bool) {G:Type} (J:G→Int→Zab→Prop) (m:G→Nat)
 (hr:∀ (g:G) (x4:Int) (h:Zab),J g x4 h→∀ (R3:T3),(∀ g' (x4:Int) (h:Zab),m g' < m g→J g' x4 h→R3 a0 n0 c0 e0 a3 n3 c3 e3 x4 h)→L3t Q R3 a0 n0 c0 e0 a3 n3 c3 e3 x4 h)
 (g:G) (x4:Int) (h:Zab) (hj:J g x4 h):L3 Q a0 n0 c0 e0 a3 n3 c3 e3 x4 h:=by
 let P:=fun (K:Int→Zab→Prop) a0' n0' c0' e0' a3' n3' c3' e3' x4 h=>a0=a0'∧n0=n0'∧c0=c0'∧e0=e0'∧a3=a3'∧n3=n3'∧c3=c3'∧e3=e3'∧K x4 h
 refine Zfd.inv2 (fun g=>E3 (P (J g))) (fun g=>E3 (P fun x4 h=>∃ g',m g' < m g∧J g' x4 h)) m ?_ ?_ g ⟨rfl,rfl,rfl,rfl,rfl,rfl,rfl,rfl,hj⟩
 ·intro g env h hi
  obtain ⟨a0',n0',c0',e0',a3',n3',c3',e3',x4,rfl,rfl,rfl,rfl,rfl,rfl,rfl,rfl,rfl,hj⟩:=Zhi hi
  exact Zpg Q _ a0 n0 c0 e0 a3 n3 c3 e3 x4 h (hr g x4 h hj (P fun x4 h=>∃ g',m g' < m g∧J g' x4 h) fun g' x4 h hlt hj=>⟨rfl,rfl,rfl,rfl,rfl,rfl,rfl,rfl,g',hlt,hj⟩)
 ·intro g env h hi
  obtain ⟨a0',n0',c0',e0',a3',n3',c3',e3',x4,rfl,rfl,rfl,rfl,rfl,rfl,rfl,rfl,rfl,g',hlt,hj⟩:=Zhi hi
  exact ⟨g',hlt,rfl,rfl,rfl,rfl,rfl,rfl,rfl,rfl,hj⟩
theorem A3x0i (Q:QT) (a3:Pt) (n3 c3:Nat) (e3:Bool) (h:Zab) (ht :
 Q (.slice a3 n3 c3 e3) h):Zsm Q a3 n3 c3 e3 h:=
 At.mk (cast (by kernel_rfl) ht)
theorem call (a0:Pt) (n0 c0:Nat) (e0:Bool) (h:Zab) (Q:QT) (ht :
 IntKind.i64=IntKind.i64∧(IntKind.i64=IntKind.i64∧((0≤((((n0:Nat):Int)):Int)∧((((n0:Nat):Int)):Int)≤(((n0:Nat):Int))∧((((n0:Nat):Int)):Int) * (((56:Nat):Int) + 1)≤140737488355328)∧(Zdd (h ++ [.cells Zaa (reps (Int.toNat ((((n0:Nat):Int)))) [.str [],.str [],.slice none 0 0 true]) false]) fun A=>L3 Q a0 n0 c0 e0 (h.length,0) (Int.toNat ((((n0:Nat):Int)))) (Int.toNat ((((n0:Nat):Int)))) true 0 A)))):Zag pg Zhs [.slice a0 n0 c0 e0] h Q:=
 Zag.of_body kp (c:=cod fn) (fn:=fn) Go.Proofs.Try.func22 (by kernel_rfl) (by kernel_rfl) (Nat.le_of_ble_eq_true (by kernel_rfl))
  (cast (by kernel_rfl) ht)
end Zel
namespace Znj
noncomputable abbrev fn:Func:=Go.Proofs.Try.f7
def kp:Zcs:=[]
noncomputable def C (p:List Nat):Code:=(cod fn).sub p
def KR (Q:QT):KT:=Zfq pg fn.results.toList Q
theorem call (a0x0:Pt) (n0x0 c0x0:Nat) (e0x0:Bool) (a0x1:Pt) (n0x1 c0x1:Nat) (e0x1:Bool) (h:Zab) (Q:QT) (ht :
 Zdd (h ++ [.cells Zcz [.slice a0x0 n0x0 c0x0 e0x0,.slice a0x1 n0x1 c0x1 e0x1] false]) fun A=>Zdd (A ++ [.cells Zac [.slice none 0 0 true,.slice none 0 0 true] false]) fun B=>Zdd (B ++ [.cells Zac [.slice none 0 0 true,.slice none 0 0 true] false]) fun C=>xSl (Zaf C (.ptr (h.length,0 + 0))) fun D E F G=>Zag pg Zjm [.slice D E F G] C fun C D=>
 xSl C fun C E F G=>Zbk (Zaw D (.ptr (B.length,0 + 0)) [.slice C E F G]) fun C=>xSl (Zaf C (.ptr (h.length,0 + 1))) fun D E F G=>Zag pg Zhs [.slice D E F G] C fun C D=>
 xSl C fun C E F G=>Zbk (Zaw D (.ptr (B.length,0 + 1)) [.slice C E F G]) fun C=>Zca (Zax C (.ptr (B.length,0)) 2) fun B=>Zad B fun B D=>xSl B fun B E F G=>Zad D fun D H=>xSl D fun D I J K=>Zbq H (Zbk (Zaw C (.ptr (A.length,0)) [.slice B E F G,.slice D I J K]) fun B=>Zca (Zax B (.ptr (A.length,0)) 2) fun A=>Zad A fun A C=>xSl A fun A D E F=>Zad C fun C G=>xSl C fun C H I J=>Zbq G (Q (.agg [.slice A D E F,.slice C H I J]) B))):Zag pg Zde [.agg [.slice a0x0 n0x0 c0x0 e0x0,.slice a0x1 n0x1 c0x1 e0x1]] h Q:=
 Zag.of_body kp (c:=cod fn) (fn:=fn) Go.Proofs.Try.func7 (by kernel_rfl) (by kernel_rfl) (Nat.le_of_ble_eq_true (by kernel_rfl))
  (cast (by kernel_rfl) ht)
end Znj
namespace Zky
noncomputable abbrev fn:Func:=Go.Proofs.Try.f11
def kp:Zcs:=[]
noncomputable def C (p:List Nat):Code:=(cod fn).sub p
def KR (Q:QT):KT:=Zfq pg fn.results.toList Q
theorem call (x0x0 x0x1:List Nat) (a0x2:Pt) (n0x2 c0x2:Nat) (e0x2:Bool) (x1x0 x1x1:List Nat) (a1x2:Pt) (n1x2 c1x2:Nat) (e1x2:Bool) (h:Zab) (Q:QT) (ht :
 Zdd (h ++ [.cells Zaa [.str x0x0,.str x0x1,.slice a0x2 n0x2 c0x2 e0x2] false]) fun A=>Zdd (A ++ [.cells Zaa [.str x1x0,.str x1x1,.slice a1x2 n1x2 c1x2 e1x2] false]) fun B=>Zca (Zax B (.ptr (h.length,0 + 0)) 2) fun C=>Zad C fun C D=>Zbt C fun C=>Zad D fun D E=>Zbt D fun D=>Zbq E (Zca (Zax B (.ptr (A.length,0 + 0)) 2) fun E=>Zad E fun E F=>Zbt E fun E=>Zad F fun F G=>Zbt F fun F=>Zbq G (Zag pg Zjb [.agg [.str C,.str D],.agg [.str E,.str F]] B fun B C=>
 Zbw B fun B=>bcase (!B) (Q (.bool false) C) (xSl (Zaf C (.ptr (h.length,0 + 2))) fun B D E F=>xSl (Zaf C (.ptr (A.length,0 + 2))) fun A G H I=>Zag pg Zkc [.slice B D E F,.slice A G H I] C fun A B=>
 Zbw A fun A=>bcase (!A) (Q (.bool false) B) (Q (.bool true) B))))):Zag pg Zgd [.agg [.str x0x0,.str x0x1,.slice a0x2 n0x2 c0x2 e0x2],.agg [.str x1x0,.str x1x1,.slice a1x2 n1x2 c1x2 e1x2]] h Q:=
 Zag.of_body kp (c:=cod fn) (fn:=fn) Go.Proofs.Try.func11 (by kernel_rfl) (by kernel_rfl) (Nat.le_of_ble_eq_true (by kernel_rfl))
  (cast (by kernel_rfl) ht)
end Zky
namespace Zen
noncomputable abbrev fn:Func:=Go.Proofs.Try.f29
def kp:Zcs:=[(3000004,[4]),(1000004,[0,1,5]),(2000006,[26,5,0,1])]
noncomputable def C (p:List Nat):Code:=(cod fn).sub p
def KR (Q:QT):KT:=Zfq pg fn.results.toList Q
abbrev T4:=Pt→Nat→Nat→Bool→Pt→Nat→Nat→Bool→Int→Zab→Prop
def E4 (R4:T4) (env:Env) (h:Zab):Prop:=Zda 0 env fun v env=>xSl v fun a0 n0 c0 e0=>Zda 1 env fun v env=>xSl v fun a1 n1 c1 e1=>Zda 5 env fun v env=>Zfn .i64 v fun x5=>Zmb env (R4 a0 n0 c0 e0 a1 n1 c1 e1 x5 h)
theorem Zis {R4:T4} {env:Env} {h:Zab} (hi:E4 R4 env h):∃ a0,∃ n0,∃ c0,∃ e0,∃ a1,∃ n1,∃ c1,∃ e1,∃ x5,env=[(0,.slice a0 n0 c0 e0),(1,.slice a1 n1 c1 e1),(5,.int .i64 x5)]∧R4 a0 n0 c0 e0 a1 n1 c1 e1 x5 h:=by
 unfold E4 at hi
 repeat ((first | (have k:=Zas hi; clear hi; obtain ⟨_,_,e,hi⟩:=k) | (have k:=Zct hi; clear hi; obtain ⟨_,_,_,_,e,hi⟩:=k) | (have k:=Zbe hi; clear hi; obtain ⟨_,e,hi⟩:=k)); subst e)
 obtain ⟨rfl,hi⟩:=Zbz hi
 exact ⟨_,_,_,_,_,_,_,_,_,rfl,hi⟩
def K0 (Q:QT):KT:=andThen (fun env' h'=>(match kp.find 4000008 with | some ks=>Den pg fn.ntmps (C [1,1,1]) (env'.keep ks) h' (KR Q) | none=>den pg fn.ntmps kp (C [1,1,1]) env' h' (KR Q))) (KR Q)
def K1 (Q:QT):KT:=Zdm 0 (K0 Q)
def K2 (Q:QT):KT:=left kp 4 (K1 Q)
def K3 (Q:QT) (R4:T4):KT:=rnd ((kp.find 1000004).getD []) (E4 R4) (K2 Q)
def L4 (Q:QT) (a0:Pt) (n0 c0:Nat) (e0:Bool) (a1:Pt) (n1 c1:Nat) (e1:Bool) (x5:Int) (h:Zab):Prop:=Zfd (Den pg fn.ntmps (C [1,1,0,1,0,0])) ((kp.find 1000004).getD []) (K2 Q) [(0,.slice a0 n0 c0 e0),(1,.slice a1 n1 c1 e1),(5,.int .i64 x5)] h
def Zva (Q:QT) (h:Zab):Prop:=At (K1 Q) (.exit 0) [(4,.undef)] h
def L4t (Q:QT) (R4:T4) (a0:Pt) (n0 c0:Nat) (e0:Bool) (a1:Pt) (n1 c1:Nat) (e1:Bool) (x5:Int) (h:Zab):Prop:=
 bcase (decide ((x5:Int) < (((n0:Nat):Int)))) ((0≤(x5:Int)∧(x5:Int) < (n0:Nat))∧(Zcg a0 fun A B=>(0≤(x5:Int)∧(x5:Int) < (n1:Nat))∧(Zcg a1 fun C D=>Zca (Zax h (.ptr (A,B + (Int.toNat x5) * 3)) 3) fun E=>Zad E fun E F=>Zbt E fun E=>Zad F fun F G=>Zbt F fun F=>Zad G fun G H=>xSl G fun G I J K=>Zbq H (Zca (Zax h (.ptr (C,D + (Int.toNat x5) * 3)) 3) fun C=>Zad C fun C D=>Zbt C fun C=>Zad D fun D H=>Zbt D fun D=>Zad H fun H L=>xSl H fun H M N O=>Zbq L ((Zax h (.ptr (A,B + (Int.toNat x5) * 3)) 3=Zax h (.ptr (A,B + (Int.toNat x5) * 3)) 3)∧Zag pg Zgd [.agg [.str E,.str F,.slice G I J K],.agg [.str C,.str D,.slice H M N O]] h fun A B=>
 Zbw A fun A=>bcase (!A) (Q (.bool false) B) (R4 a0 n0 c0 e0 a1 n1 c1 e1 (IntKind.wrap .i64 (x5 + 1)) B)))))) (Zva Q h)
theorem Zqe (Q:QT) (R4:T4) (a0:Pt) (n0 c0:Nat) (e0:Bool) (a1:Pt) (n1 c1:Nat) (e1:Bool) (x5:Int) (h:Zab) (ht:L4t Q R4 a0 n0 c0 e0 a1 n1 c1 e1 x5 h):Den pg fn.ntmps (C [1,1,0,1,0,0]) [(0,.slice a0 n0 c0 e0),(1,.slice a1 n1 c1 e1),(5,.int .i64 x5)] h (K3 Q R4):=
 Zbs (kp:=kp) (cast (by kernel_rfl) ht)
theorem L4ind (Q:QT) (a0:Pt) (n0 c0:Nat) (e0:Bool) (a1:Pt) (n1 c1:Nat) (e1:Bool) {G:Type} (J:G→Int→Zab→Prop) (m:G→Nat)
 (hr:∀ (g:G) (x5:Int) (h:Zab),J g x5 h→∀ (R4:T4),(∀ g' (x5:Int) (h:Zab),m g' < m g→J g' x5 h→R4 a0 n0 c0 e0 a1 n1 c1 e1 x5 h)→L4t Q R4 a0 n0 c0 e0 a1 n1 c1 e1 x5 h)
 (g:G) (x5:Int) (h:Zab) (hj:J g x5 h):L4 Q a0 n0 c0 e0 a1 n1 c1 e1 x5 h:=by
 let P:=fun (K:Int→Zab→Prop) a0' n0' c0' e0' a1' n1' c1' e1' x5 h=>a0=a0'∧n0=n0'∧c0=c0'∧e0=e0'∧a1=a1'∧n1=n1'∧c1=c1'∧e1=e1'∧K x5 h
 refine Zfd.inv2 (fun g=>E4 (P (J g))) (fun g=>E4 (P fun x5 h=>∃ g',m g' < m g∧J g' x5 h)) m ?_ ?_ g ⟨rfl,rfl,rfl,rfl,rfl,rfl,rfl,rfl,hj⟩
 ·intro g env h hi
  obtain ⟨a0',n0',c0',e0',a1',n1',c1',e1',x5,rfl,rfl,rfl,rfl,rfl,rfl,rfl,rfl,rfl,hj⟩:=Zis hi
  exact Zqe Q _ a0 n0 c0 e0 a1 n1 c1 e1 x5 h (hr g x5 h hj (P fun x5 h=>∃ g',m g' < m g∧J g' x5 h) fun g' x5 h hlt hj=>⟨rfl,rfl,rfl,rfl,rfl,rfl,rfl,rfl,g',hlt,hj⟩)
 ·intro g env h hi
  obtain ⟨a0',n0',c0',e0',a1',n1',c1',e1',x5,rfl,rfl,rfl,rfl,rfl,rfl,rfl,rfl,rfl,g',hlt,hj⟩:=Zis hi
  exact ⟨g',hlt,rfl,rfl,rfl,rfl,rfl,rfl,rfl,rfl,hj⟩
theorem A4x0i (Q:QT) (h:Zab) (ht :
 Q (.bool true) h):Zva Q h:=
 At.mk (cast (by kernel_rfl) ht)
theorem call (a0:Pt) (n0 c0:Nat) (e0:Bool) (a1:Pt) (n1 c1:Nat) (e1:Bool) (h:Zab) (Q:QT) (ht :
 bcase (!((((n0:Nat):Int):Int) == (((n1:Nat):Int)))) (Q (.bool false) h) (L4 Q a0 n0 c0 e0 a1 n1 c1 e1 0 h)):Zag pg Zhy [.slice a0 n0 c0 e0,.slice a1 n1 c1 e1] h Q:=
 Zag.of_body kp (c:=cod fn) (fn:=fn) Go.Proofs.Try.func29 (by kernel_rfl) (by kernel_rfl) (Nat.le_of_ble_eq_true (by kernel_rfl))
  (cast (by kernel_rfl) ht)
end Zen
namespace Zni
noncomputable abbrev fn:Func:=Go.Proofs.Try.f10
def kp:Zcs:=[]
noncomputable def C (p:List Nat):Code:=(cod fn).sub p
def KR (Q:QT):KT:=Zfq pg fn.results.toList Q
theorem call (a0x0:Pt) (n0x0 c0x0:Nat) (e0x0:Bool) (a0x1:Pt) (n0x1 c0x1:Nat) (e0x1:Bool) (a1x0:Pt) (n1x0 c1x0:Nat) (e1x0:Bool) (a1x1:Pt) (n1x1 c1x1:Nat) (e1x1:Bool) (h:Zab) (Q:QT) (ht :
 Zdd (h ++ [.cells Zac [.slice a0x0 n0x0 c0x0 e0x0,.slice a0x1 n0x1 c0x1 e0x1] false]) fun A=>Zdd (A ++ [.cells Zac [.slice a1x0 n1x0 c1x0 e1x0,.slice a1x1 n1x1 c1x1 e1x1] false]) fun B=>xSl (Zaf B (.ptr (h.length,0 + 0))) fun C D E F=>xSl (Zaf B (.ptr (A.length,0 + 0))) fun G H I J=>Zag pg Zjp [.slice C D E F,.slice G H I J] B fun B C=>
 Zbw B fun B=>bcase (!B) (Q (.bool false) C) (xSl (Zaf C (.ptr (h.length,0 + 1))) fun B D E F=>xSl (Zaf C (.ptr (A.length,0 + 1))) fun A G H I=>Zag pg Zhy [.slice B D E F,.slice A G H I] C fun A B=>
 Zbw A fun A=>bcase (!A) (Q (.bool false) B) (Q (.bool true) B))):Zag pg Zcv [.agg [.slice a0x0 n0x0 c0x0 e0x0,.slice a0x1 n0x1 c0x1 e0x1],.agg [.slice a1x0 n1x0 c1x0 e1x0,.slice a1x1 n1x1 c1x1 e1x1]] h Q:=
 Zag.of_body kp (c:=cod fn) (fn:=fn) Go.Proofs.Try.func10 (by kernel_rfl) (by kernel_rfl) (Nat.le_of_ble_eq_true (by kernel_rfl))
  (cast (by kernel_rfl) ht)
end Zni
end Go.Sim

set_option maxRecDepth 100000
set_option maxHeartbeats 0
set_option linter.unusedVariables false
namespace Go.Sim
open Go Go.RowKit
namespace Zkp
noncomputable abbrev fn:Func:=Go.Proofs.Try.f5
def kp:Zcs:=[]
noncomputable def C (p:List Nat):Code:=(cod fn).sub p
def KR (Q:QT):KT:=Zfq pg fn.results.toList Q
theorem call (x0x0 x0x1:List Nat) (a0x2:Pt) (n0x2 c0x2:Nat) (e0x2:Bool) (x1:Int) (h:Zab) (Q:QT) (ht :
 Zdd (h ++ [.cells Zce [.str x0x0,.str x0x1,.slice a0x2 n0x2 c0x2 e0x2] false]) fun A=>Zca (Zax A (.ptr (h.length,0 + 0)) 2) fun B=>Zad B fun B C=>Zbt B fun B=>Zad C fun C D=>Zbt C fun C=>Zbq D (Zag pg Zjc [.agg [.str B,.str C],.int .i64 x1] A fun A B=>
 Zgn .i64 A fun A=>bcase (decide ((A:Int) < 0)) (Q (.int .i64 (-1)) B) (xSl (Zaf B (.ptr (h.length,0 + 2))) fun C D E F=>Zag pg Zkk [.slice C D E F,.int .i64 A] B fun A B=>
 Zgn .i64 A fun A=>bcase (decide ((A:Int) < 0)) (Q (.int .i64 (-1)) B) (Q (.int .i64 A) B)))):Zag pg Zgf [.agg [.str x0x0,.str x0x1,.slice a0x2 n0x2 c0x2 e0x2],.int .i64 x1] h Q:=
 Zag.of_body kp (c:=cod fn) (fn:=fn) Go.Proofs.Try.func5 (by kernel_rfl) (by kernel_rfl) (Nat.le_of_ble_eq_true (by kernel_rfl))
  (cast (by kernel_rfl) ht)
end Zkp
namespace Zek
noncomputable abbrev fn:Func:=Go.Proofs.Try.f16
def kp:Zcs:=[(3000005,[1,4]),(1000005,[0,1,5])]
noncomputable def C (p:List Nat):Code:=(cod fn).sub p
def KR (Q:QT):KT:=Zfq pg fn.results.toList Q
abbrev T5:=Pt→Nat→Nat→Bool→Int→Int→Zab→Prop
def E5 (R5:T5) (env:Env) (h:Zab):Prop:=Zda 0 env fun v env=>xSl v fun a0 n0 c0 e0=>Zda 1 env fun v env=>Zfn .i64 v fun x1=>Zda 5 env fun v env=>Zfn .i64 v fun x5=>Zmb env (R5 a0 n0 c0 e0 x1 x5 h)
theorem Zjy {R5:T5} {env:Env} {h:Zab} (hi:E5 R5 env h):∃ a0,∃ n0,∃ c0,∃ e0,∃ x1,∃ x5,env=[(0,.slice a0 n0 c0 e0),(1,.int .i64 x1),(5,.int .i64 x5)]∧R5 a0 n0 c0 e0 x1 x5 h:=by
 unfold E5 at hi
 repeat ((first | (have k:=Zas hi; clear hi; obtain ⟨_,_,e,hi⟩:=k) | (have k:=Zct hi; clear hi; obtain ⟨_,_,_,_,e,hi⟩:=k) | (have k:=Zbe hi; clear hi; obtain ⟨_,e,hi⟩:=k)); subst e)
 obtain ⟨rfl,hi⟩:=Zbz hi
 exact ⟨_,_,_,_,_,_,rfl,hi⟩
def K0 (Q:QT):KT:=andThen (fun env' h'=>(match kp.find 4000010 with | some ks=>Den pg fn.ntmps (C [1,1,1,1]) (env'.keep ks) h' (KR Q) | none=>den pg fn.ntmps kp (C [1,1,1,1]) env' h' (KR Q))) (KR Q)
def K1 (Q:QT):KT:=Zdm 0 (K0 Q)
def K2 (Q:QT):KT:=left kp 5 (K1 Q)
def K3 (Q:QT) (R5:T5):KT:=rnd ((kp.find 1000005).getD []) (E5 R5) (K2 Q)
def L5 (Q:QT) (a0:Pt) (n0 c0:Nat) (e0:Bool) (x1 x5:Int) (h:Zab):Prop:=Zfd (Den pg fn.ntmps (C [1,1,1,0,1,0,0])) ((kp.find 1000005).getD []) (K2 Q) [(0,.slice a0 n0 c0 e0),(1,.int .i64 x1),(5,.int .i64 x5)] h
def A5x0 (Q:QT) (x1:Int) (h:Zab):Prop:=At (K1 Q) (.exit 0) [(1,.int .i64 x1),(4,.undef)] h
def L5t (Q:QT) (R5:T5) (a0:Pt) (n0 c0:Nat) (e0:Bool) (x1 x5:Int) (h:Zab):Prop:=
 bcase (decide ((x5:Int) < (((n0:Nat):Int)))) ((0≤(x5:Int)∧(x5:Int) < (n0:Nat))∧(Zcg a0 fun A B=>Zca (Zax h (.ptr (A,B + (Int.toNat x5) * 3)) 3) fun A=>Zad A fun A B=>Zbt A fun A=>Zad B fun B C=>Zbt B fun B=>Zad C fun C D=>xSl C fun C E F G=>Zbq D (Zag pg Zgf [.agg [.str A,.str B,.slice C E F G],.int .i64 x1] h fun A B=>
 Zgn .i64 A fun A=>bcase (decide ((A:Int) < 0)) (Q (.int .i64 (-1)) B) (R5 a0 n0 c0 e0 A (IntKind.wrap .i64 (x5 + 1)) B)))) (A5x0 Q x1 h)
theorem Ztg (Q:QT) (R5:T5) (a0:Pt) (n0 c0:Nat) (e0:Bool) (x1 x5:Int) (h:Zab) (ht:L5t Q R5 a0 n0 c0 e0 x1 x5 h):Den pg fn.ntmps (C [1,1,1,0,1,0,0]) [(0,.slice a0 n0 c0 e0),(1,.int .i64 x1),(5,.int .i64 x5)] h (K3 Q R5):=
 Zbs (kp:=kp) (cast (by kernel_rfl) ht)
theorem L5ind (Q:QT) (a0:Pt) (n0 c0:Nat) (e0:Bool) {G:Type} (J:G→Int→Int→Zab→Prop) (m:G→Nat)
 (hr:∀ (g:G) (x1 x5:Int) (h:Zab),J g x1 x5 h→∀ (R5:T5),(∀ g' (x1 x5:Int) (h:Zab),m g' < m g→J g' x1 x5 h→R5 a0 n0 c0 e0 x1 x5 h)→L5t Q R5 a0 n0 c0 e0 x1 x5 h)
 (g:G) (x1 x5:Int) (h:Zab) (hj:J g x1 x5 h):L5 Q a0 n0 c0 e0 x1 x5 h:=by
 let P:=fun (K:Int→Int→Zab→Prop) a0' n0' c0' e0' x1 x5 h=>a0=a0'∧n0=n0'∧c0=c0'∧e0=e0'∧K x1 x5 h
 refine Zfd.inv2 (fun g=>E5 (P (J g))) (fun g=>E5 (P fun x1 x5 h=>∃ g',m g' < m g∧J g' x1 x5 h)) m ?_ ?_ g ⟨rfl,rfl,rfl,rfl,hj⟩
 ·intro g env h hi
  obtain ⟨a0',n0',c0',e0',x1,x5,rfl,rfl,rfl,rfl,rfl,hj⟩:=Zjy hi
  exact Ztg Q _ a0 n0 c0 e0 x1 x5 h (hr g x1 x5 h hj (P fun x1 x5 h=>∃ g',m g' < m g∧J g' x1 x5 h) fun g' x1 x5 h hlt hj=>⟨rfl,rfl,rfl,rfl,g',hlt,hj⟩)
 ·intro g env h hi
  obtain ⟨a0',n0',c0',e0',x1,x5,rfl,rfl,rfl,rfl,rfl,g',hlt,hj⟩:=Zjy hi
  exact ⟨g',hlt,rfl,rfl,rfl,rfl,hj⟩
theorem A5x0i (Q:QT) (x1:Int) (h:Zab) (ht :
 Q (.int .i64 x1) h):A5x0 Q x1 h:=
 At.mk (cast (by kernel_rfl) ht)
theorem call (a0:Pt) (n0 c0:Nat) (e0:Bool) (x1:Int) (h:Zab) (Q:QT) (ht :
 bcase (decide (((IntKind.wrap .i64 (x1 - (((n0:Nat):Int)))):Int) < 0)) (Q (.int .i64 (-1)) h) (L5 Q a0 n0 c0 e0 (IntKind.wrap .i64 (x1 - (((n0:Nat):Int)))) 0 h)):Zag pg Zhp [.slice a0 n0 c0 e0,.int .i64 x1] h Q:=
 Zag.of_body kp (c:=cod fn) (fn:=fn) Go.Proofs.Try.func16 (by kernel_rfl) (by kernel_rfl) (Nat.le_of_ble_eq_true (by kernel_rfl))
  (cast (by kernel_rfl) ht)
end Zek
namespace Znk
noncomputable abbrev fn:Func:=Go.Proofs.Try.f4
def kp:Zcs:=[]
noncomputable def C (p:List Nat):Code:=(cod fn).sub p
def KR (Q:QT):KT:=Zfq pg fn.results.toList Q
theorem call (a0x0:Pt) (n0x0 c0x0:Nat) (e0x0:Bool) (a0x1:Pt) (n0x1 c0x1:Nat) (e0x1:Bool) (x1:Int) (h:Zab) (Q:QT) (ht :
 Zdd (h ++ [.cells Zcz [.slice a0x0 n0x0 c0x0 e0x0,.slice a0x1 n0x1 c0x1 e0x1] false]) fun A=>xSl (Zaf A (.ptr (h.length,0 + 0))) fun B C D E=>Zag pg Zjn [.slice B C D E,.int .i64 x1] A fun A B=>
 Zgn .i64 A fun A=>bcase (decide ((A:Int) < 0)) (Q (.int .i64 (-1)) B) (xSl (Zaf B (.ptr (h.length,0 + 1))) fun C D E F=>Zag pg Zhp [.slice C D E F,.int .i64 A] B fun A B=>
 Zgn .i64 A fun A=>bcase (decide ((A:Int) < 0)) (Q (.int .i64 (-1)) B) (Q (.int .i64 A) B))):Zag pg Zkd [.agg [.slice a0x0 n0x0 c0x0 e0x0,.slice a0x1 n0x1 c0x1 e0x1],.int .i64 x1] h Q:=
 Zag.of_body kp (c:=cod fn) (fn:=fn) Go.Proofs.Try.func4 (by kernel_rfl) (by kernel_rfl) (Nat.le_of_ble_eq_true (by kernel_rfl))
  (cast (by kernel_rfl) ht)
end Znk
namespace Zkq
noncomputable abbrev fn:Func:=Go.Proofs.Try.f8
def kp:Zcs:=[]
noncomputable def C (p:List Nat):Code:=(cod fn).sub p
def KR (Q:QT):KT:=Zfq pg fn.results.toList Q
theorem call (x0x0 x0x1:List Nat) (a0x2:Pt) (n0x2 c0x2:Nat) (e0x2:Bool) (h:Zab) (Q:QT) (ht :
 Zdd (h ++ [.cells Zce [.str x0x0,.str x0x1,.slice a0x2 n0x2 c0x2 e0x2] false]) fun A=>Zdd (A ++ [.cells Zaa [.str [],.str [],.slice none 0 0 true] false]) fun B=>Zdd (B ++ [.cells Zaa [.str [],.str [],.slice none 0 0 true] false]) fun C=>Zca (Zax C (.ptr (h.length,0 + 0)) 2) fun D=>Zad D fun D E=>Zbt D fun D=>Zad E fun E F=>Zbt E fun E=>Zbq F (Zag pg Zjd [.agg [.str D,.str E]] C fun C D=>
 Zim C fun C=>Zad C fun C E=>Zbt C fun C=>Zad E fun E F=>Zbt E fun E=>Zbq F (Zbk (Zaw D (.ptr (B.length,0 + 0)) [.str C,.str E]) fun C=>xSl (Zaf C (.ptr (h.length,0 + 2))) fun D E F G=>Zag pg Zkb [.slice D E F G] C fun C D=>
 xSl C fun C E F G=>Zbk (Zaw D (.ptr (B.length,0 + 2)) [.slice C E F G]) fun C=>Zca (Zax C (.ptr (B.length,0)) 3) fun B=>Zad B fun B D=>Zbt B fun B=>Zad D fun D E=>Zbt D fun D=>Zad E fun E F=>xSl E fun E G H I=>Zbq F (Zbk (Zaw C (.ptr (A.length,0)) [.str B,.str D,.slice E G H I]) fun B=>Zca (Zax B (.ptr (A.length,0)) 3) fun A=>Zad A fun A C=>Zbt A fun A=>Zad C fun C D=>Zbt C fun C=>Zad D fun D E=>xSl D fun D F G H=>Zbq E (Q (.agg [.str A,.str C,.slice D F G H]) B))))):Zag pg Zby [.agg [.str x0x0,.str x0x1,.slice a0x2 n0x2 c0x2 e0x2]] h Q:=
 Zag.of_body kp (c:=cod fn) (fn:=fn) Go.Proofs.Try.func8 (by kernel_rfl) (by kernel_rfl) (Nat.le_of_ble_eq_true (by kernel_rfl))
  (cast (by kernel_rfl) ht)
end Zkq
end Go.Sim

set_option maxRecDepth 100000
set_option maxHeartbeats 0
set_option linter.unusedVariables false
namespace Go.Sim
open Go Go.RowKit
namespace Znl
noncomputable abbrev fn:Func:=Go.Proofs.Try.f37
def kp:Zcs:=[]
noncomputable def C (p:List Nat):Code:=(cod fn).sub p
def KR (Q:QT):KT:=Zfq pg fn.results.toList Q
theorem call (x0x0 x0x1:List Nat) (x1:Int) (h:Zab) (Q:QT) (ht :
 Zdd (h ++ [.cells Zmi [.str x0x0,.str x0x1] false]) fun A=>Zbt (Zaf A (.ptr (h.length,0 + 0))) fun B=>bcase (decide (((IntKind.wrap .i64 (x1 - (((List.length B:Nat):Int)))):Int) < 0)) (Q (.int .i64 (-1)) A) (Zbt (Zaf A (.ptr (h.length,0 + 1))) fun C=>bcase (decide (((IntKind.wrap .i64 ((IntKind.wrap .i64 (x1 - (((List.length B:Nat):Int)))) - (((List.length C:Nat):Int)))):Int) < 0)) (Q (.int .i64 (-1)) A) (Q (.int .i64 (IntKind.wrap .i64 ((IntKind.wrap .i64 (x1 - (((List.length B:Nat):Int)))) - (((List.length C:Nat):Int))))) A))):Zag pg Zkf [.agg [.str x0x0,.str x0x1],.int .i64 x1] h Q:=
 Zag.of_body kp (c:=cod fn) (fn:=fn) Go.Proofs.Try.func37 (by kernel_rfl) (by kernel_rfl) (Nat.le_of_ble_eq_true (by kernel_rfl))
  (cast (by kernel_rfl) ht)
end Znl
namespace Znp
noncomputable abbrev fn:Func:=Go.Proofs.Try.f47
def kp:Zcs:=[]
noncomputable def C (p:List Nat):Code:=(cod fn).sub p
def KR (Q:QT):KT:=Zfq pg fn.results.toList Q
theorem call (x0x0 x0x1 x1x0 x1x1:List Nat) (h:Zab) (Q:QT) (ht :
 Zdd (h ++ [.cells Zat [.str x0x0,.str x0x1] false]) fun A=>Zdd (A ++ [.cells Zat [.str x1x0,.str x1x1] false]) fun B=>Zbt (Zaf B (.ptr (h.length,0 + 0))) fun C=>Zbt (Zaf B (.ptr (A.length,0 + 0))) fun D=>bcase (!(decide (C=D))) (Q (.bool false) B) (Zbt (Zaf B (.ptr (h.length,0 + 1))) fun C=>Zbt (Zaf B (.ptr (A.length,0 + 1))) fun A=>bcase (!(decide (C=A))) (Q (.bool false) B) (Q (.bool true) B))):Zag pg Zki [.agg [.str x0x0,.str x0x1],.agg [.str x1x0,.str x1x1]] h Q:=
 Zag.of_body kp (c:=cod fn) (fn:=fn) Go.Proofs.Try.func47 (by kernel_rfl) (by kernel_rfl) (Nat.le_of_ble_eq_true (by kernel_rfl))
  (cast (by kernel_rfl) ht)
end Znp
namespace Zno
noncomputable abbrev fn:Func:=Go.Proofs.Try.f41
def kp:Zcs:=[]
noncomputable def C (p:List Nat):Code:=(cod fn).sub p
def KR (Q:QT):KT:=Zfq pg fn.results.toList Q
theorem call (x0x0 x0x1:List Nat) (h:Zab) (Q:QT) (ht :
 Zdd (h ++ [.cells Zmi [.str x0x0,.str x0x1] false]) fun A=>Zdd (A ++ [.cells Zat [.str [],.str []] false]) fun B=>Zdd (B ++ [.cells Zat [.str [],.str []] false]) fun C=>Zbt (Zaf C (.ptr (h.length,0 + 0))) fun D=>Zbk (Zaw C (.ptr (B.length,0 + 0)) [.str D]) fun C=>Zbt (Zaf C (.ptr (h.length,0 + 1))) fun D=>Zbk (Zaw C (.ptr (B.length,0 + 1)) [.str D]) fun C=>Zca (Zax C (.ptr (B.length,0)) 2) fun B=>Zad B fun B D=>Zbt B fun B=>Zad D fun D E=>Zbt D fun D=>Zbq E (Zbk (Zaw C (.ptr (A.length,0)) [.str B,.str D]) fun B=>Zca (Zax B (.ptr (A.length,0)) 2) fun A=>Zad A fun A C=>Zbt A fun A=>Zad C fun C D=>Zbt C fun C=>Zbq D (Q (.agg [.str A,.str C]) B))):Zag pg Zke [.agg [.str x0x0,.str x0x1]] h Q:=
 Zag.of_body kp (c:=cod fn) (fn:=fn) Go.Proofs.Try.func41 (by kernel_rfl) (by kernel_rfl) (Nat.le_of_ble_eq_true (by kernel_rfl))
  (cast (by kernel_rfl) ht)
end Zno
namespace Zft
noncomputable abbrev fn:Func:=Go.Proofs.Try.f15
def kp:Zcs:=[(3000005,[1,4]),(1000005,[0,1,5])]
noncomputable def C (p:List Nat):Code:=(cod fn).sub p
def KR (Q:QT):KT:=Zfq pg fn.results.toList Q
abbrev T5:=Pt→Nat→Nat→Bool→Int→Int→Zab→Prop
def E5 (R5:T5) (env:Env) (h:Zab):Prop:=Zda 0 env fun v env=>xSl v fun a0 n0 c0 e0=>Zda 1 env fun v env=>Zfn .i64 v fun x1=>Zda 5 env fun v env=>Zfn .i64 v fun x5=>Zmb env (R5 a0 n0 c0 e0 x1 x5 h)
theorem Zjy {R5:T5} {env:Env} {h:Zab} (hi:E5 R5 env h):∃ a0,∃ n0,∃ c0,∃ e0,∃ x1,∃ x5,env=[(0,.slice a0 n0 c0 e0),(1,.int .i64 x1),(5,.int .i64 x5)]∧R5 a0 n0 c0 e0 x1 x5 h:=by
 unfold E5 at hi
 repeat ((first | (have k:=Zas hi; clear hi; obtain ⟨_,_,e,hi⟩:=k) | (have k:=Zct hi; clear hi; obtain ⟨_,_,_,_,e,hi⟩:=k) | (have k:=Zbe hi; clear hi; obtain ⟨_,e,hi⟩:=k)); subst e)
 obtain ⟨rfl,hi⟩:=Zbz hi
 exact ⟨_,_,_,_,_,_,rfl,hi⟩
def K0 (Q:QT):KT:=andThen (fun env' h'=>(match kp.find 4000010 with | some ks=>Den pg fn.ntmps (C [1,1,1,1]) (env'.keep ks) h' (KR Q) | none=>den pg fn.ntmps kp (C [1,1,1,1]) env' h' (KR Q))) (KR Q)
def K1 (Q:QT):KT:=Zdm 0 (K0 Q)
def K2 (Q:QT):KT:=left kp 5 (K1 Q)
def K3 (Q:QT) (R5:T5):KT:=rnd ((kp.find 1000005).getD []) (E5 R5) (K2 Q)
def L5 (Q:QT) (a0:Pt) (n0 c0:Nat) (e0:Bool) (x1 x5:Int) (h:Zab):Prop:=Zfd (Den pg fn.ntmps (C [1,1,1,0,1,0,0])) ((kp.find 1000005).getD []) (K2 Q) [(0,.slice a0 n0 c0 e0),(1,.int .i64 x1),(5,.int .i64 x5)] h
def A5x0 (Q:QT) (x1:Int) (h:Zab):Prop:=At (K1 Q) (.exit 0) [(1,.int .i64 x1),(4,.undef)] h
def L5t (Q:QT) (R5:T5) (a0:Pt) (n0 c0:Nat) (e0:Bool) (x1 x5:Int) (h:Zab):Prop:=
 bcase (decide ((x5:Int) < (((n0:Nat):Int)))) ((0≤(x5:Int)∧(x5:Int) < (n0:Nat))∧(Zcg a0 fun A B=>Zca (Zax h (.ptr (A,B + (Int.toNat x5) * 2)) 2) fun A=>Zad A fun A B=>Zbt A fun A=>Zad B fun B C=>Zbt B fun B=>Zbq C (Zag pg Zkf [.agg [.str A,.str B],.int .i64 x1] h fun A B=>
 Zgn .i64 A fun A=>bcase (decide ((A:Int) < 0)) (Q (.int .i64 (-1)) B) (R5 a0 n0 c0 e0 A (IntKind.wrap .i64 (x5 + 1)) B)))) (A5x0 Q x1 h)
theorem Ztg (Q:QT) (R5:T5) (a0:Pt) (n0 c0:Nat) (e0:Bool) (x1 x5:Int) (h:Zab) (ht:L5t Q R5 a0 n0 c0 e0 x1 x5 h):Den pg fn.ntmps (C [1,1,1,0,1,0,0]) [(0,.slice a0 n0 c0 e0),(1,.int .i64 x1),(5,.int .i64 x5)] h (K3 Q R5):=
 Zbs (kp:=kp) (cast (by kernel_rfl) ht)
theorem L5ind (Q:QT) (a0:Pt) (n0 c0:Nat) (e0:Bool) {G:Type} (J:G→Int→Int→Zab→Prop) (m:G→Nat)
 (hr:∀ (g:G) (x1 x5:Int) (h:Zab),J g x1 x5 h→∀ (R5:T5),(∀ g' (x1 x5:Int) (h:Zab),m g' < m g→J g' x1 x5 h→R5 a0 n0 c0 e0 x1 x5 h)→L5t Q R5 a0 n0 c0 e0 x1 x5 h)
 (g:G) (x1 x5:Int) (h:Zab) (hj:J g x1 x5 h):L5 Q a0 n0 c0 e0 x1 x5 h:=by
 let P:=fun (K:Int→Int→Zab→Prop) a0' n0' c0' e0' x1 x5 h=>a0=a0'∧n0=n0'∧c0=c0'∧e0=e0'∧K x1 x5 h
 refine Zfd.inv2 (fun g=>E5 (P (J g))) (fun g=>E5 (P fun x1 x5 h=>∃ g',m g' < m g∧J g' x1 x5 h)) m ?_ ?_ g ⟨rfl,rfl,rfl,rfl,hj⟩
 ·intro g env h hi
  obtain ⟨a0',n0',c0',e0',x1,x5,rfl,rfl,rfl,rfl,rfl,hj⟩:=Zjy hi
  exact Ztg Q _ a0 n0 c0 e0 x1 x5 h (hr g x1 x5 h hj (P fun x1 x5 h=>∃ g',m g' < m g∧J g' x1 x5 h) fun g' x1 x5 h hlt hj=>⟨rfl,rfl,rfl,rfl,g',hlt,hj⟩)
 ·intro g env h hi
  obtain ⟨a0',n0',c0',e0',x1,x5,rfl,rfl,rfl,rfl,rfl,g',hlt,hj⟩:=Zjy hi
  exact ⟨g',hlt,rfl,rfl,rfl,rfl,hj⟩
theorem A5x0i (Q:QT) (x1:Int) (h:Zab) (ht :
 Q (.int .i64 x1) h):A5x0 Q x1 h:=
 At.mk (cast (by kernel_rfl) ht)
theorem call (a0:Pt) (n0 c0:Nat) (e0:Bool) (x1:Int) (h:Zab) (Q:QT) (ht :
 bcase (decide (((IntKind.wrap .i64 (x1 - (((n0:Nat):Int)))):Int) < 0)) (Q (.int .i64 (-1)) h) (L5 Q a0 n0 c0 e0 (IntKind.wrap .i64 (x1 - (((n0:Nat):Int)))) 0 h)):Zag pg Zjn [.slice a0 n0 c0 e0,.int .i64 x1] h Q:=
 Zag.of_body kp (c:=cod fn) (fn:=fn) Go.Proofs.Try.func15 (by kernel_rfl) (by kernel_rfl) (Nat.le_of_ble_eq_true (by kernel_rfl))
  (cast (by kernel_rfl) ht)
end Zft
namespace Zfx
noncomputable abbrev fn:Func:=Go.Proofs.Try.f21
def kp:Zcs:=[(3000003,[3]),(1000003,[0,3,4])]
noncomputable def C (p:List Nat):Code:=(cod fn).sub p
def KR (Q:QT):KT:=Zfq pg fn.results.toList Q
abbrev T3:=Pt→Nat→Nat→Bool→Pt→Nat→Nat→Bool→Int→Zab→Prop
def E3 (R3:T3) (env:Env) (h:Zab):Prop:=Zda 0 env fun v env=>xSl v fun a0 n0 c0 e0=>Zda 3 env fun v env=>xSl v fun a3 n3 c3 e3=>Zda 4 env fun v env=>Zfn .i64 v fun x4=>Zmb env (R3 a0 n0 c0 e0 a3 n3 c3 e3 x4 h)
theorem Zhi {R3:T3} {env:Env} {h:Zab} (hi:E3 R3 env h):∃ a0,∃ n0,∃ c0,∃ e0,∃ a3,∃ n3,∃ c3,∃ e3,∃ x4,env=[(0,.slice a0 n0 c0 e0),(3,.slice a3 n3 c3 e3),(4,.int .i64 x4)]∧R3 a0 n0 c0 e0 a3 n3 c3 e3 x4 h:=by
 unfold E3 at hi
 repeat ((first | (have k:=Zas hi; clear hi; obtain ⟨_,_,e,hi⟩:=k) | (have k:=Zct hi; clear hi; obtain ⟨_,_,_,_,e,hi⟩:=k) | (have k:=Zbe hi; clear hi; obtain ⟨_,e,hi⟩:=k)); subst e)
 obtain ⟨rfl,hi⟩:=Zbz hi
 exact ⟨_,_,_,_,_,_,_,_,_,rfl,hi⟩
def K0 (Q:QT):KT:=andThen (fun env' h'=>(match kp.find 4000006 with | some ks=>Den pg fn.ntmps (C [1,1,1]) (env'.keep ks) h' (KR Q) | none=>den pg fn.ntmps kp (C [1,1,1]) env' h' (KR Q))) (KR Q)
def K1 (Q:QT):KT:=Zdm 0 (K0 Q)
def K2 (Q:QT):KT:=left kp 3 (K1 Q)
def K3 (Q:QT) (R3:T3):KT:=rnd ((kp.find 1000003).getD []) (E3 R3) (K2 Q)
def L3 (Q:QT) (a0:Pt) (n0 c0:Nat) (e0:Bool) (a3:Pt) (n3 c3:Nat) (e3:Bool) (x4:Int) (h:Zab):Prop:=Zfd (Den pg fn.ntmps (C [1,1,0,1,0,0])) ((kp.find 1000003).getD []) (K2 Q) [(0,.slice a0 n0 c0 e0),(3,.slice a3 n3 c3 e3),(4,.int .i64 x4)] h
def Zsm (Q:QT) (a3:Pt) (n3 c3:Nat) (e3:Bool) (h:Zab):Prop:=At (K1 Q) (.exit 0) [(3,.slice a3 n3 c3 e3)] h
def L3t (Q:QT) (R3:T3) (a0:Pt) (n0 c0:Nat) (e0:Bool) (a3:Pt) (n3 c3:Nat) (e3:Bool) (x4:Int) (h:Zab):Prop:=
 bcase (decide ((x4:Int) < (((n0:Nat):Int)))) ((0≤(x4:Int)∧(x4:Int) < (n0:Nat))∧(Zcg a0 fun A B=>Zca (Zax h (.ptr (A,B + (Int.toNat x4) * 2)) 2) fun A=>Zad A fun A B=>Zbt A fun A=>Zad B fun B C=>Zbt B fun B=>Zbq C (Zag pg Zke [.agg [.str A,.str B]] h fun A B=>
 Zim A fun A=>Zad A fun A C=>Zbt A fun A=>Zad C fun C D=>Zbt C fun C=>Zbq D ((0≤(x4:Int)∧(x4:Int) < (n3:Nat))∧(Zcg a3 fun D E=>Zbk (Zaw B (.ptr (D,E + (Int.toNat x4) * 2)) [.str A,.str C]) fun A=>R3 a0 n0 c0 e0 a3 n3 c3 e3 (IntKind.wrap .i64 (x4 + 1)) A))))) (Zsm Q a3 n3 c3 e3 h)
theorem Zpg (Q:QT) (R3:T3) (a0:Pt) (n0 c0:Nat) (e0:Bool) (a3:Pt) (n3 c3:Nat) (e3:Bool) (x4:Int) (h:Zab) (ht:L3t Q R3 a0 n0 c0 e0 a3 n3 c3 e3 x4 h):Den pg fn.ntmps (C [1,1,0,1,0,0]) [(0,.slice a0 n0 c0 e0),(3,.slice a3 n3 c3 e3),(4,.int .i64 x4)] h (K3 Q R3):=
 Zbs (kp:=kp) (cast (by kernel_rfl) ht)
theorem L3ind (Q:QT) (a0:Pt) (n0 c0:Nat) (e0:Bool) (a3:Pt) (n3 c3:Nat) (e3:Bool) {G:Type} (J:G→Int→Zab→Prop) (m:G→Nat)
 (hr:∀ (g:G) (x4:Int) (h:Zab),J g x4 h→∀ (R3:T3),(∀ g' (x4:Int) (h:Zab),m g' < m g→J g' x4 h→R3 a0 n0 c0 e0 a3 n3 c3 e3 x4 h)→L3t Q R3 a0 n0 c0 e0 a3 n3 c3 e3 x4 h)
 (g:G) (x4:Int) (h:Zab) (hj:J g x4 h):L3 Q a0 n0 c0 e0 a3 n3 c3 e3 x4 h:=by
 let P:=fun (K:Int→Zab→Prop) a0' n0' c0' e0' a3' n3' c3' e3' x4 h=>a0=a0'∧n0=n0'∧c0=c0'∧e0=e0'∧a3=a3'∧n3=n3'∧c3=c3'∧e3=e3'∧K x4 h
 refine Zfd.inv2 (fun g=>E3 (P (J g))) (fun g=>E3 (P fun x4 h=>∃ g',m g' < m g∧J g' x4 h)) m ?_ ?_ g ⟨rfl,rfl,rfl,rfl,rfl,rfl,rfl,rfl,hj⟩
 ·intro g env h hi
  obtain ⟨a0',n0',c0',e0',a3',n3',c3',e3',x4,rfl,rfl,rfl,rfl,rfl,rfl,rfl,rfl,rfl,hj⟩:=Zhi hi
  exact Zpg Q _ a0 n0 c0 e0 a3 n3 c3 e3 x4 h (hr g x4 h hj (P fun x4 h=>∃ g',m g' < m g∧J g' x4 h) fun g' x4 h hlt hj=>⟨rfl,rfl,rfl,rfl,rfl,rfl,rfl,rfl,g',hlt,hj⟩)
 ·intro g env h hi
  obtain ⟨a0',n0',c0',e0',a3',n3',c3',e3',x4,rfl,rfl,rfl,rfl,rfl,rfl,rfl,rfl,rfl,g',hlt,hj⟩:=Zhi hi
  exact ⟨g',hlt,rfl,rfl,rfl,rfl,rfl,rfl,rfl,rfl,hj⟩
theorem A3x0i (Q:QT) (a3:Pt) (n3 c3:Nat) (e3:Bool) (h:Zab) (ht :
 Q (.slice a3 n3 c3 e3) h):Zsm Q a3 n3 c3 e3 h:=
 At.mk (cast (by kernel_rfl) ht)
theorem call (a0:Pt) (n0 c0:Nat) (e0:Bool) (h:Zab) (Q:QT) (ht :
 IntKind.i64=IntKind.i64∧(IntKind.i64=IntKind.i64∧((0≤((((n0:Nat):Int)):Int)∧((((n0:Nat):Int)):Int)≤(((n0:Nat):Int))∧((((n0:Nat):Int)):Int) * (((32:Nat):Int) + 1)≤140737488355328)∧(Zdd (h ++ [.cells Zat (reps (Int.toNat ((((n0:Nat):Int)))) [.str [],.str []]) false]) fun A=>L3 Q a0 n0 c0 e0 (h.length,0) (Int.toNat ((((n0:Nat):Int)))) (Int.toNat ((((n0:Nat):Int)))) true 0 A)))):Zag pg Zjm [.slice a0 n0 c0 e0] h Q:=
 Zag.of_body kp (c:=cod fn) (fn:=fn) Go.Proofs.Try.func21 (by kernel_rfl) (by kernel_rfl) (Nat.le_of_ble_eq_true (by kernel_rfl))
  (cast (by kernel_rfl) ht)
end Zfx
namespace Zga
noncomputable abbrev fn:Func:=Go.Proofs.Try.f28
def kp:Zcs:=[(3000004,[4]),(1000004,[0,1,5]),(2000006,[26,5,0,1])]
noncomputable def C (p:List Nat):Code:=(cod fn).sub p
def KR (Q:QT):KT:=Zfq pg fn.results.toList Q
abbrev T4:=Pt→Nat→Nat→Bool→Pt→Nat→Nat→Bool→Int→Zab→Prop
def E4 (R4:T4) (env:Env) (h:Zab):Prop:=Zda 0 env fun v env=>xSl v fun a0 n0 c0 e0=>Zda 1 env fun v env=>xSl v fun a1 n1 c1 e1=>Zda 5 env fun v env=>Zfn .i64 v fun x5=>Zmb env (R4 a0 n0 c0 e0 a1 n1 c1 e1 x5 h)
theorem Zis {R4:T4} {env:Env} {h:Zab} (hi:E4 R4 env h):∃ a0,∃ n0,∃ c0,∃ e0,∃ a1,∃ n1,∃ c1,∃ e1,∃ x5,env=[(0,.slice a0 n0 c0 e0),(1,.slice a1 n1 c1 e1),(5,.int .i64 x5)]∧R4 a0 n0 c0 e0 a1 n1 c1 e1 x5 h:=by
 unfold E4 at hi
 repeat ((first | (have k:=Zas hi; clear hi; obtain ⟨_,_,e,hi⟩:=k) | (have k:=Zct hi; clear hi; obtain ⟨_,_,_,_,e,hi⟩:=k) | (have k:=Zbe hi; clear hi; obtain ⟨_,e,hi⟩:=k)); subst e)
 obtain ⟨rfl,hi⟩:=Zbz hi
 exact ⟨_,_,_,_,_,_,_,_,_,rfl,hi⟩
def K0 (Q:QT):KT:=andThen (fun env' h'=>(match kp.find 4000008 with | some ks=>Den pg fn.ntmps (C [1,1,1]) (env'.keep ks) h' (KR Q) | none=>den pg fn.ntmps kp (C [1,1,1]) env' h' (KR Q))) (KR Q)
def K1 (Q:QT):KT:=Zdm 0 (K0 Q)
def K2 (Q:QT):KT:=left kp 4 (K1 Q)
def K3 (Q:QT) (R4:T4):KT:=rnd ((kp.find 1000004).getD []) (E4 R4) (K2 Q)
def L4 (Q:QT) (a0:Pt) (n0 c0:Nat) (e0:Bool) (a1:Pt) (n1 c1:Nat) (e1:Bool) (x5:Int) (h:Zab):Prop:=Zfd (Den pg fn.ntmps (C [1,1,0,1,0,0])) ((kp.find 1000004).getD []) (K2 Q) [(0,.slice a0 n0 c0 e0),(1,.slice a1 n1 c1 e1),(5,.int .i64 x5)] h
def Zva (Q:QT) (h:Zab):Prop:=At (K1 Q) (.exit 0) [(4,.undef)] h
def L4t (Q:QT) (R4:T4) (a0:Pt) (n0 c0:Nat) (e0:Bool) (a1:Pt) (n1 c1:Nat) (e1:Bool) (x5:Int) (h:Zab):Prop:=
 bcase (decide ((x5:Int) < (((n0:Nat):Int)))) ((0≤(x5:Int)∧(x5:Int) < (n0:Nat))∧(Zcg a0 fun A B=>(0≤(x5:Int)∧(x5:Int) < (n1:Nat))∧(Zcg a1 fun C D=>Zca (Zax h (.ptr (A,B + (Int.toNat x5) * 2)) 2) fun E=>Zad E fun E F=>Zbt E fun E=>Zad F fun F G=>Zbt F fun F=>Zbq G (Zca (Zax h (.ptr (C,D + (Int.toNat x5) * 2)) 2) fun C=>Zad C fun C D=>Zbt C fun C=>Zad D fun D G=>Zbt D fun D=>Zbq G ((Zax h (.ptr (A,B + (Int.toNat x5) * 2)) 2=Zax h (.ptr (A,B + (Int.toNat x5) * 2)) 2)∧Zag pg Zki [.agg [.str E,.str F],.agg [.str C,.str D]] h fun A B=>
 Zbw A fun A=>bcase (!A) (Q (.bool false) B) (R4 a0 n0 c0 e0 a1 n1 c1 e1 (IntKind.wrap .i64 (x5 + 1)) B)))))) (Zva Q h)
theorem Zqe (Q:QT) (R4:T4) (a0:Pt) (n0 c0:Nat) (e0:Bool) (a1:Pt) (n1 c1:Nat) (e1:Bool) (x5:Int) (h:Zab) (ht:L4t Q R4 a0 n0 c0 e0 a1 n1 c1 e1 x5 h):Den pg fn.ntmps (C [1,1,0,1,0,0]) [(0,.slice a0 n0 c0 e0),(1,.slice a1 n1 c1 e1),(5,.int .i64 x5)] h (K3 Q R4):=
 Zbs (kp:=kp) (cast (by kernel_rfl) ht)
theorem L4ind (Q:QT) (a0:Pt) (n0 c0:Nat) (e0:Bool) (a1:Pt) (n1 c1:Nat) (e1:Bool) {G:Type} (J:G→Int→Zab→Prop) (m:G→Nat)
 (hr:∀ (g:G) (x5:Int) (h:Zab),J g x5 h→∀ (R4:T4),(∀ g' (x5:Int) (h:Zab),m g' < m g→J g' x5 h→R4 a0 n0 c0 e0 a1 n1 c1 e1 x5 h)→L4t Q R4 a0 n0 c0 e0 a1 n1 c1 e1 x5 h)
 (g:G) (x5:Int) (h:Zab) (hj:J g x5 h):L4 Q a0 n0 c0 e0 a1 n1 c1 e1 x5 h:=by
 let P:=fun (K:Int→Zab→Prop) a0' n0' c0' e0' a1' n1' c1' e1' x5 h=>a0=a0'∧n0=n0'∧c0=c0'∧e0=e0'∧a1=a1'∧n1=n1'∧c1=c1'∧e1=e1'∧K x5 h
 refine Zfd.inv2 (fun g=>E4 (P (J g))) (fun g=>E4 (P fun x5 h=>∃ g',m g' < m g∧J g' x5 h)) m ?_ ?_ g ⟨rfl,rfl,rfl,rfl,rfl,rfl,rfl,rfl,hj⟩
 ·intro g env h hi
  obtain ⟨a0',n0',c0',e0',a1',n1',c1',e1',x5,rfl,rfl,rfl,rfl,rfl,rfl,rfl,rfl,rfl,hj⟩:=Zis hi
  exact Zqe Q _ a0 n0 c0 e0 a1 n1 c1 e1 x5 h (hr g x5 h hj (P fun x5 h=>∃ g',m g' < m g∧J g' x5 h) fun g' x5 h hlt hj=>⟨rfl,rfl,rfl,rfl,rfl,rfl,rfl,rfl,g',hlt,hj⟩)
 ·intro g env h hi
  obtain ⟨a0',n0',c0',e0',a1',n1',c1',e1',x5,rfl,rfl,rfl,rfl,rfl,rfl,rfl,rfl,rfl,g',hlt,hj⟩:=Zis hi
  exact ⟨g',hlt,rfl,rfl,rfl,rfl,rfl,rfl,rfl,rfl,hj⟩
theorem A4x0i (Q:QT) (h:Zab) (ht :
 Q (.bool true) h):Zva Q h:=
 At.mk (cast (by kernel_rfl) ht)
theorem call (a0:Pt) (n0 c0:Nat) (e0:Bool) (a1:Pt) (n1 c1:Nat) (e1:Bool) (h:Zab) (Q:QT) (ht :
 bcase (!((((n0:Nat):Int):Int) == (((n1:Nat):Int)))) (Q (.bool false) h) (L4 Q a0 n0 c0 e0 a1 n1 c1 e1 0 h)):Zag pg Zjp [.slice a0 n0 c0 e0,.slice a1 n1 c1 e1] h Q:=
 Zag.of_body kp (c:=cod fn) (fn:=fn) Go.Proofs.Try.func28 (by kernel_rfl) (by kernel_rfl) (Nat.le_of_ble_eq_true (by kernel_rfl))
  (cast (by kernel_rfl) ht)
end Zga
end Go.Sim

set_option maxRecDepth 100000
set_option maxHeartbeats 0
set_option linter.unusedVariables false
namespace Go.Sim
open Go Go.RowKit
namespace Zfr
noncomputable abbrev fn:Func:=Go.Proofs.Try.f45
def kp:Zcs:=[]
noncomputable def C (p:List Nat):Code:=(cod fn).sub p
def KR (Q:QT):KT:=Zfq pg fn.results.toList Q
theorem call (x0x0 x0x1:List Nat) (a0x2:Pt) (n0x2 c0x2:Nat) (e0x2:Bool) (v1:Zai) (h:Zab) (Q:QT) (ht :
 Zdd (h ++ [.cells Zaa [.str x0x0,.str x0x1,.slice a0x2 n0x2 c0x2 e0x2] false]) fun A=>Zca (Zax A (v1) 2) fun B=>Zad B fun B C=>xSl B fun B D E F=>Zad C fun C G=>xSl C fun C H I J=>Zbq G (Zca (Zax A (.ptr (h.length,0)) 3) fun G=>Zad G fun G K=>Zbt G fun G=>Zad K fun K L=>Zbt K fun K=>Zad L fun L M=>xSl L fun L N O P=>Zbq M (Zag pg Zgk [.agg [.slice B D E F,.slice C H I J],.agg [.str G,.str K,.slice L N O P]] A fun A B=>
 Zbw A fun A=>Q (.bool (!A)) B))):Zag pg Zbo [.agg [.str x0x0,.str x0x1,.slice a0x2 n0x2 c0x2 e0x2],v1] h Q:=
 Zag.of_body kp (c:=cod fn) (fn:=fn) Go.Proofs.Try.func45 (by kernel_rfl) (by kernel_rfl) (Nat.le_of_ble_eq_true (by kernel_rfl))
  (cast (by kernel_rfl) ht)
end Zfr
namespace Zak
noncomputable abbrev fn:Func:=Go.Proofs.Try.f54
def kp:Zcs:=[(3000002,[4]),(1000002,[0,1,7,8])]
noncomputable def C (p:List Nat):Code:=(cod fn).sub p
def KR (Q:QT):KT:=Zfq pg fn.results.toList Q
abbrev T2:=Pt→Nat→Nat→Bool→Zai→Int→Int→Zab→Prop
def E2 (R2:T2) (env:Env) (h:Zab):Prop:=Zda 0 env fun v env=>xSl v fun a0 n0 c0 e0=>Zda 1 env fun v env=>eFn Zbo v fun cs=>Zad cs fun c cs'=>Zwe c fun v1x0=>Zbq cs' (Zda 7 env fun v env=>Zfn .i64 v fun x7=>Zda 8 env fun v env=>Zfn .i64 v fun x8=>Zmb env (R2 a0 n0 c0 e0 v1x0 x7 x8 h))
theorem Zdp {R2:T2} {env:Env} {h:Zab} (hi:E2 R2 env h):∃ a0,∃ n0,∃ c0,∃ e0,∃ v1x0,∃ x7,∃ x8,env=[(0,.slice a0 n0 c0 e0),(1,.fn Zbo [v1x0]),(7,.int .i64 x7),(8,.int .i64 x8)]∧R2 a0 n0 c0 e0 v1x0 x7 x8 h:=by
 unfold E2 at hi
 have hi0:=hi
 clear hi
 obtain ⟨_,_,rfl,hi1⟩:=Zas hi0
 obtain ⟨a0,n0,c0,e0,rfl,hi2⟩:=Zct hi1
 obtain ⟨_,_,rfl,hi3⟩:=Zas hi2
 obtain ⟨cs,rfl,hi4⟩:=Zyh hi3
 obtain ⟨c,cs',rfl,hi5⟩:=Zse hi4
 obtain ⟨v1x0,hx,hi6⟩:=Zkz hi5
 replace hx:=(Option.some.inj hx).symm
 subst hx
 obtain ⟨rfl,hi7⟩:=Zvs hi6
 obtain ⟨_,_,rfl,hi8⟩:=Zas hi7
 obtain ⟨x7,rfl,hi9⟩:=Zbe hi8
 obtain ⟨_,_,rfl,hi10⟩:=Zas hi9
 obtain ⟨x8,rfl,hi11⟩:=Zbe hi10
 obtain ⟨rfl,hi12⟩:=Zbz hi11
 have hi:=hi12
 exact ⟨a0,n0,c0,e0,v1x0,x7,x8,rfl,hi⟩
def K0 (Q:QT):KT:=andThen (fun env' h'=>(match kp.find 4000007 with | some ks=>Den pg fn.ntmps (C [1,1]) (env'.keep ks) h' (KR Q) | none=>den pg fn.ntmps kp (C [1,1]) env' h' (KR Q))) (KR Q)
def K1 (Q:QT):KT:=Zdm 0 (K0 Q)
def K2 (Q:QT):KT:=left kp 2 (K1 Q)
def K3 (Q:QT) (R2:T2):KT:=rnd ((kp.find 1000002).getD []) (E2 R2) (K2 Q)
def L2 (Q:QT) (a0:Pt) (n0 c0:Nat) (e0:Bool) (v1x0:Zai) (x7 x8:Int) (h:Zab):Prop:=Zfd (Den pg fn.ntmps (C [1,0,1,0,0])) ((kp.find 1000002).getD []) (K2 Q) [(0,.slice a0 n0 c0 e0),(1,.fn Zbo [v1x0]),(7,.int .i64 x7),(8,.int .i64 x8)] h
def Zkr (Q:QT) (h:Zab):Prop:=At (K1 Q) (.exit 0) [(4,.undef)] h
def L2t (Q:QT) (R2:T2) (a0:Pt) (n0 c0:Nat) (e0:Bool) (v1x0:Zai) (x7 x8:Int) (h:Zab):Prop:=
 bcase (decide ((x8:Int) < x7)) ((0≤(x8:Int)∧(x8:Int) < (n0:Nat))∧(Zcg a0 fun A B=>Zca (Zax h (.ptr (A,B + (Int.toNat x8) * 3)) 3) fun A=>Zad A fun A B=>Zbt A fun A=>Zad B fun B C=>Zbt B fun B=>Zad C fun C D=>xSl C fun C E F G=>Zbq D (Zag pg Zbo [.agg [.str A,.str B,.slice C E F G],v1x0] h fun A B=>
 Zbw A fun A=>bcase A (Q (.int .i64 x8) B) (R2 a0 n0 c0 e0 v1x0 x7 (IntKind.wrap .i64 (x8 + 1)) B)))) (Zkr Q h)
theorem Zih (Q:QT) (R2:T2) (a0:Pt) (n0 c0:Nat) (e0:Bool) (v1x0:Zai) (x7 x8:Int) (h:Zab) (ht:L2t Q R2 a0 n0 c0 e0 v1x0 x7 x8 h):Den pg fn.ntmps (C [1,0,1,0,0]) [(0,.slice a0 n0 c0 e0),(1,.fn Zbo [v1x0]),(7,.int .i64 x7),(8,.int .i64 x8)] h (K3 Q R2):=
 Zbs (kp:=kp) (cast (by kernel_rfl) ht)
theorem L2ind (Q:QT) (a0:Pt) (n0 c0:Nat) (e0:Bool) (v1x0:Zai) (x7:Int) {G:Type} (J:G→Int→Zab→Prop) (m:G→Nat)
 (hr:∀ (g:G) (x8:Int) (h:Zab),J g x8 h→∀ (R2:T2),(∀ g' (x8:Int) (h:Zab),m g' < m g→J g' x8 h→R2 a0 n0 c0 e0 v1x0 x7 x8 h)→L2t Q R2 a0 n0 c0 e0 v1x0 x7 x8 h)
 (g:G) (x8:Int) (h:Zab) (hj:J g x8 h):L2 Q a0 n0 c0 e0 v1x0 x7 x8 h:=by
 let P:=fun (K:Int→Zab→Prop) a0' n0' c0' e0' v1x0' x7' x8 h=>a0=a0'∧n0=n0'∧c0=c0'∧e0=e0'∧v1x0=v1x0'∧x7=x7'∧K x8 h
 refine Zfd.inv2 (fun g=>E2 (P (J g))) (fun g=>E2 (P fun x8 h=>∃ g',m g' < m g∧J g' x8 h)) m ?_ ?_ g ⟨rfl,rfl,rfl,rfl,rfl,rfl,hj⟩
 ·intro g env h hi
  obtain ⟨a0',n0',c0',e0',v1x0',x7',x8,rfl,rfl,rfl,rfl,rfl,rfl,rfl,hj⟩:=Zdp hi
  exact Zih Q _ a0 n0 c0 e0 v1x0 x7 x8 h (hr g x8 h hj (P fun x8 h=>∃ g',m g' < m g∧J g' x8 h) fun g' x8 h hlt hj=>⟨rfl,rfl,rfl,rfl,rfl,rfl,g',hlt,hj⟩)
 ·intro g env h hi
  obtain ⟨a0',n0',c0',e0',v1x0',x7',x8,rfl,rfl,rfl,rfl,rfl,rfl,rfl,g',hlt,hj⟩:=Zdp hi
  exact ⟨g',hlt,rfl,rfl,rfl,rfl,rfl,rfl,hj⟩
theorem A2x0i (Q:QT) (h:Zab) (ht :
 Q (.int .i64 (-1)) h):Zkr Q h:=
 At.mk (cast (by kernel_rfl) ht)
theorem call (a0:Pt) (n0 c0:Nat) (e0:Bool) (v1x0:Zai) (h:Zab) (Q:QT) (ht :
 L2 Q a0 n0 c0 e0 v1x0 (((n0:Nat):Int)) 0 h):Zag pg Zbx [.slice a0 n0 c0 e0,.fn Zbo [v1x0]] h Q:=
 Zag.of_body kp (c:=cod fn) (fn:=fn) Go.Proofs.Try.func54 (by kernel_rfl) (by kernel_rfl) (Nat.le_of_ble_eq_true (by kernel_rfl))
  (cast (by kernel_rfl) ht)
end Zak
namespace Zig
noncomputable abbrev fn:Func:=Go.Proofs.Try.f27
def kp:Zcs:=[]
noncomputable def C (p:List Nat):Code:=(cod fn).sub p
def KR (Q:QT):KT:=Zfq pg fn.results.toList Q
theorem call (a0x0:Pt) (n0x0 c0x0:Nat) (e0x0:Bool) (a0x1:Pt) (n0x1 c0x1:Nat) (e0x1:Bool) (h:Zab) (Q:QT) (ht :
 Zdd (h ++ [.cells Zac [.slice a0x0 n0x0 c0x0 e0x0,.slice a0x1 n0x1 c0x1 e0x1] false]) fun A=>Zca (Zax A (.ptr (h.length,0)) 2) fun B=>Zad B fun B C=>xSl B fun B D E F=>Zad C fun C G=>xSl C fun C H I J=>Zbq G (Zag pg Zhc [.agg [.slice B D E F,.slice C H I J]] A fun A B=>
 Zbw A fun A=>bcase A (xSl (Zaf B (.ptr (h.length,0 + 1))) fun A A C C=>bcase (decide (((((A:Nat):Int)):Int)≤10)) (xSl (Zaf B (.ptr (h.length,0 + 1))) fun A C D E=>Zag pg Zdc [.slice A C D E,.fn Zbo [.ptr (h.length,0)]] B fun A C=>
 Zbw A fun A=>Q (.bool (!A)) C) (Q (.bool false) B)) (Q (.bool false) B))):Zag pg Zew [.agg [.slice a0x0 n0x0 c0x0 e0x0,.slice a0x1 n0x1 c0x1 e0x1]] h Q:=
 Zag.of_body kp (c:=cod fn) (fn:=fn) Go.Proofs.Try.func27 (by kernel_rfl) (by kernel_rfl) (Nat.le_of_ble_eq_true (by kernel_rfl))
  (cast (by kernel_rfl) ht)
end Zig
namespace Zbp
noncomputable abbrev fn:Func:=Go.Proofs.Try.f44
def kp:Zcs:=[]
noncomputable def C (p:List Nat):Code:=(cod fn).sub p
def KR (Q:QT):KT:=Zfq pg fn.results.toList Q
theorem call (a0:Pt) (n0 c0:Nat) (e0:Bool) (v1x0:Zai) (h:Zab) (Q:QT) (ht :
 Zag pg Zbx [.slice a0 n0 c0 e0,.fn Zbo [v1x0]] h fun A B=>
 Zgn .i64 A fun A=>Q (.bool (decide ((A:Int) ≥ 0))) B):Zag pg Zdc [.slice a0 n0 c0 e0,.fn Zbo [v1x0]] h Q:=
 Zag.of_body kp (c:=cod fn) (fn:=fn) Go.Proofs.Try.func44 (by kernel_rfl) (by kernel_rfl) (Nat.le_of_ble_eq_true (by kernel_rfl))
  (cast (by kernel_rfl) ht)
end Zbp
namespace Zdh
noncomputable abbrev fn:Func:=Go.Proofs.Try.f39
def kp:Zcs:=[(3000002,[1,2]),(1000002,[1,6,7,8])]
noncomputable def C (p:List Nat):Code:=(cod fn).sub p
def KR (Q:QT):KT:=Zfq pg fn.results.toList Q
abbrev T2:=Nat→Nat→Pt→Nat→Nat→Bool→Int→Int→Zab→Prop
def E2 (R2:T2) (env:Env) (h:Zab):Prop:=Zda 1 env fun v env=>Znb v fun a=>Zcg a fun i1 o1=>Zda 6 env fun v env=>xSl v fun a6 n6 c6 e6=>Zda 7 env fun v env=>Zfn .i64 v fun x7=>Zda 8 env fun v env=>Zfn .i64 v fun x8=>Zmb env (R2 i1 o1 a6 n6 c6 e6 x7 x8 h)
theorem Zdp {R2:T2} {env:Env} {h:Zab} (hi:E2 R2 env h):∃ i1,∃ o1,∃ a6,∃ n6,∃ c6,∃ e6,∃ x7,∃ x8,env=[(1,.ptr (i1,o1)),(6,.slice a6 n6 c6 e6),(7,.int .i64 x7),(8,.int .i64 x8)]∧R2 i1 o1 a6 n6 c6 e6 x7 x8 h:=by
 unfold E2 at hi
 have hi0:=hi
 clear hi
 obtain ⟨_,_,rfl,hi1⟩:=Zas hi0
 obtain ⟨a,rfl,hi2⟩:=Zdw hi1
 obtain ⟨i1,o1,rfl,hi3⟩:=Zcw hi2
 obtain ⟨_,_,rfl,hi4⟩:=Zas hi3
 obtain ⟨a6,n6,c6,e6,rfl,hi5⟩:=Zct hi4
 obtain ⟨_,_,rfl,hi6⟩:=Zas hi5
 obtain ⟨x7,rfl,hi7⟩:=Zbe hi6
 obtain ⟨_,_,rfl,hi8⟩:=Zas hi7
 obtain ⟨x8,rfl,hi9⟩:=Zbe hi8
 obtain ⟨rfl,hi10⟩:=Zbz hi9
 have hi:=hi10
 exact ⟨i1,o1,a6,n6,c6,e6,x7,x8,rfl,hi⟩
def K0 (Q:QT):KT:=andThen (fun env' h'=>(match kp.find 4000007 with | some ks=>Den pg fn.ntmps (C [1,1]) (env'.keep ks) h' (KR Q) | none=>den pg fn.ntmps kp (C [1,1]) env' h' (KR Q))) (KR Q)
def K1 (Q:QT):KT:=Zdm 0 (K0 Q)
def K2 (Q:QT):KT:=left kp 2 (K1 Q)
def K3 (Q:QT) (R2:T2):KT:=rnd ((kp.find 1000002).getD []) (E2 R2) (K2 Q)
def L2 (Q:QT) (i1 o1:Nat) (a6:Pt) (n6 c6:Nat) (e6:Bool) (x7 x8:Int) (h:Zab):Prop:=Zfd (Den pg fn.ntmps (C [1,0,1,0,0])) ((kp.find 1000002).getD []) (K2 Q) [(1,.ptr (i1,o1)),(6,.slice a6 n6 c6 e6),(7,.int .i64 x7),(8,.int .i64 x8)] h
def Zkr (Q:QT) (i1 o1:Nat) (h:Zab):Prop:=At (K1 Q) (.exit 0) [(1,.ptr (i1,o1)),(2,.undef)] h
def L2t (Q:QT) (R2:T2) (i1 o1:Nat) (a6:Pt) (n6 c6:Nat) (e6:Bool) (x7 x8:Int) (h:Zab):Prop:=
 bcase (decide ((x8:Int) < x7)) ((0≤(x8:Int)∧(x8:Int) < (n6:Nat))∧(Zcg a6 fun A B=>Zca (Zax h (.ptr (A,B + (Int.toNat x8) * 3)) 3) fun A=>Zad A fun A B=>Zbt A fun A=>Zad B fun B C=>Zbt B fun B=>Zad C fun C D=>xSl C fun C E F G=>Zbq D (Zdd (h ++ [.cells Zaa [.str [],.str [],.slice none 0 0 true] false]) fun D=>Zbk (Zaw D (.ptr (h.length,0)) [.str A,.str B,.slice C E F G]) fun A=>Zca (Zax A (.ptr (i1,o1)) 2) fun B=>Zad B fun B C=>xSl B fun B D E F=>Zad C fun C G=>xSl C fun C H I J=>Zbq G (Zca (Zax A (.ptr (h.length,0)) 3) fun G=>Zad G fun G K=>Zbt G fun G=>Zad K fun K L=>Zbt K fun K=>Zad L fun L M=>xSl L fun L N O P=>Zbq M (Zag pg Zgm [.agg [.slice B D E F,.slice C H I J],.agg [.str G,.str K,.slice L N O P]] A fun A B=>
 Zbw A fun A=>bcase (!A) (Q (.bool false) B) (R2 i1 o1 a6 n6 c6 e6 x7 (IntKind.wrap .i64 (x8 + 1)) B)))))) (Zkr Q i1 o1 h)
theorem Zih (Q:QT) (R2:T2) (i1 o1:Nat) (a6:Pt) (n6 c6:Nat) (e6:Bool) (x7 x8:Int) (h:Zab) (ht:L2t Q R2 i1 o1 a6 n6 c6 e6 x7 x8 h):Den pg fn.ntmps (C [1,0,1,0,0]) [(1,.ptr (i1,o1)),(6,.slice a6 n6 c6 e6),(7,.int .i64 x7),(8,.int .i64 x8)] h (K3 Q R2):=
 Zbs (kp:=kp) (cast (by kernel_rfl) ht)
theorem L2ind (Q:QT) (i1 o1:Nat) (a6:Pt) (n6 c6:Nat) (e6:Bool) (x7:Int) {G:Type} (J:G→Int→Zab→Prop) (m:G→Nat)
 (hr:∀ (g:G) (x8:Int) (h:Zab),J g x8 h→∀ (R2:T2),(∀ g' (x8:Int) (h:Zab),m g' < m g→J g' x8 h→R2 i1 o1 a6 n6 c6 e6 x7 x8 h)→L2t Q R2 i1 o1 a6 n6 c6 e6 x7 x8 h)
 (g:G) (x8:Int) (h:Zab) (hj:J g x8 h):L2 Q i1 o1 a6 n6 c6 e6 x7 x8 h:=by
 let P:=fun (K:Int→Zab→Prop) i1' o1' a6' n6' c6' e6' x7' x8 h=>i1=i1'∧o1=o1'∧a6=a6'∧n6=n6'∧c6=c6'∧e6=e6'∧x7=x7'∧K x8 h
 refine Zfd.inv2 (fun g=>E2 (P (J g))) (fun g=>E2 (P fun x8 h=>∃ g',m g' < m g∧J g' x8 h)) m ?_ ?_ g ⟨rfl,rfl,rfl,rfl,rfl,rfl,rfl,hj⟩
 ·intro g env h hi
  obtain ⟨i1',o1',a6',n6',c6',e6',x7',x8,rfl,rfl,rfl,rfl,rfl,rfl,rfl,rfl,hj⟩:=Zdp hi
  exact Zih Q _ i1 o1 a6 n6 c6 e6 x7 x8 h (hr g x8 h hj (P fun x8 h=>∃ g',m g' < m g∧J g' x8 h) fun g' x8 h hlt hj=>⟨rfl,rfl,rfl,rfl,rfl,rfl,rfl,g',hlt,hj⟩)
 ·intro g env h hi
  obtain ⟨i1',o1',a6',n6',c6',e6',x7',x8,rfl,rfl,rfl,rfl,rfl,rfl,rfl,rfl,g',hlt,hj⟩:=Zdp hi
  exact ⟨g',hlt,rfl,rfl,rfl,rfl,rfl,rfl,rfl,hj⟩
theorem A2x0i (Q:QT) (i1 o1:Nat) (h:Zab) (ht :
 xSl (Zaf h (.ptr (i1,o1 + 0))) fun A B C D=>Zag pg Zgy [.slice A B C D] h fun A B=>
 Zbw A fun A=>bcase A (xSl (Zaf B (.ptr (i1,o1 + 1))) fun A A C C=>Q (.bool (decide (((((A:Nat):Int)):Int)≤10))) B) (Q (.bool false) B)):Zkr Q i1 o1 h:=
 At.mk (cast (by kernel_rfl) ht)
theorem call (a0x0:Pt) (n0x0 c0x0:Nat) (e0x0:Bool) (a0x1:Pt) (n0x1 c0x1:Nat) (e0x1:Bool) (h:Zab) (Q:QT) (ht :
 Zdd (h ++ [.cells Zac [.slice a0x0 n0x0 c0x0 e0x0,.slice a0x1 n0x1 c0x1 e0x1] false]) fun A=>xSl (Zaf A (.ptr (h.length,0 + 1))) fun B C D E=>L2 Q h.length 0 B C D E (((C:Nat):Int)) 0 A):Zag pg Zav [.agg [.slice a0x0 n0x0 c0x0 e0x0,.slice a0x1 n0x1 c0x1 e0x1]] h Q:=
 Zag.of_body kp (c:=cod fn) (fn:=fn) Go.Proofs.Try.func39 (by kernel_rfl) (by kernel_rfl) (Nat.le_of_ble_eq_true (by kernel_rfl))
  (cast (by kernel_rfl) ht)
end Zdh
end Go.Sim

set_option maxRecDepth 100000
set_option maxHeartbeats 0
set_option linter.unusedVariables false
namespace Go.Sim
open Go Go.RowKit
namespace Zdj
noncomputable abbrev fn:Func:=Go.Proofs.Try.f50
def kp:Zcs:=[(4000003,[3,2]),(3000004,[4]),(1000004,[2,3,47,48,49]),(2000006,[80,49,48,47,2,3]),(4000008,[49,48,47,2,3])]
noncomputable def C (p:List Nat):Code:=(cod fn).sub p
def KR (Q:QT):KT:=Zfq pg fn.results.toList Q
abbrev T4:=Nat→Nat→Nat→Nat→Pt→Nat→Nat→Bool→Int→Int→Zab→Prop
def E4 (R4:T4) (env:Env) (h:Zab):Prop:=Zda 2 env fun v env=>Znb v fun a=>Zcg a fun i2 o2=>Zda 3 env fun v env=>Znb v fun a=>Zcg a fun i3 o3=>Zda 47 env fun v env=>xSl v fun a47 n47 c47 e47=>Zda 48 env fun v env=>Zfn .i64 v fun x48=>Zda 49 env fun v env=>Zfn .i64 v fun x49=>Zmb env (R4 i2 o2 i3 o3 a47 n47 c47 e47 x48 x49 h)
theorem Zis {R4:T4} {env:Env} {h:Zab} (hi:E4 R4 env h):∃ i2,∃ o2,∃ i3,∃ o3,∃ a47,∃ n47,∃ c47,∃ e47,∃ x48,∃ x49,env=[(2,.ptr (i2,o2)),(3,.ptr (i3,o3)),(47,.slice a47 n47 c47 e47),(48,.int .i64 x48),(49,.int .i64 x49)]∧R4 i2 o2 i3 o3 a47 n47 c47 e47 x48 x49 h:=by
 unfold E4 at hi
 have hi0:=hi
 clear hi
 obtain ⟨_,_,rfl,hi1⟩:=Zas hi0
 obtain ⟨a,rfl,hi2⟩:=Zdw hi1
 obtain ⟨i2,o2,rfl,hi3⟩:=Zcw hi2
 obtain ⟨_,_,rfl,hi4⟩:=Zas hi3
 obtain ⟨a,rfl,hi5⟩:=Zdw hi4
 obtain ⟨i3,o3,rfl,hi6⟩:=Zcw hi5
 obtain ⟨_,_,rfl,hi7⟩:=Zas hi6
 obtain ⟨a47,n47,c47,e47,rfl,hi8⟩:=Zct hi7
 obtain ⟨_,_,rfl,hi9⟩:=Zas hi8
 obtain ⟨x48,rfl,hi10⟩:=Zbe hi9
 obtain ⟨_,_,rfl,hi11⟩:=Zas hi10
 obtain ⟨x49,rfl,hi12⟩:=Zbe hi11
 obtain ⟨rfl,hi13⟩:=Zbz hi12
 have hi:=hi13
 exact ⟨i2,o2,i3,o3,a47,n47,c47,e47,x48,x49,rfl,hi⟩
def K0 (Q:QT):KT:=andThen (fun env' h'=>(match kp.find 4000009 with | some ks=>Den pg fn.ntmps (C [1,1,1]) (env'.keep ks) h' (KR Q) | none=>den pg fn.ntmps kp (C [1,1,1]) env' h' (KR Q))) (KR Q)
def K1 (Q:QT):KT:=Zdm 0 (K0 Q)
def K2 (Q:QT):KT:=left kp 4 (K1 Q)
def K3 (Q:QT) (R4:T4):KT:=rnd ((kp.find 1000004).getD []) (E4 R4) (K2 Q)
def J3 (Q:QT) (i3 o3 i2 o2:Nat) (h:Zab):Prop:=Den pg fn.ntmps (C [1,1]) [(3,.ptr (i3,o3)),(2,.ptr (i2,o2))] h (KR Q)
def L4 (Q:QT) (i2 o2 i3 o3:Nat) (a47:Pt) (n47 c47:Nat) (e47:Bool) (x48 x49:Int) (h:Zab):Prop:=Zfd (Den pg fn.ntmps (C [1,1,0,1,0,0])) ((kp.find 1000004).getD []) (K2 Q) [(2,.ptr (i2,o2)),(3,.ptr (i3,o3)),(47,.slice a47 n47 c47 e47),(48,.int .i64 x48),(49,.int .i64 x49)] h
def J8 (Q:QT) (R4:T4) (x49 x48:Int) (a47:Pt) (n47 c47:Nat) (e47:Bool) (i2 o2 i3 o3:Nat) (h:Zab):Prop:=Den pg fn.ntmps (C [1,1,0,1,0,0,1,1,1]) [(49,.int .i64 x49),(48,.int .i64 x48),(47,.slice a47 n47 c47 e47),(2,.ptr (i2,o2)),(3,.ptr (i3,o3))] h (K3 Q R4)
def Zva (Q:QT) (h:Zab):Prop:=At (K1 Q) (.exit 0) [(4,.undef)] h
theorem J3i (Q:QT) (i3 o3 i2 o2:Nat) (h:Zab) (ht :
 xSl (Zaf h (.ptr (i3,o3 + 2))) fun A B C D=>L4 Q i2 o2 i3 o3 A B C D (((B:Nat):Int)) 0 h):J3 Q i3 o3 i2 o2 h:=
 Zbs (kp:=kp) (cast (by kernel_rfl) ht)
def L4t (Q:QT) (R4:T4) (i2 o2 i3 o3:Nat) (a47:Pt) (n47 c47:Nat) (e47:Bool) (x48 x49:Int) (h:Zab):Prop:=
 bcase (decide ((x49:Int) < x48)) ((0≤(x49:Int)∧(x49:Int) < (n47:Nat))∧(Zcg a47 fun A B=>Zca (Zax h (.ptr (A,B + (Int.toNat x49) * 2)) 2) fun A=>Zad A fun A B=>Zbt A fun A=>Zad B fun B C=>Zbt B fun B=>Zbq C (Zdd (h ++ [.cells Zap [.str [],.str []] false]) fun C=>Zbk (Zaw C (.ptr (h.length,0)) [.str A,.str B]) fun A=>Zca (Zax A (.ptr (i2,o2)) 2) fun B=>Zad B fun B C=>xSl B fun B D E F=>Zad C fun C G=>xSl C fun C H I J=>Zbq G (Zbt (Zaf A (.ptr (h.length,0 + 0))) fun G=>(Zax A (.ptr (i2,o2)) 2=Zax A (.ptr (i2,o2)) 2)∧Zag pg Zgp [.agg [.slice B D E F,.slice C H I J],.str G] A fun A B=>
 Zgn .i64 A fun A=>bcase (decide ((A:Int) < 0)) ((Zax B (.ptr (i2,o2)) 2=Zax B (.ptr (i2,o2)) 2)∧(Zax B (.ptr (i2,o2)) 2=Zax B (.ptr (i2,o2)) 2)∧(Zax B (.ptr (i2,o2)) 2=Zax B (.ptr (i2,o2)) 2)∧(Zaf B (.tup [])=Zaf B (.tup []))∧(Zax B (.ptr (i2,o2)) 2=Zax B (.ptr (i2,o2)) 2)∧(Zaf B (.tup [])=Zaf B (.tup []))∧(Zax B (.ptr (i2,o2)) 2=Zax B (.ptr (i2,o2)) 2)∧(Zaf B (.tup [])=Zaf B (.tup []))∧(Zaf B (.tup [])=Zaf B (.tup []))∧(Zax B (.ptr (i2,o2)) 2=Zax B (.ptr (i2,o2)) 2)∧Q (.bool false) B) (Zbt (Zaf B (.ptr (h.length,0 + 1))) fun A=>(Zax B (.ptr (i2,o2)) 2=Zax B (.ptr (i2,o2)) 2)∧Zag pg Zfm [.str A] B fun A C=>
 Zbw A fun A=>(Zax C (.ptr (i2,o2)) 2=Zax B (.ptr (i2,o2)) 2)∧bcase (!A) ((Zax C (.ptr (i2,o2)) 2=Zax C (.ptr (i2,o2)) 2)∧(Zaf C (.tup [])=Zaf C (.tup []))∧(Zax C (.ptr (i2,o2)) 2=Zax C (.ptr (i2,o2)) 2)∧(Zaf C (.tup [])=Zaf C (.tup []))∧(Zax C (.ptr (i2,o2)) 2=Zax C (.ptr (i2,o2)) 2)∧(Zaf C (.tup [])=Zaf C (.tup []))∧(Zaf C (.tup [])=Zaf C (.tup []))∧(Zax C (.ptr (i2,o2)) 2=Zax C (.ptr (i2,o2)) 2)∧Q (.bool false) C) (Zbt (Zaf C (.ptr (h.length,0 + 1))) fun A=>(Zax C (.ptr (i2,o2)) 2=Zax C (.ptr (i2,o2)) 2)∧bcase (decide (((((List.length A:Nat):Int)):Int) > 20)) ((Zaf C (.tup [])=Zaf C (.tup []))∧(Zax C (.ptr (i2,o2)) 2=Zax C (.ptr (i2,o2)) 2)∧(Zaf C (.tup [])=Zaf C (.tup []))∧(Zax C (.ptr (i2,o2)) 2=Zax C (.ptr (i2,o2)) 2)∧(Zaf C (.tup [])=Zaf C (.tup []))∧(Zaf C (.tup [])=Zaf C (.tup []))∧(Zax C (.ptr (i2,o2)) 2=Zax C (.ptr (i2,o2)) 2)∧Q (.bool false) C) (Zbt (Zaf C (.ptr (h.length,0 + 1))) fun A=>Zbt (Zaf C (.ptr (i3,o3 + 0 + 1))) fun B=>Zag pg Zja [.str A] C fun A D=>
 Zbt A fun A=>(Zaf D (.ptr (i3,o3 + 0 + 1))=Zaf C (.ptr (i3,o3 + 0 + 1)))∧(Zax D (.ptr (i2,o2)) 2=Zax C (.ptr (i2,o2)) 2)∧Zag pg Zja [.str B] D fun B C=>
 Zbt B fun B=>(Zaf C (.ptr (h.length,0 + 1))=Zaf D (.ptr (h.length,0 + 1)))∧(Zax C (.ptr (i2,o2)) 2=Zax D (.ptr (i2,o2)) 2)∧Zag pg Zjl [.str A,.str B] C fun A B=>
 Zbw A fun A=>(Zaf B (.ptr (i3,o3 + 0 + 1))=Zaf C (.ptr (i3,o3 + 0 + 1)))∧(Zaf B (.ptr (h.length,0 + 1))=Zaf C (.ptr (h.length,0 + 1)))∧(Zax B (.ptr (i2,o2)) 2=Zax C (.ptr (i2,o2)) 2)∧bcase (!A) (Q (.bool false) B) (J8 Q R4 x49 x48 a47 n47 c47 e47 i2 o2 i3 o3 B)))))))) (Zva Q h)
theorem Zqe (Q:QT) (R4:T4) (i2 o2 i3 o3:Nat) (a47:Pt) (n47 c47:Nat) (e47:Bool) (x48 x49:Int) (h:Zab) (ht:L4t Q R4 i2 o2 i3 o3 a47 n47 c47 e47 x48 x49 h):Den pg fn.ntmps (C [1,1,0,1,0,0]) [(2,.ptr (i2,o2)),(3,.ptr (i3,o3)),(47,.slice a47 n47 c47 e47),(48,.int .i64 x48),(49,.int .i64 x49)] h (K3 Q R4):=
 Zbs (kp:=kp) (cast (by kernel_rfl) ht)
theorem L4ind (Q:QT) (i2 o2 i3 o3:Nat) (a47:Pt) (n47 c47:Nat) (e47:Bool) (x48:Int) {G:Type} (J:G→Int→Zab→Prop) (m:G→Nat)
 (hr:∀ (g:G) (x49:Int) (h:Zab),J g x49 h→∀ (R4:T4),(∀ g' (x49:Int) (h:Zab),m g' < m g→J g' x49 h→R4 i2 o2 i3 o3 a47 n47 c47 e47 x48 x49 h)→L4t Q R4 i2 o2 i3 o3 a47 n47 c47 e47 x48 x49 h)
 (g:G) (x49:Int) (h:Zab) (hj:J g x49 h):L4 Q i2 o2 i3 o3 a47 n47 c47 e47 x48 x49 h:=by
 let P:=fun (K:Int→Zab→Prop) i2' o2' i3' o3' a47' n47' c47' e47' x48' x49 h=>i2=i2'∧o2=o2'∧i3=i3'∧o3=o3'∧a47=a47'∧n47=n47'∧c47=c47'∧e47=e47'∧x48=x48'∧K x49 h
 refine Zfd.inv2 (fun g=>E4 (P (J g))) (fun g=>E4 (P fun x49 h=>∃ g',m g' < m g∧J g' x49 h)) m ?_ ?_ g ⟨rfl,rfl,rfl,rfl,rfl,rfl,rfl,rfl,rfl,hj⟩
 ·intro g env h hi
  obtain ⟨i2',o2',i3',o3',a47',n47',c47',e47',x48',x49,rfl,rfl,rfl,rfl,rfl,rfl,rfl,rfl,rfl,rfl,hj⟩:=Zis hi
  exact Zqe Q _ i2 o2 i3 o3 a47 n47 c47 e47 x48 x49 h (hr g x49 h hj (P fun x49 h=>∃ g',m g' < m g∧J g' x49 h) fun g' x49 h hlt hj=>⟨rfl,rfl,rfl,rfl,rfl,rfl,rfl,rfl,rfl,g',hlt,hj⟩)
 ·intro g env h hi
  obtain ⟨i2',o2',i3',o3',a47',n47',c47',e47',x48',x49,rfl,rfl,rfl,rfl,rfl,rfl,rfl,rfl,rfl,rfl,g',hlt,hj⟩:=Zis hi
  exact ⟨g',hlt,rfl,rfl,rfl,rfl,rfl,rfl,rfl,rfl,rfl,hj⟩
theorem J8i (Q:QT) (R4:T4) (x49 x48:Int) (a47:Pt) (n47 c47:Nat) (e47:Bool) (i2 o2 i3 o3:Nat) (h:Zab) (ht :
 R4 i2 o2 i3 o3 a47 n47 c47 e47 x48 (IntKind.wrap .i64 (x49 + 1)) h):J8 Q R4 x49 x48 a47 n47 c47 e47 i2 o2 i3 o3 h:=
 Zbs (kp:=kp) (cast (by kernel_rfl) ht)
theorem A4x0i (Q:QT) (h:Zab) (ht :
 Q (.bool true) h):Zva Q h:=
 At.mk (cast (by kernel_rfl) ht)
theorem call (a0x0:Pt) (n0x0 c0x0:Nat) (e0x0:Bool) (a0x1:Pt) (n0x1 c0x1:Nat) (e0x1:Bool) (x1x0 x1x1:List Nat) (a1x2:Pt) (n1x2 c1x2:Nat) (e1x2:Bool) (h:Zab) (Q:QT) (ht :
 Zdd (h ++ [.cells Zac [.slice a0x0 n0x0 c0x0 e0x0,.slice a0x1 n0x1 c0x1 e0x1] false]) fun A=>Zdd (A ++ [.cells Zaa [.str x1x0,.str x1x1,.slice a1x2 n1x2 c1x2 e1x2] false]) fun B=>xSl (Zaf B (.ptr (h.length,0 + 0))) fun C D E F=>Zag pg Zgy [.slice C D E F] B fun B C=>
 Zbw B fun B=>bcase (!B) (Q (.bool false) C) (Zca (Zax C (.ptr (h.length,0)) 2) fun B=>Zad B fun B D=>xSl B fun B E F G=>Zad D fun D H=>xSl D fun D I J K=>Zbq H (Zbt (Zaf C (.ptr (A.length,0 + 0 + 0))) fun H=>Zag pg Zgp [.agg [.slice B E F G,.slice D I J K],.str H] C fun B C=>
 Zgn .i64 B fun B=>bcase (decide ((B:Int) < 0)) (Q (.bool false) C) (Zbt (Zaf C (.ptr (A.length,0 + 0 + 1))) fun B=>Zag pg Zfm [.str B] C fun B C=>
 Zbw B fun B=>bcase (!B) (Q (.bool false) C) (Zbt (Zaf C (.ptr (A.length,0 + 0 + 1))) fun B=>bcase (decide (((((List.length B:Nat):Int)):Int) > 20)) (Q (.bool false) C) (Zbt (Zaf C (.ptr (A.length,0 + 0 + 1))) fun B=>Zjv B 0 fun B=>Zag pg Zgh [.int .u8 (((B:Nat):Int))] C fun B C=>
 Zbw B fun B=>bcase B (Q (.bool false) C) (xSl (Zaf C (.ptr (A.length,0 + 2))) fun B B D D=>bcase (decide (((((B:Nat):Int)):Int) > 3)) (Q (.bool false) C) (J3 Q A.length 0 h.length 0 C)))))))):Zag pg Zgm [.agg [.slice a0x0 n0x0 c0x0 e0x0,.slice a0x1 n0x1 c0x1 e0x1],.agg [.str x1x0,.str x1x1,.slice a1x2 n1x2 c1x2 e1x2]] h Q:=
 Zag.of_body kp (c:=cod fn) (fn:=fn) Go.Proofs.Try.func50 (by kernel_rfl) (by kernel_rfl) (Nat.le_of_ble_eq_true (by kernel_rfl))
  (cast (by kernel_rfl) ht)
end Zdj
end Go.Sim
