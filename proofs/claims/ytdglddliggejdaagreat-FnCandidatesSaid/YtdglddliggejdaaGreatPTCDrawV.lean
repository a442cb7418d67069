/- A part of the proof of a statement of this seat: see the text that holds the theorem. No condition. -/
import Derived.Test.YtdglddliggejdaaGreatNm
set_option linter.unusedVariables false
set_option linter.unusedSimpArgs false
set_option linter.all false
set_option maxRecDepth 100000
set_option maxHeartbeats 0
set_option linter.unusedVariables false
namespace Go.Sim
open Go Go.RowKit
namespace Zpo
noncomputable abbrev fn:Func:=Go.Proofs.Tryz.f27
def kp:Zcu:=[]
noncomputable def C (p:List Nat):Code:=(cod fn).sub p
def KR (Q:QT):KT:=Zfi pg fn.results.toList Q
theorem call (a0x0:Pt) (n0x0 c0x0:Nat) (e0x0:Bool) (a0x1:Pt) (n0x1 c0x1:Nat) (e0x1:Bool) (x1x0 x1x1:List Nat) (h:Zaa) (Q:QT) (ht :
 Zco (h ++ [.cells Zad [.slice a0x0 n0x0 c0x0 e0x0,.slice a0x1 n0x1 c0x1 e0x1] false]) fun A=>Zco (A ++ [.cells Zae [.str x1x0,.str x1x1] false]) fun B=>Zcb (Zan B (.ptr (h.length,0)) 2) fun C=>Zag C fun C D=>xSl C fun C E F G=>Zag D fun D H=>xSl D fun D I J K=>Zbu H (Zah pg Zkj [.agg [.slice C E F G,.slice D I J K]] B fun B C=>
 Zbr B fun B=>bcase B (Zcb (Zan C (.ptr (h.length,0)) 2) fun B=>Zag B fun B D=>xSl B fun B E F G=>Zag D fun D H=>xSl D fun D I J K=>Zbu H (Zcb (Zan C (.ptr (A.length,0)) 2) fun A=>Zag A fun A H=>Zbn A fun A=>Zag H fun H L=>Zbn H fun H=>Zbu L (Zah pg Zpf [.agg [.slice B E F G,.slice D I J K],.agg [.str A,.str H]] C fun A B=>
 Zbr A fun A=>Q (.bool A) B))) (Q (.bool false) C))):Zah pg Zcg [.agg [.slice a0x0 n0x0 c0x0 e0x0,.slice a0x1 n0x1 c0x1 e0x1],.agg [.str x1x0,.str x1x1]] h Q:=
 Zah.of_body kp (c:=cod fn) (fn:=fn) Go.Proofs.Tryz.func27 (by kernel_rfl) (by kernel_rfl) (Nat.le_of_ble_eq_true (by kernel_rfl))
  (cast (by kernel_rfl) ht)
end Zpo
namespace Zka
noncomputable abbrev fn:Func:=Go.Proofs.Tryz.f104
def kp:Zcu:=[]
noncomputable def C (p:List Nat):Code:=(cod fn).sub p
def KR (Q:QT):KT:=Zfi pg fn.results.toList Q
theorem call (x0x0 x0x1:List Nat) (a0x2:Pt) (n0x2 c0x2:Nat) (e0x2:Bool) (v1:Zas) (h:Zaa) (Q:QT) (ht :
 Zco (h ++ [.cells Zac [.str x0x0,.str x0x1,.slice a0x2 n0x2 c0x2 e0x2] false]) fun A=>Zbn (Zai A (.ptr (h.length,0 + 0 + 1))) fun B=>Zje pg Zae v1 1 fun C=>Zbn (Zai A (C)) fun C=>Zah pg Zhy [.str B,.str C] A fun A B=>
 Zbr A fun A=>Q (.bool A) B):Zah pg Zct [.agg [.str x0x0,.str x0x1,.slice a0x2 n0x2 c0x2 e0x2],v1] h Q:=
 Zah.of_body kp (c:=cod fn) (fn:=fn) Go.Proofs.Tryz.func104 (by kernel_rfl) (by kernel_rfl) (Nat.le_of_ble_eq_true (by kernel_rfl))
  (cast (by kernel_rfl) ht)
end Zka
namespace Zcd
noncomputable abbrev fn:Func:=Go.Proofs.Tryz.f60
def kp:Zcu:=[(3000003,[7]),(1000003,[1,2,7,12,13,14]),(4000007,[14,13,12,1,2,7])]
noncomputable def C (p:List Nat):Code:=(cod fn).sub p
def KR (Q:QT):KT:=Zfi pg fn.results.toList Q
abbrev T3:=List Nat→Zas→Pt→Nat→Nat→Bool→Pt→Nat→Nat→Bool→Int→Int→Zaa→Prop
def E3 (R3:T3) (env:Env) (h:Zaa):Prop:=Zci 1 env fun v env=>Zbn v fun x1=>Zci 2 env fun v env=>eFn Zct v fun cs=>Zag cs fun c cs'=>Zzf c fun v2x0=>Zbu cs' (Zci 7 env fun v env=>xSl v fun a7 n7 c7 e7=>Zci 12 env fun v env=>xSl v fun a12 n12 c12 e12=>Zci 13 env fun v env=>Zez .i64 v fun x13=>Zci 14 env fun v env=>Zez .i64 v fun x14=>Zky env (R3 x1 v2x0 a7 n7 c7 e7 a12 n12 c12 e12 x13 x14 h))
theorem Zfy {R3:T3} {env:Env} {h:Zaa} (hi:E3 R3 env h):∃ x1,∃ v2x0,∃ a7,∃ n7,∃ c7,∃ e7,∃ a12,∃ n12,∃ c12,∃ e12,∃ x13,∃ x14,env=[(1,.str x1),(2,.fn Zct [v2x0]),(7,.slice a7 n7 c7 e7),(12,.slice a12 n12 c12 e12),(13,.int .i64 x13),(14,.int .i64 x14)]∧R3 x1 v2x0 a7 n7 c7 e7 a12 n12 c12 e12 x13 x14 h:=by
 unfold E3 at hi
 have hi0:=hi
 clear hi
 obtain ⟨_,_,rfl,hi1⟩:=Zal hi0
 obtain ⟨x1,rfl,hi2⟩:=Zhb hi1
 obtain ⟨_,_,rfl,hi3⟩:=Zal hi2
 obtain ⟨cs,rfl,hi4⟩:=Zwn hi3
 obtain ⟨c,cs',rfl,hi5⟩:=Zrf hi4
 obtain ⟨v2x0,hx,hi6⟩:=Zla hi5
 replace hx:=(Option.some.inj hx).symm
 subst hx
 obtain ⟨rfl,hi7⟩:=Zsy hi6
 obtain ⟨_,_,rfl,hi8⟩:=Zal hi7
 obtain ⟨a7,n7,c7,e7,rfl,hi9⟩:=Zcp hi8
 obtain ⟨_,_,rfl,hi10⟩:=Zal hi9
 obtain ⟨a12,n12,c12,e12,rfl,hi11⟩:=Zcp hi10
 obtain ⟨_,_,rfl,hi12⟩:=Zal hi11
 obtain ⟨x13,rfl,hi13⟩:=Zaz hi12
 obtain ⟨_,_,rfl,hi14⟩:=Zal hi13
 obtain ⟨x14,rfl,hi15⟩:=Zaz hi14
 obtain ⟨rfl,hi16⟩:=Zca hi15
 have hi:=hi16
 exact ⟨x1,v2x0,a7,n7,c7,e7,a12,n12,c12,e12,x13,x14,rfl,hi⟩
def K0 (Q:QT):KT:=andThen (fun env' h'=>(match kp.find 4000008 with | some ks=>Den pg fn.ntmps (C [1,1,1]) (env'.keep ks) h' (KR Q) | none=>den pg fn.ntmps kp (C [1,1,1]) env' h' (KR Q))) (KR Q)
def K1 (Q:QT):KT:=Zdg 0 (K0 Q)
def K2 (Q:QT):KT:=left kp 3 (K1 Q)
def K3 (Q:QT) (R3:T3):KT:=rnd ((kp.find 1000003).getD []) (E3 R3) (K2 Q)
def L3 (Q:QT) (x1:List Nat) (v2x0:Zas) (a7:Pt) (n7 c7:Nat) (e7:Bool) (a12:Pt) (n12 c12:Nat) (e12:Bool) (x13 x14:Int) (h:Zaa):Prop:=Zfb (Den pg fn.ntmps (C [1,1,0,1,0,0])) ((kp.find 1000003).getD []) (K2 Q) [(1,.str x1),(2,.fn Zct [v2x0]),(7,.slice a7 n7 c7 e7),(12,.slice a12 n12 c12 e12),(13,.int .i64 x13),(14,.int .i64 x14)] h
def J7 (Q:QT) (R3:T3) (x14 x13:Int) (a12:Pt) (n12 c12:Nat) (e12:Bool) (x1:List Nat) (v2x0:Zas) (a7:Pt) (n7 c7:Nat) (e7:Bool) (h:Zaa):Prop:=Den pg fn.ntmps (C [1,1,0,1,0,0,1,1,1]) [(14,.int .i64 x14),(13,.int .i64 x13),(12,.slice a12 n12 c12 e12),(1,.str x1),(2,.fn Zct [v2x0]),(7,.slice a7 n7 c7 e7)] h (K3 Q R3)
def Zsz (Q:QT) (a7:Pt) (n7 c7:Nat) (e7:Bool) (h:Zaa):Prop:=At (K1 Q) (.exit 0) [(7,.slice a7 n7 c7 e7)] h
def L3t (Q:QT) (R3:T3) (x1:List Nat) (v2x0:Zas) (a7:Pt) (n7 c7:Nat) (e7:Bool) (a12:Pt) (n12 c12:Nat) (e12:Bool) (x13 x14:Int) (h:Zaa):Prop:=
 bcase (decide ((x14:Int) < x13)) ((0≤(x14:Int)∧(x14:Int) < (n12:Nat))∧(Zbi a12 fun A B=>Zcb (Zan h (.ptr (A,B + (Int.toNat x14) * 3)) 3) fun A=>Zag A fun A B=>Zbn A fun A=>Zag B fun B C=>Zbn B fun B=>Zag C fun C D=>xSl C fun C E F G=>Zbu D (Zco (h ++ [.cells Zac [.str [],.str [],.slice none 0 0 true] false]) fun D=>Zbx (Zbb D (.ptr (h.length,0)) [.str A,.str B,.slice C E F G]) fun A=>Zbn (Zai A (.ptr (h.length,0 + 0 + 0))) fun B=>bcase (decide (B=x1)) (Zcb (Zan A (.ptr (h.length,0)) 3) fun B=>Zag B fun B C=>Zbn B fun B=>Zag C fun C D=>Zbn C fun C=>Zag D fun D E=>xSl D fun D F G H=>Zbu E (Zah pg Zct [.agg [.str B,.str C,.slice D F G H],v2x0] A fun B C=>
 Zbr B fun B=>bcase B (Zco (C ++ [.cells Zgj [.int .i64 x14] false]) fun B=>Zcz pg Zyr B (.slice a7 n7 c7 e7) (.slice (C.length,0) 1 1 true) fun B D=>xSl B fun B E F G=>J7 Q R3 x14 x13 a12 n12 c12 e12 x1 v2x0 B E F G D) (J7 Q R3 x14 x13 a12 n12 c12 e12 x1 v2x0 a7 n7 c7 e7 C))) (J7 Q R3 x14 x13 a12 n12 c12 e12 x1 v2x0 a7 n7 c7 e7 A)))) (Zsz Q a7 n7 c7 e7 h)
theorem Zoo (Q:QT) (R3:T3) (x1:List Nat) (v2x0:Zas) (a7:Pt) (n7 c7:Nat) (e7:Bool) (a12:Pt) (n12 c12:Nat) (e12:Bool) (x13 x14:Int) (h:Zaa) (ht:L3t Q R3 x1 v2x0 a7 n7 c7 e7 a12 n12 c12 e12 x13 x14 h):Den pg fn.ntmps (C [1,1,0,1,0,0]) [(1,.str x1),(2,.fn Zct [v2x0]),(7,.slice a7 n7 c7 e7),(12,.slice a12 n12 c12 e12),(13,.int .i64 x13),(14,.int .i64 x14)] h (K3 Q R3):=
 Zbf (kp:=kp) (cast (by kernel_rfl) ht)
theorem L3ind (Q:QT) (x1:List Nat) (v2x0:Zas) (a12:Pt) (n12 c12:Nat) (e12:Bool) (x13:Int) {G:Type} (J:G→Pt→Nat→Nat→Bool→Int→Zaa→Prop) (m:G→Nat)
 (hr:∀ (g:G) (a7:Pt) (n7 c7:Nat) (e7:Bool) (x14:Int) (h:Zaa),J g a7 n7 c7 e7 x14 h→∀ (R3:T3),(∀ g' (a7:Pt) (n7 c7:Nat) (e7:Bool) (x14:Int) (h:Zaa),m g' < m g→J g' a7 n7 c7 e7 x14 h→R3 x1 v2x0 a7 n7 c7 e7 a12 n12 c12 e12 x13 x14 h)→L3t Q R3 x1 v2x0 a7 n7 c7 e7 a12 n12 c12 e12 x13 x14 h)
 (g:G) (a7:Pt) (n7 c7:Nat) (e7:Bool) (x14:Int) (h:Zaa) (hj:J g a7 n7 c7 e7 x14 h):L3 Q x1 v2x0 a7 n7 c7 e7 a12 n12 c12 e12 x13 x14 h:=by
 let P:=fun (K:Pt→Nat→Nat→Bool→Int→Zaa→Prop) x1' v2x0' a7 n7 c7 e7 a12' n12' c12' e12' x13' x14 h=>x1=x1'∧v2x0=v2x0'∧a12=a12'∧n12=n12'∧c12=c12'∧e12=e12'∧x13=x13'∧K a7 n7 c7 e7 x14 h
 refine Zfb.inv2 (fun g=>E3 (P (J g))) (fun g=>E3 (P fun a7 n7 c7 e7 x14 h=>∃ g',m g' < m g∧J g' a7 n7 c7 e7 x14 h)) m ?_ ?_ g ⟨rfl,rfl,rfl,rfl,rfl,rfl,rfl,hj⟩
 ·intro g env h hi
  obtain ⟨x1',v2x0',a7,n7,c7,e7,a12',n12',c12',e12',x13',x14,rfl,rfl,rfl,rfl,rfl,rfl,rfl,rfl,hj⟩:=Zfy hi
  exact Zoo Q _ x1 v2x0 a7 n7 c7 e7 a12 n12 c12 e12 x13 x14 h (hr g a7 n7 c7 e7 x14 h hj (P fun a7 n7 c7 e7 x14 h=>∃ g',m g' < m g∧J g' a7 n7 c7 e7 x14 h) fun g' a7 n7 c7 e7 x14 h hlt hj=>⟨rfl,rfl,rfl,rfl,rfl,rfl,rfl,g',hlt,hj⟩)
 ·intro g env h hi
  obtain ⟨x1',v2x0',a7,n7,c7,e7,a12',n12',c12',e12',x13',x14,rfl,rfl,rfl,rfl,rfl,rfl,rfl,rfl,g',hlt,hj⟩:=Zfy hi
  exact ⟨g',hlt,rfl,rfl,rfl,rfl,rfl,rfl,rfl,hj⟩
theorem J7i (Q:QT) (R3:T3) (x14 x13:Int) (a12:Pt) (n12 c12:Nat) (e12:Bool) (x1:List Nat) (v2x0:Zas) (a7:Pt) (n7 c7:Nat) (e7:Bool) (h:Zaa) (ht :
 R3 x1 v2x0 a7 n7 c7 e7 a12 n12 c12 e12 x13 (IntKind.wrap .i64 (x14 + 1)) h):J7 Q R3 x14 x13 a12 n12 c12 e12 x1 v2x0 a7 n7 c7 e7 h:=
 Zbf (kp:=kp) (cast (by kernel_rfl) ht)
theorem A3x0i (Q:QT) (a7:Pt) (n7 c7:Nat) (e7:Bool) (h:Zaa) (ht :
 Q (.slice a7 n7 c7 e7) h):Zsz Q a7 n7 c7 e7 h:=
 At.mk (cast (by kernel_rfl) ht)
theorem call (a0x0:Pt) (n0x0 c0x0:Nat) (e0x0:Bool) (a0x1:Pt) (n0x1 c0x1:Nat) (e0x1:Bool) (x1:List Nat) (v2x0:Zas) (h:Zaa) (Q:QT) (ht :
 Zco (h ++ [.cells Zad [.slice a0x0 n0x0 c0x0 e0x0,.slice a0x1 n0x1 c0x1 e0x1] false]) fun A=>Zco (A ++ [.cells Zgj [] false]) fun B=>xSl (Zai B (.ptr (h.length,0 + 1))) fun C D E F=>L3 Q x1 v2x0 (A.length,0) 0 0 true C D E F (((D:Nat):Int)) 0 B):Zah pg Zjf [.agg [.slice a0x0 n0x0 c0x0 e0x0,.slice a0x1 n0x1 c0x1 e0x1],.str x1,.fn Zct [v2x0]] h Q:=
 Zah.of_body kp (c:=cod fn) (fn:=fn) Go.Proofs.Tryz.func60 (by kernel_rfl) (by kernel_rfl) (Nat.le_of_ble_eq_true (by kernel_rfl))
  (cast (by kernel_rfl) ht)
end Zcd
namespace Zof
noncomputable abbrev fn:Func:=Go.Proofs.Tryz.f59
def kp:Zcu:=[]
noncomputable def C (p:List Nat):Code:=(cod fn).sub p
def KR (Q:QT):KT:=Zfi pg fn.results.toList Q
theorem call (a0x0:Pt) (n0x0 c0x0:Nat) (e0x0:Bool) (a0x1:Pt) (n0x1 c0x1:Nat) (e0x1:Bool) (x1x0 x1x1:List Nat) (h:Zaa) (Q:QT) (ht :
 Zco (h ++ [.cells Zad [.slice a0x0 n0x0 c0x0 e0x0,.slice a0x1 n0x1 c0x1 e0x1] false]) fun A=>Zco (A ++ [.cells Zae [.str x1x0,.str x1x1] false]) fun B=>Zcb (Zan B (.ptr (h.length,0)) 2) fun C=>Zag C fun C D=>xSl C fun C E F G=>Zag D fun D H=>xSl D fun D I J K=>Zbu H (Zbn (Zai B (.ptr (A.length,0 + 0))) fun H=>Zah pg Zjf [.agg [.slice C E F G,.slice D I J K],.str H,.fn Zct [.ptr (A.length,0)]] B fun A B=>
 xSl A fun A C D E=>Q (.slice A C D E) B)):Zah pg Zko [.agg [.slice a0x0 n0x0 c0x0 e0x0,.slice a0x1 n0x1 c0x1 e0x1],.agg [.str x1x0,.str x1x1]] h Q:=
 Zah.of_body kp (c:=cod fn) (fn:=fn) Go.Proofs.Tryz.func59 (by kernel_rfl) (by kernel_rfl) (Nat.le_of_ble_eq_true (by kernel_rfl))
  (cast (by kernel_rfl) ht)
end Zof
namespace Zmt
noncomputable abbrev fn:Func:=Go.Proofs.Tryz.f22
def kp:Zcu:=[]
noncomputable def C (p:List Nat):Code:=(cod fn).sub p
def KR (Q:QT):KT:=Zfi pg fn.results.toList Q
theorem call (a0x0:Pt) (n0x0 c0x0:Nat) (e0x0:Bool) (a0x1:Pt) (n0x1 c0x1:Nat) (e0x1:Bool) (x1x0 x1x1:List Nat) (h:Zaa) (Q:QT) (ht :
 Zco (h ++ [.cells Zad [.slice a0x0 n0x0 c0x0 e0x0,.slice a0x1 n0x1 c0x1 e0x1] false]) fun A=>Zco (A ++ [.cells Zae [.str x1x0,.str x1x1] false]) fun B=>Zcb (Zan B (.ptr (h.length,0)) 2) fun C=>Zag C fun C D=>xSl C fun C E F G=>Zag D fun D H=>xSl D fun D I J K=>Zbu H (Zcb (Zan B (.ptr (A.length,0)) 2) fun H=>Zag H fun H L=>Zbn H fun H=>Zag L fun L M=>Zbn L fun L=>Zbu M (Zah pg Zcg [.agg [.slice C E F G,.slice D I J K],.agg [.str H,.str L]] B fun B C=>
 Zbr B fun B=>bcase (!B) (Q (.tup [.slice none 0 0 true,.bool false]) C) (Zcb (Zan C (.ptr (h.length,0)) 2) fun B=>Zag B fun B D=>xSl B fun B E F G=>Zag D fun D H=>xSl D fun D I J K=>Zbu H (Zcb (Zan C (.ptr (A.length,0)) 2) fun A=>Zag A fun A H=>Zbn A fun A=>Zag H fun H L=>Zbn H fun H=>Zbu L (Zah pg Zko [.agg [.slice B E F G,.slice D I J K],.agg [.str A,.str H]] C fun A B=>
 xSl A fun A C D E=>Q (.tup [.slice A C D E,.bool true]) B)))))):Zah pg Ziy [.agg [.slice a0x0 n0x0 c0x0 e0x0,.slice a0x1 n0x1 c0x1 e0x1],.agg [.str x1x0,.str x1x1]] h Q:=
 Zah.of_body kp (c:=cod fn) (fn:=fn) Go.Proofs.Tryz.func22 (by kernel_rfl) (by kernel_rfl) (Nat.le_of_ble_eq_true (by kernel_rfl))
  (cast (by kernel_rfl) ht)
end Zmt
namespace Zdz
noncomputable abbrev fn:Func:=Go.Proofs.Tryz.f62
def kp:Zcu:=[(3000003,[5]),(1000003,[3,5,10,11,12]),(4000007,[12,11,10,3,5])]
noncomputable def C (p:List Nat):Code:=(cod fn).sub p
def KR (Q:QT):KT:=Zfi pg fn.results.toList Q
abbrev T3:=Nat→Nat→Pt→Nat→Nat→Bool→Pt→Nat→Nat→Bool→Int→Int→Zaa→Prop
def E3 (R3:T3) (env:Env) (h:Zaa):Prop:=Zci 3 env fun v env=>Zfc v fun a=>Zbi a fun i3 o3=>Zci 5 env fun v env=>xSl v fun a5 n5 c5 e5=>Zci 10 env fun v env=>xSl v fun a10 n10 c10 e10=>Zci 11 env fun v env=>Zez .i64 v fun x11=>Zci 12 env fun v env=>Zez .i64 v fun x12=>Zky env (R3 i3 o3 a5 n5 c5 e5 a10 n10 c10 e10 x11 x12 h)
theorem Zfy {R3:T3} {env:Env} {h:Zaa} (hi:E3 R3 env h):∃ i3,∃ o3,∃ a5,∃ n5,∃ c5,∃ e5,∃ a10,∃ n10,∃ c10,∃ e10,∃ x11,∃ x12,env=[(3,.ptr (i3,o3)),(5,.slice a5 n5 c5 e5),(10,.slice a10 n10 c10 e10),(11,.int .i64 x11),(12,.int .i64 x12)]∧R3 i3 o3 a5 n5 c5 e5 a10 n10 c10 e10 x11 x12 h:=by
 unfold E3 at hi
 have hi0:=hi
 clear hi
 obtain ⟨_,_,rfl,hi1⟩:=Zal hi0
 obtain ⟨a,rfl,hi2⟩:=Zbo hi1
 obtain ⟨i3,o3,rfl,hi3⟩:=Zbp hi2
 obtain ⟨_,_,rfl,hi4⟩:=Zal hi3
 obtain ⟨a5,n5,c5,e5,rfl,hi5⟩:=Zcp hi4
 obtain ⟨_,_,rfl,hi6⟩:=Zal hi5
 obtain ⟨a10,n10,c10,e10,rfl,hi7⟩:=Zcp hi6
 obtain ⟨_,_,rfl,hi8⟩:=Zal hi7
 obtain ⟨x11,rfl,hi9⟩:=Zaz hi8
 obtain ⟨_,_,rfl,hi10⟩:=Zal hi9
 obtain ⟨x12,rfl,hi11⟩:=Zaz hi10
 obtain ⟨rfl,hi12⟩:=Zca hi11
 have hi:=hi12
 exact ⟨i3,o3,a5,n5,c5,e5,a10,n10,c10,e10,x11,x12,rfl,hi⟩
def K0 (Q:QT):KT:=andThen (fun env' h'=>(match kp.find 4000008 with | some ks=>Den pg fn.ntmps (C [1,1,1]) (env'.keep ks) h' (KR Q) | none=>den pg fn.ntmps kp (C [1,1,1]) env' h' (KR Q))) (KR Q)
def K1 (Q:QT):KT:=Zdg 0 (K0 Q)
def K2 (Q:QT):KT:=left kp 3 (K1 Q)
def K3 (Q:QT) (R3:T3):KT:=rnd ((kp.find 1000003).getD []) (E3 R3) (K2 Q)
def L3 (Q:QT) (i3 o3:Nat) (a5:Pt) (n5 c5:Nat) (e5:Bool) (a10:Pt) (n10 c10:Nat) (e10:Bool) (x11 x12:Int) (h:Zaa):Prop:=Zfb (Den pg fn.ntmps (C [1,1,0,1,0,0])) ((kp.find 1000003).getD []) (K2 Q) [(3,.ptr (i3,o3)),(5,.slice a5 n5 c5 e5),(10,.slice a10 n10 c10 e10),(11,.int .i64 x11),(12,.int .i64 x12)] h
def J7 (Q:QT) (R3:T3) (x12 x11:Int) (a10:Pt) (n10 c10:Nat) (e10:Bool) (i3 o3:Nat) (a5:Pt) (n5 c5:Nat) (e5:Bool) (h:Zaa):Prop:=Den pg fn.ntmps (C [1,1,0,1,0,0,1,1,1]) [(12,.int .i64 x12),(11,.int .i64 x11),(10,.slice a10 n10 c10 e10),(3,.ptr (i3,o3)),(5,.slice a5 n5 c5 e5)] h (K3 Q R3)
def Zsz (Q:QT) (a5:Pt) (n5 c5:Nat) (e5:Bool) (h:Zaa):Prop:=At (K1 Q) (.exit 0) [(5,.slice a5 n5 c5 e5)] h
def L3t (Q:QT) (R3:T3) (i3 o3:Nat) (a5:Pt) (n5 c5:Nat) (e5:Bool) (a10:Pt) (n10 c10:Nat) (e10:Bool) (x11 x12:Int) (h:Zaa):Prop:=
 bcase (decide ((x12:Int) < x11)) ((0≤(x12:Int)∧(x12:Int) < (n10:Nat))∧(Zbi a10 fun A B=>Zcb (Zan h (.ptr (A,B + (Int.toNat x12) * 3)) 3) fun A=>Zag A fun A B=>Zbn A fun A=>Zag B fun B C=>Zbn B fun B=>Zag C fun C D=>xSl C fun C E F G=>Zbu D (Zco (h ++ [.cells Zac [.str [],.str [],.slice none 0 0 true] false]) fun D=>Zbx (Zbb D (.ptr (h.length,0)) [.str A,.str B,.slice C E F G]) fun A=>Zbn (Zai A (.ptr (h.length,0 + 0 + 0))) fun B=>Zbn (Zai A (.ptr (i3,o3 + 0))) fun C=>bcase (decide (B=C)) (Zbn (Zai A (.ptr (h.length,0 + 0 + 1))) fun B=>Zbn (Zai A (.ptr (i3,o3 + 1))) fun C=>Zah pg Zkk [.str B,.str C] A fun B C=>
 Zbr B fun B=>bcase B (Zco (C ++ [.cells Zgj [.int .i64 x12] false]) fun B=>Zcz pg Zyr B (.slice a5 n5 c5 e5) (.slice (C.length,0) 1 1 true) fun B D=>xSl B fun B E F G=>J7 Q R3 x12 x11 a10 n10 c10 e10 i3 o3 B E F G D) (J7 Q R3 x12 x11 a10 n10 c10 e10 i3 o3 a5 n5 c5 e5 C)) (J7 Q R3 x12 x11 a10 n10 c10 e10 i3 o3 a5 n5 c5 e5 A)))) (Zsz Q a5 n5 c5 e5 h)
theorem Zoo (Q:QT) (R3:T3) (i3 o3:Nat) (a5:Pt) (n5 c5:Nat) (e5:Bool) (a10:Pt) (n10 c10:Nat) (e10:Bool) (x11 x12:Int) (h:Zaa) (ht:L3t Q R3 i3 o3 a5 n5 c5 e5 a10 n10 c10 e10 x11 x12 h):Den pg fn.ntmps (C [1,1,0,1,0,0]) [(3,.ptr (i3,o3)),(5,.slice a5 n5 c5 e5),(10,.slice a10 n10 c10 e10),(11,.int .i64 x11),(12,.int .i64 x12)] h (K3 Q R3):=
 Zbf (kp:=kp) (cast (by kernel_rfl) ht)
theorem L3ind (Q:QT) (i3 o3:Nat) (a10:Pt) (n10 c10:Nat) (e10:Bool) (x11:Int) {G:Type} (J:G→Pt→Nat→Nat→Bool→Int→Zaa→Prop) (m:G→Nat)
 (hr:∀ (g:G) (a5:Pt) (n5 c5:Nat) (e5:Bool) (x12:Int) (h:Zaa),J g a5 n5 c5 e5 x12 h→∀ (R3:T3),(∀ g' (a5:Pt) (n5 c5:Nat) (e5:Bool) (x12:Int) (h:Zaa),m g' < m g→J g' a5 n5 c5 e5 x12 h→R3 i3 o3 a5 n5 c5 e5 a10 n10 c10 e10 x11 x12 h)→L3t Q R3 i3 o3 a5 n5 c5 e5 a10 n10 c10 e10 x11 x12 h)
 (g:G) (a5:Pt) (n5 c5:Nat) (e5:Bool) (x12:Int) (h:Zaa) (hj:J g a5 n5 c5 e5 x12 h):L3 Q i3 o3 a5 n5 c5 e5 a10 n10 c10 e10 x11 x12 h:=by
 let P:=fun (K:Pt→Nat→Nat→Bool→Int→Zaa→Prop) i3' o3' a5 n5 c5 e5 a10' n10' c10' e10' x11' x12 h=>i3=i3'∧o3=o3'∧a10=a10'∧n10=n10'∧c10=c10'∧e10=e10'∧x11=x11'∧K a5 n5 c5 e5 x12 h
 refine Zfb.inv2 (fun g=>E3 (P (J g))) (fun g=>E3 (P fun a5 n5 c5 e5 x12 h=>∃ g',m g' < m g∧J g' a5 n5 c5 e5 x12 h)) m ?_ ?_ g ⟨rfl,rfl,rfl,rfl,rfl,rfl,rfl,hj⟩
 ·intro g env h hi
  obtain ⟨i3',o3',a5,n5,c5,e5,a10',n10',c10',e10',x11',x12,rfl,rfl,rfl,rfl,rfl,rfl,rfl,rfl,hj⟩:=Zfy hi
  exact Zoo Q _ i3 o3 a5 n5 c5 e5 a10 n10 c10 e10 x11 x12 h (hr g a5 n5 c5 e5 x12 h hj (P fun a5 n5 c5 e5 x12 h=>∃ g',m g' < m g∧J g' a5 n5 c5 e5 x12 h) fun g' a5 n5 c5 e5 x12 h hlt hj=>⟨rfl,rfl,rfl,rfl,rfl,rfl,rfl,g',hlt,hj⟩)
 ·intro g env h hi
  obtain ⟨i3',o3',a5,n5,c5,e5,a10',n10',c10',e10',x11',x12,rfl,rfl,rfl,rfl,rfl,rfl,rfl,rfl,g',hlt,hj⟩:=Zfy hi
  exact ⟨g',hlt,rfl,rfl,rfl,rfl,rfl,rfl,rfl,hj⟩
theorem J7i (Q:QT) (R3:T3) (x12 x11:Int) (a10:Pt) (n10 c10:Nat) (e10:Bool) (i3 o3:Nat) (a5:Pt) (n5 c5:Nat) (e5:Bool) (h:Zaa) (ht :
 R3 i3 o3 a5 n5 c5 e5 a10 n10 c10 e10 x11 (IntKind.wrap .i64 (x12 + 1)) h):J7 Q R3 x12 x11 a10 n10 c10 e10 i3 o3 a5 n5 c5 e5 h:=
 Zbf (kp:=kp) (cast (by kernel_rfl) ht)
theorem A3x0i (Q:QT) (a5:Pt) (n5 c5:Nat) (e5:Bool) (h:Zaa) (ht :
 Q (.slice a5 n5 c5 e5) h):Zsz Q a5 n5 c5 e5 h:=
 At.mk (cast (by kernel_rfl) ht)
theorem call (a0x0:Pt) (n0x0 c0x0:Nat) (e0x0:Bool) (a0x1:Pt) (n0x1 c0x1:Nat) (e0x1:Bool) (x1x0 x1x1:List Nat) (h:Zaa) (Q:QT) (ht :
 Zco (h ++ [.cells Zad [.slice a0x0 n0x0 c0x0 e0x0,.slice a0x1 n0x1 c0x1 e0x1] false]) fun A=>Zco (A ++ [.cells Zae [.str x1x0,.str x1x1] false]) fun B=>Zco (B ++ [.cells Zgj [] false]) fun C=>xSl (Zai C (.ptr (h.length,0 + 1))) fun D E F G=>L3 Q A.length 0 (B.length,0) 0 0 true D E F G (((E:Nat):Int)) 0 C):Zah pg Zix [.agg [.slice a0x0 n0x0 c0x0 e0x0,.slice a0x1 n0x1 c0x1 e0x1],.agg [.str x1x0,.str x1x1]] h Q:=
 Zah.of_body kp (c:=cod fn) (fn:=fn) Go.Proofs.Tryz.func62 (by kernel_rfl) (by kernel_rfl) (Nat.le_of_ble_eq_true (by kernel_rfl))
  (cast (by kernel_rfl) ht)
end Zdz
namespace Zmp
noncomputable abbrev fn:Func:=Go.Proofs.Tryz.f24
def kp:Zcu:=[]
noncomputable def C (p:List Nat):Code:=(cod fn).sub p
def KR (Q:QT):KT:=Zfi pg fn.results.toList Q
theorem call (a0x0:Pt) (n0x0 c0x0:Nat) (e0x0:Bool) (a0x1:Pt) (n0x1 c0x1:Nat) (e0x1:Bool) (x1x0 x1x1:List Nat) (h:Zaa) (Q:QT) (ht :
 Zco (h ++ [.cells Zad [.slice a0x0 n0x0 c0x0 e0x0,.slice a0x1 n0x1 c0x1 e0x1] false]) fun A=>Zco (A ++ [.cells Zae [.str x1x0,.str x1x1] false]) fun B=>Zcb (Zan B (.ptr (h.length,0)) 2) fun C=>Zag C fun C D=>xSl C fun C E F G=>Zag D fun D H=>xSl D fun D I J K=>Zbu H (Zcb (Zan B (.ptr (A.length,0)) 2) fun H=>Zag H fun H L=>Zbn H fun H=>Zag L fun L M=>Zbn L fun L=>Zbu M (Zah pg Zdo [.agg [.slice C E F G,.slice D I J K],.agg [.str H,.str L]] B fun B C=>
 Zbr B fun B=>bcase (!B) (Zco (C ++ [.cells Zgj [] false]) fun B=>Q (.tup [.slice (C.length,0) 0 0 true,.bool false]) B) (Zcb (Zan C (.ptr (h.length,0)) 2) fun B=>Zag B fun B D=>xSl B fun B E F G=>Zag D fun D H=>xSl D fun D I J K=>Zbu H (Zcb (Zan C (.ptr (A.length,0)) 2) fun A=>Zag A fun A H=>Zbn A fun A=>Zag H fun H L=>Zbn H fun H=>Zbu L (Zah pg Zix [.agg [.slice B E F G,.slice D I J K],.agg [.str A,.str H]] C fun A B=>
 xSl A fun A C D E=>Q (.tup [.slice A C D E,.bool true]) B)))))):Zah pg Ziz [.agg [.slice a0x0 n0x0 c0x0 e0x0,.slice a0x1 n0x1 c0x1 e0x1],.agg [.str x1x0,.str x1x1]] h Q:=
 Zah.of_body kp (c:=cod fn) (fn:=fn) Go.Proofs.Tryz.func24 (by kernel_rfl) (by kernel_rfl) (Nat.le_of_ble_eq_true (by kernel_rfl))
  (cast (by kernel_rfl) ht)
end Zmp
end Go.Sim

set_option maxRecDepth 100000
set_option maxHeartbeats 0
set_option linter.unusedVariables false
namespace Go.Sim
open Go Go.RowKit
end Go.Sim

set_option maxRecDepth 100000
set_option maxHeartbeats 0
set_option linter.unusedVariables false
namespace Go.Sim
open Go Go.RowKit
end Go.Sim

set_option maxRecDepth 100000
set_option maxHeartbeats 0
set_option linter.unusedVariables false
namespace Go.Sim
open Go Go.RowKit
namespace Zvo
noncomputable abbrev fn:Func:=Go.Proofs.Tryz.f34
def kp:Zcu:=[]
noncomputable def C (p:List Nat):Code:=(cod fn).sub p
def KR (Q:QT):KT:=Zfi pg fn.results.toList Q
theorem call (x0:List Nat) (m1:Option Nat) (h:Zaa) (Q:QT) (ht :
 Zah pg Zhv [.str x0] h fun A B=>
 Zru A fun A=>Zag A fun A C=>Zfc A fun A=>Zag C fun C D=>Zbn C fun C=>Zbu D (Zah pg Zhx [.ptr A,.map m1] B fun A B=>
 Zfc A fun A=>Q (.ptr A) B)):Zah pg Znm [.str x0,.map m1] h Q:=
 Zah.of_body kp (c:=cod fn) (fn:=fn) Go.Proofs.Tryz.func34 (by kernel_rfl) (by kernel_rfl) (Nat.le_of_ble_eq_true (by kernel_rfl))
  (cast (by kernel_rfl) ht)
end Zvo
namespace Zmw
noncomputable abbrev fn:Func:=Go.Proofs.Tryz.f29
def kp:Zcu:=[(4000003,[0,1])]
noncomputable def C (p:List Nat):Code:=(cod fn).sub p
def KR (Q:QT):KT:=Zfi pg fn.results.toList Q
def J3 (Q:QT) (x0 x1:List Nat) (h:Zaa):Prop:=Den pg fn.ntmps (C [1,1]) [(0,.str x0),(1,.str x1)] h (KR Q)
theorem J3i (Q:QT) (x0 x1:List Nat) (h:Zaa) (ht :
 Zco (h ++ [.map [] 0]) fun A=>Zah pg Znm [.str x0,.map ((some h.length))] A fun A B=>
 Zfc A fun A=>Zco (B ++ [.map [] 0]) fun C=>Zah pg Znm [.str x1,.map ((some B.length))] C fun B C=>
 Zfc B fun B=>Zah pg Zmz [.ptr A,.ptr B] C fun B C=>
 Zbr B fun B=>bcase (!B) (Q (.bool true) C) (Zah pg Zlk [.ptr A] C fun A B=>
 Zbr A fun A=>Q (.bool (!A)) B)):J3 Q x0 x1 h:=
 Zbf (kp:=kp) (cast (by kernel_rfl) ht)
theorem call (x0 x1:List Nat) (h:Zaa) (Q:QT) (ht :
 Zah pg Zek [.str x0] h fun A B=>
 Zbr A fun A=>bcase (!A) (Q (.bool false) B) (Zah pg Zek [.str x1] B fun A B=>
 Zbr A fun A=>bcase (!A) (Q (.bool false) B) (J3 Q x0 x1 B))):Zah pg Zjo [.str x0,.str x1] h Q:=
 Zah.of_body kp (c:=cod fn) (fn:=fn) Go.Proofs.Tryz.func29 (by kernel_rfl) (by kernel_rfl) (Nat.le_of_ble_eq_true (by kernel_rfl))
  (cast (by kernel_rfl) ht)
end Zmw
end Go.Sim

set_option maxRecDepth 100000
set_option maxHeartbeats 0
set_option linter.unusedVariables false
namespace Go.Sim
open Go Go.RowKit
namespace Zey
noncomputable abbrev fn:Func:=Go.Proofs.Tryz.f74
def kp:Zcu:=[(2000003,[1,0]),(4000004,[1,0]),(3000007,[5]),(1000007,[1,5,46,47,48]),(2000009,[48,47,46,5,1])]
noncomputable def C (p:List Nat):Code:=(cod fn).sub p
def KR (Q:QT):KT:=Zfi pg fn.results.toList Q
abbrev T7:=Option Nat→Nat→Nat→Pt→Nat→Nat→Bool→Int→Int→Zaa→Prop
def E7 (R7:T7) (env:Env) (h:Zaa):Prop:=Zci 1 env fun v env=>Yhp v fun m1=>Zci 5 env fun v env=>Zfc v fun a=>Zbi a fun i5 o5=>Zci 46 env fun v env=>xSl v fun a46 n46 c46 e46=>Zci 47 env fun v env=>Zez .i64 v fun x47=>Zci 48 env fun v env=>Zez .i64 v fun x48=>Zky env (R7 m1 i5 o5 a46 n46 c46 e46 x47 x48 h)
theorem Zvi {R7:T7} {env:Env} {h:Zaa} (hi:E7 R7 env h):∃ m1,∃ i5,∃ o5,∃ a46,∃ n46,∃ c46,∃ e46,∃ x47,∃ x48,env=[(1,.map m1),(5,.ptr (i5,o5)),(46,.slice a46 n46 c46 e46),(47,.int .i64 x47),(48,.int .i64 x48)]∧R7 m1 i5 o5 a46 n46 c46 e46 x47 x48 h:=by
 unfold E7 at hi
 have hi0:=hi
 clear hi
 obtain ⟨_,_,rfl,hi1⟩:=Zal hi0
 obtain ⟨m1,rfl,hi2⟩:=Zti hi1
 obtain ⟨_,_,rfl,hi3⟩:=Zal hi2
 obtain ⟨a,rfl,hi4⟩:=Zbo hi3
 obtain ⟨i5,o5,rfl,hi5⟩:=Zbp hi4
 obtain ⟨_,_,rfl,hi6⟩:=Zal hi5
 obtain ⟨a46,n46,c46,e46,rfl,hi7⟩:=Zcp hi6
 obtain ⟨_,_,rfl,hi8⟩:=Zal hi7
 obtain ⟨x47,rfl,hi9⟩:=Zaz hi8
 obtain ⟨_,_,rfl,hi10⟩:=Zal hi9
 obtain ⟨x48,rfl,hi11⟩:=Zaz hi10
 obtain ⟨rfl,hi12⟩:=Zca hi11
 have hi:=hi12
 exact ⟨m1,i5,o5,a46,n46,c46,e46,x47,x48,rfl,hi⟩
def K0 (Q:QT):KT:=andThen (fun env' h'=>(match kp.find 4000005 with | some ks=>Den pg fn.ntmps (C [1,1]) (env'.keep ks) h' (KR Q) | none=>den pg fn.ntmps kp (C [1,1]) env' h' (KR Q))) (KR Q)
def K1 (Q:QT):KT:=andThen (fun env' h'=>(match kp.find 4000011 with | some ks=>Den pg fn.ntmps (C [1,1,1,1]) (env'.keep ks) h' (KR Q) | none=>den pg fn.ntmps kp (C [1,1,1,1]) env' h' (KR Q))) (KR Q)
def K2 (Q:QT):KT:=Zdg 0 (K1 Q)
def K3 (Q:QT):KT:=left kp 7 (K2 Q)
def K4 (Q:QT) (R7:T7):KT:=rnd ((kp.find 1000007).getD []) (E7 R7) (K3 Q)
def J4 (Q:QT) (m1:Option Nat) (a0:Pt) (h:Zaa):Prop:=Den pg fn.ntmps (C [1,0,1,0,1]) [(1,.map m1),(0,.ptr a0)] h (K0 Q)
def L7 (Q:QT) (m1:Option Nat) (i5 o5:Nat) (a46:Pt) (n46 c46:Nat) (e46:Bool) (x47 x48:Int) (h:Zaa):Prop:=Zfb (Den pg fn.ntmps (C [1,1,1,0,1,0,0])) ((kp.find 1000007).getD []) (K3 Q) [(1,.map m1),(5,.ptr (i5,o5)),(46,.slice a46 n46 c46 e46),(47,.int .i64 x47),(48,.int .i64 x48)] h
def Ywa (Q:QT) (i5 o5:Nat) (h:Zaa):Prop:=At (K2 Q) (.exit 0) [(5,.ptr (i5,o5))] h
theorem J4i (Q:QT) (m1:Option Nat) (a0:Pt) (h:Zaa) (ht :
 Zbi a0 fun A B=>Zbn (Zai h (.ptr (A,B + 0))) fun A=>Zdy h m1 fun es_39 k_40=>Zsr es_39 A fun A=>Zfc (some (Option.getD A (.ptr none))) fun A=>Q (.ptr A) h):J4 Q m1 a0 h:=
 Zbf (kp:=kp) (cast (by kernel_rfl) ht)
def L7t (Q:QT) (R7:T7) (m1:Option Nat) (i5 o5:Nat) (a46:Pt) (n46 c46:Nat) (e46:Bool) (x47 x48:Int) (h:Zaa):Prop:=
 bcase (decide ((x48:Int) < x47)) ((0≤(x48:Int)∧(x48:Int) < (n46:Nat))∧(Zbi a46 fun A B=>Zfc (Zai h (.ptr (A,B + (Int.toNat x48) * 1))) fun A=>xSl (Zai h (.ptr (i5,o5 + 1))) fun B C D E=>Zah pg Zhx [.ptr A,.map m1] h fun A F=>
 Zfc A fun A=>(Zai F (.ptr (i5,o5 + 1))=Zai h (.ptr (i5,o5 + 1)))∧Zco (F ++ [.cells Zdw [.ptr A] false]) fun A=>(Zai A (.ptr (i5,o5 + 1))=Zai F (.ptr (i5,o5 + 1)))∧Zcz pg Zmq A (.slice B C D E) (.slice (F.length,0) 1 1 true) fun A B=>xSl A fun A C D E=>Zbx (Zbb B (.ptr (i5,o5 + 1)) [.slice A C D E]) fun A=>R7 m1 i5 o5 a46 n46 c46 e46 x47 (IntKind.wrap .i64 (x48 + 1)) A)) (Ywa Q i5 o5 h)
theorem Ykm (Q:QT) (R7:T7) (m1:Option Nat) (i5 o5:Nat) (a46:Pt) (n46 c46:Nat) (e46:Bool) (x47 x48:Int) (h:Zaa) (ht:L7t Q R7 m1 i5 o5 a46 n46 c46 e46 x47 x48 h):Den pg fn.ntmps (C [1,1,1,0,1,0,0]) [(1,.map m1),(5,.ptr (i5,o5)),(46,.slice a46 n46 c46 e46),(47,.int .i64 x47),(48,.int .i64 x48)] h (K4 Q R7):=
 Zbf (kp:=kp) (cast (by kernel_rfl) ht)
theorem L7ind (Q:QT) (m1:Option Nat) (i5 o5:Nat) (a46:Pt) (n46 c46:Nat) (e46:Bool) (x47:Int) {G:Type} (J:G→Int→Zaa→Prop) (m:G→Nat)
 (hr:∀ (g:G) (x48:Int) (h:Zaa),J g x48 h→∀ (R7:T7),(∀ g' (x48:Int) (h:Zaa),m g' < m g→J g' x48 h→R7 m1 i5 o5 a46 n46 c46 e46 x47 x48 h)→L7t Q R7 m1 i5 o5 a46 n46 c46 e46 x47 x48 h)
 (g:G) (x48:Int) (h:Zaa) (hj:J g x48 h):L7 Q m1 i5 o5 a46 n46 c46 e46 x47 x48 h:=by
 let P:=fun (K:Int→Zaa→Prop) m1' i5' o5' a46' n46' c46' e46' x47' x48 h=>m1=m1'∧i5=i5'∧o5=o5'∧a46=a46'∧n46=n46'∧c46=c46'∧e46=e46'∧x47=x47'∧K x48 h
 refine Zfb.inv2 (fun g=>E7 (P (J g))) (fun g=>E7 (P fun x48 h=>∃ g',m g' < m g∧J g' x48 h)) m ?_ ?_ g ⟨rfl,rfl,rfl,rfl,rfl,rfl,rfl,rfl,hj⟩
 ·intro g env h hi
  obtain ⟨m1',i5',o5',a46',n46',c46',e46',x47',x48,rfl,rfl,rfl,rfl,rfl,rfl,rfl,rfl,rfl,hj⟩:=Zvi hi
  exact Ykm Q _ m1 i5 o5 a46 n46 c46 e46 x47 x48 h (hr g x48 h hj (P fun x48 h=>∃ g',m g' < m g∧J g' x48 h) fun g' x48 h hlt hj=>⟨rfl,rfl,rfl,rfl,rfl,rfl,rfl,rfl,g',hlt,hj⟩)
 ·intro g env h hi
  obtain ⟨m1',i5',o5',a46',n46',c46',e46',x47',x48,rfl,rfl,rfl,rfl,rfl,rfl,rfl,rfl,rfl,g',hlt,hj⟩:=Zvi hi
  exact ⟨g',hlt,rfl,rfl,rfl,rfl,rfl,rfl,rfl,rfl,hj⟩
theorem A7x0i (Q:QT) (i5 o5:Nat) (h:Zaa) (ht :
 Q (.ptr (i5,o5)) h):Ywa Q i5 o5 h:=
 At.mk (cast (by kernel_rfl) ht)
theorem call (a0:Pt) (m1:Option Nat) (h:Zaa) (Q:QT) (ht :
 Zbi a0 fun A B=>Zbn (Zai h (.ptr (A,B + 0))) fun A=>Zah pg Zea [.str A] h fun A B=>
 Zbr A fun A=>bcase A (Zbi a0 fun A C=>Zbn (Zai B (.ptr (A,C + 0))) fun A=>Zdy B m1 fun es_9 k_10=>Zsr es_9 A fun A=>Zfc (some (Option.getD A (.ptr none))) fun A=>bcase (Option.isNone A) (Zbi a0 fun A C=>Zbi a0 fun D E=>Zbn (Zai B (.ptr (A,C + 0))) fun F=>Zbn (Zai B (.ptr (D,E + 0))) fun D=>(Zai B (.ptr (A,C + 0))=Zai B (.ptr (A,C + 0)))∧Zco (B ++ [.cells Zcl [.str D,.slice none 0 0 true,.ptr none] false]) fun D=>(Zai D (.ptr (A,C + 0))=Zai B (.ptr (A,C + 0)))∧xMp m1 fun A=>Zdy D (some A) fun es_21 k_22=>Yjy es_21 k_22 F (.ptr (B.length,0)) fun es_23 k_24=>Zco (List.set D A (.map es_23 k_24)) fun A=>J4 Q m1 a0 A) (J4 Q m1 a0 B)) (Zbi a0 fun A C=>Zbn (Zai B (.ptr (A,C + 0))) fun A=>Zco (B ++ [.cells Zcl [.str A,.slice none 0 0 true,.ptr none] false]) fun A=>Zbi a0 fun C D=>xSl (Zai A (.ptr (C,D + 1))) fun C D E F=>L7 Q m1 B.length 0 C D E F (((D:Nat):Int)) 0 A)):Zah pg Zhx [.ptr a0,.map m1] h Q:=
 Zah.of_body kp (c:=cod fn) (fn:=fn) Go.Proofs.Tryz.func74 (by kernel_rfl) (by kernel_rfl) (Nat.le_of_ble_eq_true (by kernel_rfl))
  (cast (by kernel_rfl) ht)
end Zey
end Go.Sim

set_option maxRecDepth 100000
set_option maxHeartbeats 0
set_option linter.unusedVariables false
namespace Go.Sim
open Go Go.RowKit
end Go.Sim

set_option maxRecDepth 100000
set_option maxHeartbeats 0
set_option linter.unusedVariables false
namespace Go.Sim
open Go Go.RowKit
namespace Zfq
noncomputable abbrev fn:Func:=Go.Proofs.Tryz.f75
def kp:Zcu:=[(3000008,[1,0,2,6]),(1000008,[0,1,2,22,23,24])]
noncomputable def C (p:List Nat):Code:=(cod fn).sub p
def KR (Q:QT):KT:=Zfi pg fn.results.toList Q
abbrev T8:=Pt→Option Nat→Option Nat→Pt→Nat→Nat→Bool→Int→Int→Zaa→Prop
def E8 (R8:T8) (env:Env) (h:Zaa):Prop:=Zci 0 env fun v env=>Zfc v fun a0=>Zci 1 env fun v env=>Yhp v fun m1=>Zci 2 env fun v env=>Yhp v fun m2=>Zci 22 env fun v env=>xSl v fun a22 n22 c22 e22=>Zci 23 env fun v env=>Zez .i64 v fun x23=>Zci 24 env fun v env=>Zez .i64 v fun x24=>Zky env (R8 a0 m1 m2 a22 n22 c22 e22 x23 x24 h)
theorem Ycp {R8:T8} {env:Env} {h:Zaa} (hi:E8 R8 env h):∃ a0,∃ m1,∃ m2,∃ a22,∃ n22,∃ c22,∃ e22,∃ x23,∃ x24,env=[(0,.ptr a0),(1,.map m1),(2,.map m2),(22,.slice a22 n22 c22 e22),(23,.int .i64 x23),(24,.int .i64 x24)]∧R8 a0 m1 m2 a22 n22 c22 e22 x23 x24 h:=by
 unfold E8 at hi
 repeat ((first | (have k:=Zal hi; clear hi; obtain ⟨_,_,e,hi⟩:=k) | (have k:=Zbo hi; clear hi; obtain ⟨_,e,hi⟩:=k) | (have k:=Zti hi; clear hi; obtain ⟨_,e,hi⟩:=k) | (have k:=Zcp hi; clear hi; obtain ⟨_,_,_,_,e,hi⟩:=k) | (have k:=Zaz hi; clear hi; obtain ⟨_,e,hi⟩:=k)); subst e)
 obtain ⟨rfl,hi⟩:=Zca hi
 exact ⟨_,_,_,_,_,_,_,_,_,rfl,hi⟩
def K0 (Q:QT):KT:=andThen (fun env' h'=>(match kp.find 4000013 with | some ks=>Den pg fn.ntmps (C [1,1,1,1,1,1]) (env'.keep ks) h' (KR Q) | none=>den pg fn.ntmps kp (C [1,1,1,1,1,1]) env' h' (KR Q))) (KR Q)
def K1 (Q:QT):KT:=Zdg 0 (K0 Q)
def K2 (Q:QT):KT:=left kp 8 (K1 Q)
def K3 (Q:QT) (R8:T8):KT:=rnd ((kp.find 1000008).getD []) (E8 R8) (K2 Q)
def L8 (Q:QT) (a0:Pt) (m1 m2:Option Nat) (a22:Pt) (n22 c22:Nat) (e22:Bool) (x23 x24:Int) (h:Zaa):Prop:=Zfb (Den pg fn.ntmps (C [1,1,1,1,1,0,1,0,0])) ((kp.find 1000008).getD []) (K2 Q) [(0,.ptr a0),(1,.map m1),(2,.map m2),(22,.slice a22 n22 c22 e22),(23,.int .i64 x23),(24,.int .i64 x24)] h
def Ywc (Q:QT) (m1:Option Nat) (a0:Pt) (m2:Option Nat) (h:Zaa):Prop:=At (K1 Q) (.exit 0) [(1,.map m1),(0,.ptr a0),(2,.map m2),(6,.undef)] h
def L8t (Q:QT) (R8:T8) (a0:Pt) (m1 m2:Option Nat) (a22:Pt) (n22 c22:Nat) (e22:Bool) (x23 x24:Int) (h:Zaa):Prop:=
 bcase (decide ((x24:Int) < x23)) ((0≤(x24:Int)∧(x24:Int) < (n22:Nat))∧(Zbi a22 fun A B=>Zfc (Zai h (.ptr (A,B + (Int.toNat x24) * 1))) fun A=>Zah pg Zgp [.ptr A,.map m1,.map m2] h fun A B=>
 Zbr A fun A=>bcase A (Q (.bool true) B) (R8 a0 m1 m2 a22 n22 c22 e22 x23 (IntKind.wrap .i64 (x24 + 1)) B))) (Ywc Q m1 a0 m2 h)
theorem Yrw (Q:QT) (R8:T8) (a0:Pt) (m1 m2:Option Nat) (a22:Pt) (n22 c22:Nat) (e22:Bool) (x23 x24:Int) (h:Zaa) (ht:L8t Q R8 a0 m1 m2 a22 n22 c22 e22 x23 x24 h):Den pg fn.ntmps (C [1,1,1,1,1,0,1,0,0]) [(0,.ptr a0),(1,.map m1),(2,.map m2),(22,.slice a22 n22 c22 e22),(23,.int .i64 x23),(24,.int .i64 x24)] h (K3 Q R8):=
 Zbf (kp:=kp) (cast (by kernel_rfl) ht)
theorem L8ind (Q:QT) (a0:Pt) (m1 m2:Option Nat) (a22:Pt) (n22 c22:Nat) (e22:Bool) (x23:Int) {G:Type} (J:G→Int→Zaa→Prop) (m:G→Nat)
 (hr:∀ (g:G) (x24:Int) (h:Zaa),J g x24 h→∀ (R8:T8),(∀ g' (x24:Int) (h:Zaa),m g' < m g→J g' x24 h→R8 a0 m1 m2 a22 n22 c22 e22 x23 x24 h)→L8t Q R8 a0 m1 m2 a22 n22 c22 e22 x23 x24 h)
 (g:G) (x24:Int) (h:Zaa) (hj:J g x24 h):L8 Q a0 m1 m2 a22 n22 c22 e22 x23 x24 h:=by
 let P:=fun (K:Int→Zaa→Prop) a0' m1' m2' a22' n22' c22' e22' x23' x24 h=>a0=a0'∧m1=m1'∧m2=m2'∧a22=a22'∧n22=n22'∧c22=c22'∧e22=e22'∧x23=x23'∧K x24 h
 refine Zfb.inv2 (fun g=>E8 (P (J g))) (fun g=>E8 (P fun x24 h=>∃ g',m g' < m g∧J g' x24 h)) m ?_ ?_ g ⟨rfl,rfl,rfl,rfl,rfl,rfl,rfl,rfl,hj⟩
 ·intro g env h hi
  obtain ⟨a0',m1',m2',a22',n22',c22',e22',x23',x24,rfl,rfl,rfl,rfl,rfl,rfl,rfl,rfl,rfl,hj⟩:=Ycp hi
  exact Yrw Q _ a0 m1 m2 a22 n22 c22 e22 x23 x24 h (hr g x24 h hj (P fun x24 h=>∃ g',m g' < m g∧J g' x24 h) fun g' x24 h hlt hj=>⟨rfl,rfl,rfl,rfl,rfl,rfl,rfl,rfl,g',hlt,hj⟩)
 ·intro g env h hi
  obtain ⟨a0',m1',m2',a22',n22',c22',e22',x23',x24,rfl,rfl,rfl,rfl,rfl,rfl,rfl,rfl,rfl,g',hlt,hj⟩:=Ycp hi
  exact ⟨g',hlt,rfl,rfl,rfl,rfl,rfl,rfl,rfl,rfl,hj⟩
theorem A8x0i (Q:QT) (m1:Option Nat) (a0:Pt) (m2:Option Nat) (h:Zaa) (ht :
 xMp m1 fun A=>Zbi a0 fun B C=>Zdy h (some A) fun es_36 k_37=>Yqw (Zmf h es_36 (B,C) 0) es_36 fun es_38=>Zco (List.set h A (.map es_38 k_37)) fun A=>xMp m2 fun B=>Zbi a0 fun C D=>Zdy A (some B) fun es_43 k_44=>Ypr (Zmf A es_43 (C,D) 0) es_43 k_44 (C,D) (.bool true) fun es_45 k_46=>Zco (List.set A B (.map es_45 k_46)) fun A=>Q (.bool false) A):Ywc Q m1 a0 m2 h:=
 At.mk (cast (by kernel_rfl) ht)
theorem call (a0:Pt) (m1 m2:Option Nat) (h:Zaa) (Q:QT) (ht :
 Zah pg Zhj [.ptr a0] h fun A B=>
 Zfc A fun A=>Zbi A fun C D=>Zdy B m1 fun es_3 k_4=>Zxa (Zmf B es_3 (C,D) 0) fun C=>Zbr (some (Option.getD C (.bool false))) fun C=>bcase C (Q (.bool true) B) (Zbi A fun C D=>Zdy B m2 fun es_9 k_10=>Zxa (Zmf B es_9 (C,D) 0) fun C=>Zbr (some (Option.getD C (.bool false))) fun C=>bcase C (Q (.bool false) B) (xMp m1 fun C=>Zbi A fun D E=>Zdy B (some C) fun es_16 k_17=>Ypr (Zmf B es_16 (D,E) 0) es_16 k_17 (D,E) (.bool true) fun es_18 k_19=>Zco (List.set B C (.map es_18 k_19)) fun B=>Zbi A fun C D=>xSl (Zai B (.ptr (C,D + 1))) fun C D E F=>L8 Q A m1 m2 C D E F (((D:Nat):Int)) 0 B))):Zah pg Zgp [.ptr a0,.map m1,.map m2] h Q:=
 Zah.of_body kp (c:=cod fn) (fn:=fn) Go.Proofs.Tryz.func75 (by kernel_rfl) (by kernel_rfl) (Nat.le_of_ble_eq_true (by kernel_rfl))
  (cast (by kernel_rfl) ht)
end Zfq
namespace Zpv
noncomputable abbrev fn:Func:=Go.Proofs.Tryz.f36
def kp:Zcu:=[]
noncomputable def C (p:List Nat):Code:=(cod fn).sub p
def KR (Q:QT):KT:=Zfi pg fn.results.toList Q
theorem call (a0:Pt) (h:Zaa) (Q:QT) (ht :
 Zco (h ++ [.map [] 0]) fun A=>Zco (A ++ [.map [] 0]) fun B=>Zah pg Zgp [.ptr a0,.map ((some h.length)),.map ((some A.length))] B fun A B=>
 Zbr A fun A=>Q (.bool (!A)) B):Zah pg Zlk [.ptr a0] h Q:=
 Zah.of_body kp (c:=cod fn) (fn:=fn) Go.Proofs.Tryz.func36 (by kernel_rfl) (by kernel_rfl) (Nat.le_of_ble_eq_true (by kernel_rfl))
  (cast (by kernel_rfl) ht)
end Zpv
end Go.Sim

set_option maxRecDepth 100000
set_option maxHeartbeats 0
set_option linter.unusedVariables false
namespace Go.Sim
open Go Go.RowKit
namespace Zhm
noncomputable abbrev fn:Func:=Go.Proofs.Tryz.f37
def kp:Zcu:=[(3000001,[0]),(1000001,[0])]
noncomputable def C (p:List Nat):Code:=(cod fn).sub p
def KR (Q:QT):KT:=Zfi pg fn.results.toList Q
abbrev T1:=Pt→Zaa→Prop
def E1 (R1:T1) (env:Env) (h:Zaa):Prop:=Zci 0 env fun v env=>Zfc v fun a0=>Zky env (R1 a0 h)
theorem Yqq {R1:T1} {env:Env} {h:Zaa} (hi:E1 R1 env h):∃ a0,env=[(0,.ptr a0)]∧R1 a0 h:=by
 unfold E1 at hi
 repeat ((first | (have k:=Zal hi; clear hi; obtain ⟨_,_,e,hi⟩:=k) | (have k:=Zbo hi; clear hi; obtain ⟨_,e,hi⟩:=k)); subst e)
 obtain ⟨rfl,hi⟩:=Zca hi
 exact ⟨_,rfl,hi⟩
def K0 (Q:QT):KT:=andThen (fun env' h'=>(match kp.find 4000003 with | some ks=>Den pg fn.ntmps (C [1,1]) (env'.keep ks) h' (KR Q) | none=>den pg fn.ntmps kp (C [1,1]) env' h' (KR Q))) (KR Q)
def K1 (Q:QT):KT:=Zdg 0 (K0 Q)
def K2 (Q:QT):KT:=left kp 1 (K1 Q)
def K3 (Q:QT) (R1:T1):KT:=rnd ((kp.find 1000001).getD []) (E1 R1) (K2 Q)
def L1 (Q:QT) (a0:Pt) (h:Zaa):Prop:=Zfb (Den pg fn.ntmps (C [1,0,0,0])) ((kp.find 1000001).getD []) (K2 Q) [(0,.ptr a0)] h
def Yvw (Q:QT) (a0:Pt) (h:Zaa):Prop:=At (K1 Q) (.exit 0) [(0,.ptr a0)] h
def L1t (Q:QT) (R1:T1) (a0:Pt) (h:Zaa):Prop:=
 Zbi a0 fun A B=>Zfc (Zai h (.ptr (A,B + 2))) fun A=>bcase (!(Option.isNone A)) (Zbi a0 fun A B=>Zfc (Zai h (.ptr (A,B + 2))) fun A=>R1 A h) (Yvw Q a0 h)
theorem Yvl (Q:QT) (R1:T1) (a0:Pt) (h:Zaa) (ht:L1t Q R1 a0 h):Den pg fn.ntmps (C [1,0,0,0]) [(0,.ptr a0)] h (K3 Q R1):=
 Zbf (kp:=kp) (cast (by kernel_rfl) ht)
theorem L1ind (Q:QT) {G:Type} (J:G→Pt→Zaa→Prop) (m:G→Nat)
 (hr:∀ (g:G) (a0:Pt) (h:Zaa),J g a0 h→∀ (R1:T1),(∀ g' (a0:Pt) (h:Zaa),m g' < m g→J g' a0 h→R1 a0 h)→L1t Q R1 a0 h)
 (g:G) (a0:Pt) (h:Zaa) (hj:J g a0 h):L1 Q a0 h:=by
 let P:=fun (K:Pt→Zaa→Prop) a0 h=>K a0 h
 refine Zfb.inv2 (fun g=>E1 (P (J g))) (fun g=>E1 (P fun a0 h=>∃ g',m g' < m g∧J g' a0 h)) m ?_ ?_ g hj
 ·intro g env h hi
  obtain ⟨a0,rfl,hj⟩:=Yqq hi
  exact Yvl Q _ a0 h (hr g a0 h hj (P fun a0 h=>∃ g',m g' < m g∧J g' a0 h) fun g' a0 h hlt hj=>⟨g',hlt,hj⟩)
 ·intro g env h hi
  obtain ⟨a0,rfl,g',hlt,hj⟩:=Yqq hi
  exact ⟨g',hlt,hj⟩
theorem A1x0i (Q:QT) (a0:Pt) (h:Zaa) (ht :
 Q (.ptr a0) h):Yvw Q a0 h:=
 At.mk (cast (by kernel_rfl) ht)
theorem call (a0:Pt) (h:Zaa) (Q:QT) (ht :
 L1 Q a0 h):Zah pg Zhj [.ptr a0] h Q:=
 Zah.of_body kp (c:=cod fn) (fn:=fn) Go.Proofs.Tryz.func37 (by kernel_rfl) (by kernel_rfl) (Nat.le_of_ble_eq_true (by kernel_rfl))
  (cast (by kernel_rfl) ht)
end Zhm
namespace Zfz
noncomputable abbrev fn:Func:=Go.Proofs.Tryz.f35
def kp:Zcu:=[(2000004,[16,1,0]),(4000007,[0,1]),(2000007,[71,0,1]),(4000009,[0,1]),(3000012,[4]),(1000012,[1,80,81,82])]
noncomputable def C (p:List Nat):Code:=(cod fn).sub p
def KR (Q:QT):KT:=Zfi pg fn.results.toList Q
abbrev T12:=Pt→Pt→Nat→Nat→Bool→Int→Int→Zaa→Prop
def E12 (R12:T12) (env:Env) (h:Zaa):Prop:=Zci 1 env fun v env=>Zfc v fun a1=>Zci 80 env fun v env=>xSl v fun a80 n80 c80 e80=>Zci 81 env fun v env=>Zez .i64 v fun x81=>Zci 82 env fun v env=>Zez .i64 v fun x82=>Zky env (R12 a1 a80 n80 c80 e80 x81 x82 h)
theorem Zqu {R12:T12} {env:Env} {h:Zaa} (hi:E12 R12 env h):∃ a1,∃ a80,∃ n80,∃ c80,∃ e80,∃ x81,∃ x82,env=[(1,.ptr a1),(80,.slice a80 n80 c80 e80),(81,.int .i64 x81),(82,.int .i64 x82)]∧R12 a1 a80 n80 c80 e80 x81 x82 h:=by
 unfold E12 at hi
 repeat ((first | (have k:=Zal hi; clear hi; obtain ⟨_,_,e,hi⟩:=k) | (have k:=Zaz hi; clear hi; obtain ⟨_,e,hi⟩:=k) | (have k:=Zcp hi; clear hi; obtain ⟨_,_,_,_,e,hi⟩:=k) | (have k:=Zbo hi; clear hi; obtain ⟨_,e,hi⟩:=k)); subst e)
 obtain ⟨rfl,hi⟩:=Zca hi
 exact ⟨_,_,_,_,_,_,_,rfl,hi⟩
def K0 (Q:QT):KT:=andThen (fun env' h'=>(match kp.find 4000017 with | some ks=>Den pg fn.ntmps (C [1,1,1,1,1,1,1]) (env'.keep ks) h' (KR Q) | none=>den pg fn.ntmps kp (C [1,1,1,1,1,1,1]) env' h' (KR Q))) (KR Q)
def K1 (Q:QT):KT:=Zdg 1 (K0 Q)
def K2 (Q:QT):KT:=left kp 12 (K1 Q)
def K3 (Q:QT) (R12:T12):KT:=rnd ((kp.find 1000012).getD []) (E12 R12) (K2 Q)
def J7 (Q:QT) (a0 a1:Pt) (h:Zaa):Prop:=Den pg fn.ntmps (C [1,1,1]) [(0,.ptr a0),(1,.ptr a1)] h (KR Q)
def J9 (Q:QT) (a0 a1:Pt) (h:Zaa):Prop:=Den pg fn.ntmps (C [1,1,1,1]) [(0,.ptr a0),(1,.ptr a1)] h (KR Q)
def L12 (Q:QT) (a1 a80:Pt) (n80 c80:Nat) (e80:Bool) (x81 x82:Int) (h:Zaa):Prop:=Zfb (Den pg fn.ntmps (C [1,1,1,1,1,1,0,1,0,0])) ((kp.find 1000012).getD []) (K2 Q) [(1,.ptr a1),(80,.slice a80 n80 c80 e80),(81,.int .i64 x81),(82,.int .i64 x82)] h
def Ytj (Q:QT) (h:Zaa):Prop:=At (K1 Q) (.exit 1) [(4,.undef)] h
theorem J7i (Q:QT) (a0 a1:Pt) (h:Zaa) (ht :
 Zbi a0 fun A B=>Zbn (Zai h (.ptr (A,B + 0))) fun A=>Zah pg Zea [.str A] h fun A B=>
 Zbr A fun A=>bcase (!A) (Zbi a0 fun A C=>Zbi a1 fun D E=>Zbn (Zai B (.ptr (A,C + 0))) fun F=>Zbn (Zai B (.ptr (D,E + 0))) fun D=>(Zai B (.ptr (A,C + 0))=Zai B (.ptr (A,C + 0)))∧bcase (!(decide (F=D))) (Q (.bool false) B) (J9 Q a0 a1 B)) ((Zai B (.tup [])=Zai B (.tup []))∧J9 Q a0 a1 B)):J7 Q a0 a1 h:=
 Zbf (kp:=kp) (cast (by kernel_rfl) ht)
theorem J9i (Q:QT) (a0 a1:Pt) (h:Zaa) (ht :
 Zbi a0 fun A B=>xSl (Zai h (.ptr (A,B + 1))) fun A B C D=>Zbi a0 fun E F=>Zbx (Zbb h (.ptr (E,F + 2)) [.ptr a1]) fun E=>L12 Q a1 A B C D (((B:Nat):Int)) 0 E):J9 Q a0 a1 h:=
 Zbf (kp:=kp) (cast (by kernel_rfl) ht)
def L12t (Q:QT) (R12:T12) (a1 a80:Pt) (n80 c80:Nat) (e80:Bool) (x81 x82:Int) (h:Zaa):Prop:=
 bcase (decide ((x82:Int) < x81)) ((0≤(x82:Int)∧(x82:Int) < (n80:Nat))∧(Zbi a80 fun A B=>Zfc (Zai h (.ptr (A,B + (Int.toNat x82) * 1))) fun A=>Zbi a1 fun B C=>xSl (Zai h (.ptr (B,C + 1))) fun B C D D=>(0≤(x82:Int)∧(x82:Int) < (C:Nat))∧(Zbi B fun B C=>Zfc (Zai h (.ptr (B,C + (Int.toNat x82) * 1))) fun B=>Zah pg Zmz [.ptr A,.ptr B] h fun A B=>
 Zbr A fun A=>bcase (!A) (Q (.bool false) B) (R12 a1 a80 n80 c80 e80 x81 (IntKind.wrap .i64 (x82 + 1)) B)))) (Ytj Q h)
theorem Ydd (Q:QT) (R12:T12) (a1 a80:Pt) (n80 c80:Nat) (e80:Bool) (x81 x82:Int) (h:Zaa) (ht:L12t Q R12 a1 a80 n80 c80 e80 x81 x82 h):Den pg fn.ntmps (C [1,1,1,1,1,1,0,1,0,0]) [(1,.ptr a1),(80,.slice a80 n80 c80 e80),(81,.int .i64 x81),(82,.int .i64 x82)] h (K3 Q R12):=
 Zbf (kp:=kp) (cast (by kernel_rfl) ht)
theorem L12ind (Q:QT) (a1 a80:Pt) (n80 c80:Nat) (e80:Bool) (x81:Int) {G:Type} (J:G→Int→Zaa→Prop) (m:G→Nat)
 (hr:∀ (g:G) (x82:Int) (h:Zaa),J g x82 h→∀ (R12:T12),(∀ g' (x82:Int) (h:Zaa),m g' < m g→J g' x82 h→R12 a1 a80 n80 c80 e80 x81 x82 h)→L12t Q R12 a1 a80 n80 c80 e80 x81 x82 h)
 (g:G) (x82:Int) (h:Zaa) (hj:J g x82 h):L12 Q a1 a80 n80 c80 e80 x81 x82 h:=by
 let P:=fun (K:Int→Zaa→Prop) a1' a80' n80' c80' e80' x81' x82 h=>a1=a1'∧a80=a80'∧n80=n80'∧c80=c80'∧e80=e80'∧x81=x81'∧K x82 h
 refine Zfb.inv2 (fun g=>E12 (P (J g))) (fun g=>E12 (P fun x82 h=>∃ g',m g' < m g∧J g' x82 h)) m ?_ ?_ g ⟨rfl,rfl,rfl,rfl,rfl,rfl,hj⟩
 ·intro g env h hi
  obtain ⟨a1',a80',n80',c80',e80',x81',x82,rfl,rfl,rfl,rfl,rfl,rfl,rfl,hj⟩:=Zqu hi
  exact Ydd Q _ a1 a80 n80 c80 e80 x81 x82 h (hr g x82 h hj (P fun x82 h=>∃ g',m g' < m g∧J g' x82 h) fun g' x82 h hlt hj=>⟨rfl,rfl,rfl,rfl,rfl,rfl,g',hlt,hj⟩)
 ·intro g env h hi
  obtain ⟨a1',a80',n80',c80',e80',x81',x82,rfl,rfl,rfl,rfl,rfl,rfl,rfl,g',hlt,hj⟩:=Zqu hi
  exact ⟨g',hlt,rfl,rfl,rfl,rfl,rfl,rfl,hj⟩
theorem A12x1i (Q:QT) (h:Zaa) (ht :
 Q (.bool true) h):Ytj Q h:=
 At.mk (cast (by kernel_rfl) ht)
theorem call (a0 a1:Pt) (h:Zaa) (Q:QT) (ht :
 Zah pg Zhj [.ptr a0] h fun A B=>
 Zfc A fun A=>Zah pg Zhj [.ptr a1] B fun B C=>
 Zfc B fun B=>Zvg C A B fun D=>bcase D (Q (.bool true) C) (Zbi A fun D E=>Zbn (Zai C (.ptr (D,E + 0))) fun D=>Zah pg Zea [.str D] C fun C D=>
 Zbr C fun C=>bcase C (Zbi B fun C E=>Zbn (Zai D (.ptr (C,E + 0))) fun C=>Zah pg Zea [.str C] D fun C E=>
 Zbr C fun C=>bcase C (Zbi A fun C F=>Zbi B fun G H=>Zbn (Zai E (.ptr (C,F + 0))) fun I=>Zbn (Zai E (.ptr (G,H + 0))) fun G=>(Zai E (.ptr (C,F + 0))=Zai E (.ptr (C,F + 0)))∧bcase (!(Zfj I G || decide (I=G))) (bcase (!(Zfj I G || decide (I=G))) (J7 Q B A E) (J7 Q A B E)) (Zbi A fun C F=>Zbn (Zai E (.ptr (C,F + 0))) fun C=>Zah pg Zea [.str C] E fun C F=>
 Zbr C fun C=>bcase (!C) (Zbi B fun C G=>Zbn (Zai F (.ptr (C,G + 0))) fun C=>Zah pg Zea [.str C] F fun C G=>
 Zbr C fun C=>bcase C (J7 Q B A G) (J7 Q A B G)) (J7 Q A B F))) ((Zai E (.tup [])=Zai E (.tup []))∧Zbi A fun C F=>Zbn (Zai E (.ptr (C,F + 0))) fun C=>Zah pg Zea [.str C] E fun C E=>
 Zbr C fun C=>bcase (!C) (Zbi B fun C F=>Zbn (Zai E (.ptr (C,F + 0))) fun C=>Zah pg Zea [.str C] E fun C F=>
 Zbr C fun C=>bcase C (J7 Q B A F) (J7 Q A B F)) (J7 Q A B E))) ((Zai D (.tup [])=Zai D (.tup []))∧Zbi A fun C E=>Zbn (Zai D (.ptr (C,E + 0))) fun C=>Zah pg Zea [.str C] D fun C D=>
 Zbr C fun C=>bcase (!C) (Zbi B fun C E=>Zbn (Zai D (.ptr (C,E + 0))) fun C=>Zah pg Zea [.str C] D fun C E=>
 Zbr C fun C=>bcase C (J7 Q B A E) (J7 Q A B E)) (J7 Q A B D)))):Zah pg Zmz [.ptr a0,.ptr a1] h Q:=
 Zah.of_body kp (c:=cod fn) (fn:=fn) Go.Proofs.Tryz.func35 (by kernel_rfl) (by kernel_rfl) (Nat.le_of_ble_eq_true (by kernel_rfl))
  (cast (by kernel_rfl) ht)
end Zfz
end Go.Sim

set_option maxRecDepth 100000
set_option maxHeartbeats 0
set_option linter.unusedVariables false
namespace Go.Sim
open Go Go.RowKit
namespace Zib
noncomputable abbrev fn:Func:=Go.Proofs.Tryz.f58
def kp:Zcu:=[(2000004,[4,6,0,2,3]),(2000005,[2,3]),(4000006,[0,5,4,2,3]),(4000008,[4,5,2,3]),(2000008,[2,3])]
noncomputable def C (p:List Nat):Code:=(cod fn).sub p
def KR (Q:QT):KT:=Zfi pg fn.results.toList Q
def J6 (Q:QT) (a0:Pt) (i5 o5 i4 o4 i2 o2 i3 o3:Nat) (h:Zaa):Prop:=Den pg fn.ntmps (C [1,1,1,1]) [(0,.ptr a0),(5,.ptr (i5,o5)),(4,.ptr (i4,o4)),(2,.ptr (i2,o2)),(3,.ptr (i3,o3))] h (KR Q)
def J8 (Q:QT) (i4 o4 i5 o5 i2 o2 i3 o3:Nat) (h:Zaa):Prop:=Den pg fn.ntmps (C [1,1,1,1,1]) [(4,.ptr (i4,o4)),(5,.ptr (i5,o5)),(2,.ptr (i2,o2)),(3,.ptr (i3,o3))] h (KR Q)
theorem J6i (Q:QT) (a0:Pt) (i5 o5 i4 o4 i2 o2 i3 o3:Nat) (h:Zaa) (ht :
 Zah pg Zbc [.ptr a0,.int .i64 20] h fun A B=>
 Zck .i64 A fun A=>bcase ((A:Int) == 0) (Zah pg Zqz [.ptr a0] B fun A C=>
 Zbn A fun A=>Zbx (Zbb C (.ptr (i5,o5 + 1)) [.str A]) fun A=>J8 Q i4 o4 i5 o5 i2 o2 i3 o3 A) (J8 Q i4 o4 i5 o5 i2 o2 i3 o3 B)):J6 Q a0 i5 o5 i4 o4 i2 o2 i3 o3 h:=
 Zbf (kp:=kp) (cast (by kernel_rfl) ht)
theorem J8i (Q:QT) (i4 o4 i5 o5 i2 o2 i3 o3:Nat) (h:Zaa) (ht :
 Zcb (Zan h (.ptr (i4,o4)) 2) fun A=>Zag A fun A B=>xSl A fun A C D E=>Zag B fun B F=>xSl B fun B G H I=>Zbu F (Zcb (Zan h (.ptr (i5,o5)) 2) fun F=>Zag F fun F J=>Zbn F fun F=>Zag J fun J K=>Zbn J fun J=>Zbu K (Zbx (Zbb h (.ptr (i2,o2)) [.slice A C D E,.slice B G H I]) fun A=>(Zan A (.ptr (i5,o5)) 2=Zan h (.ptr (i5,o5)) 2)∧Zbx (Zbb A (.ptr (i3,o3)) [.str F,.str J]) fun A=>Zcb (Zan A (.ptr (i2,o2)) 2) fun B=>Zag B fun B C=>xSl B fun B D E F=>Zag C fun C G=>xSl C fun C H I J=>Zbu G (Zcb (Zan A (.ptr (i3,o3)) 2) fun G=>Zag G fun G K=>Zbn G fun G=>Zag K fun K L=>Zbn K fun K=>Zbu L (Q (.tup [.agg [.slice B D E F,.slice C H I J],.agg [.str G,.str K]]) A))))):J8 Q i4 o4 i5 o5 i2 o2 i3 o3 h:=
 Zbf (kp:=kp) (cast (by kernel_rfl) ht)
theorem call (a0:Pt) (h:Zaa) (Q:QT) (ht :
 Zco (h ++ [.cells Zad [.slice none 0 0 true,.slice none 0 0 true] false]) fun A=>Zco (A ++ [.cells Zae [.str [],.str []] false]) fun B=>Zah pg Zom [.ptr a0] B fun B C=>
 Zmv B fun B=>Zag B fun B D=>xSl B fun B E F G=>Zag D fun D H=>xSl D fun D I J K=>Zbu H (Zco (C ++ [.cells Zad [.slice none 0 0 true,.slice none 0 0 true] false]) fun H=>Zbx (Zbb H (.ptr (C.length,0)) [.slice B E F G,.slice D I J K]) fun B=>Zcb (Zan B (.ptr (C.length,0)) 2) fun D=>Zag D fun D E=>xSl D fun D F G H=>Zag E fun E I=>xSl E fun E J K L=>Zbu I (Zah pg Zmk [.ptr a0,.agg [.slice D F G H,.slice E J K L]] B fun B D=>
 Zbn B fun B=>Zah pg Zbc [.ptr a0,.int .i64 4] D fun D E=>
 Zck .i64 D fun D=>Zah pg Zbc [.ptr a0,.int .i64 4] E fun E F=>
 Zck .i64 E fun E=>Zah pg Zes [.ptr a0,.int .i64 D,.bool (decide ((E:Int) > 0))] F fun D E=>
 Zbn D fun D=>Zco (E ++ [.cells Zae [.str [],.str []] false]) fun F=>Zbx (Zbb F (.ptr (E.length,0)) [.str B,.str D]) fun B=>xSl (Zai B (.ptr (C.length,0 + 1))) fun D D F F=>bcase (decide (((((D:Nat):Int)):Int) > 0)) (Zah pg Zbc [.ptr a0,.int .i64 2] B fun D F=>
 Zck .i64 D fun D=>bcase ((D:Int) == 0) (xSl (Zai F (.ptr (C.length,0 + 1))) fun D G H H=>xSl (Zai F (.ptr (C.length,0 + 1))) fun H H I I=>(Zah pg Zbc [.ptr a0,.int .i64 (((H:Nat):Int))] F fun I J=>
 Zck .i64 I fun I=>(Zai J (.ptr (C.length,0 + 1))=Zai F (.ptr (C.length,0 + 1)))∧(Zai J (.ptr (C.length,0 + 1))=Zai F (.ptr (C.length,0 + 1)))∧(0≤(I:Int)∧(I:Int) < (G:Nat))∧(Zbi D fun K L=>Zcb (Zan J (.ptr (K,L + (Int.toNat I) * 3)) 3) fun M=>Zag M fun M N=>Zbn M fun M=>Zag N fun N O=>Zbn N fun N=>Zag O fun O P=>xSl O fun O R S T=>Zbu P (Zco (J ++ [.cells Zac [.str [],.str [],.slice none 0 0 true] false]) fun P=>(Zan P (.ptr (K,L + (Int.toNat I) * 3)) 3=Zan J (.ptr (K,L + (Int.toNat I) * 3)) 3)∧(Zai P (.ptr (C.length,0 + 1))=Zai J (.ptr (C.length,0 + 1)))∧(Zai P (.ptr (C.length,0 + 1))=Zai J (.ptr (C.length,0 + 1)))∧Zbx (Zbb P (.ptr (J.length,0)) [.str M,.str N,.slice O R S T]) fun I=>Zcb (Zan I (.ptr (C.length,0)) 2) fun K=>Zag K fun K L=>xSl K fun K M N O=>Zag L fun L P=>xSl L fun L R S T=>Zbu P (Zbn (Zai I (.ptr (J.length,0 + 0 + 0))) fun P=>Zbn (Zai I (.ptr (J.length,0 + 0 + 1))) fun U=>(Zai I (.ptr (J.length,0 + 0 + 0))=Zai I (.ptr (J.length,0 + 0 + 0)))∧(Zan I (.ptr (C.length,0)) 2=Zan I (.ptr (C.length,0)) 2)∧Zah pg Zju [.ptr a0,.str U] I fun U V=>
 Zbn U fun U=>(Zai V (.ptr (J.length,0 + 0 + 0))=Zai I (.ptr (J.length,0 + 0 + 0)))∧(Zan V (.ptr (C.length,0)) 2=Zan I (.ptr (C.length,0)) 2)∧Zbx (Zbb V (.ptr (h.length,0)) [.slice K M N O,.slice L R S T]) fun I=>(Zai I (.ptr (J.length,0 + 0 + 0))=Zai V (.ptr (J.length,0 + 0 + 0)))∧Zbx (Zbb I (.ptr (A.length,0)) [.str P,.str U]) fun I=>Zcb (Zan I (.ptr (h.length,0)) 2) fun J=>Zag J fun J K=>xSl J fun J L M N=>Zag K fun K O=>xSl K fun K P R S=>Zbu O (Zcb (Zan I (.ptr (A.length,0)) 2) fun O=>Zag O fun O T=>Zbn O fun O=>Zag T fun T U=>Zbn T fun T=>Zbu U (Q (.tup [.agg [.slice J L M N,.slice K P R S],.agg [.str O,.str T]]) I))))))∧(Zco (F ++ [.cells Zac [.str [],.str [],.slice none 0 0 true] false]) fun I=>(Zai I (.ptr (C.length,0 + 1))=Zai F (.ptr (C.length,0 + 1)))∧(Zai I (.ptr (C.length,0 + 1))=Zai F (.ptr (C.length,0 + 1)))∧Zah pg Zbc [.ptr a0,.int .i64 (((H:Nat):Int))] I fun H J=>
 Zck .i64 H fun H=>(Zai J (.ptr (C.length,0 + 1))=Zai I (.ptr (C.length,0 + 1)))∧(Zai J (.ptr (C.length,0 + 1))=Zai I (.ptr (C.length,0 + 1)))∧(0≤(H:Int)∧(H:Int) < (G:Nat))∧(Zbi D fun D G=>Zcb (Zan J (.ptr (D,G + (Int.toNat H) * 3)) 3) fun D=>Zag D fun D G=>Zbn D fun D=>Zag G fun G H=>Zbn G fun G=>Zag H fun H I=>xSl H fun H K L M=>Zbu I ((Zai J (.ptr (C.length,0 + 1))=Zai J (.ptr (C.length,0 + 1)))∧(Zai J (.ptr (C.length,0 + 1))=Zai J (.ptr (C.length,0 + 1)))∧Zbx (Zbb J (.ptr (F.length,0)) [.str D,.str G,.slice H K L M]) fun D=>Zcb (Zan D (.ptr (C.length,0)) 2) fun G=>Zag G fun G H=>xSl G fun G I J K=>Zag H fun H L=>xSl H fun H M N O=>Zbu L (Zbn (Zai D (.ptr (F.length,0 + 0 + 0))) fun L=>Zbn (Zai D (.ptr (F.length,0 + 0 + 1))) fun P=>(Zai D (.ptr (F.length,0 + 0 + 0))=Zai D (.ptr (F.length,0 + 0 + 0)))∧(Zan D (.ptr (C.length,0)) 2=Zan D (.ptr (C.length,0)) 2)∧Zah pg Zju [.ptr a0,.str P] D fun P R=>
 Zbn P fun P=>(Zai R (.ptr (F.length,0 + 0 + 0))=Zai D (.ptr (F.length,0 + 0 + 0)))∧(Zan R (.ptr (C.length,0)) 2=Zan D (.ptr (C.length,0)) 2)∧Zbx (Zbb R (.ptr (h.length,0)) [.slice G I J K,.slice H M N O]) fun D=>(Zai D (.ptr (F.length,0 + 0 + 0))=Zai R (.ptr (F.length,0 + 0 + 0)))∧Zbx (Zbb D (.ptr (A.length,0)) [.str L,.str P]) fun D=>Zcb (Zan D (.ptr (h.length,0)) 2) fun G=>Zag G fun G H=>xSl G fun G I J K=>Zag H fun H L=>xSl H fun H M N O=>Zbu L (Zcb (Zan D (.ptr (A.length,0)) 2) fun L=>Zag L fun L P=>Zbn L fun L=>Zag P fun P R=>Zbn P fun P=>Zbu R (Q (.tup [.agg [.slice G I J K,.slice H M N O],.agg [.str L,.str P]]) D))))))) (J6 Q a0 E.length 0 C.length 0 h.length 0 A.length 0 F)) (J6 Q a0 E.length 0 C.length 0 h.length 0 A.length 0 B)))):Zah pg Zly [.ptr a0] h Q:=
 Zah.of_body kp (c:=cod fn) (fn:=fn) Go.Proofs.Tryz.func58 (by kernel_rfl) (by kernel_rfl) (Nat.le_of_ble_eq_true (by kernel_rfl))
  (cast (by kernel_rfl) ht)
end Zib
end Go.Sim

set_option maxRecDepth 100000
set_option maxHeartbeats 0
set_option linter.unusedVariables false
namespace Go.Sim
open Go Go.RowKit
namespace Zhq
noncomputable abbrev fn:Func:=Go.Proofs.Tryz.f139
def kp:Zcu:=[(3000008,[3,4]),(1000008,[3,4,50]),(4000011,[3,4])]
noncomputable def C (p:List Nat):Code:=(cod fn).sub p
def KR (Q:QT):KT:=Zfi pg fn.results.toList Q
abbrev T8:=Nat→Nat→Nat→Nat→Int→Zaa→Prop
def E8 (R8:T8) (env:Env) (h:Zaa):Prop:=Zci 3 env fun v env=>Zfc v fun a=>Zbi a fun i3 o3=>Zci 4 env fun v env=>Zfc v fun a=>Zbi a fun i4 o4=>Zci 50 env fun v env=>Zez .i64 v fun x50=>Zky env (R8 i3 o3 i4 o4 x50 h)
theorem Ycp {R8:T8} {env:Env} {h:Zaa} (hi:E8 R8 env h):∃ i3,∃ o3,∃ i4,∃ o4,∃ x50,env=[(3,.ptr (i3,o3)),(4,.ptr (i4,o4)),(50,.int .i64 x50)]∧R8 i3 o3 i4 o4 x50 h:=by
 unfold E8 at hi
 have hi0:=hi
 clear hi
 obtain ⟨_,_,rfl,hi1⟩:=Zal hi0
 obtain ⟨a,rfl,hi2⟩:=Zbo hi1
 obtain ⟨i3,o3,rfl,hi3⟩:=Zbp hi2
 obtain ⟨_,_,rfl,hi4⟩:=Zal hi3
 obtain ⟨a,rfl,hi5⟩:=Zbo hi4
 obtain ⟨i4,o4,rfl,hi6⟩:=Zbp hi5
 obtain ⟨_,_,rfl,hi7⟩:=Zal hi6
 obtain ⟨x50,rfl,hi8⟩:=Zaz hi7
 obtain ⟨rfl,hi9⟩:=Zca hi8
 have hi:=hi9
 exact ⟨i3,o3,i4,o4,x50,rfl,hi⟩
def K0 (Q:QT):KT:=andThen (fun env' h'=>(match kp.find 4000011 with | some ks=>Den pg fn.ntmps (C [1,1]) (env'.keep ks) h' (KR Q) | none=>den pg fn.ntmps kp (C [1,1]) env' h' (KR Q))) (KR Q)
def K1 (Q:QT):KT:=Zdg 0 (K0 Q)
def K2 (Q:QT):KT:=Zdg 1 (K1 Q)
def K3 (Q:QT):KT:=left kp 8 (K2 Q)
def K4 (Q:QT) (R8:T8):KT:=rnd ((kp.find 1000008).getD []) (E8 R8) (K3 Q)
def J11 (Q:QT) (i3 o3 i4 o4:Nat) (h:Zaa):Prop:=Den pg fn.ntmps (C [1,1]) [(3,.ptr (i3,o3)),(4,.ptr (i4,o4))] h (KR Q)
def L8 (Q:QT) (i3 o3 i4 o4:Nat) (x50:Int) (h:Zaa):Prop:=Zfb (Den pg fn.ntmps (C [1,0,1,0,1,1,1,1,1,0,1,0,0])) ((kp.find 1000008).getD []) (K3 Q) [(3,.ptr (i3,o3)),(4,.ptr (i4,o4)),(50,.int .i64 x50)] h
def Ywe (Q:QT) (i3 o3 i4 o4:Nat) (h:Zaa):Prop:=At (K2 Q) (.exit 1) [(3,.ptr (i3,o3)),(4,.ptr (i4,o4))] h
theorem J11i (Q:QT) (i3 o3 i4 o4:Nat) (h:Zaa) (ht :
 Zcb (Zan h (.ptr (i3,o3)) 2) fun A=>Zag A fun A B=>xSl A fun A C D E=>Zag B fun B F=>xSl B fun B G H I=>Zbu F (Zbx (Zbb h (.ptr (i4,o4)) [.slice A C D E,.slice B G H I]) fun A=>Zcb (Zan A (.ptr (i4,o4)) 2) fun B=>Zag B fun B C=>xSl B fun B D E F=>Zag C fun C G=>xSl C fun C H I J=>Zbu G (Q (.agg [.slice B D E F,.slice C H I J]) A))):J11 Q i3 o3 i4 o4 h:=
 Zbf (kp:=kp) (cast (by kernel_rfl) ht)
def L8t (Q:QT) (R8:T8) (i3 o3 i4 o4:Nat) (x50:Int) (h:Zaa):Prop:=
 bcase (decide ((x50:Int) < 10)) (Zco (h ++ [.cells Zac [] false]) fun A=>xSl (Zai A (.ptr (i3,o3 + 1))) fun B C D E=>Zcz pg Zen A (.slice (h.length,0) 0 0 true) (.slice B C D E) fun A B=>xSl A fun A C D E=>Zco (B ++ [.cells Zae [] false]) fun F=>Zco (F ++ [.cells Zac [.str [69],.str [105],.slice (B.length,0) 0 0 true] false]) fun B=>Zcz pg Zen B (.slice A C D E) (.slice (F.length,0) 1 1 true) fun A B=>xSl A fun A C D E=>Zbx (Zbb B (.ptr (i3,o3 + 1)) [.slice A C D E]) fun A=>R8 i3 o3 i4 o4 (IntKind.wrap .i64 (x50 + 1)) A) (Ywe Q i3 o3 i4 o4 h)
theorem Yrw (Q:QT) (R8:T8) (i3 o3 i4 o4:Nat) (x50:Int) (h:Zaa) (ht:L8t Q R8 i3 o3 i4 o4 x50 h):Den pg fn.ntmps (C [1,0,1,0,1,1,1,1,1,0,1,0,0]) [(3,.ptr (i3,o3)),(4,.ptr (i4,o4)),(50,.int .i64 x50)] h (K4 Q R8):=
 Zbf (kp:=kp) (cast (by kernel_rfl) ht)
theorem L8ind (Q:QT) (i3 o3 i4 o4:Nat) {G:Type} (J:G→Int→Zaa→Prop) (m:G→Nat)
 (hr:∀ (g:G) (x50:Int) (h:Zaa),J g x50 h→∀ (R8:T8),(∀ g' (x50:Int) (h:Zaa),m g' < m g→J g' x50 h→R8 i3 o3 i4 o4 x50 h)→L8t Q R8 i3 o3 i4 o4 x50 h)
 (g:G) (x50:Int) (h:Zaa) (hj:J g x50 h):L8 Q i3 o3 i4 o4 x50 h:=by
 let P:=fun (K:Int→Zaa→Prop) i3' o3' i4' o4' x50 h=>i3=i3'∧o3=o3'∧i4=i4'∧o4=o4'∧K x50 h
 refine Zfb.inv2 (fun g=>E8 (P (J g))) (fun g=>E8 (P fun x50 h=>∃ g',m g' < m g∧J g' x50 h)) m ?_ ?_ g ⟨rfl,rfl,rfl,rfl,hj⟩
 ·intro g env h hi
  obtain ⟨i3',o3',i4',o4',x50,rfl,rfl,rfl,rfl,rfl,hj⟩:=Ycp hi
  exact Yrw Q _ i3 o3 i4 o4 x50 h (hr g x50 h hj (P fun x50 h=>∃ g',m g' < m g∧J g' x50 h) fun g' x50 h hlt hj=>⟨rfl,rfl,rfl,rfl,g',hlt,hj⟩)
 ·intro g env h hi
  obtain ⟨i3',o3',i4',o4',x50,rfl,rfl,rfl,rfl,rfl,g',hlt,hj⟩:=Ycp hi
  exact ⟨g',hlt,rfl,rfl,rfl,rfl,hj⟩
theorem A8x1i (Q:QT) (i3 o3 i4 o4:Nat) (h:Zaa) (ht :
 J11 Q i3 o3 i4 o4 h):Ywe Q i3 o3 i4 o4 h:=
 At.mk (cast (by kernel_rfl) ht)
theorem call (a0 a1x0:Pt) (n1x0 c1x0:Nat) (e1x0:Bool) (a1x1:Pt) (n1x1 c1x1:Nat) (e1x1:Bool) (h:Zaa) (Q:QT) (ht :
 Zco (h ++ [.cells Zad [.slice a1x0 n1x0 c1x0 e1x0,.slice a1x1 n1x1 c1x1 e1x1] false]) fun A=>Zco (A ++ [.cells Zad [.slice none 0 0 true,.slice none 0 0 true] false]) fun B=>Zah pg Zbc [.ptr a0,.int .i64 36] B fun B C=>
 Zck .i64 B fun B=>bcase ((B:Int) == 0) (Zco (C ++ [.cells Zbh [] false]) fun D=>xSl (Zai D (.ptr (h.length,0 + 0))) fun E F G H=>Zcz pg Zip D (.slice (C.length,0) 0 0 true) (.slice E F G H) fun D E=>xSl D fun D F G H=>Zco (E ++ [.cells Zbg [.str [69],.str [73],.str [],.str [72]] false]) fun I=>Zah pg Zce [.ptr a0,.slice (E.length,0) 4 4 true] I fun E I=>
 Zbn E fun E=>Zco (I ++ [.cells Zbg [.str [],.str [69],.str [72],.str [90]] false]) fun J=>Zah pg Zce [.ptr a0,.slice (I.length,0) 4 4 true] J fun I J=>
 Zbn I fun I=>Zco (J ++ [.cells Zbh [.str E,.str I] false]) fun E=>Zcz pg Zip E (.slice D F G H) (.slice (J.length,0) 1 1 true) fun D E=>xSl D fun D F G H=>Zbx (Zbb E (.ptr (h.length,0 + 0)) [.slice D F G H]) fun D=>J11 Q h.length 0 A.length 0 D) (bcase ((B:Int) == 1) (Zco (C ++ [.cells Zac [] false]) fun D=>xSl (Zai D (.ptr (h.length,0 + 1))) fun E F G H=>Zcz pg Zen D (.slice (C.length,0) 0 0 true) (.slice E F G H) fun D E=>xSl D fun D F G H=>Zco (E ++ [.cells Zbg [.str [69],.str [72],.str [65]] false]) fun I=>Zah pg Zce [.ptr a0,.slice (E.length,0) 3 3 true] I fun E I=>
 Zbn E fun E=>Zco (I ++ [.cells Zbg [.str [120],.str [113],.str [105],.str ([108,40,120,41])] false]) fun J=>Zah pg Zce [.ptr a0,.slice (I.length,0) 4 4 true] J fun I J=>
 Zbn I fun I=>Zco (J ++ [.cells Zbg [.str [69],.str [65],.str [72]] false]) fun K=>Zah pg Zce [.ptr a0,.slice (J.length,0) 3 3 true] K fun J K=>
 Zbn J fun J=>Zco (K ++ [.cells Zbg [.str [121],.str [105],.str [113]] false]) fun L=>Zah pg Zce [.ptr a0,.slice (K.length,0) 3 3 true] L fun K L=>
 Zbn K fun K=>Zco (L ++ [.cells Zae [.str J,.str K] false]) fun J=>Zco (J ++ [.cells Zac [.str E,.str I,.slice (L.length,0) 1 1 true] false]) fun E=>Zcz pg Zen E (.slice D F G H) (.slice (J.length,0) 1 1 true) fun D E=>xSl D fun D F G H=>Zbx (Zbb E (.ptr (h.length,0 + 1)) [.slice D F G H]) fun D=>J11 Q h.length 0 A.length 0 D) (bcase ((B:Int) == 2) (L8 Q h.length 0 A.length 0 0 C) (J11 Q h.length 0 A.length 0 C)))):Zah pg Zqk [.ptr a0,.agg [.slice a1x0 n1x0 c1x0 e1x0,.slice a1x1 n1x1 c1x1 e1x1]] h Q:=
 Zah.of_body kp (c:=cod fn) (fn:=fn) Go.Proofs.Tryz.func139 (by kernel_rfl) (by kernel_rfl) (Nat.le_of_ble_eq_true (by kernel_rfl))
  (cast (by kernel_rfl) ht)
end Zhq
namespace Zud
noncomputable abbrev fn:Func:=Go.Proofs.Tryz.f101
def kp:Zcu:=[]
noncomputable def C (p:List Nat):Code:=(cod fn).sub p
def KR (Q:QT):KT:=Zfi pg fn.results.toList Q
theorem call (a0:Pt) (h:Zaa) (Q:QT) (ht :
 Zco (h ++ [.cells Zad [.slice none 0 0 true,.slice none 0 0 true] false]) fun A=>Zah pg Zow [.ptr a0] A fun A B=>
 Zmv A fun A=>Zag A fun A C=>xSl A fun A D E F=>Zag C fun C G=>xSl C fun C H I J=>Zbu G (Zah pg Zqk [.ptr a0,.agg [.slice A D E F,.slice C H I J]] B fun A B=>
 Zmv A fun A=>Zag A fun A C=>xSl A fun A D E F=>Zag C fun C G=>xSl C fun C H I J=>Zbu G (Zbx (Zbb B (.ptr (h.length,0)) [.slice A D E F,.slice C H I J]) fun A=>Zcb (Zan A (.ptr (h.length,0)) 2) fun B=>Zag B fun B C=>xSl B fun B D E F=>Zag C fun C G=>xSl C fun C H I J=>Zbu G (Q (.agg [.slice B D E F,.slice C H I J]) A)))):Zah pg Zom [.ptr a0] h Q:=
 Zah.of_body kp (c:=cod fn) (fn:=fn) Go.Proofs.Tryz.func101 (by kernel_rfl) (by kernel_rfl) (Nat.le_of_ble_eq_true (by kernel_rfl))
  (cast (by kernel_rfl) ht)
end Zud
namespace Zmn
noncomputable abbrev fn:Func:=Go.Proofs.Tryz.f102
def kp:Zcu:=[(4000003,[3,0]),(2000003,[4])]
noncomputable def C (p:List Nat):Code:=(cod fn).sub p
def KR (Q:QT):KT:=Zfi pg fn.results.toList Q
def J3 (Q:QT) (i3 o3:Nat) (a0:Pt) (h:Zaa):Prop:=Den pg fn.ntmps (C [1,1]) [(3,.ptr (i3,o3)),(0,.ptr a0)] h (KR Q)
theorem J3i (Q:QT) (i3 o3:Nat) (a0:Pt) (h:Zaa) (ht :
 xSl (Zai h (.ptr (i3,o3 + 0))) fun A B C C=>xSl (Zai h (.ptr (i3,o3 + 0))) fun C C D D=>(Zai h (.ptr (i3,o3 + 0))=Zai h (.ptr (i3,o3 + 0)))∧Zah pg Zbc [.ptr a0,.int .i64 (((C:Nat):Int))] h fun C D=>
 Zck .i64 C fun C=>(Zai D (.ptr (i3,o3 + 0))=Zai h (.ptr (i3,o3 + 0)))∧(0≤(C:Int)∧(C:Int) < (B:Nat))∧(Zbi A fun A B=>Zbn (Zai D (.ptr (A,B + (Int.toNat C) * 2 + 0))) fun A=>(Zai D (.ptr (i3,o3 + 0))=Zai D (.ptr (i3,o3 + 0)))∧Q (.str A) D)):J3 Q i3 o3 a0 h:=
 Zbf (kp:=kp) (cast (by kernel_rfl) ht)
theorem call (a0 a1x0:Pt) (n1x0 c1x0:Nat) (e1x0:Bool) (a1x1:Pt) (n1x1 c1x1:Nat) (e1x1:Bool) (h:Zaa) (Q:QT) (ht :
 Zco (h ++ [.cells Zad [.slice a1x0 n1x0 c1x0 e1x0,.slice a1x1 n1x1 c1x1 e1x1] false]) fun A=>xSl (Zai A (.ptr (h.length,0 + 0))) fun B B C C=>bcase ((((B:Nat):Int):Int) == 0) (Zco (A ++ [.cells Zbg [.str [69],.str [90],.str [],.str ([69,79])] false]) fun B=>Zah pg Zce [.ptr a0,.slice (A.length,0) 4 4 true] B fun B C=>
 Zbn B fun B=>Q (.str B) C) (Zah pg Zbc [.ptr a0,.int .i64 16] A fun A B=>
 Zck .i64 A fun A=>bcase ((A:Int) == 0) (Zco (B ++ [.cells Zbg [.str [69],.str [90],.str [],.str ([69,79])] false]) fun A=>Zah pg Zce [.ptr a0,.slice (B.length,0) 4 4 true] A fun A C=>
 Zbn A fun A=>Q (.str A) C) (J3 Q h.length 0 a0 B))):Zah pg Zmk [.ptr a0,.agg [.slice a1x0 n1x0 c1x0 e1x0,.slice a1x1 n1x1 c1x1 e1x1]] h Q:=
 Zah.of_body kp (c:=cod fn) (fn:=fn) Go.Proofs.Tryz.func102 (by kernel_rfl) (by kernel_rfl) (Nat.le_of_ble_eq_true (by kernel_rfl))
  (cast (by kernel_rfl) ht)
end Zmn
end Go.Sim

set_option maxRecDepth 100000
set_option maxHeartbeats 0
set_option linter.unusedVariables false
namespace Go.Sim
open Go Go.RowKit
namespace Zjv
noncomputable abbrev fn:Func:=Go.Proofs.Tryz.f140
def kp:Zcu:=[(3000005,[3,2]),(1000005,[0,2,3,20,21]),(2000006,[21,20,3,0,2])]
noncomputable def C (p:List Nat):Code:=(cod fn).sub p
def KR (Q:QT):KT:=Zfi pg fn.results.toList Q
abbrev T5:=Pt→Nat→Nat→Nat→Nat→Int→Int→Zaa→Prop
def E5 (R5:T5) (env:Env) (h:Zaa):Prop:=Zci 0 env fun v env=>Zfc v fun a0=>Zci 2 env fun v env=>Zfc v fun a=>Zbi a fun i2 o2=>Zci 3 env fun v env=>Zfc v fun a=>Zbi a fun i3 o3=>Zci 20 env fun v env=>Zez .i64 v fun x20=>Zci 21 env fun v env=>Zez .i64 v fun x21=>Zky env (R5 a0 i2 o2 i3 o3 x20 x21 h)
theorem Zli {R5:T5} {env:Env} {h:Zaa} (hi:E5 R5 env h):∃ a0,∃ i2,∃ o2,∃ i3,∃ o3,∃ x20,∃ x21,env=[(0,.ptr a0),(2,.ptr (i2,o2)),(3,.ptr (i3,o3)),(20,.int .i64 x20),(21,.int .i64 x21)]∧R5 a0 i2 o2 i3 o3 x20 x21 h:=by
 unfold E5 at hi
 have hi0:=hi
 clear hi
 obtain ⟨_,_,rfl,hi1⟩:=Zal hi0
 obtain ⟨a0,rfl,hi2⟩:=Zbo hi1
 obtain ⟨_,_,rfl,hi3⟩:=Zal hi2
 obtain ⟨a,rfl,hi4⟩:=Zbo hi3
 obtain ⟨i2,o2,rfl,hi5⟩:=Zbp hi4
 obtain ⟨_,_,rfl,hi6⟩:=Zal hi5
 obtain ⟨a,rfl,hi7⟩:=Zbo hi6
 obtain ⟨i3,o3,rfl,hi8⟩:=Zbp hi7
 obtain ⟨_,_,rfl,hi9⟩:=Zal hi8
 obtain ⟨x20,rfl,hi10⟩:=Zaz hi9
 obtain ⟨_,_,rfl,hi11⟩:=Zal hi10
 obtain ⟨x21,rfl,hi12⟩:=Zaz hi11
 obtain ⟨rfl,hi13⟩:=Zca hi12
 have hi:=hi13
 exact ⟨a0,i2,o2,i3,o3,x20,x21,rfl,hi⟩
def K0 (Q:QT):KT:=andThen (fun env' h'=>(match kp.find 4000008 with | some ks=>Den pg fn.ntmps (C [1,1,1,1]) (env'.keep ks) h' (KR Q) | none=>den pg fn.ntmps kp (C [1,1,1,1]) env' h' (KR Q))) (KR Q)
def K1 (Q:QT):KT:=Zdg 0 (K0 Q)
def K2 (Q:QT):KT:=left kp 5 (K1 Q)
def K3 (Q:QT) (R5:T5):KT:=rnd ((kp.find 1000005).getD []) (E5 R5) (K2 Q)
def L5 (Q:QT) (a0:Pt) (i2 o2 i3 o3:Nat) (x20 x21:Int) (h:Zaa):Prop:=Zfb (Den pg fn.ntmps (C [1,1,1,0,1,0,0])) ((kp.find 1000005).getD []) (K2 Q) [(0,.ptr a0),(2,.ptr (i2,o2)),(3,.ptr (i3,o3)),(20,.int .i64 x20),(21,.int .i64 x21)] h
def A5x0 (Q:QT) (i3 o3 i2 o2:Nat) (h:Zaa):Prop:=At (K1 Q) (.exit 0) [(3,.ptr (i3,o3)),(2,.ptr (i2,o2))] h
def L5t (Q:QT) (R5:T5) (a0:Pt) (i2 o2 i3 o3:Nat) (x20 x21:Int) (h:Zaa):Prop:=
 bcase (decide ((x21:Int) < x20)) (xSl (Zai h (.ptr (i3,o3 + 1))) fun A B C D=>Zcb (Zan h (.ptr (i3,o3)) 2) fun E=>Zag E fun E F=>xSl E fun E G H I=>Zag F fun F J=>xSl F fun F K L M=>Zbu J ((Zai h (.ptr (i3,o3 + 1))=Zai h (.ptr (i3,o3 + 1)))∧Zah pg Zht [.ptr a0,.agg [.slice E G H I,.slice F K L M]] h fun E F=>
 Zmv E fun E=>Zag E fun E G=>Zbn E fun E=>Zag G fun G H=>Zbn G fun G=>Zag H fun H I=>xSl H fun H J K L=>Zbu I ((Zai F (.ptr (i3,o3 + 1))=Zai h (.ptr (i3,o3 + 1)))∧Zco (F ++ [.cells Zac [.str E,.str G,.slice H J K L] false]) fun E=>(Zai E (.ptr (i3,o3 + 1))=Zai F (.ptr (i3,o3 + 1)))∧Zcz pg Zen E (.slice A B C D) (.slice (F.length,0) 1 1 true) fun A B=>xSl A fun A C D E=>Zbx (Zbb B (.ptr (i3,o3 + 1)) [.slice A C D E]) fun A=>R5 a0 i2 o2 i3 o3 x20 (IntKind.wrap .i64 (x21 + 1)) A))) (A5x0 Q i3 o3 i2 o2 h)
theorem Zxf (Q:QT) (R5:T5) (a0:Pt) (i2 o2 i3 o3:Nat) (x20 x21:Int) (h:Zaa) (ht:L5t Q R5 a0 i2 o2 i3 o3 x20 x21 h):Den pg fn.ntmps (C [1,1,1,0,1,0,0]) [(0,.ptr a0),(2,.ptr (i2,o2)),(3,.ptr (i3,o3)),(20,.int .i64 x20),(21,.int .i64 x21)] h (K3 Q R5):=
 Zbf (kp:=kp) (cast (by kernel_rfl) ht)
theorem L5ind (Q:QT) (a0:Pt) (i2 o2 i3 o3:Nat) (x20:Int) {G:Type} (J:G→Int→Zaa→Prop) (m:G→Nat)
 (hr:∀ (g:G) (x21:Int) (h:Zaa),J g x21 h→∀ (R5:T5),(∀ g' (x21:Int) (h:Zaa),m g' < m g→J g' x21 h→R5 a0 i2 o2 i3 o3 x20 x21 h)→L5t Q R5 a0 i2 o2 i3 o3 x20 x21 h)
 (g:G) (x21:Int) (h:Zaa) (hj:J g x21 h):L5 Q a0 i2 o2 i3 o3 x20 x21 h:=by
 let P:=fun (K:Int→Zaa→Prop) a0' i2' o2' i3' o3' x20' x21 h=>a0=a0'∧i2=i2'∧o2=o2'∧i3=i3'∧o3=o3'∧x20=x20'∧K x21 h
 refine Zfb.inv2 (fun g=>E5 (P (J g))) (fun g=>E5 (P fun x21 h=>∃ g',m g' < m g∧J g' x21 h)) m ?_ ?_ g ⟨rfl,rfl,rfl,rfl,rfl,rfl,hj⟩
 ·intro g env h hi
  obtain ⟨a0',i2',o2',i3',o3',x20',x21,rfl,rfl,rfl,rfl,rfl,rfl,rfl,hj⟩:=Zli hi
  exact Zxf Q _ a0 i2 o2 i3 o3 x20 x21 h (hr g x21 h hj (P fun x21 h=>∃ g',m g' < m g∧J g' x21 h) fun g' x21 h hlt hj=>⟨rfl,rfl,rfl,rfl,rfl,rfl,g',hlt,hj⟩)
 ·intro g env h hi
  obtain ⟨a0',i2',o2',i3',o3',x20',x21,rfl,rfl,rfl,rfl,rfl,rfl,rfl,g',hlt,hj⟩:=Zli hi
  exact ⟨g',hlt,rfl,rfl,rfl,rfl,rfl,rfl,hj⟩
theorem A5x0i (Q:QT) (i3 o3 i2 o2:Nat) (h:Zaa) (ht :
 Zcb (Zan h (.ptr (i3,o3)) 2) fun A=>Zag A fun A B=>xSl A fun A C D E=>Zag B fun B F=>xSl B fun B G H I=>Zbu F (Zbx (Zbb h (.ptr (i2,o2)) [.slice A C D E,.slice B G H I]) fun A=>Zcb (Zan A (.ptr (i2,o2)) 2) fun B=>Zag B fun B C=>xSl B fun B D E F=>Zag C fun C G=>xSl C fun C H I J=>Zbu G (Q (.agg [.slice B D E F,.slice C H I J]) A))):A5x0 Q i3 o3 i2 o2 h:=
 At.mk (cast (by kernel_rfl) ht)
theorem call (a0:Pt) (h:Zaa) (Q:QT) (ht :
 Zco (h ++ [.cells Zad [.slice none 0 0 true,.slice none 0 0 true] false]) fun A=>Zah pg Zbc [.ptr a0,.int .i64 2] A fun A B=>
 Zck .i64 A fun A=>bcase ((A:Int) == 0) (Zah pg Zbc [.ptr a0,.int .i64 9] B fun A C=>
 Zck .i64 A fun A=>Zah pg Znt [.int .i64 A] C fun A C=>
 Zmv A fun A=>Zag A fun A D=>xSl A fun A E F G=>Zag D fun D H=>xSl D fun D I J K=>Zbu H (Zbx (Zbb C (.ptr (h.length,0)) [.slice A E F G,.slice D I J K]) fun A=>Zcb (Zan A (.ptr (h.length,0)) 2) fun C=>Zag C fun C D=>xSl C fun C E F G=>Zag D fun D H=>xSl D fun D I J K=>Zbu H (Q (.agg [.slice C E F G,.slice D I J K]) A))) (Zco (B ++ [.cells Zbg [.str [69],.str ([69,32,79,60,69]),.str ([65,32,66]),.str ([65,32,66,60,65,32,67,60,65,66]),.str ([69,32,79,60,69,32,83])] false]) fun A=>Zah pg Zce [.ptr a0,.slice (B.length,0) 5 5 true] A fun A B=>
 Zbn A fun A=>Zah pg Zid [.str A] B fun A B=>
 Zru A fun A=>Zag A fun A C=>Zmv A fun A=>Zag A fun A D=>xSl A fun A E F G=>Zag D fun D H=>xSl D fun D I J K=>Zbu H (Zag C fun C H=>Zbr C fun C=>Zbu H (Zco (B ++ [.cells Zad [.slice none 0 0 true,.slice none 0 0 true] false]) fun C=>Zbx (Zbb C (.ptr (B.length,0)) [.slice A E F G,.slice D I J K]) fun A=>Zah pg Zbc [.ptr a0,.int .i64 6] A fun A C=>
 Zck .i64 A fun A=>L5 Q a0 h.length 0 B.length 0 (IntKind.wrap .i64 (1 + A)) 0 C)))):Zah pg Zow [.ptr a0] h Q:=
 Zah.of_body kp (c:=cod fn) (fn:=fn) Go.Proofs.Tryz.func140 (by kernel_rfl) (by kernel_rfl) (Nat.le_of_ble_eq_true (by kernel_rfl))
  (cast (by kernel_rfl) ht)
end Zjv
end Go.Sim
