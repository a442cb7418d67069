/- A part of the proof of a statement of this seat: see the text that holds the theorem. No condition. -/
import Derived.Test.YtdglddliggejdaaNm
set_option linter.unusedVariables false
set_option linter.unusedSimpArgs false
set_option linter.all false
set_option maxRecDepth 100000
set_option maxHeartbeats 0
set_option linter.unusedVariables false
namespace Go.Sim
open Go Go.RowKit
namespace Zcs
noncomputable abbrev fn:Func:=Go.Proofs.Try.f59
def kp:Zdb:=[(3000007,[0,7,4,5]),(1000007,[0,1,7,32,33,34]),(4000013,[34,33,32,1,7,0]),(4000016,[7])]
noncomputable def C (p:List Nat):Code:=(cod fn).sub p
def KR (Q:QT):KT:=Zii pg fn.results.toList Q
abbrev T7:=Pt→Zac→List Nat→Pt→Nat→Nat→Bool→Int→Int→Zaa→Prop
def E7 (R7:T7) (env:Env) (h:Zaa):Prop:=Zcu 0 env fun v env=>Zew v fun a0=>Zcu 1 env fun v env=>Zqp v fun v1=>Zcu 7 env fun v env=>Zdt v fun x7=>Zcu 32 env fun v env=>xSl v fun a32 n32 c32 e32=>Zcu 33 env fun v env=>Zhe .i64 v fun x33=>Zcu 34 env fun v env=>Zhe .i64 v fun x34=>Znt env (R7 a0 v1 x7 a32 n32 c32 e32 x33 x34 h)
theorem Zsl {R7:T7} {env:Env} {h:Zaa} (hi:E7 R7 env h):∃ a0,∃ v1,∃ x7,∃ a32,∃ n32,∃ c32,∃ e32,∃ x33,∃ x34,env=[(0,.ptr a0),(1,v1),(7,.str x7),(32,.slice a32 n32 c32 e32),(33,.int .i64 x33),(34,.int .i64 x34)]∧R7 a0 v1 x7 a32 n32 c32 e32 x33 x34 h:=by
 unfold E7 at hi
 have hi0:=hi
 clear hi
 obtain ⟨_,_,rfl,hi1⟩:=Zam hi0
 obtain ⟨a0,rfl,hi2⟩:=Zbk hi1
 obtain ⟨_,_,rfl,hi3⟩:=Zam hi2
 obtain ⟨v1,hx,hi4⟩:=Zkd hi3
 replace hx:=(Option.some.inj hx).symm
 subst hx
 obtain ⟨_,_,rfl,hi5⟩:=Zam hi4
 obtain ⟨x7,rfl,hi6⟩:=Zib hi5
 obtain ⟨_,_,rfl,hi7⟩:=Zam hi6
 obtain ⟨a32,n32,c32,e32,rfl,hi8⟩:=Zdu hi7
 obtain ⟨_,_,rfl,hi9⟩:=Zam hi8
 obtain ⟨x33,rfl,hi10⟩:=Zbf hi9
 obtain ⟨_,_,rfl,hi11⟩:=Zam hi10
 obtain ⟨x34,rfl,hi12⟩:=Zbf hi11
 obtain ⟨rfl,hi13⟩:=Zbv hi12
 have hi:=hi13
 exact ⟨a0,v1,x7,a32,n32,c32,e32,x33,x34,rfl,hi⟩
def K0 (Q:QT):KT:=andThen (fun env' h'=>(match kp.find 4000014 with | some ks=>Den pg fn.ntmps (C [1,1,1,1,1]) (env'.keep ks) h' (KR Q) | none=>den pg fn.ntmps kp (C [1,1,1,1,1]) env' h' (KR Q))) (KR Q)
def K1 (Q:QT):KT:=Zdn 0 (K0 Q)
def K2 (Q:QT):KT:=left kp 7 (K1 Q)
def K3 (Q:QT) (R7:T7):KT:=rnd ((kp.find 1000007).getD []) (E7 R7) (K2 Q)
def L7 (Q:QT) (a0:Pt) (v1:Zac) (x7:List Nat) (a32:Pt) (n32 c32:Nat) (e32:Bool) (x33 x34:Int) (h:Zaa):Prop:=Zgb (Den pg fn.ntmps (C [1,1,1,1,0,1,0,0])) ((kp.find 1000007).getD []) (K2 Q) [(0,.ptr a0),(1,v1),(7,.str x7),(32,.slice a32 n32 c32 e32),(33,.int .i64 x33),(34,.int .i64 x34)] h
def J13 (Q:QT) (R7:T7) (x34 x33:Int) (a32:Pt) (n32 c32:Nat) (e32:Bool) (v1:Zac) (x7:List Nat) (a0:Pt) (h:Zaa):Prop:=Den pg fn.ntmps (C [1,1,1,1,0,1,0,0,1,1,1]) [(34,.int .i64 x34),(33,.int .i64 x33),(32,.slice a32 n32 c32 e32),(1,v1),(7,.str x7),(0,.ptr a0)] h (K3 Q R7)
def Yhj (Q:QT) (a0:Pt) (x7:List Nat) (h:Zaa):Prop:=At (K1 Q) (.exit 0) [(0,.ptr a0),(7,.str x7),(4,.undef),(5,.undef)] h
def J16 (Q:QT) (x7:List Nat) (h:Zaa):Prop:=Den pg fn.ntmps (C [1,1,1,1,1,1]) [(7,.str x7)] h (KR Q)
def L7t (Q:QT) (R7:T7) (a0:Pt) (v1:Zac) (x7:List Nat) (a32:Pt) (n32 c32:Nat) (e32:Bool) (x33 x34:Int) (h:Zaa):Prop:=
 bcase (decide ((x34:Int) < x33)) ((0≤(x34:Int)∧(x34:Int) < (n32:Nat))∧(Zay a32 fun A B=>Zew (Zak h (.ptr (A,B + (Int.toNat x34) * 1))) fun A=>Zae pg Zfh [.ptr A,v1] h fun A B=>
 Zoj A fun A=>Zai A fun A C=>Zdt A fun A=>Zai C fun C D=>Zbq C fun C=>Zck D ((0≤(x34:Int)∧(x34:Int)≤IntKind.wrap .i64 (x34 + 1)∧(IntKind.wrap .i64 (x34 + 1):Int)≤(List.length ([40,44]):Nat))∧(List.length (sub ([40,44]) x34 (IntKind.wrap .i64 (x34 + 1))) + List.length A≤9223372036854775807∧(List.length x7 + List.length ((sub ([40,44]) x34 (IntKind.wrap .i64 (x34 + 1))) ++ A)≤9223372036854775807∧(bcase (!C) (Q (.tup [.str [],.bool false]) B) (bcase (decide (((((List.length (x7 ++ ((sub ([40,44]) x34 (IntKind.wrap .i64 (x34 + 1))) ++ A)):Nat):Int)):Int) > 60)) (Q (.tup [.str [],.bool false]) B) (J13 Q R7 x34 x33 a32 n32 c32 e32 v1 (x7 ++ ((sub ([40,44]) x34 (IntKind.wrap .i64 (x34 + 1))) ++ A)) a0 B)))))))) (Yhj Q a0 x7 h)
theorem Yfh (Q:QT) (R7:T7) (a0:Pt) (v1:Zac) (x7:List Nat) (a32:Pt) (n32 c32:Nat) (e32:Bool) (x33 x34:Int) (h:Zaa) (ht:L7t Q R7 a0 v1 x7 a32 n32 c32 e32 x33 x34 h):Den pg fn.ntmps (C [1,1,1,1,0,1,0,0]) [(0,.ptr a0),(1,v1),(7,.str x7),(32,.slice a32 n32 c32 e32),(33,.int .i64 x33),(34,.int .i64 x34)] h (K3 Q R7):=
 Zbb (kp:=kp) (cast (by kernel_rfl) ht)
theorem L7ind (Q:QT) (a0:Pt) (v1:Zac) (a32:Pt) (n32 c32:Nat) (e32:Bool) (x33:Int) {G:Type} (J:G→List Nat→Int→Zaa→Prop) (m:G→Nat)
 (hr:∀ (g:G) (x7:List Nat) (x34:Int) (h:Zaa),J g x7 x34 h→∀ (R7:T7),(∀ g' (x7:List Nat) (x34:Int) (h:Zaa),m g' < m g→J g' x7 x34 h→R7 a0 v1 x7 a32 n32 c32 e32 x33 x34 h)→L7t Q R7 a0 v1 x7 a32 n32 c32 e32 x33 x34 h)
 (g:G) (x7:List Nat) (x34:Int) (h:Zaa) (hj:J g x7 x34 h):L7 Q a0 v1 x7 a32 n32 c32 e32 x33 x34 h:=by
 let P:=fun (K:List Nat→Int→Zaa→Prop) a0' v1' x7 a32' n32' c32' e32' x33' x34 h=>a0=a0'∧v1=v1'∧a32=a32'∧n32=n32'∧c32=c32'∧e32=e32'∧x33=x33'∧K x7 x34 h
 refine Zgb.inv2 (fun g=>E7 (P (J g))) (fun g=>E7 (P fun x7 x34 h=>∃ g',m g' < m g∧J g' x7 x34 h)) m ?_ ?_ g ⟨rfl,rfl,rfl,rfl,rfl,rfl,rfl,hj⟩
 ·intro g env h hi
  obtain ⟨a0',v1',x7,a32',n32',c32',e32',x33',x34,rfl,rfl,rfl,rfl,rfl,rfl,rfl,rfl,hj⟩:=Zsl hi
  exact Yfh Q _ a0 v1 x7 a32 n32 c32 e32 x33 x34 h (hr g x7 x34 h hj (P fun x7 x34 h=>∃ g',m g' < m g∧J g' x7 x34 h) fun g' x7 x34 h hlt hj=>⟨rfl,rfl,rfl,rfl,rfl,rfl,rfl,g',hlt,hj⟩)
 ·intro g env h hi
  obtain ⟨a0',v1',x7,a32',n32',c32',e32',x33',x34,rfl,rfl,rfl,rfl,rfl,rfl,rfl,rfl,g',hlt,hj⟩:=Zsl hi
  exact ⟨g',hlt,rfl,rfl,rfl,rfl,rfl,rfl,rfl,hj⟩
theorem J13i (Q:QT) (R7:T7) (x34 x33:Int) (a32:Pt) (n32 c32:Nat) (e32:Bool) (v1:Zac) (x7:List Nat) (a0:Pt) (h:Zaa) (ht :
 R7 a0 v1 x7 a32 n32 c32 e32 x33 (IntKind.wrap .i64 (x34 + 1)) h):J13 Q R7 x34 x33 a32 n32 c32 e32 v1 x7 a0 h:=
 Zbb (kp:=kp) (cast (by kernel_rfl) ht)
theorem A7x0i (Q:QT) (a0:Pt) (x7:List Nat) (h:Zaa) (ht :
 Zay a0 fun A B=>xSl (Zak h (.ptr (A,B + 1))) fun A A B B=>bcase (decide (((((A:Nat):Int)):Int) > 0)) (List.length x7 + List.length [41]≤9223372036854775807∧(J16 Q (x7 ++ [41]) h)) (J16 Q x7 h)):Yhj Q a0 x7 h:=
 At.mk (cast (by kernel_rfl) ht)
theorem J16i (Q:QT) (x7:List Nat) (h:Zaa) (ht :
 Q (.tup [.str x7,.bool (decide (((((List.length x7:Nat):Int)):Int)≤60))]) h):J16 Q x7 h:=
 Zbb (kp:=kp) (cast (by kernel_rfl) ht)
theorem call (a0:Pt) (v1:Zac) (h:Zaa) (Q:QT) (ht :
 Zae pg Zdh [.ptr a0] h fun A B=>
 Zew A fun A=>Zay A fun C D=>Zdt (Zak B (.ptr (C,D + 0))) fun C=>Zae pg Zbw [.str C] B fun B C=>
 Zbq B fun B=>bcase B (Yhy v1 fun B D=>Zae pg B ([.ptr A] ++ D) C fun B D=>
 Zdt B fun B=>Q (.tup [.str B,.bool (!(decide (B=[])))]) D) (Zay A fun B D=>Zdt (Zak C (.ptr (B,D + 0))) fun B=>Zay A fun D E=>xSl (Zak C (.ptr (D,E + 1))) fun D E F G=>L7 Q A v1 B D E F G (((E:Nat):Int)) 0 C)):Zae pg Zfh [.ptr a0,v1] h Q:=
 Zae.of_body kp (c:=cod fn) (fn:=fn) Go.Proofs.Try.func59 (by kernel_rfl) (by kernel_rfl) (Nat.le_of_ble_eq_true (by kernel_rfl))
  (cast (by kernel_rfl) ht)
end Zcs
namespace Zrr
noncomputable abbrev fn:Func:=Go.Proofs.Try.f60
def kp:Zdb:=[]
noncomputable def C (p:List Nat):Code:=(cod fn).sub p
def KR (Q:QT):KT:=Zii pg fn.results.toList Q
theorem call (a0:Pt) (h:Zaa) (Q:QT) (ht :
 Zay a0 fun A B=>Zdt (Zak h (.ptr (A,B + 0))) fun A=>Q (.str A) h):Zae pg Zmr [.ptr a0] h Q:=
 Zae.of_body kp (c:=cod fn) (fn:=fn) Go.Proofs.Try.func60 (by kernel_rfl) (by kernel_rfl) (Nat.le_of_ble_eq_true (by kernel_rfl))
  (cast (by kernel_rfl) ht)
end Zrr
end Go.Sim

set_option maxRecDepth 100000
set_option maxHeartbeats 0
set_option linter.unusedVariables false
namespace Go.Sim
open Go Go.RowKit
namespace Zdi
noncomputable abbrev fn:Func:=Go.Proofs.Try.f104
def kp:Zdb:=[(3000008,[1,0,2,6]),(1000008,[0,1,2,22,23,24])]
noncomputable def C (p:List Nat):Code:=(cod fn).sub p
def KR (Q:QT):KT:=Zii pg fn.results.toList Q
abbrev T8:=Pt→Option Nat→Option Nat→Pt→Nat→Nat→Bool→Int→Int→Zaa→Prop
def E8 (R8:T8) (env:Env) (h:Zaa):Prop:=Zcu 0 env fun v env=>Zew v fun a0=>Zcu 1 env fun v env=>Zwr v fun m1=>Zcu 2 env fun v env=>Zwr v fun m2=>Zcu 22 env fun v env=>xSl v fun a22 n22 c22 e22=>Zcu 23 env fun v env=>Zhe .i64 v fun x23=>Zcu 24 env fun v env=>Zhe .i64 v fun x24=>Znt env (R8 a0 m1 m2 a22 n22 c22 e22 x23 x24 h)
theorem Yfc {R8:T8} {env:Env} {h:Zaa} (hi:E8 R8 env h):∃ a0,∃ m1,∃ m2,∃ a22,∃ n22,∃ c22,∃ e22,∃ x23,∃ x24,env=[(0,.ptr a0),(1,.map m1),(2,.map m2),(22,.slice a22 n22 c22 e22),(23,.int .i64 x23),(24,.int .i64 x24)]∧R8 a0 m1 m2 a22 n22 c22 e22 x23 x24 h:=by
 unfold E8 at hi
 repeat ((first | (have k:=Zam hi; clear hi; obtain ⟨_,_,e,hi⟩:=k) | (have k:=Zbk hi; clear hi; obtain ⟨_,e,hi⟩:=k) | (have k:=Zmd hi; clear hi; obtain ⟨_,e,hi⟩:=k) | (have k:=Zdu hi; clear hi; obtain ⟨_,_,_,_,e,hi⟩:=k) | (have k:=Zbf hi; clear hi; obtain ⟨_,e,hi⟩:=k)); subst e)
 obtain ⟨rfl,hi⟩:=Zbv hi
 exact ⟨_,_,_,_,_,_,_,_,_,rfl,hi⟩
def K0 (Q:QT):KT:=andThen (fun env' h'=>(match kp.find 4000013 with | some ks=>Den pg fn.ntmps (C [1,1,1,1,1,1]) (env'.keep ks) h' (KR Q) | none=>den pg fn.ntmps kp (C [1,1,1,1,1,1]) env' h' (KR Q))) (KR Q)
def K1 (Q:QT):KT:=Zdn 0 (K0 Q)
def K2 (Q:QT):KT:=left kp 8 (K1 Q)
def K3 (Q:QT) (R8:T8):KT:=rnd ((kp.find 1000008).getD []) (E8 R8) (K2 Q)
def L8 (Q:QT) (a0:Pt) (m1 m2:Option Nat) (a22:Pt) (n22 c22:Nat) (e22:Bool) (x23 x24:Int) (h:Zaa):Prop:=Zgb (Den pg fn.ntmps (C [1,1,1,1,1,0,1,0,0])) ((kp.find 1000008).getD []) (K2 Q) [(0,.ptr a0),(1,.map m1),(2,.map m2),(22,.slice a22 n22 c22 e22),(23,.int .i64 x23),(24,.int .i64 x24)] h
def Yji (Q:QT) (m1:Option Nat) (a0:Pt) (m2:Option Nat) (h:Zaa):Prop:=At (K1 Q) (.exit 0) [(1,.map m1),(0,.ptr a0),(2,.map m2),(6,.undef)] h
def L8t (Q:QT) (R8:T8) (a0:Pt) (m1 m2:Option Nat) (a22:Pt) (n22 c22:Nat) (e22:Bool) (x23 x24:Int) (h:Zaa):Prop:=
 bcase (decide ((x24:Int) < x23)) ((0≤(x24:Int)∧(x24:Int) < (n22:Nat))∧(Zay a22 fun A B=>Zew (Zak h (.ptr (A,B + (Int.toNat x24) * 1))) fun A=>Zae pg Zeb [.ptr A,.map m1,.map m2] h fun A B=>
 Zbq A fun A=>bcase A (Q (.bool true) B) (R8 a0 m1 m2 a22 n22 c22 e22 x23 (IntKind.wrap .i64 (x24 + 1)) B))) (Yji Q m1 a0 m2 h)
theorem Yiz (Q:QT) (R8:T8) (a0:Pt) (m1 m2:Option Nat) (a22:Pt) (n22 c22:Nat) (e22:Bool) (x23 x24:Int) (h:Zaa) (ht:L8t Q R8 a0 m1 m2 a22 n22 c22 e22 x23 x24 h):Den pg fn.ntmps (C [1,1,1,1,1,0,1,0,0]) [(0,.ptr a0),(1,.map m1),(2,.map m2),(22,.slice a22 n22 c22 e22),(23,.int .i64 x23),(24,.int .i64 x24)] h (K3 Q R8):=
 Zbb (kp:=kp) (cast (by kernel_rfl) ht)
theorem L8ind (Q:QT) (a0:Pt) (m1 m2:Option Nat) (a22:Pt) (n22 c22:Nat) (e22:Bool) (x23:Int) {G:Type} (J:G→Int→Zaa→Prop) (m:G→Nat)
 (hr:∀ (g:G) (x24:Int) (h:Zaa),J g x24 h→∀ (R8:T8),(∀ g' (x24:Int) (h:Zaa),m g' < m g→J g' x24 h→R8 a0 m1 m2 a22 n22 c22 e22 x23 x24 h)→L8t Q R8 a0 m1 m2 a22 n22 c22 e22 x23 x24 h)
 (g:G) (x24:Int) (h:Zaa) (hj:J g x24 h):L8 Q a0 m1 m2 a22 n22 c22 e22 x23 x24 h:=by
 let P:=fun (K:Int→Zaa→Prop) a0' m1' m2' a22' n22' c22' e22' x23' x24 h=>a0=a0'∧m1=m1'∧m2=m2'∧a22=a22'∧n22=n22'∧c22=c22'∧e22=e22'∧x23=x23'∧K x24 h
 refine Zgb.inv2 (fun g=>E8 (P (J g))) (fun g=>E8 (P fun x24 h=>∃ g',m g' < m g∧J g' x24 h)) m ?_ ?_ g ⟨rfl,rfl,rfl,rfl,rfl,rfl,rfl,rfl,hj⟩
 ·intro g env h hi
  obtain ⟨a0',m1',m2',a22',n22',c22',e22',x23',x24,rfl,rfl,rfl,rfl,rfl,rfl,rfl,rfl,rfl,hj⟩:=Yfc hi
  exact Yiz Q _ a0 m1 m2 a22 n22 c22 e22 x23 x24 h (hr g x24 h hj (P fun x24 h=>∃ g',m g' < m g∧J g' x24 h) fun g' x24 h hlt hj=>⟨rfl,rfl,rfl,rfl,rfl,rfl,rfl,rfl,g',hlt,hj⟩)
 ·intro g env h hi
  obtain ⟨a0',m1',m2',a22',n22',c22',e22',x23',x24,rfl,rfl,rfl,rfl,rfl,rfl,rfl,rfl,rfl,g',hlt,hj⟩:=Yfc hi
  exact ⟨g',hlt,rfl,rfl,rfl,rfl,rfl,rfl,rfl,rfl,hj⟩
theorem A8x0i (Q:QT) (m1:Option Nat) (a0:Pt) (m2:Option Nat) (h:Zaa) (ht :
 xMp m1 fun A=>Zay a0 fun B C=>Zbs h (some A) fun es_36 k_37=>Yez (Zgz h es_36 (B,C) 0) es_36 fun es_38=>Zeu (List.set h A (.map es_38 k_37)) fun A=>xMp m2 fun B=>Zay a0 fun C D=>Zbs A (some B) fun es_43 k_44=>Ydb (Zgz A es_43 (C,D) 0) es_43 k_44 (C,D) (.bool true) fun es_45 k_46=>Zeu (List.set A B (.map es_45 k_46)) fun A=>Q (.bool false) A):Yji Q m1 a0 m2 h:=
 At.mk (cast (by kernel_rfl) ht)
theorem call (a0:Pt) (m1 m2:Option Nat) (h:Zaa) (Q:QT) (ht :
 Zae pg Zdh [.ptr a0] h fun A B=>
 Zew A fun A=>Zay A fun C D=>Zbs B m1 fun es_3 k_4=>Zpe (Zgz B es_3 (C,D) 0) fun C=>Zbq (some (Option.getD C (.bool false))) fun C=>bcase C (Q (.bool true) B) (Zay A fun C D=>Zbs B m2 fun es_9 k_10=>Zpe (Zgz B es_9 (C,D) 0) fun C=>Zbq (some (Option.getD C (.bool false))) fun C=>bcase C (Q (.bool false) B) (xMp m1 fun C=>Zay A fun D E=>Zbs B (some C) fun es_16 k_17=>Ydb (Zgz B es_16 (D,E) 0) es_16 k_17 (D,E) (.bool true) fun es_18 k_19=>Zeu (List.set B C (.map es_18 k_19)) fun B=>Zay A fun C D=>xSl (Zak B (.ptr (C,D + 1))) fun C D E F=>L8 Q A m1 m2 C D E F (((D:Nat):Int)) 0 B))):Zae pg Zeb [.ptr a0,.map m1,.map m2] h Q:=
 Zae.of_body kp (c:=cod fn) (fn:=fn) Go.Proofs.Try.func104 (by kernel_rfl) (by kernel_rfl) (Nat.le_of_ble_eq_true (by kernel_rfl))
  (cast (by kernel_rfl) ht)
end Zdi
namespace Zjd
noncomputable abbrev fn:Func:=Go.Proofs.Try.f57
def kp:Zdb:=[]
noncomputable def C (p:List Nat):Code:=(cod fn).sub p
def KR (Q:QT):KT:=Zii pg fn.results.toList Q
theorem call (a0:Pt) (h:Zaa) (Q:QT) (ht :
 Zeu (h ++ [.map [] 0]) fun A=>Zeu (A ++ [.map [] 0]) fun B=>Zae pg Zeb [.ptr a0,.map ((some h.length)),.map ((some A.length))] B fun A B=>
 Zbq A fun A=>Q (.bool (!A)) B):Zae pg Zgj [.ptr a0] h Q:=
 Zae.of_body kp (c:=cod fn) (fn:=fn) Go.Proofs.Try.func57 (by kernel_rfl) (by kernel_rfl) (Nat.le_of_ble_eq_true (by kernel_rfl))
  (cast (by kernel_rfl) ht)
end Zjd
end Go.Sim

set_option maxRecDepth 100000
set_option maxHeartbeats 0
set_option linter.unusedVariables false
namespace Go.Sim
open Go Go.RowKit
namespace Zeo
noncomputable abbrev fn:Func:=Go.Proofs.Try.f58
def kp:Zdb:=[(3000001,[0]),(1000001,[0])]
noncomputable def C (p:List Nat):Code:=(cod fn).sub p
def KR (Q:QT):KT:=Zii pg fn.results.toList Q
abbrev T1:=Pt→Zaa→Prop
def E1 (R1:T1) (env:Env) (h:Zaa):Prop:=Zcu 0 env fun v env=>Zew v fun a0=>Znt env (R1 a0 h)
theorem Yew {R1:T1} {env:Env} {h:Zaa} (hi:E1 R1 env h):∃ a0,env=[(0,.ptr a0)]∧R1 a0 h:=by
 unfold E1 at hi
 repeat ((first | (have k:=Zam hi; clear hi; obtain ⟨_,_,e,hi⟩:=k) | (have k:=Zbk hi; clear hi; obtain ⟨_,e,hi⟩:=k)); subst e)
 obtain ⟨rfl,hi⟩:=Zbv hi
 exact ⟨_,rfl,hi⟩
def K0 (Q:QT):KT:=andThen (fun env' h'=>(match kp.find 4000003 with | some ks=>Den pg fn.ntmps (C [1,1]) (env'.keep ks) h' (KR Q) | none=>den pg fn.ntmps kp (C [1,1]) env' h' (KR Q))) (KR Q)
def K1 (Q:QT):KT:=Zdn 0 (K0 Q)
def K2 (Q:QT):KT:=left kp 1 (K1 Q)
def K3 (Q:QT) (R1:T1):KT:=rnd ((kp.find 1000001).getD []) (E1 R1) (K2 Q)
def L1 (Q:QT) (a0:Pt) (h:Zaa):Prop:=Zgb (Den pg fn.ntmps (C [1,0,0,0])) ((kp.find 1000001).getD []) (K2 Q) [(0,.ptr a0)] h
def Yjl (Q:QT) (a0:Pt) (h:Zaa):Prop:=At (K1 Q) (.exit 0) [(0,.ptr a0)] h
def L1t (Q:QT) (R1:T1) (a0:Pt) (h:Zaa):Prop:=
 Zay a0 fun A B=>Zew (Zak h (.ptr (A,B + 2))) fun A=>bcase (!(Option.isNone A)) (Zay a0 fun A B=>Zew (Zak h (.ptr (A,B + 2))) fun A=>R1 A h) (Yjl Q a0 h)
theorem Yiw (Q:QT) (R1:T1) (a0:Pt) (h:Zaa) (ht:L1t Q R1 a0 h):Den pg fn.ntmps (C [1,0,0,0]) [(0,.ptr a0)] h (K3 Q R1):=
 Zbb (kp:=kp) (cast (by kernel_rfl) ht)
theorem L1ind (Q:QT) {G:Type} (J:G→Pt→Zaa→Prop) (m:G→Nat)
 (hr:∀ (g:G) (a0:Pt) (h:Zaa),J g a0 h→∀ (R1:T1),(∀ g' (a0:Pt) (h:Zaa),m g' < m g→J g' a0 h→R1 a0 h)→L1t Q R1 a0 h)
 (g:G) (a0:Pt) (h:Zaa) (hj:J g a0 h):L1 Q a0 h:=by
 let P:=fun (K:Pt→Zaa→Prop) a0 h=>K a0 h
 refine Zgb.inv2 (fun g=>E1 (P (J g))) (fun g=>E1 (P fun a0 h=>∃ g',m g' < m g∧J g' a0 h)) m ?_ ?_ g hj
 ·intro g env h hi
  obtain ⟨a0,rfl,hj⟩:=Yew hi
  exact Yiw Q _ a0 h (hr g a0 h hj (P fun a0 h=>∃ g',m g' < m g∧J g' a0 h) fun g' a0 h hlt hj=>⟨g',hlt,hj⟩)
 ·intro g env h hi
  obtain ⟨a0,rfl,g',hlt,hj⟩:=Yew hi
  exact ⟨g',hlt,hj⟩
theorem A1x0i (Q:QT) (a0:Pt) (h:Zaa) (ht :
 Q (.ptr a0) h):Yjl Q a0 h:=
 At.mk (cast (by kernel_rfl) ht)
theorem call (a0:Pt) (h:Zaa) (Q:QT) (ht :
 L1 Q a0 h):Zae pg Zdh [.ptr a0] h Q:=
 Zae.of_body kp (c:=cod fn) (fn:=fn) Go.Proofs.Try.func58 (by kernel_rfl) (by kernel_rfl) (Nat.le_of_ble_eq_true (by kernel_rfl))
  (cast (by kernel_rfl) ht)
end Zeo
namespace Zdo
noncomputable abbrev fn:Func:=Go.Proofs.Try.f56
def kp:Zdb:=[(2000004,[16,1,0]),(4000007,[0,1]),(2000007,[71,0,1]),(4000009,[0,1]),(3000012,[4]),(1000012,[1,80,81,82])]
noncomputable def C (p:List Nat):Code:=(cod fn).sub p
def KR (Q:QT):KT:=Zii pg fn.results.toList Q
abbrev T12:=Pt→Pt→Nat→Nat→Bool→Int→Int→Zaa→Prop
def E12 (R12:T12) (env:Env) (h:Zaa):Prop:=Zcu 1 env fun v env=>Zew v fun a1=>Zcu 80 env fun v env=>xSl v fun a80 n80 c80 e80=>Zcu 81 env fun v env=>Zhe .i64 v fun x81=>Zcu 82 env fun v env=>Zhe .i64 v fun x82=>Znt env (R12 a1 a80 n80 c80 e80 x81 x82 h)
theorem Yaz {R12:T12} {env:Env} {h:Zaa} (hi:E12 R12 env h):∃ a1,∃ a80,∃ n80,∃ c80,∃ e80,∃ x81,∃ x82,env=[(1,.ptr a1),(80,.slice a80 n80 c80 e80),(81,.int .i64 x81),(82,.int .i64 x82)]∧R12 a1 a80 n80 c80 e80 x81 x82 h:=by
 unfold E12 at hi
 repeat ((first | (have k:=Zam hi; clear hi; obtain ⟨_,_,e,hi⟩:=k) | (have k:=Zbk hi; clear hi; obtain ⟨_,e,hi⟩:=k) | (have k:=Zbf hi; clear hi; obtain ⟨_,e,hi⟩:=k) | (have k:=Zdu hi; clear hi; obtain ⟨_,_,_,_,e,hi⟩:=k)); subst e)
 obtain ⟨rfl,hi⟩:=Zbv hi
 exact ⟨_,_,_,_,_,_,_,rfl,hi⟩
def K0 (Q:QT):KT:=andThen (fun env' h'=>(match kp.find 4000017 with | some ks=>Den pg fn.ntmps (C [1,1,1,1,1,1,1]) (env'.keep ks) h' (KR Q) | none=>den pg fn.ntmps kp (C [1,1,1,1,1,1,1]) env' h' (KR Q))) (KR Q)
def K1 (Q:QT):KT:=Zdn 1 (K0 Q)
def K2 (Q:QT):KT:=left kp 12 (K1 Q)
def K3 (Q:QT) (R12:T12):KT:=rnd ((kp.find 1000012).getD []) (E12 R12) (K2 Q)
def J7 (Q:QT) (a0 a1:Pt) (h:Zaa):Prop:=Den pg fn.ntmps (C [1,1,1]) [(0,.ptr a0),(1,.ptr a1)] h (KR Q)
def J9 (Q:QT) (a0 a1:Pt) (h:Zaa):Prop:=Den pg fn.ntmps (C [1,1,1,1]) [(0,.ptr a0),(1,.ptr a1)] h (KR Q)
def L12 (Q:QT) (a1 a80:Pt) (n80 c80:Nat) (e80:Bool) (x81 x82:Int) (h:Zaa):Prop:=Zgb (Den pg fn.ntmps (C [1,1,1,1,1,1,0,1,0,0])) ((kp.find 1000012).getD []) (K2 Q) [(1,.ptr a1),(80,.slice a80 n80 c80 e80),(81,.int .i64 x81),(82,.int .i64 x82)] h
def Yho (Q:QT) (h:Zaa):Prop:=At (K1 Q) (.exit 1) [(4,.undef)] h
theorem J7i (Q:QT) (a0 a1:Pt) (h:Zaa) (ht :
 Zay a0 fun A B=>Zdt (Zak h (.ptr (A,B + 0))) fun A=>Zae pg Zbw [.str A] h fun A B=>
 Zbq A fun A=>bcase (!A) (Zay a0 fun A C=>Zay a1 fun D E=>Zdt (Zak B (.ptr (A,C + 0))) fun F=>Zdt (Zak B (.ptr (D,E + 0))) fun D=>(Zak B (.ptr (A,C + 0))=Zak B (.ptr (A,C + 0)))∧bcase (!(decide (F=D))) (Q (.bool false) B) (J9 Q a0 a1 B)) ((Zak B (.tup [])=Zak B (.tup []))∧J9 Q a0 a1 B)):J7 Q a0 a1 h:=
 Zbb (kp:=kp) (cast (by kernel_rfl) ht)
theorem J9i (Q:QT) (a0 a1:Pt) (h:Zaa) (ht :
 Zay a0 fun A B=>xSl (Zak h (.ptr (A,B + 1))) fun A B C D=>Zay a0 fun E F=>Zby (Zba h (.ptr (E,F + 2)) [.ptr a1]) fun E=>L12 Q a1 A B C D (((B:Nat):Int)) 0 E):J9 Q a0 a1 h:=
 Zbb (kp:=kp) (cast (by kernel_rfl) ht)
def L12t (Q:QT) (R12:T12) (a1 a80:Pt) (n80 c80:Nat) (e80:Bool) (x81 x82:Int) (h:Zaa):Prop:=
 bcase (decide ((x82:Int) < x81)) ((0≤(x82:Int)∧(x82:Int) < (n80:Nat))∧(Zay a80 fun A B=>Zew (Zak h (.ptr (A,B + (Int.toNat x82) * 1))) fun A=>Zay a1 fun B C=>xSl (Zak h (.ptr (B,C + 1))) fun B C D D=>(0≤(x82:Int)∧(x82:Int) < (C:Nat))∧(Zay B fun B C=>Zew (Zak h (.ptr (B,C + (Int.toNat x82) * 1))) fun B=>Zae pg Zhs [.ptr A,.ptr B] h fun A B=>
 Zbq A fun A=>bcase (!A) (Q (.bool false) B) (R12 a1 a80 n80 c80 e80 x81 (IntKind.wrap .i64 (x82 + 1)) B)))) (Yho Q h)
theorem Yie (Q:QT) (R12:T12) (a1 a80:Pt) (n80 c80:Nat) (e80:Bool) (x81 x82:Int) (h:Zaa) (ht:L12t Q R12 a1 a80 n80 c80 e80 x81 x82 h):Den pg fn.ntmps (C [1,1,1,1,1,1,0,1,0,0]) [(1,.ptr a1),(80,.slice a80 n80 c80 e80),(81,.int .i64 x81),(82,.int .i64 x82)] h (K3 Q R12):=
 Zbb (kp:=kp) (cast (by kernel_rfl) ht)
theorem L12ind (Q:QT) (a1 a80:Pt) (n80 c80:Nat) (e80:Bool) (x81:Int) {G:Type} (J:G→Int→Zaa→Prop) (m:G→Nat)
 (hr:∀ (g:G) (x82:Int) (h:Zaa),J g x82 h→∀ (R12:T12),(∀ g' (x82:Int) (h:Zaa),m g' < m g→J g' x82 h→R12 a1 a80 n80 c80 e80 x81 x82 h)→L12t Q R12 a1 a80 n80 c80 e80 x81 x82 h)
 (g:G) (x82:Int) (h:Zaa) (hj:J g x82 h):L12 Q a1 a80 n80 c80 e80 x81 x82 h:=by
 let P:=fun (K:Int→Zaa→Prop) a1' a80' n80' c80' e80' x81' x82 h=>a1=a1'∧a80=a80'∧n80=n80'∧c80=c80'∧e80=e80'∧x81=x81'∧K x82 h
 refine Zgb.inv2 (fun g=>E12 (P (J g))) (fun g=>E12 (P fun x82 h=>∃ g',m g' < m g∧J g' x82 h)) m ?_ ?_ g ⟨rfl,rfl,rfl,rfl,rfl,rfl,hj⟩
 ·intro g env h hi
  obtain ⟨a1',a80',n80',c80',e80',x81',x82,rfl,rfl,rfl,rfl,rfl,rfl,rfl,hj⟩:=Yaz hi
  exact Yie Q _ a1 a80 n80 c80 e80 x81 x82 h (hr g x82 h hj (P fun x82 h=>∃ g',m g' < m g∧J g' x82 h) fun g' x82 h hlt hj=>⟨rfl,rfl,rfl,rfl,rfl,rfl,g',hlt,hj⟩)
 ·intro g env h hi
  obtain ⟨a1',a80',n80',c80',e80',x81',x82,rfl,rfl,rfl,rfl,rfl,rfl,rfl,g',hlt,hj⟩:=Yaz hi
  exact ⟨g',hlt,rfl,rfl,rfl,rfl,rfl,rfl,hj⟩
theorem A12x1i (Q:QT) (h:Zaa) (ht :
 Q (.bool true) h):Yho Q h:=
 At.mk (cast (by kernel_rfl) ht)
theorem call (a0 a1:Pt) (h:Zaa) (Q:QT) (ht :
 Zae pg Zdh [.ptr a0] h fun A B=>
 Zew A fun A=>Zae pg Zdh [.ptr a1] B fun B C=>
 Zew B fun B=>Zml C A B fun D=>bcase D (Q (.bool true) C) (Zay A fun D E=>Zdt (Zak C (.ptr (D,E + 0))) fun D=>Zae pg Zbw [.str D] C fun C D=>
 Zbq C fun C=>bcase C (Zay B fun C E=>Zdt (Zak D (.ptr (C,E + 0))) fun C=>Zae pg Zbw [.str C] D fun C E=>
 Zbq C fun C=>bcase C (Zay A fun C F=>Zay B fun G H=>Zdt (Zak E (.ptr (C,F + 0))) fun I=>Zdt (Zak E (.ptr (G,H + 0))) fun G=>(Zak E (.ptr (C,F + 0))=Zak E (.ptr (C,F + 0)))∧bcase (!(Zdk I G || decide (I=G))) (bcase (!(Zdk I G || decide (I=G))) (J7 Q B A E) (J7 Q A B E)) (Zay A fun C F=>Zdt (Zak E (.ptr (C,F + 0))) fun C=>Zae pg Zbw [.str C] E fun C F=>
 Zbq C fun C=>bcase (!C) (Zay B fun C G=>Zdt (Zak F (.ptr (C,G + 0))) fun C=>Zae pg Zbw [.str C] F fun C G=>
 Zbq C fun C=>bcase C (J7 Q B A G) (J7 Q A B G)) (J7 Q A B F))) ((Zak E (.tup [])=Zak E (.tup []))∧Zay A fun C F=>Zdt (Zak E (.ptr (C,F + 0))) fun C=>Zae pg Zbw [.str C] E fun C E=>
 Zbq C fun C=>bcase (!C) (Zay B fun C F=>Zdt (Zak E (.ptr (C,F + 0))) fun C=>Zae pg Zbw [.str C] E fun C F=>
 Zbq C fun C=>bcase C (J7 Q B A F) (J7 Q A B F)) (J7 Q A B E))) ((Zak D (.tup [])=Zak D (.tup []))∧Zay A fun C E=>Zdt (Zak D (.ptr (C,E + 0))) fun C=>Zae pg Zbw [.str C] D fun C D=>
 Zbq C fun C=>bcase (!C) (Zay B fun C E=>Zdt (Zak D (.ptr (C,E + 0))) fun C=>Zae pg Zbw [.str C] D fun C E=>
 Zbq C fun C=>bcase C (J7 Q B A E) (J7 Q A B E)) (J7 Q A B D)))):Zae pg Zhs [.ptr a0,.ptr a1] h Q:=
 Zae.of_body kp (c:=cod fn) (fn:=fn) Go.Proofs.Try.func56 (by kernel_rfl) (by kernel_rfl) (Nat.le_of_ble_eq_true (by kernel_rfl))
  (cast (by kernel_rfl) ht)
end Zdo
end Go.Sim
