/- A part of the proof of a statement of this seat: see the text that holds the theorem. No condition. -/
import Derived.Test.YtdglddliggejdaaNm
set_option linter.unusedVariables false
set_option linter.unusedSimpArgs false
set_option linter.all false
set_option maxRecDepth 100000
set_option maxHeartbeats 0
set_option linter.unusedVariables false
namespace Go.Sim
open Go Go.RowKit
namespace Zdd
noncomputable abbrev fn:Func:=Go.Proofs.Try.f102
def kp:Zcr:=[(2000003,[1,0]),(4000004,[1,0]),(3000007,[5]),(1000007,[1,5,46,47,48]),(2000009,[48,47,46,5,1])]
noncomputable def C (p:List Nat):Code:=(cod fn).sub p
def KR (Q:QT):KT:=Zhe pg fn.results.toList Q
abbrev T7:=Option Nat→Nat→Nat→Pt→Nat→Nat→Bool→Int→Int→Zaa→Prop
def E7 (R7:T7) (env:Env) (h:Zaa):Prop:=Zcq 1 env fun v env=>Zxx v fun m1=>Zcq 5 env fun v env=>Zei v fun a=>Zaw a fun i5 o5=>Zcq 46 env fun v env=>xSl v fun a46 n46 c46 e46=>Zcq 47 env fun v env=>Zhh .i64 v fun x47=>Zcq 48 env fun v env=>Zhh .i64 v fun x48=>Znu env (R7 m1 i5 o5 a46 n46 c46 e46 x47 x48 h)
theorem Zvc {R7:T7} {env:Env} {h:Zaa} (hi:E7 R7 env h):∃ m1,∃ i5,∃ o5,∃ a46,∃ n46,∃ c46,∃ e46,∃ x47,∃ x48,env=[(1,.map m1),(5,.ptr (i5,o5)),(46,.slice a46 n46 c46 e46),(47,.int .i64 x47),(48,.int .i64 x48)]∧R7 m1 i5 o5 a46 n46 c46 e46 x47 x48 h:=by
 unfold E7 at hi
 have hi0:=hi
 clear hi
 obtain ⟨_,_,rfl,hi1⟩:=Zam hi0
 obtain ⟨m1,rfl,hi2⟩:=Zkn hi1
 obtain ⟨_,_,rfl,hi3⟩:=Zam hi2
 obtain ⟨a,rfl,hi4⟩:=Zbl hi3
 obtain ⟨i5,o5,rfl,hi5⟩:=Zbp hi4
 obtain ⟨_,_,rfl,hi6⟩:=Zam hi5
 obtain ⟨a46,n46,c46,e46,rfl,hi7⟩:=Zdz hi6
 obtain ⟨_,_,rfl,hi8⟩:=Zam hi7
 obtain ⟨x47,rfl,hi9⟩:=Zbi hi8
 obtain ⟨_,_,rfl,hi10⟩:=Zam hi9
 obtain ⟨x48,rfl,hi11⟩:=Zbi hi10
 obtain ⟨rfl,hi12⟩:=Zbx hi11
 have hi:=hi12
 exact ⟨m1,i5,o5,a46,n46,c46,e46,x47,x48,rfl,hi⟩
def K0 (Q:QT):KT:=andThen (fun env' h'=>(match kp.find 4000005 with | some ks=>Den pg fn.ntmps (C [1,1]) (env'.keep ks) h' (KR Q) | none=>den pg fn.ntmps kp (C [1,1]) env' h' (KR Q))) (KR Q)
def K1 (Q:QT):KT:=andThen (fun env' h'=>(match kp.find 4000011 with | some ks=>Den pg fn.ntmps (C [1,1,1,1]) (env'.keep ks) h' (KR Q) | none=>den pg fn.ntmps kp (C [1,1,1,1]) env' h' (KR Q))) (KR Q)
def K2 (Q:QT):KT:=Zdv 0 (K1 Q)
def K3 (Q:QT):KT:=left kp 7 (K2 Q)
def K4 (Q:QT) (R7:T7):KT:=rnd ((kp.find 1000007).getD []) (E7 R7) (K3 Q)
def J4 (Q:QT) (m1:Option Nat) (a0:Pt) (h:Zaa):Prop:=Den pg fn.ntmps (C [1,0,1,0,1]) [(1,.map m1),(0,.ptr a0)] h (K0 Q)
def L7 (Q:QT) (m1:Option Nat) (i5 o5:Nat) (a46:Pt) (n46 c46:Nat) (e46:Bool) (x47 x48:Int) (h:Zaa):Prop:=Zgo (Den pg fn.ntmps (C [1,1,1,0,1,0,0])) ((kp.find 1000007).getD []) (K3 Q) [(1,.map m1),(5,.ptr (i5,o5)),(46,.slice a46 n46 c46 e46),(47,.int .i64 x47),(48,.int .i64 x48)] h
def Yjw (Q:QT) (i5 o5:Nat) (h:Zaa):Prop:=At (K2 Q) (.exit 0) [(5,.ptr (i5,o5))] h
theorem J4i (Q:QT) (m1:Option Nat) (a0:Pt) (h:Zaa) (ht :
 Zaw a0 fun A B=>Zde (Zaj h (.ptr (A,B + 0))) fun A=>Zbt h m1 fun es_39 k_40=>Zmj es_39 A fun A=>Zei (some (Option.getD A (.ptr none))) fun A=>Q (.ptr A) h):J4 Q m1 a0 h:=
 Zaz (kp:=kp) (cast (by kernel_rfl) ht)
def L7t (Q:QT) (R7:T7) (m1:Option Nat) (i5 o5:Nat) (a46:Pt) (n46 c46:Nat) (e46:Bool) (x47 x48:Int) (h:Zaa):Prop:=
 bcase (decide ((x48:Int) < x47)) ((0≤(x48:Int)∧(x48:Int) < (n46:Nat))∧(Zaw a46 fun A B=>Zei (Zaj h (.ptr (A,B + (Int.toNat x48) * 1))) fun A=>xSl (Zaj h (.ptr (i5,o5 + 1))) fun B C D E=>Zac pg Zfh [.ptr A,.map m1] h fun A F=>
 Zei A fun A=>(Zaj F (.ptr (i5,o5 + 1))=Zaj h (.ptr (i5,o5 + 1)))∧Zec (F ++ [.cells Zcd [.ptr A] false]) fun A=>(Zaj A (.ptr (i5,o5 + 1))=Zaj F (.ptr (i5,o5 + 1)))∧Zdt pg Zid A (.slice B C D E) (.slice (F.length,0) 1 1 true) fun A B=>xSl A fun A C D E=>Zce (Zbc B (.ptr (i5,o5 + 1)) [.slice A C D E]) fun A=>R7 m1 i5 o5 a46 n46 c46 e46 x47 (IntKind.wrap .i64 (x48 + 1)) A)) (Yjw Q i5 o5 h)
theorem Yig (Q:QT) (R7:T7) (m1:Option Nat) (i5 o5:Nat) (a46:Pt) (n46 c46:Nat) (e46:Bool) (x47 x48:Int) (h:Zaa) (ht:L7t Q R7 m1 i5 o5 a46 n46 c46 e46 x47 x48 h):Den pg fn.ntmps (C [1,1,1,0,1,0,0]) [(1,.map m1),(5,.ptr (i5,o5)),(46,.slice a46 n46 c46 e46),(47,.int .i64 x47),(48,.int .i64 x48)] h (K4 Q R7):=
 Zaz (kp:=kp) (cast (by kernel_rfl) ht)
theorem L7ind (Q:QT) (m1:Option Nat) (i5 o5:Nat) (a46:Pt) (n46 c46:Nat) (e46:Bool) (x47:Int) {G:Type} (J:G→Int→Zaa→Prop) (m:G→Nat)
 (hr:∀ (g:G) (x48:Int) (h:Zaa),J g x48 h→∀ (R7:T7),(∀ g' (x48:Int) (h:Zaa),m g' < m g→J g' x48 h→R7 m1 i5 o5 a46 n46 c46 e46 x47 x48 h)→L7t Q R7 m1 i5 o5 a46 n46 c46 e46 x47 x48 h)
 (g:G) (x48:Int) (h:Zaa) (hj:J g x48 h):L7 Q m1 i5 o5 a46 n46 c46 e46 x47 x48 h:=by
 let P:=fun (K:Int→Zaa→Prop) m1' i5' o5' a46' n46' c46' e46' x47' x48 h=>m1=m1'∧i5=i5'∧o5=o5'∧a46=a46'∧n46=n46'∧c46=c46'∧e46=e46'∧x47=x47'∧K x48 h
 refine Zgo.inv2 (fun g=>E7 (P (J g))) (fun g=>E7 (P fun x48 h=>∃ g',m g' < m g∧J g' x48 h)) m ?_ ?_ g ⟨rfl,rfl,rfl,rfl,rfl,rfl,rfl,rfl,hj⟩
 ·intro g env h hi
  obtain ⟨m1',i5',o5',a46',n46',c46',e46',x47',x48,rfl,rfl,rfl,rfl,rfl,rfl,rfl,rfl,rfl,hj⟩:=Zvc hi
  exact Yig Q _ m1 i5 o5 a46 n46 c46 e46 x47 x48 h (hr g x48 h hj (P fun x48 h=>∃ g',m g' < m g∧J g' x48 h) fun g' x48 h hlt hj=>⟨rfl,rfl,rfl,rfl,rfl,rfl,rfl,rfl,g',hlt,hj⟩)
 ·intro g env h hi
  obtain ⟨m1',i5',o5',a46',n46',c46',e46',x47',x48,rfl,rfl,rfl,rfl,rfl,rfl,rfl,rfl,rfl,g',hlt,hj⟩:=Zvc hi
  exact ⟨g',hlt,rfl,rfl,rfl,rfl,rfl,rfl,rfl,rfl,hj⟩
theorem A7x0i (Q:QT) (i5 o5:Nat) (h:Zaa) (ht :
 Q (.ptr (i5,o5)) h):Yjw Q i5 o5 h:=
 At.mk (cast (by kernel_rfl) ht)
theorem call (a0:Pt) (m1:Option Nat) (h:Zaa) (Q:QT) (ht :
 Zaw a0 fun A B=>Zde (Zaj h (.ptr (A,B + 0))) fun A=>Zac pg Zcc [.str A] h fun A B=>
 Zbg A fun A=>bcase A (Zaw a0 fun A C=>Zde (Zaj B (.ptr (A,C + 0))) fun A=>Zbt B m1 fun es_9 k_10=>Zmj es_9 A fun A=>Zei (some (Option.getD A (.ptr none))) fun A=>bcase (Option.isNone A) (Zaw a0 fun A C=>Zaw a0 fun D E=>Zde (Zaj B (.ptr (A,C + 0))) fun F=>Zde (Zaj B (.ptr (D,E + 0))) fun D=>(Zaj B (.ptr (A,C + 0))=Zaj B (.ptr (A,C + 0)))∧Zec (B ++ [.cells Zba [.str D,.slice none 0 0 true,.ptr none] false]) fun D=>(Zaj D (.ptr (A,C + 0))=Zaj B (.ptr (A,C + 0)))∧xMp m1 fun A=>Zbt D (some A) fun es_21 k_22=>Zzc es_21 k_22 F (.ptr (B.length,0)) fun es_23 k_24=>Zec (List.set D A (.map es_23 k_24)) fun A=>J4 Q m1 a0 A) (J4 Q m1 a0 B)) (Zaw a0 fun A C=>Zde (Zaj B (.ptr (A,C + 0))) fun A=>Zec (B ++ [.cells Zba [.str A,.slice none 0 0 true,.ptr none] false]) fun A=>Zaw a0 fun C D=>xSl (Zaj A (.ptr (C,D + 1))) fun C D E F=>L7 Q m1 B.length 0 C D E F (((D:Nat):Int)) 0 A)):Zac pg Zfh [.ptr a0,.map m1] h Q:=
 Zac.of_body kp (c:=cod fn) (fn:=fn) Go.Proofs.Try.func102 (by kernel_rfl) (by kernel_rfl) (Nat.le_of_ble_eq_true (by kernel_rfl))
  (cast (by kernel_rfl) ht)
end Zdd
end Go.Sim

set_option maxRecDepth 100000
set_option maxHeartbeats 0
set_option linter.unusedVariables false
namespace Go.Sim
open Go Go.RowKit
namespace Zdb
noncomputable abbrev fn:Func:=Go.Proofs.Try.f59
def kp:Zcr:=[(3000007,[0,7,4,5]),(1000007,[0,1,7,32,33,34]),(4000013,[34,33,32,1,7,0]),(4000016,[7])]
noncomputable def C (p:List Nat):Code:=(cod fn).sub p
def KR (Q:QT):KT:=Zhe pg fn.results.toList Q
abbrev T7:=Pt→Zad→List Nat→Pt→Nat→Nat→Bool→Int→Int→Zaa→Prop
def E7 (R7:T7) (env:Env) (h:Zaa):Prop:=Zcq 0 env fun v env=>Zei v fun a0=>Zcq 1 env fun v env=>Zsa v fun v1=>Zcq 7 env fun v env=>Zde v fun x7=>Zcq 32 env fun v env=>xSl v fun a32 n32 c32 e32=>Zcq 33 env fun v env=>Zhh .i64 v fun x33=>Zcq 34 env fun v env=>Zhh .i64 v fun x34=>Znu env (R7 a0 v1 x7 a32 n32 c32 e32 x33 x34 h)
theorem Zvc {R7:T7} {env:Env} {h:Zaa} (hi:E7 R7 env h):∃ a0,∃ v1,∃ x7,∃ a32,∃ n32,∃ c32,∃ e32,∃ x33,∃ x34,env=[(0,.ptr a0),(1,v1),(7,.str x7),(32,.slice a32 n32 c32 e32),(33,.int .i64 x33),(34,.int .i64 x34)]∧R7 a0 v1 x7 a32 n32 c32 e32 x33 x34 h:=by
 unfold E7 at hi
 have hi0:=hi
 clear hi
 obtain ⟨_,_,rfl,hi1⟩:=Zam hi0
 obtain ⟨a0,rfl,hi2⟩:=Zbl hi1
 obtain ⟨_,_,rfl,hi3⟩:=Zam hi2
 obtain ⟨v1,hx,hi4⟩:=Zku hi3
 replace hx:=(Option.some.inj hx).symm
 subst hx
 obtain ⟨_,_,rfl,hi5⟩:=Zam hi4
 obtain ⟨x7,rfl,hi6⟩:=Zia hi5
 obtain ⟨_,_,rfl,hi7⟩:=Zam hi6
 obtain ⟨a32,n32,c32,e32,rfl,hi8⟩:=Zdz hi7
 obtain ⟨_,_,rfl,hi9⟩:=Zam hi8
 obtain ⟨x33,rfl,hi10⟩:=Zbi hi9
 obtain ⟨_,_,rfl,hi11⟩:=Zam hi10
 obtain ⟨x34,rfl,hi12⟩:=Zbi hi11
 obtain ⟨rfl,hi13⟩:=Zbx hi12
 have hi:=hi13
 exact ⟨a0,v1,x7,a32,n32,c32,e32,x33,x34,rfl,hi⟩
def K0 (Q:QT):KT:=andThen (fun env' h'=>(match kp.find 4000014 with | some ks=>Den pg fn.ntmps (C [1,1,1,1,1]) (env'.keep ks) h' (KR Q) | none=>den pg fn.ntmps kp (C [1,1,1,1,1]) env' h' (KR Q))) (KR Q)
def K1 (Q:QT):KT:=Zdv 0 (K0 Q)
def K2 (Q:QT):KT:=left kp 7 (K1 Q)
def K3 (Q:QT) (R7:T7):KT:=rnd ((kp.find 1000007).getD []) (E7 R7) (K2 Q)
def L7 (Q:QT) (a0:Pt) (v1:Zad) (x7:List Nat) (a32:Pt) (n32 c32:Nat) (e32:Bool) (x33 x34:Int) (h:Zaa):Prop:=Zgo (Den pg fn.ntmps (C [1,1,1,1,0,1,0,0])) ((kp.find 1000007).getD []) (K2 Q) [(0,.ptr a0),(1,v1),(7,.str x7),(32,.slice a32 n32 c32 e32),(33,.int .i64 x33),(34,.int .i64 x34)] h
def J13 (Q:QT) (R7:T7) (x34 x33:Int) (a32:Pt) (n32 c32:Nat) (e32:Bool) (v1:Zad) (x7:List Nat) (a0:Pt) (h:Zaa):Prop:=Den pg fn.ntmps (C [1,1,1,1,0,1,0,0,1,1,1]) [(34,.int .i64 x34),(33,.int .i64 x33),(32,.slice a32 n32 c32 e32),(1,v1),(7,.str x7),(0,.ptr a0)] h (K3 Q R7)
def Yjw (Q:QT) (a0:Pt) (x7:List Nat) (h:Zaa):Prop:=At (K1 Q) (.exit 0) [(0,.ptr a0),(7,.str x7),(4,.undef),(5,.undef)] h
def J16 (Q:QT) (x7:List Nat) (h:Zaa):Prop:=Den pg fn.ntmps (C [1,1,1,1,1,1]) [(7,.str x7)] h (KR Q)
def L7t (Q:QT) (R7:T7) (a0:Pt) (v1:Zad) (x7:List Nat) (a32:Pt) (n32 c32:Nat) (e32:Bool) (x33 x34:Int) (h:Zaa):Prop:=
 bcase (decide ((x34:Int) < x33)) ((0≤(x34:Int)∧(x34:Int) < (n32:Nat))∧(Zaw a32 fun A B=>Zei (Zaj h (.ptr (A,B + (Int.toNat x34) * 1))) fun A=>Zac pg Zfq [.ptr A,v1] h fun A B=>
 Zrs A fun A=>Zal A fun A C=>Zde A fun A=>Zal C fun C D=>Zbg C fun C=>Zcs D ((0≤(x34:Int)∧(x34:Int)≤IntKind.wrap .i64 (x34 + 1)∧(IntKind.wrap .i64 (x34 + 1):Int)≤(List.length ([40,44]):Nat))∧(List.length (sub ([40,44]) x34 (IntKind.wrap .i64 (x34 + 1))) + List.length A≤9223372036854775807∧(List.length x7 + List.length ((sub ([40,44]) x34 (IntKind.wrap .i64 (x34 + 1))) ++ A)≤9223372036854775807∧(bcase (!C) (Q (.tup [.str [],.bool false]) B) (bcase (decide (((((List.length (x7 ++ ((sub ([40,44]) x34 (IntKind.wrap .i64 (x34 + 1))) ++ A)):Nat):Int)):Int) > 60)) (Q (.tup [.str [],.bool false]) B) (J13 Q R7 x34 x33 a32 n32 c32 e32 v1 (x7 ++ ((sub ([40,44]) x34 (IntKind.wrap .i64 (x34 + 1))) ++ A)) a0 B)))))))) (Yjw Q a0 x7 h)
theorem Yig (Q:QT) (R7:T7) (a0:Pt) (v1:Zad) (x7:List Nat) (a32:Pt) (n32 c32:Nat) (e32:Bool) (x33 x34:Int) (h:Zaa) (ht:L7t Q R7 a0 v1 x7 a32 n32 c32 e32 x33 x34 h):Den pg fn.ntmps (C [1,1,1,1,0,1,0,0]) [(0,.ptr a0),(1,v1),(7,.str x7),(32,.slice a32 n32 c32 e32),(33,.int .i64 x33),(34,.int .i64 x34)] h (K3 Q R7):=
 Zaz (kp:=kp) (cast (by kernel_rfl) ht)
theorem L7ind (Q:QT) (a0:Pt) (v1:Zad) (a32:Pt) (n32 c32:Nat) (e32:Bool) (x33:Int) {G:Type} (J:G→List Nat→Int→Zaa→Prop) (m:G→Nat)
 (hr:∀ (g:G) (x7:List Nat) (x34:Int) (h:Zaa),J g x7 x34 h→∀ (R7:T7),(∀ g' (x7:List Nat) (x34:Int) (h:Zaa),m g' < m g→J g' x7 x34 h→R7 a0 v1 x7 a32 n32 c32 e32 x33 x34 h)→L7t Q R7 a0 v1 x7 a32 n32 c32 e32 x33 x34 h)
 (g:G) (x7:List Nat) (x34:Int) (h:Zaa) (hj:J g x7 x34 h):L7 Q a0 v1 x7 a32 n32 c32 e32 x33 x34 h:=by
 let P:=fun (K:List Nat→Int→Zaa→Prop) a0' v1' x7 a32' n32' c32' e32' x33' x34 h=>a0=a0'∧v1=v1'∧a32=a32'∧n32=n32'∧c32=c32'∧e32=e32'∧x33=x33'∧K x7 x34 h
 refine Zgo.inv2 (fun g=>E7 (P (J g))) (fun g=>E7 (P fun x7 x34 h=>∃ g',m g' < m g∧J g' x7 x34 h)) m ?_ ?_ g ⟨rfl,rfl,rfl,rfl,rfl,rfl,rfl,hj⟩
 ·intro g env h hi
  obtain ⟨a0',v1',x7,a32',n32',c32',e32',x33',x34,rfl,rfl,rfl,rfl,rfl,rfl,rfl,rfl,hj⟩:=Zvc hi
  exact Yig Q _ a0 v1 x7 a32 n32 c32 e32 x33 x34 h (hr g x7 x34 h hj (P fun x7 x34 h=>∃ g',m g' < m g∧J g' x7 x34 h) fun g' x7 x34 h hlt hj=>⟨rfl,rfl,rfl,rfl,rfl,rfl,rfl,g',hlt,hj⟩)
 ·intro g env h hi
  obtain ⟨a0',v1',x7,a32',n32',c32',e32',x33',x34,rfl,rfl,rfl,rfl,rfl,rfl,rfl,rfl,g',hlt,hj⟩:=Zvc hi
  exact ⟨g',hlt,rfl,rfl,rfl,rfl,rfl,rfl,rfl,hj⟩
theorem J13i (Q:QT) (R7:T7) (x34 x33:Int) (a32:Pt) (n32 c32:Nat) (e32:Bool) (v1:Zad) (x7:List Nat) (a0:Pt) (h:Zaa) (ht :
 R7 a0 v1 x7 a32 n32 c32 e32 x33 (IntKind.wrap .i64 (x34 + 1)) h):J13 Q R7 x34 x33 a32 n32 c32 e32 v1 x7 a0 h:=
 Zaz (kp:=kp) (cast (by kernel_rfl) ht)
theorem A7x0i (Q:QT) (a0:Pt) (x7:List Nat) (h:Zaa) (ht :
 Zaw a0 fun A B=>xSl (Zaj h (.ptr (A,B + 1))) fun A A B B=>bcase (decide (((((A:Nat):Int)):Int) > 0)) (List.length x7 + List.length [41]≤9223372036854775807∧(J16 Q (x7 ++ [41]) h)) (J16 Q x7 h)):Yjw Q a0 x7 h:=
 At.mk (cast (by kernel_rfl) ht)
theorem J16i (Q:QT) (x7:List Nat) (h:Zaa) (ht :
 Q (.tup [.str x7,.bool (decide (((((List.length x7:Nat):Int)):Int)≤60))]) h):J16 Q x7 h:=
 Zaz (kp:=kp) (cast (by kernel_rfl) ht)
theorem call (a0:Pt) (v1:Zad) (h:Zaa) (Q:QT) (ht :
 Zac pg Zdu [.ptr a0] h fun A B=>
 Zei A fun A=>Zaw A fun C D=>Zde (Zaj B (.ptr (C,D + 0))) fun C=>Zac pg Zcc [.str C] B fun B C=>
 Zbg B fun B=>bcase B (Yko v1 fun B D=>Zac pg B ([.ptr A] ++ D) C fun B D=>
 Zde B fun B=>Q (.tup [.str B,.bool (!(decide (B=[])))]) D) (Zaw A fun B D=>Zde (Zaj C (.ptr (B,D + 0))) fun B=>Zaw A fun D E=>xSl (Zaj C (.ptr (D,E + 1))) fun D E F G=>L7 Q A v1 B D E F G (((E:Nat):Int)) 0 C)):Zac pg Zfq [.ptr a0,v1] h Q:=
 Zac.of_body kp (c:=cod fn) (fn:=fn) Go.Proofs.Try.func59 (by kernel_rfl) (by kernel_rfl) (Nat.le_of_ble_eq_true (by kernel_rfl))
  (cast (by kernel_rfl) ht)
end Zdb
namespace Zse
noncomputable abbrev fn:Func:=Go.Proofs.Try.f60
def kp:Zcr:=[]
noncomputable def C (p:List Nat):Code:=(cod fn).sub p
def KR (Q:QT):KT:=Zhe pg fn.results.toList Q
theorem call (a0:Pt) (h:Zaa) (Q:QT) (ht :
 Zaw a0 fun A B=>Zde (Zaj h (.ptr (A,B + 0))) fun A=>Q (.str A) h):Zac pg Znw [.ptr a0] h Q:=
 Zac.of_body kp (c:=cod fn) (fn:=fn) Go.Proofs.Try.func60 (by kernel_rfl) (by kernel_rfl) (Nat.le_of_ble_eq_true (by kernel_rfl))
  (cast (by kernel_rfl) ht)
end Zse
end Go.Sim

set_option maxRecDepth 100000
set_option maxHeartbeats 0
set_option linter.unusedVariables false
namespace Go.Sim
open Go Go.RowKit
namespace Zds
noncomputable abbrev fn:Func:=Go.Proofs.Try.f104
def kp:Zcr:=[(3000008,[1,0,2,6]),(1000008,[0,1,2,22,23,24])]
noncomputable def C (p:List Nat):Code:=(cod fn).sub p
def KR (Q:QT):KT:=Zhe pg fn.results.toList Q
abbrev T8:=Pt→Option Nat→Option Nat→Pt→Nat→Nat→Bool→Int→Int→Zaa→Prop
def E8 (R8:T8) (env:Env) (h:Zaa):Prop:=Zcq 0 env fun v env=>Zei v fun a0=>Zcq 1 env fun v env=>Zxx v fun m1=>Zcq 2 env fun v env=>Zxx v fun m2=>Zcq 22 env fun v env=>xSl v fun a22 n22 c22 e22=>Zcq 23 env fun v env=>Zhh .i64 v fun x23=>Zcq 24 env fun v env=>Zhh .i64 v fun x24=>Znu env (R8 a0 m1 m2 a22 n22 c22 e22 x23 x24 h)
theorem Ygz {R8:T8} {env:Env} {h:Zaa} (hi:E8 R8 env h):∃ a0,∃ m1,∃ m2,∃ a22,∃ n22,∃ c22,∃ e22,∃ x23,∃ x24,env=[(0,.ptr a0),(1,.map m1),(2,.map m2),(22,.slice a22 n22 c22 e22),(23,.int .i64 x23),(24,.int .i64 x24)]∧R8 a0 m1 m2 a22 n22 c22 e22 x23 x24 h:=by
 unfold E8 at hi
 repeat ((first | (have k:=Zam hi; clear hi; obtain ⟨_,_,e,hi⟩:=k) | (have k:=Zkn hi; clear hi; obtain ⟨_,e,hi⟩:=k) | (have k:=Zdz hi; clear hi; obtain ⟨_,_,_,_,e,hi⟩:=k) | (have k:=Zbl hi; clear hi; obtain ⟨_,e,hi⟩:=k) | (have k:=Zbi hi; clear hi; obtain ⟨_,e,hi⟩:=k)); subst e)
 obtain ⟨rfl,hi⟩:=Zbx hi
 exact ⟨_,_,_,_,_,_,_,_,_,rfl,hi⟩
def K0 (Q:QT):KT:=andThen (fun env' h'=>(match kp.find 4000013 with | some ks=>Den pg fn.ntmps (C [1,1,1,1,1,1]) (env'.keep ks) h' (KR Q) | none=>den pg fn.ntmps kp (C [1,1,1,1,1,1]) env' h' (KR Q))) (KR Q)
def K1 (Q:QT):KT:=Zdv 0 (K0 Q)
def K2 (Q:QT):KT:=left kp 8 (K1 Q)
def K3 (Q:QT) (R8:T8):KT:=rnd ((kp.find 1000008).getD []) (E8 R8) (K2 Q)
def L8 (Q:QT) (a0:Pt) (m1 m2:Option Nat) (a22:Pt) (n22 c22:Nat) (e22:Bool) (x23 x24:Int) (h:Zaa):Prop:=Zgo (Den pg fn.ntmps (C [1,1,1,1,1,0,1,0,0])) ((kp.find 1000008).getD []) (K2 Q) [(0,.ptr a0),(1,.map m1),(2,.map m2),(22,.slice a22 n22 c22 e22),(23,.int .i64 x23),(24,.int .i64 x24)] h
def Yly (Q:QT) (m1:Option Nat) (a0:Pt) (m2:Option Nat) (h:Zaa):Prop:=At (K1 Q) (.exit 0) [(1,.map m1),(0,.ptr a0),(2,.map m2),(6,.undef)] h
def L8t (Q:QT) (R8:T8) (a0:Pt) (m1 m2:Option Nat) (a22:Pt) (n22 c22:Nat) (e22:Bool) (x23 x24:Int) (h:Zaa):Prop:=
 bcase (decide ((x24:Int) < x23)) ((0≤(x24:Int)∧(x24:Int) < (n22:Nat))∧(Zaw a22 fun A B=>Zei (Zaj h (.ptr (A,B + (Int.toNat x24) * 1))) fun A=>Zac pg Zem [.ptr A,.map m1,.map m2] h fun A B=>
 Zbg A fun A=>bcase A (Q (.bool true) B) (R8 a0 m1 m2 a22 n22 c22 e22 x23 (IntKind.wrap .i64 (x24 + 1)) B))) (Yly Q m1 a0 m2 h)
theorem Yls (Q:QT) (R8:T8) (a0:Pt) (m1 m2:Option Nat) (a22:Pt) (n22 c22:Nat) (e22:Bool) (x23 x24:Int) (h:Zaa) (ht:L8t Q R8 a0 m1 m2 a22 n22 c22 e22 x23 x24 h):Den pg fn.ntmps (C [1,1,1,1,1,0,1,0,0]) [(0,.ptr a0),(1,.map m1),(2,.map m2),(22,.slice a22 n22 c22 e22),(23,.int .i64 x23),(24,.int .i64 x24)] h (K3 Q R8):=
 Zaz (kp:=kp) (cast (by kernel_rfl) ht)
theorem L8ind (Q:QT) (a0:Pt) (m1 m2:Option Nat) (a22:Pt) (n22 c22:Nat) (e22:Bool) (x23:Int) {G:Type} (J:G→Int→Zaa→Prop) (m:G→Nat)
 (hr:∀ (g:G) (x24:Int) (h:Zaa),J g x24 h→∀ (R8:T8),(∀ g' (x24:Int) (h:Zaa),m g' < m g→J g' x24 h→R8 a0 m1 m2 a22 n22 c22 e22 x23 x24 h)→L8t Q R8 a0 m1 m2 a22 n22 c22 e22 x23 x24 h)
 (g:G) (x24:Int) (h:Zaa) (hj:J g x24 h):L8 Q a0 m1 m2 a22 n22 c22 e22 x23 x24 h:=by
 let P:=fun (K:Int→Zaa→Prop) a0' m1' m2' a22' n22' c22' e22' x23' x24 h=>a0=a0'∧m1=m1'∧m2=m2'∧a22=a22'∧n22=n22'∧c22=c22'∧e22=e22'∧x23=x23'∧K x24 h
 refine Zgo.inv2 (fun g=>E8 (P (J g))) (fun g=>E8 (P fun x24 h=>∃ g',m g' < m g∧J g' x24 h)) m ?_ ?_ g ⟨rfl,rfl,rfl,rfl,rfl,rfl,rfl,rfl,hj⟩
 ·intro g env h hi
  obtain ⟨a0',m1',m2',a22',n22',c22',e22',x23',x24,rfl,rfl,rfl,rfl,rfl,rfl,rfl,rfl,rfl,hj⟩:=Ygz hi
  exact Yls Q _ a0 m1 m2 a22 n22 c22 e22 x23 x24 h (hr g x24 h hj (P fun x24 h=>∃ g',m g' < m g∧J g' x24 h) fun g' x24 h hlt hj=>⟨rfl,rfl,rfl,rfl,rfl,rfl,rfl,rfl,g',hlt,hj⟩)
 ·intro g env h hi
  obtain ⟨a0',m1',m2',a22',n22',c22',e22',x23',x24,rfl,rfl,rfl,rfl,rfl,rfl,rfl,rfl,rfl,g',hlt,hj⟩:=Ygz hi
  exact ⟨g',hlt,rfl,rfl,rfl,rfl,rfl,rfl,rfl,rfl,hj⟩
theorem A8x0i (Q:QT) (m1:Option Nat) (a0:Pt) (m2:Option Nat) (h:Zaa) (ht :
 xMp m1 fun A=>Zaw a0 fun B C=>Zbt h (some A) fun es_36 k_37=>Yhi (Zib h es_36 (B,C) 0) es_36 fun es_38=>Zec (List.set h A (.map es_38 k_37)) fun A=>xMp m2 fun B=>Zaw a0 fun C D=>Zbt A (some B) fun es_43 k_44=>Yfr (Zib A es_43 (C,D) 0) es_43 k_44 (C,D) (.bool true) fun es_45 k_46=>Zec (List.set A B (.map es_45 k_46)) fun A=>Q (.bool false) A):Yly Q m1 a0 m2 h:=
 At.mk (cast (by kernel_rfl) ht)
theorem call (a0:Pt) (m1 m2:Option Nat) (h:Zaa) (Q:QT) (ht :
 Zac pg Zdu [.ptr a0] h fun A B=>
 Zei A fun A=>Zaw A fun C D=>Zbt B m1 fun es_3 k_4=>Zqt (Zib B es_3 (C,D) 0) fun C=>Zbg (some (Option.getD C (.bool false))) fun C=>bcase C (Q (.bool true) B) (Zaw A fun C D=>Zbt B m2 fun es_9 k_10=>Zqt (Zib B es_9 (C,D) 0) fun C=>Zbg (some (Option.getD C (.bool false))) fun C=>bcase C (Q (.bool false) B) (xMp m1 fun C=>Zaw A fun D E=>Zbt B (some C) fun es_16 k_17=>Yfr (Zib B es_16 (D,E) 0) es_16 k_17 (D,E) (.bool true) fun es_18 k_19=>Zec (List.set B C (.map es_18 k_19)) fun B=>Zaw A fun C D=>xSl (Zaj B (.ptr (C,D + 1))) fun C D E F=>L8 Q A m1 m2 C D E F (((D:Nat):Int)) 0 B))):Zac pg Zem [.ptr a0,.map m1,.map m2] h Q:=
 Zac.of_body kp (c:=cod fn) (fn:=fn) Go.Proofs.Try.func104 (by kernel_rfl) (by kernel_rfl) (Nat.le_of_ble_eq_true (by kernel_rfl))
  (cast (by kernel_rfl) ht)
end Zds
namespace Zki
noncomputable abbrev fn:Func:=Go.Proofs.Try.f57
def kp:Zcr:=[]
noncomputable def C (p:List Nat):Code:=(cod fn).sub p
def KR (Q:QT):KT:=Zhe pg fn.results.toList Q
theorem call (a0:Pt) (h:Zaa) (Q:QT) (ht :
 Zec (h ++ [.map [] 0]) fun A=>Zec (A ++ [.map [] 0]) fun B=>Zac pg Zem [.ptr a0,.map ((some h.length)),.map ((some A.length))] B fun A B=>
 Zbg A fun A=>Q (.bool (!A)) B):Zac pg Zfp [.ptr a0] h Q:=
 Zac.of_body kp (c:=cod fn) (fn:=fn) Go.Proofs.Try.func57 (by kernel_rfl) (by kernel_rfl) (Nat.le_of_ble_eq_true (by kernel_rfl))
  (cast (by kernel_rfl) ht)
end Zki
end Go.Sim

set_option maxRecDepth 100000
set_option maxHeartbeats 0
set_option linter.unusedVariables false
namespace Go.Sim
open Go Go.RowKit
namespace Zez
noncomputable abbrev fn:Func:=Go.Proofs.Try.f58
def kp:Zcr:=[(3000001,[0]),(1000001,[0])]
noncomputable def C (p:List Nat):Code:=(cod fn).sub p
def KR (Q:QT):KT:=Zhe pg fn.results.toList Q
abbrev T1:=Pt→Zaa→Prop
def E1 (R1:T1) (env:Env) (h:Zaa):Prop:=Zcq 0 env fun v env=>Zei v fun a0=>Znu env (R1 a0 h)
theorem Yhj {R1:T1} {env:Env} {h:Zaa} (hi:E1 R1 env h):∃ a0,env=[(0,.ptr a0)]∧R1 a0 h:=by
 unfold E1 at hi
 repeat ((first | (have k:=Zam hi; clear hi; obtain ⟨_,_,e,hi⟩:=k) | (have k:=Zbl hi; clear hi; obtain ⟨_,e,hi⟩:=k)); subst e)
 obtain ⟨rfl,hi⟩:=Zbx hi
 exact ⟨_,rfl,hi⟩
def K0 (Q:QT):KT:=andThen (fun env' h'=>(match kp.find 4000003 with | some ks=>Den pg fn.ntmps (C [1,1]) (env'.keep ks) h' (KR Q) | none=>den pg fn.ntmps kp (C [1,1]) env' h' (KR Q))) (KR Q)
def K1 (Q:QT):KT:=Zdv 0 (K0 Q)
def K2 (Q:QT):KT:=left kp 1 (K1 Q)
def K3 (Q:QT) (R1:T1):KT:=rnd ((kp.find 1000001).getD []) (E1 R1) (K2 Q)
def L1 (Q:QT) (a0:Pt) (h:Zaa):Prop:=Zgo (Den pg fn.ntmps (C [1,0,0,0])) ((kp.find 1000001).getD []) (K2 Q) [(0,.ptr a0)] h
def Ylv (Q:QT) (a0:Pt) (h:Zaa):Prop:=At (K1 Q) (.exit 0) [(0,.ptr a0)] h
def L1t (Q:QT) (R1:T1) (a0:Pt) (h:Zaa):Prop:=
 Zaw a0 fun A B=>Zei (Zaj h (.ptr (A,B + 2))) fun A=>bcase (!(Option.isNone A)) (Zaw a0 fun A B=>Zei (Zaj h (.ptr (A,B + 2))) fun A=>R1 A h) (Ylv Q a0 h)
theorem Yll (Q:QT) (R1:T1) (a0:Pt) (h:Zaa) (ht:L1t Q R1 a0 h):Den pg fn.ntmps (C [1,0,0,0]) [(0,.ptr a0)] h (K3 Q R1):=
 Zaz (kp:=kp) (cast (by kernel_rfl) ht)
theorem L1ind (Q:QT) {G:Type} (J:G→Pt→Zaa→Prop) (m:G→Nat)
 (hr:∀ (g:G) (a0:Pt) (h:Zaa),J g a0 h→∀ (R1:T1),(∀ g' (a0:Pt) (h:Zaa),m g' < m g→J g' a0 h→R1 a0 h)→L1t Q R1 a0 h)
 (g:G) (a0:Pt) (h:Zaa) (hj:J g a0 h):L1 Q a0 h:=by
 let P:=fun (K:Pt→Zaa→Prop) a0 h=>K a0 h
 refine Zgo.inv2 (fun g=>E1 (P (J g))) (fun g=>E1 (P fun a0 h=>∃ g',m g' < m g∧J g' a0 h)) m ?_ ?_ g hj
 ·intro g env h hi
  obtain ⟨a0,rfl,hj⟩:=Yhj hi
  exact Yll Q _ a0 h (hr g a0 h hj (P fun a0 h=>∃ g',m g' < m g∧J g' a0 h) fun g' a0 h hlt hj=>⟨g',hlt,hj⟩)
 ·intro g env h hi
  obtain ⟨a0,rfl,g',hlt,hj⟩:=Yhj hi
  exact ⟨g',hlt,hj⟩
theorem A1x0i (Q:QT) (a0:Pt) (h:Zaa) (ht :
 Q (.ptr a0) h):Ylv Q a0 h:=
 At.mk (cast (by kernel_rfl) ht)
theorem call (a0:Pt) (h:Zaa) (Q:QT) (ht :
 L1 Q a0 h):Zac pg Zdu [.ptr a0] h Q:=
 Zac.of_body kp (c:=cod fn) (fn:=fn) Go.Proofs.Try.func58 (by kernel_rfl) (by kernel_rfl) (Nat.le_of_ble_eq_true (by kernel_rfl))
  (cast (by kernel_rfl) ht)
end Zez
namespace Zdy
noncomputable abbrev fn:Func:=Go.Proofs.Try.f56
def kp:Zcr:=[(2000004,[16,1,0]),(4000007,[0,1]),(2000007,[71,0,1]),(4000009,[0,1]),(3000012,[4]),(1000012,[1,80,81,82])]
noncomputable def C (p:List Nat):Code:=(cod fn).sub p
def KR (Q:QT):KT:=Zhe pg fn.results.toList Q
abbrev T12:=Pt→Pt→Nat→Nat→Bool→Int→Int→Zaa→Prop
def E12 (R12:T12) (env:Env) (h:Zaa):Prop:=Zcq 1 env fun v env=>Zei v fun a1=>Zcq 80 env fun v env=>xSl v fun a80 n80 c80 e80=>Zcq 81 env fun v env=>Zhh .i64 v fun x81=>Zcq 82 env fun v env=>Zhh .i64 v fun x82=>Znu env (R12 a1 a80 n80 c80 e80 x81 x82 h)
theorem Ycf {R12:T12} {env:Env} {h:Zaa} (hi:E12 R12 env h):∃ a1,∃ a80,∃ n80,∃ c80,∃ e80,∃ x81,∃ x82,env=[(1,.ptr a1),(80,.slice a80 n80 c80 e80),(81,.int .i64 x81),(82,.int .i64 x82)]∧R12 a1 a80 n80 c80 e80 x81 x82 h:=by
 unfold E12 at hi
 repeat ((first | (have k:=Zam hi; clear hi; obtain ⟨_,_,e,hi⟩:=k) | (have k:=Zbi hi; clear hi; obtain ⟨_,e,hi⟩:=k) | (have k:=Zdz hi; clear hi; obtain ⟨_,_,_,_,e,hi⟩:=k) | (have k:=Zbl hi; clear hi; obtain ⟨_,e,hi⟩:=k)); subst e)
 obtain ⟨rfl,hi⟩:=Zbx hi
 exact ⟨_,_,_,_,_,_,_,rfl,hi⟩
def K0 (Q:QT):KT:=andThen (fun env' h'=>(match kp.find 4000017 with | some ks=>Den pg fn.ntmps (C [1,1,1,1,1,1,1]) (env'.keep ks) h' (KR Q) | none=>den pg fn.ntmps kp (C [1,1,1,1,1,1,1]) env' h' (KR Q))) (KR Q)
def K1 (Q:QT):KT:=Zdv 1 (K0 Q)
def K2 (Q:QT):KT:=left kp 12 (K1 Q)
def K3 (Q:QT) (R12:T12):KT:=rnd ((kp.find 1000012).getD []) (E12 R12) (K2 Q)
def J7 (Q:QT) (a0 a1:Pt) (h:Zaa):Prop:=Den pg fn.ntmps (C [1,1,1]) [(0,.ptr a0),(1,.ptr a1)] h (KR Q)
def J9 (Q:QT) (a0 a1:Pt) (h:Zaa):Prop:=Den pg fn.ntmps (C [1,1,1,1]) [(0,.ptr a0),(1,.ptr a1)] h (KR Q)
def L12 (Q:QT) (a1 a80:Pt) (n80 c80:Nat) (e80:Bool) (x81 x82:Int) (h:Zaa):Prop:=Zgo (Den pg fn.ntmps (C [1,1,1,1,1,1,0,1,0,0])) ((kp.find 1000012).getD []) (K2 Q) [(1,.ptr a1),(80,.slice a80 n80 c80 e80),(81,.int .i64 x81),(82,.int .i64 x82)] h
def Yju (Q:QT) (h:Zaa):Prop:=At (K1 Q) (.exit 1) [(4,.undef)] h
theorem J7i (Q:QT) (a0 a1:Pt) (h:Zaa) (ht :
 Zaw a0 fun A B=>Zde (Zaj h (.ptr (A,B + 0))) fun A=>Zac pg Zcc [.str A] h fun A B=>
 Zbg A fun A=>bcase (!A) (Zaw a0 fun A C=>Zaw a1 fun D E=>Zde (Zaj B (.ptr (A,C + 0))) fun F=>Zde (Zaj B (.ptr (D,E + 0))) fun D=>(Zaj B (.ptr (A,C + 0))=Zaj B (.ptr (A,C + 0)))∧bcase (!(decide (F=D))) (Q (.bool false) B) (J9 Q a0 a1 B)) ((Zaj B (.tup [])=Zaj B (.tup []))∧J9 Q a0 a1 B)):J7 Q a0 a1 h:=
 Zaz (kp:=kp) (cast (by kernel_rfl) ht)
theorem J9i (Q:QT) (a0 a1:Pt) (h:Zaa) (ht :
 Zaw a0 fun A B=>xSl (Zaj h (.ptr (A,B + 1))) fun A B C D=>Zaw a0 fun E F=>Zce (Zbc h (.ptr (E,F + 2)) [.ptr a1]) fun E=>L12 Q a1 A B C D (((B:Nat):Int)) 0 E):J9 Q a0 a1 h:=
 Zaz (kp:=kp) (cast (by kernel_rfl) ht)
def L12t (Q:QT) (R12:T12) (a1 a80:Pt) (n80 c80:Nat) (e80:Bool) (x81 x82:Int) (h:Zaa):Prop:=
 bcase (decide ((x82:Int) < x81)) ((0≤(x82:Int)∧(x82:Int) < (n80:Nat))∧(Zaw a80 fun A B=>Zei (Zaj h (.ptr (A,B + (Int.toNat x82) * 1))) fun A=>Zaw a1 fun B C=>xSl (Zaj h (.ptr (B,C + 1))) fun B C D D=>(0≤(x82:Int)∧(x82:Int) < (C:Nat))∧(Zaw B fun B C=>Zei (Zaj h (.ptr (B,C + (Int.toNat x82) * 1))) fun B=>Zac pg Zhc [.ptr A,.ptr B] h fun A B=>
 Zbg A fun A=>bcase (!A) (Q (.bool false) B) (R12 a1 a80 n80 c80 e80 x81 (IntKind.wrap .i64 (x82 + 1)) B)))) (Yju Q h)
theorem Yki (Q:QT) (R12:T12) (a1 a80:Pt) (n80 c80:Nat) (e80:Bool) (x81 x82:Int) (h:Zaa) (ht:L12t Q R12 a1 a80 n80 c80 e80 x81 x82 h):Den pg fn.ntmps (C [1,1,1,1,1,1,0,1,0,0]) [(1,.ptr a1),(80,.slice a80 n80 c80 e80),(81,.int .i64 x81),(82,.int .i64 x82)] h (K3 Q R12):=
 Zaz (kp:=kp) (cast (by kernel_rfl) ht)
theorem L12ind (Q:QT) (a1 a80:Pt) (n80 c80:Nat) (e80:Bool) (x81:Int) {G:Type} (J:G→Int→Zaa→Prop) (m:G→Nat)
 (hr:∀ (g:G) (x82:Int) (h:Zaa),J g x82 h→∀ (R12:T12),(∀ g' (x82:Int) (h:Zaa),m g' < m g→J g' x82 h→R12 a1 a80 n80 c80 e80 x81 x82 h)→L12t Q R12 a1 a80 n80 c80 e80 x81 x82 h)
 (g:G) (x82:Int) (h:Zaa) (hj:J g x82 h):L12 Q a1 a80 n80 c80 e80 x81 x82 h:=by
 let P:=fun (K:Int→Zaa→Prop) a1' a80' n80' c80' e80' x81' x82 h=>a1=a1'∧a80=a80'∧n80=n80'∧c80=c80'∧e80=e80'∧x81=x81'∧K x82 h
 refine Zgo.inv2 (fun g=>E12 (P (J g))) (fun g=>E12 (P fun x82 h=>∃ g',m g' < m g∧J g' x82 h)) m ?_ ?_ g ⟨rfl,rfl,rfl,rfl,rfl,rfl,hj⟩
 ·intro g env h hi
  obtain ⟨a1',a80',n80',c80',e80',x81',x82,rfl,rfl,rfl,rfl,rfl,rfl,rfl,hj⟩:=Ycf hi
  exact Yki Q _ a1 a80 n80 c80 e80 x81 x82 h (hr g x82 h hj (P fun x82 h=>∃ g',m g' < m g∧J g' x82 h) fun g' x82 h hlt hj=>⟨rfl,rfl,rfl,rfl,rfl,rfl,g',hlt,hj⟩)
 ·intro g env h hi
  obtain ⟨a1',a80',n80',c80',e80',x81',x82,rfl,rfl,rfl,rfl,rfl,rfl,rfl,g',hlt,hj⟩:=Ycf hi
  exact ⟨g',hlt,rfl,rfl,rfl,rfl,rfl,rfl,hj⟩
theorem A12x1i (Q:QT) (h:Zaa) (ht :
 Q (.bool true) h):Yju Q h:=
 At.mk (cast (by kernel_rfl) ht)
theorem call (a0 a1:Pt) (h:Zaa) (Q:QT) (ht :
 Zac pg Zdu [.ptr a0] h fun A B=>
 Zei A fun A=>Zac pg Zdu [.ptr a1] B fun B C=>
 Zei B fun B=>Zmy C A B fun D=>bcase D (Q (.bool true) C) (Zaw A fun D E=>Zde (Zaj C (.ptr (D,E + 0))) fun D=>Zac pg Zcc [.str D] C fun C D=>
 Zbg C fun C=>bcase C (Zaw B fun C E=>Zde (Zaj D (.ptr (C,E + 0))) fun C=>Zac pg Zcc [.str C] D fun C E=>
 Zbg C fun C=>bcase C (Zaw A fun C F=>Zaw B fun G H=>Zde (Zaj E (.ptr (C,F + 0))) fun I=>Zde (Zaj E (.ptr (G,H + 0))) fun G=>(Zaj E (.ptr (C,F + 0))=Zaj E (.ptr (C,F + 0)))∧bcase (!(Zen I G || decide (I=G))) (bcase (!(Zen I G || decide (I=G))) (J7 Q B A E) (J7 Q A B E)) (Zaw A fun C F=>Zde (Zaj E (.ptr (C,F + 0))) fun C=>Zac pg Zcc [.str C] E fun C F=>
 Zbg C fun C=>bcase (!C) (Zaw B fun C G=>Zde (Zaj F (.ptr (C,G + 0))) fun C=>Zac pg Zcc [.str C] F fun C G=>
 Zbg C fun C=>bcase C (J7 Q B A G) (J7 Q A B G)) (J7 Q A B F))) ((Zaj E (.tup [])=Zaj E (.tup []))∧Zaw A fun C F=>Zde (Zaj E (.ptr (C,F + 0))) fun C=>Zac pg Zcc [.str C] E fun C E=>
 Zbg C fun C=>bcase (!C) (Zaw B fun C F=>Zde (Zaj E (.ptr (C,F + 0))) fun C=>Zac pg Zcc [.str C] E fun C F=>
 Zbg C fun C=>bcase C (J7 Q B A F) (J7 Q A B F)) (J7 Q A B E))) ((Zaj D (.tup [])=Zaj D (.tup []))∧Zaw A fun C E=>Zde (Zaj D (.ptr (C,E + 0))) fun C=>Zac pg Zcc [.str C] D fun C D=>
 Zbg C fun C=>bcase (!C) (Zaw B fun C E=>Zde (Zaj D (.ptr (C,E + 0))) fun C=>Zac pg Zcc [.str C] D fun C E=>
 Zbg C fun C=>bcase C (J7 Q B A E) (J7 Q A B E)) (J7 Q A B D)))):Zac pg Zhc [.ptr a0,.ptr a1] h Q:=
 Zac.of_body kp (c:=cod fn) (fn:=fn) Go.Proofs.Try.func56 (by kernel_rfl) (by kernel_rfl) (Nat.le_of_ble_eq_true (by kernel_rfl))
  (cast (by kernel_rfl) ht)
end Zdy
end Go.Sim

set_option maxRecDepth 100000
set_option maxHeartbeats 0
set_option linter.unusedVariables false
namespace Go.Sim
open Go Go.RowKit
namespace Zhm
noncomputable abbrev fn:Func:=Go.Proofs.Try.f118
def kp:Zcr:=[(4000005,[0,1,2])]
noncomputable def C (p:List Nat):Code:=(cod fn).sub p
def KR (Q:QT):KT:=Zhe pg fn.results.toList Q
def J5 (Q:QT) (a0:Pt) (x1:Int) (x2:Bool) (h:Zaa):Prop:=Den pg fn.ntmps (C [1,1]) [(0,.ptr a0),(1,.int .i64 x1),(2,.bool x2)] h (KR Q)
theorem J5i (Q:QT) (a0:Pt) (x1:Int) (x2:Bool) (h:Zaa) (ht :
 Zac pg Zbn [.ptr a0,.int .i64 4] h fun A B=>
 Zbr .i64 A fun A=>bcase ((A:Int) == 0) (Zac pg Zdm [.ptr a0,.int .i64 (IntKind.wrap .i64 (x1 - 1)),.bool x2] B fun C D=>
 Zde C fun C=>List.length ([112,40]) + List.length C≤9223372036854775807∧(List.length (([112,40]) ++ C) + List.length [44]≤9223372036854775807∧(Zac pg Zdm [.ptr a0,.int .i64 (IntKind.wrap .i64 (x1 - 1)),.bool x2] D fun D E=>
 Zde D fun D=>List.length ((([112,40]) ++ C) ++ [44]) + List.length D≤9223372036854775807∧(List.length (((([112,40]) ++ C) ++ [44]) ++ D) + List.length [41]≤9223372036854775807∧(Q (.str ((((([112,40]) ++ C) ++ [44]) ++ D) ++ [41])) E))))) (bcase ((A:Int) == 1) (Zac pg Zdm [.ptr a0,.int .i64 (IntKind.wrap .i64 (x1 - 1)),.bool x2] B fun A C=>
 Zde A fun A=>List.length ([109,40]) + List.length A≤9223372036854775807∧(List.length (([109,40]) ++ A) + List.length [41]≤9223372036854775807∧(Q (.str ((([109,40]) ++ A) ++ [41])) C))) (Zac pg Zdm [.ptr a0,.int .i64 (IntKind.wrap .i64 (x1 - 1)),.bool x2] B fun A B=>
 Zde A fun A=>List.length ([108,40]) + List.length A≤9223372036854775807∧(List.length (([108,40]) ++ A) + List.length [41]≤9223372036854775807∧(Q (.str ((([108,40]) ++ A) ++ [41])) B))))):J5 Q a0 x1 x2 h:=
 Zaz (kp:=kp) (cast (by kernel_rfl) ht)
theorem call (a0:Pt) (x1:Int) (x2:Bool) (h:Zaa) (Q:QT) (ht :
 bcase ((x1:Int) == 0) (bcase x2 (Zec (h ++ [.cells Zbw [.str [105],.str [98],.str [105],.str [117]] false]) fun A=>Zac pg Zcn [.ptr a0,.slice (h.length,0) 4 4 true] A fun A B=>
 Zde A fun A=>Q (.str A) B) (Zec (h ++ [.cells Zbw [.str [120],.str [105],.str [121],.str [98],.str [120],.str [122],.str [117]] false]) fun A=>Zac pg Zcn [.ptr a0,.slice (h.length,0) 7 7 true] A fun A B=>
 Zde A fun A=>Q (.str A) B)) (Zac pg Zbn [.ptr a0,.int .i64 3] h fun A B=>
 Zbr .i64 A fun A=>bcase ((A:Int) == 0) (bcase x2 (Zec (B ++ [.cells Zbw [.str [105],.str [98],.str [105],.str [117]] false]) fun A=>Zac pg Zcn [.ptr a0,.slice (B.length,0) 4 4 true] A fun A C=>
 Zde A fun A=>Q (.str A) C) (Zec (B ++ [.cells Zbw [.str [120],.str [105],.str [121],.str [98],.str [120],.str [122],.str [117]] false]) fun A=>Zac pg Zcn [.ptr a0,.slice (B.length,0) 7 7 true] A fun A C=>
 Zde A fun A=>Q (.str A) C)) (J5 Q a0 x1 x2 B))):Zac pg Zdm [.ptr a0,.int .i64 x1,.bool x2] h Q:=
 Zac.of_body kp (c:=cod fn) (fn:=fn) Go.Proofs.Try.func118 (by kernel_rfl) (by kernel_rfl) (Nat.le_of_ble_eq_true (by kernel_rfl))
  (cast (by kernel_rfl) ht)
end Zhm
namespace Zom
noncomputable abbrev fn:Func:=Go.Proofs.Try.f79
def kp:Zcr:=[(2000005,[2])]
noncomputable def C (p:List Nat):Code:=(cod fn).sub p
def KR (Q:QT):KT:=Zhe pg fn.results.toList Q
theorem call (a0:Pt) (h:Zaa) (Q:QT) (ht :
 Zac pg Zbn [.ptr a0,.int .i64 4] h fun A B=>
 Zbr .i64 A fun A=>Zac pg Zbn [.ptr a0,.int .i64 2] B fun B C=>
 Zbr .i64 B fun B=>Zac pg Zdm [.ptr a0,.int .i64 A,.bool ((B:Int) == 0)] C fun A B=>
 Zde A fun A=>Zac pg Zbn [.ptr a0,.int .i64 16] B fun B C=>
 Zbr .i64 B fun B=>bcase (decide ((B:Int) > 0)) (Q (.str A) C) (Zac pg Zbn [.ptr a0,.int .i64 (((List.length A:Nat):Int))] C fun B C=>
 Zbr .i64 B fun B=>(0≤(0:Int)∧(0:Int)≤B∧(B:Int)≤(List.length A:Nat))∧(Zec (C ++ [.cells Zbw [.str [],.str [40],.str [41],.str [44],.str [105],.str [113],.str [88]] false]) fun D=>Zac pg Zcn [.ptr a0,.slice (C.length,0) 7 7 true] D fun C D=>
 Zde C fun C=>List.length (sub A 0 B) + List.length C≤9223372036854775807∧(Zac pg Zbn [.ptr a0,.int .i64 2] D fun D E=>
 Zbr .i64 D fun D=>(0≤(IntKind.wrap .i64 (B + D):Int)∧(IntKind.wrap .i64 (B + D):Int)≤(List.length A:Int)∧((List.length A:Int):Int)≤(List.length A:Nat))∧(List.length ((sub A 0 B) ++ C) + List.length (sub A (IntKind.wrap .i64 (B + D)) ((List.length A:Int)))≤9223372036854775807∧(Q (.str (((sub A 0 B) ++ C) ++ (sub A (IntKind.wrap .i64 (B + D)) ((List.length A:Int))))) E)))))):Zac pg Zhd [.ptr a0] h Q:=
 Zac.of_body kp (c:=cod fn) (fn:=fn) Go.Proofs.Try.func79 (by kernel_rfl) (by kernel_rfl) (Nat.le_of_ble_eq_true (by kernel_rfl))
  (cast (by kernel_rfl) ht)
end Zom
namespace Zgl
noncomputable abbrev fn:Func:=Go.Proofs.Try.f117
def kp:Zcr:=[(3000006,[7,5]),(1000006,[0,5,7,19]),(2000008,[19,7,0,5])]
noncomputable def C (p:List Nat):Code:=(cod fn).sub p
def KR (Q:QT):KT:=Zhe pg fn.results.toList Q
abbrev T6:=Pt→Nat→Nat→Nat→Nat→Int→Zaa→Prop
def E6 (R6:T6) (env:Env) (h:Zaa):Prop:=Zcq 0 env fun v env=>Zei v fun a0=>Zcq 5 env fun v env=>Zei v fun a=>Zaw a fun i5 o5=>Zcq 7 env fun v env=>Zei v fun a=>Zaw a fun i7 o7=>Zcq 19 env fun v env=>Zhh .i64 v fun x19=>Znu env (R6 a0 i5 o5 i7 o7 x19 h)
theorem Zik {R6:T6} {env:Env} {h:Zaa} (hi:E6 R6 env h):∃ a0,∃ i5,∃ o5,∃ i7,∃ o7,∃ x19,env=[(0,.ptr a0),(5,.ptr (i5,o5)),(7,.ptr (i7,o7)),(19,.int .i64 x19)]∧R6 a0 i5 o5 i7 o7 x19 h:=by
 unfold E6 at hi
 have hi0:=hi
 clear hi
 obtain ⟨_,_,rfl,hi1⟩:=Zam hi0
 obtain ⟨a0,rfl,hi2⟩:=Zbl hi1
 obtain ⟨_,_,rfl,hi3⟩:=Zam hi2
 obtain ⟨a,rfl,hi4⟩:=Zbl hi3
 obtain ⟨i5,o5,rfl,hi5⟩:=Zbp hi4
 obtain ⟨_,_,rfl,hi6⟩:=Zam hi5
 obtain ⟨a,rfl,hi7⟩:=Zbl hi6
 obtain ⟨i7,o7,rfl,hi8⟩:=Zbp hi7
 obtain ⟨_,_,rfl,hi9⟩:=Zam hi8
 obtain ⟨x19,rfl,hi10⟩:=Zbi hi9
 obtain ⟨rfl,hi11⟩:=Zbx hi10
 have hi:=hi11
 exact ⟨a0,i5,o5,i7,o7,x19,rfl,hi⟩
def K0 (Q:QT):KT:=andThen (fun env' h'=>(match kp.find 4000010 with | some ks=>Den pg fn.ntmps (C [1,1,1,1,1]) (env'.keep ks) h' (KR Q) | none=>den pg fn.ntmps kp (C [1,1,1,1,1]) env' h' (KR Q))) (KR Q)
def K1 (Q:QT):KT:=Zdv 0 (K0 Q)
def K2 (Q:QT):KT:=left kp 6 (K1 Q)
def K3 (Q:QT) (R6:T6):KT:=rnd ((kp.find 1000006).getD []) (E6 R6) (K2 Q)
def L6 (Q:QT) (a0:Pt) (i5 o5 i7 o7:Nat) (x19:Int) (h:Zaa):Prop:=Zgo (Den pg fn.ntmps (C [1,1,1,1,0,1,0,0])) ((kp.find 1000006).getD []) (K2 Q) [(0,.ptr a0),(5,.ptr (i5,o5)),(7,.ptr (i7,o7)),(19,.int .i64 x19)] h
def Zyb (Q:QT) (i7 o7 i5 o5:Nat) (h:Zaa):Prop:=At (K1 Q) (.exit 0) [(7,.ptr (i7,o7)),(5,.ptr (i5,o5))] h
def L6t (Q:QT) (R6:T6) (a0:Pt) (i5 o5 i7 o7:Nat) (x19:Int) (h:Zaa):Prop:=
 bcase (decide ((x19:Int) < 12)) (Zac pg Zbn [.ptr a0,.int .i64 2] h fun A B=>
 Zbr .i64 A fun A=>Zac pg Zbn [.ptr a0,.int .i64 2] B fun B C=>
 Zbr .i64 B fun B=>Zac pg Zdm [.ptr a0,.int .i64 A,.bool ((B:Int) == 0)] C fun A B=>
 Zde A fun A=>Zac pg Zfk [.str A] B fun A B=>
 Zrs A fun A=>Zal A fun A C=>Zru A fun A=>Zal A fun A D=>Zbr .u8 A fun A=>Zal D fun D E=>xSl D fun D F G H=>Zcs E (Zal C fun C E=>Zbg C fun C=>Zcs E ((0≤(x19:Int)∧(x19:Int) < (12:Nat))∧(Zce (Zbc B (.ptr (i7,o7 + (Int.toNat x19) * 2)) [.int .u8 A,.slice D F G H]) fun A=>R6 a0 i5 o5 i7 o7 (IntKind.wrap .i64 (x19 + 1)) A)))) (Zyb Q i7 o7 i5 o5 h)
theorem Ztu (Q:QT) (R6:T6) (a0:Pt) (i5 o5 i7 o7:Nat) (x19:Int) (h:Zaa) (ht:L6t Q R6 a0 i5 o5 i7 o7 x19 h):Den pg fn.ntmps (C [1,1,1,1,0,1,0,0]) [(0,.ptr a0),(5,.ptr (i5,o5)),(7,.ptr (i7,o7)),(19,.int .i64 x19)] h (K3 Q R6):=
 Zaz (kp:=kp) (cast (by kernel_rfl) ht)
theorem L6ind (Q:QT) (a0:Pt) (i5 o5 i7 o7:Nat) {G:Type} (J:G→Int→Zaa→Prop) (m:G→Nat)
 (hr:∀ (g:G) (x19:Int) (h:Zaa),J g x19 h→∀ (R6:T6),(∀ g' (x19:Int) (h:Zaa),m g' < m g→J g' x19 h→R6 a0 i5 o5 i7 o7 x19 h)→L6t Q R6 a0 i5 o5 i7 o7 x19 h)
 (g:G) (x19:Int) (h:Zaa) (hj:J g x19 h):L6 Q a0 i5 o5 i7 o7 x19 h:=by
 let P:=fun (K:Int→Zaa→Prop) a0' i5' o5' i7' o7' x19 h=>a0=a0'∧i5=i5'∧o5=o5'∧i7=i7'∧o7=o7'∧K x19 h
 refine Zgo.inv2 (fun g=>E6 (P (J g))) (fun g=>E6 (P fun x19 h=>∃ g',m g' < m g∧J g' x19 h)) m ?_ ?_ g ⟨rfl,rfl,rfl,rfl,rfl,hj⟩
 ·intro g env h hi
  obtain ⟨a0',i5',o5',i7',o7',x19,rfl,rfl,rfl,rfl,rfl,rfl,hj⟩:=Zik hi
  exact Ztu Q _ a0 i5 o5 i7 o7 x19 h (hr g x19 h hj (P fun x19 h=>∃ g',m g' < m g∧J g' x19 h) fun g' x19 h hlt hj=>⟨rfl,rfl,rfl,rfl,rfl,g',hlt,hj⟩)
 ·intro g env h hi
  obtain ⟨a0',i5',o5',i7',o7',x19,rfl,rfl,rfl,rfl,rfl,rfl,g',hlt,hj⟩:=Zik hi
  exact ⟨g',hlt,rfl,rfl,rfl,rfl,rfl,hj⟩
theorem A6x0i (Q:QT) (i7 o7 i5 o5:Nat) (h:Zaa) (ht :
 Zdi (Zda h (.ptr (i5,o5)) 2) fun A=>Zal A fun A B=>Zbr .u8 A fun A=>Zal B fun B C=>xSl B fun B D E F=>Zcs C (Zac pg Zip [.ptr (i7,o7),.agg [.int .u8 A,.slice B D E F]] h fun A B=>
 Zru A fun A=>Zal A fun A C=>Zbr .u8 A fun A=>Zal C fun C D=>xSl C fun C E F G=>Zcs D (Zec (B ++ [.cells Zab [.int .u8 0,.slice none 0 0 true] false]) fun D=>Zce (Zbc D (.ptr (B.length,0)) [.int .u8 A,.slice C E F G]) fun A=>Zdi (Zda A (.ptr (B.length,0)) 2) fun C=>Zal C fun C D=>Zbr .u8 C fun C=>Zal D fun D E=>xSl D fun D F G H=>Zcs E (Zac pg Zgk [.agg [.int .u8 C,.slice D F G H]] A fun A C=>
 Zbr .i64 A fun A=>bcase (decide ((A:Int) > 60)) (Q (.str [105]) C) (Zdi (Zda C (.ptr (B.length,0)) 2) fun A=>Zal A fun A B=>Zbr .u8 A fun A=>Zal B fun B D=>xSl B fun B E F G=>Zcs D (Zac pg Zhn [.agg [.int .u8 A,.slice B E F G]] C fun A B=>
 Zde A fun A=>Q (.str A) B)))))):Zyb Q i7 o7 i5 o5 h:=
 At.mk (cast (by kernel_rfl) ht)
theorem call (a0:Pt) (x1:List Nat) (h:Zaa) (Q:QT) (ht :
 Zac pg Zfk [.str x1] h fun A B=>
 Zrs A fun A=>Zal A fun A C=>Zru A fun A=>Zal A fun A D=>Zbr .u8 A fun A=>Zal D fun D E=>xSl D fun D F G H=>Zcs E (Zal C fun C E=>Zbg C fun C=>Zcs E (Zec (B ++ [.cells Zab [.int .u8 0,.slice none 0 0 true] false]) fun E=>Zce (Zbc E (.ptr (B.length,0)) [.int .u8 A,.slice D F G H]) fun A=>bcase (!C) (Q (.str [105]) A) (Zec (A ++ [.cells Zbf [.int .u8 0,.slice none 0 0 true,.int .u8 0,.slice none 0 0 true,.int .u8 0,.slice none 0 0 true,.int .u8 0,.slice none 0 0 true,.int .u8 0,.slice none 0 0 true,.int .u8 0,.slice none 0 0 true,.int .u8 0,.slice none 0 0 true,.int .u8 0,.slice none 0 0 true,.int .u8 0,.slice none 0 0 true,.int .u8 0,.slice none 0 0 true,.int .u8 0,.slice none 0 0 true,.int .u8 0,.slice none 0 0 true] false]) fun C=>L6 Q a0 B.length 0 A.length 0 0 C)))):Zac pg Zhr [.ptr a0,.str x1] h Q:=
 Zac.of_body kp (c:=cod fn) (fn:=fn) Go.Proofs.Try.func117 (by kernel_rfl) (by kernel_rfl) (Nat.le_of_ble_eq_true (by kernel_rfl))
  (cast (by kernel_rfl) ht)
end Zgl
namespace Zor
noncomputable abbrev fn:Func:=Go.Proofs.Try.f75
def kp:Zcr:=[]
noncomputable def C (p:List Nat):Code:=(cod fn).sub p
def KR (Q:QT):KT:=Zhe pg fn.results.toList Q
theorem call (a0:Pt) (h:Zaa) (Q:QT) (ht :
 Zac pg Zhd [.ptr a0] h fun A B=>
 Zde A fun A=>Zac pg Zbn [.ptr a0,.int .i64 3] B fun B C=>
 Zbr .i64 B fun B=>bcase ((B:Int) == 0) (Zac pg Zhr [.ptr a0,.str A] C fun D E=>
 Zde D fun D=>Q (.tup [.str A,.str D]) E) (bcase ((B:Int) == 1) (Zac pg Zhr [.ptr a0,.str A] C fun B D=>
 Zde B fun B=>Q (.tup [.str B,.str A]) D) (Zac pg Zhd [.ptr a0] C fun B C=>
 Zde B fun B=>Q (.tup [.str A,.str B]) C))):Zac pg Zlg [.ptr a0] h Q:=
 Zac.of_body kp (c:=cod fn) (fn:=fn) Go.Proofs.Try.func75 (by kernel_rfl) (by kernel_rfl) (Nat.le_of_ble_eq_true (by kernel_rfl))
  (cast (by kernel_rfl) ht)
end Zor
end Go.Sim

set_option maxRecDepth 100000
set_option maxHeartbeats 0
set_option linter.unusedVariables false
namespace Go.Sim
open Go Go.RowKit
namespace Zha
noncomputable abbrev fn:Func:=Go.Proofs.Try.f76
def kp:Zcr:=[(4000003,[0])]
noncomputable def C (p:List Nat):Code:=(cod fn).sub p
def KR (Q:QT):KT:=Zhe pg fn.results.toList Q
def J3 (Q:QT) (a0:Pt) (n0 c0:Nat) (e0:Bool) (h:Zaa):Prop:=Den pg fn.ntmps (C [1,1]) [(0,.slice a0 n0 c0 e0)] h (KR Q)
theorem J3i (Q:QT) (a0:Pt) (n0 c0:Nat) (e0:Bool) (h:Zaa) (ht :
 Zec (h ++ [.cells Zit [.slice a0 n0 c0 e0,.int .i64 0] false]) fun A=>Q (.ptr (h.length,0)) A):J3 Q a0 n0 c0 e0 h:=
 Zaz (kp:=kp) (cast (by kernel_rfl) ht)
theorem call (a0:Pt) (n0 c0:Nat) (e0:Bool) (h:Zaa) (Q:QT) (ht :
 bcase (decide (((((n0:Nat):Int)):Int) > 2000)) (Zmu a0 n0 c0 e0 1 none (some (.int .i64 2000)) none fun A=>xSl A fun A B C D=>J3 Q A B C D h) (J3 Q a0 n0 c0 e0 h)):Zac pg Zgy [.slice a0 n0 c0 e0] h Q:=
 Zac.of_body kp (c:=cod fn) (fn:=fn) Go.Proofs.Try.func76 (by kernel_rfl) (by kernel_rfl) (Nat.le_of_ble_eq_true (by kernel_rfl))
  (cast (by kernel_rfl) ht)
end Zha
namespace Zgw
noncomputable abbrev fn:Func:=Go.Proofs.Try.f116
def kp:Zcr:=[(4000004,[0,1]),(2000007,[6,1])]
noncomputable def C (p:List Nat):Code:=(cod fn).sub p
def KR (Q:QT):KT:=Zhe pg fn.results.toList Q
def J4 (Q:QT) (a0:Pt) (x1:Int) (h:Zaa):Prop:=Den pg fn.ntmps (C [1,1,1]) [(0,.ptr a0),(1,.int .i64 x1)] h (KR Q)
theorem J4i (Q:QT) (a0:Pt) (x1:Int) (h:Zaa) (ht :
 Zaw a0 fun A B=>Zbr .i64 (Zaj h (.ptr (A,B + 1))) fun A=>Zaw a0 fun B C=>xSl (Zaj h (.ptr (B,C + 0))) fun B B C C=>bcase (decide (((IntKind.wrap .i64 (A - 1)):Int) < (((B:Nat):Int)))) (Zaw a0 fun B C=>xSl (Zaj h (.ptr (B,C + 0))) fun B C D D=>(0≤(IntKind.wrap .i64 (A - 1):Int)∧(IntKind.wrap .i64 (A - 1):Int) < (C:Nat))∧(Zaw B fun B C=>Zbr .u8 (Zaj h (.ptr (B,C + (Int.toNat (IntKind.wrap .i64 (A - 1))) * 1))) fun B=>(x1:Int)≠0∧(Q (.int .i64 (Int.tmod (IntKind.wrap .i64 (B)) x1)) h))) (Zaw a0 fun B C=>Zaw a0 fun D E=>Zaw a0 fun F G=>Zaw a0 fun H I=>Zaw a0 fun J K=>xSl (Zaj h (.ptr (B,C + 0))) fun L M N N=>xSl (Zaj h (.ptr (D,E + 0))) fun N N O O=>((((N:Nat):Int)):Int)≠0∧((0≤(Int.tmod (IntKind.wrap .i64 (A - 1)) (((N:Nat):Int)):Int)∧(Int.tmod (IntKind.wrap .i64 (A - 1)) (((N:Nat):Int)):Int) < (M:Nat))∧(Zaw L fun L M=>Zbr .u8 (Zaj h (.ptr (L,M + (Int.toNat (Int.tmod (IntKind.wrap .i64 (A - 1)) (((N:Nat):Int)))) * 1))) fun O=>xSl (Zaj h (.ptr (F,G + 0))) fun P R S S=>xSl (Zaj h (.ptr (H,I + 0))) fun S S T T=>((((S:Nat):Int)):Int)≠0∧((0≤(Int.tmod (IntKind.wrap .i64 ((IntKind.wrap .i64 ((IntKind.wrap .i64 (A - 1)) * 7)) + 3)) (((S:Nat):Int)):Int)∧(Int.tmod (IntKind.wrap .i64 ((IntKind.wrap .i64 ((IntKind.wrap .i64 (A - 1)) * 7)) + 3)) (((S:Nat):Int)):Int) < (R:Nat))∧(Zaw P fun P R=>Zbr .u8 (Zaj h (.ptr (P,R + (Int.toNat (Int.tmod (IntKind.wrap .i64 ((IntKind.wrap .i64 ((IntKind.wrap .i64 (A - 1)) * 7)) + 3)) (((S:Nat):Int)))) * 1))) fun T=>xSl (Zaj h (.ptr (J,K + 0))) fun J J K K=>(Zaj h (.ptr (P,R + (Int.toNat (Int.tmod (IntKind.wrap .i64 ((IntKind.wrap .i64 ((IntKind.wrap .i64 (A - 1)) * 7)) + 3)) (((S:Nat):Int)))) * 1))=Zaj h (.ptr (P,R + (Int.toNat (Int.tmod (IntKind.wrap .i64 ((IntKind.wrap .i64 ((IntKind.wrap .i64 (A - 1)) * 7)) + 3)) (((S:Nat):Int)))) * 1)))∧(Zaj h (.ptr (H,I + 0))=Zaj h (.ptr (H,I + 0)))∧(Zaj h (.ptr (F,G + 0))=Zaj h (.ptr (F,G + 0)))∧(Zaj h (.ptr (L,M + (Int.toNat (Int.tmod (IntKind.wrap .i64 (A - 1)) (((N:Nat):Int)))) * 1))=Zaj h (.ptr (L,M + (Int.toNat (Int.tmod (IntKind.wrap .i64 (A - 1)) (((N:Nat):Int)))) * 1)))∧(Zaj h (.ptr (D,E + 0))=Zaj h (.ptr (D,E + 0)))∧(Zaj h (.ptr (B,C + 0))=Zaj h (.ptr (B,C + 0)))∧((((J:Nat):Int)):Int)≠0∧((64:Int)≠0∧((x1:Int)≠0∧(Q (.int .i64 (Int.tmod (IntKind.wrap .i64 (BitVec.ofInt (IntKind.bits .i64) (IntKind.wrap .i64 ((IntKind.wrap .i64 ((IntKind.wrap .i64 ((IntKind.wrap .i64 ((IntKind.wrap .i64 (O)) * 131)) + (IntKind.wrap .i64 ((IntKind.wrap .i64 (T)) * 1117)))) + (IntKind.wrap .i64 ((IntKind.wrap .i64 (A - 1)) * 29)))) + (IntKind.wrap .i64 ((IntKind.wrap .i64 (Int.tdiv (IntKind.wrap .i64 (A - 1)) (((J:Nat):Int)))) * 53)))) ^^^ BitVec.ofInt (IntKind.bits .i64) (IntKind.wrap .i64 (Int.tdiv (IntKind.wrap .i64 ((IntKind.wrap .i64 ((IntKind.wrap .i64 ((IntKind.wrap .i64 ((IntKind.wrap .i64 (O)) * 131)) + (IntKind.wrap .i64 ((IntKind.wrap .i64 (T)) * 1117)))) + (IntKind.wrap .i64 ((IntKind.wrap .i64 (A - 1)) * 29)))) + (IntKind.wrap .i64 ((IntKind.wrap .i64 (Int.tdiv (IntKind.wrap .i64 (A - 1)) (((J:Nat):Int)))) * 53)))) 64))).toNat) x1)) h))))))))):J4 Q a0 x1 h:=
 Zaz (kp:=kp) (cast (by kernel_rfl) ht)
theorem call (a0:Pt) (x1:Int) (h:Zaa) (Q:QT) (ht :
 Zaw a0 fun A B=>Zbr .i64 (Zaj h (.ptr (A,B + 1))) fun A=>Zaw a0 fun B C=>Zce (Zbc h (.ptr (B,C + 1)) [.int .i64 (IntKind.wrap .i64 (A + 1))]) fun A=>bcase (decide ((x1:Int) < 1)) (Q (.int .i64 0) A) (Zaw a0 fun B C=>xSl (Zaj A (.ptr (B,C + 0))) fun B B C C=>bcase ((((B:Nat):Int):Int) == 0) (Q (.int .i64 0) A) (J4 Q a0 x1 A))):Zac pg Zbn [.ptr a0,.int .i64 x1] h Q:=
 Zac.of_body kp (c:=cod fn) (fn:=fn) Go.Proofs.Try.func116 (by kernel_rfl) (by kernel_rfl) (Nat.le_of_ble_eq_true (by kernel_rfl))
  (cast (by kernel_rfl) ht)
end Zgw
namespace Zld
noncomputable abbrev fn:Func:=Go.Proofs.Try.f119
def kp:Zcr:=[]
noncomputable def C (p:List Nat):Code:=(cod fn).sub p
def KR (Q:QT):KT:=Zhe pg fn.results.toList Q
theorem call (a0 a1:Pt) (n1 c1:Nat) (e1:Bool) (h:Zaa) (Q:QT) (ht :
 Zac pg Zbn [.ptr a0,.int .i64 (((n1:Nat):Int))] h fun A B=>
 Zbr .i64 A fun A=>(0≤(A:Int)∧(A:Int) < (n1:Nat))∧(Zaw a1 fun C D=>Zde (Zaj B (.ptr (C,D + (Int.toNat A) * 1))) fun A=>Q (.str A) B)):Zac pg Zcn [.ptr a0,.slice a1 n1 c1 e1] h Q:=
 Zac.of_body kp (c:=cod fn) (fn:=fn) Go.Proofs.Try.func119 (by kernel_rfl) (by kernel_rfl) (Nat.le_of_ble_eq_true (by kernel_rfl))
  (cast (by kernel_rfl) ht)
end Zld
end Go.Sim
