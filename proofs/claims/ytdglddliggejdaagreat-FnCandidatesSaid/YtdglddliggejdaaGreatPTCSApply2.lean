/- A part of the proof of a statement of this seat: see the text that holds the theorem. No condition. -/
import Derived.Test.YtdglddliggejdaaGreatNm
set_option linter.unusedVariables false
set_option linter.unusedSimpArgs false
set_option linter.all false
set_option maxRecDepth 100000
set_option maxHeartbeats 0
set_option linter.unusedVariables false
namespace Go.Sim
open Go Go.RowKit
namespace Zog
noncomputable abbrev fn:Func:=Go.Proofs.Tryz.f144
def kp:Zcu:=[]
noncomputable def C (p:List Nat):Code:=(cod fn).sub p
def KR (Q:QT):KT:=Zfi pg fn.results.toList Q
theorem call (x0x0 x0x1:List Nat) (v1:Zas) (h:Zaa) (Q:QT) (ht :
 Zco (h ++ [.cells Zbh [.str x0x0,.str x0x1] false]) fun A=>Zbn (Zai A (.ptr (h.length,0 + 0))) fun B=>Zbn (Zai A (v1)) fun C=>Q (.bool (decide (B=C))) A):Zah pg Zdj [.agg [.str x0x0,.str x0x1],v1] h Q:=
 Zah.of_body kp (c:=cod fn) (fn:=fn) Go.Proofs.Tryz.func144 (by kernel_rfl) (by kernel_rfl) (Nat.le_of_ble_eq_true (by kernel_rfl))
  (cast (by kernel_rfl) ht)
end Zog
namespace Zbw
noncomputable abbrev fn:Func:=Go.Proofs.Tryz.f164
def kp:Zcu:=[(3000002,[4]),(1000002,[0,1,7,8])]
noncomputable def C (p:List Nat):Code:=(cod fn).sub p
def KR (Q:QT):KT:=Zfi pg fn.results.toList Q
abbrev T2:=Pt→Nat→Nat→Bool→Zas→Int→Int→Zaa→Prop
def E2 (R2:T2) (env:Env) (h:Zaa):Prop:=Zci 0 env fun v env=>xSl v fun a0 n0 c0 e0=>Zci 1 env fun v env=>eFn Zdj v fun cs=>Zag cs fun c cs'=>Zzf c fun v1x0=>Zbu cs' (Zci 7 env fun v env=>Zez .i64 v fun x7=>Zci 8 env fun v env=>Zez .i64 v fun x8=>Zky env (R2 a0 n0 c0 e0 v1x0 x7 x8 h))
theorem Zfx {R2:T2} {env:Env} {h:Zaa} (hi:E2 R2 env h):∃ a0,∃ n0,∃ c0,∃ e0,∃ v1x0,∃ x7,∃ x8,env=[(0,.slice a0 n0 c0 e0),(1,.fn Zdj [v1x0]),(7,.int .i64 x7),(8,.int .i64 x8)]∧R2 a0 n0 c0 e0 v1x0 x7 x8 h:=by
 unfold E2 at hi
 have hi0:=hi
 clear hi
 obtain ⟨_,_,rfl,hi1⟩:=Zal hi0
 obtain ⟨a0,n0,c0,e0,rfl,hi2⟩:=Zcp hi1
 obtain ⟨_,_,rfl,hi3⟩:=Zal hi2
 obtain ⟨cs,rfl,hi4⟩:=Zwn hi3
 obtain ⟨c,cs',rfl,hi5⟩:=Zrf hi4
 obtain ⟨v1x0,hx,hi6⟩:=Zla hi5
 replace hx:=(Option.some.inj hx).symm
 subst hx
 obtain ⟨rfl,hi7⟩:=Zsy hi6
 obtain ⟨_,_,rfl,hi8⟩:=Zal hi7
 obtain ⟨x7,rfl,hi9⟩:=Zaz hi8
 obtain ⟨_,_,rfl,hi10⟩:=Zal hi9
 obtain ⟨x8,rfl,hi11⟩:=Zaz hi10
 obtain ⟨rfl,hi12⟩:=Zca hi11
 have hi:=hi12
 exact ⟨a0,n0,c0,e0,v1x0,x7,x8,rfl,hi⟩
def K0 (Q:QT):KT:=andThen (fun env' h'=>(match kp.find 4000007 with | some ks=>Den pg fn.ntmps (C [1,1]) (env'.keep ks) h' (KR Q) | none=>den pg fn.ntmps kp (C [1,1]) env' h' (KR Q))) (KR Q)
def K1 (Q:QT):KT:=Zdg 0 (K0 Q)
def K2 (Q:QT):KT:=left kp 2 (K1 Q)
def K3 (Q:QT) (R2:T2):KT:=rnd ((kp.find 1000002).getD []) (E2 R2) (K2 Q)
def L2 (Q:QT) (a0:Pt) (n0 c0:Nat) (e0:Bool) (v1x0:Zas) (x7 x8:Int) (h:Zaa):Prop:=Zfb (Den pg fn.ntmps (C [1,0,1,0,0])) ((kp.find 1000002).getD []) (K2 Q) [(0,.slice a0 n0 c0 e0),(1,.fn Zdj [v1x0]),(7,.int .i64 x7),(8,.int .i64 x8)] h
def A2x0 (Q:QT) (h:Zaa):Prop:=At (K1 Q) (.exit 0) [(4,.undef)] h
def L2t (Q:QT) (R2:T2) (a0:Pt) (n0 c0:Nat) (e0:Bool) (v1x0:Zas) (x7 x8:Int) (h:Zaa):Prop:=
 bcase (decide ((x8:Int) < x7)) ((0≤(x8:Int)∧(x8:Int) < (n0:Nat))∧(Zbi a0 fun A B=>Zcb (Zan h (.ptr (A,B + (Int.toNat x8) * 2)) 2) fun A=>Zag A fun A B=>Zbn A fun A=>Zag B fun B C=>Zbn B fun B=>Zbu C (Zah pg Zdj [.agg [.str A,.str B],v1x0] h fun A B=>
 Zbr A fun A=>bcase A (Q (.int .i64 x8) B) (R2 a0 n0 c0 e0 v1x0 x7 (IntKind.wrap .i64 (x8 + 1)) B)))) (A2x0 Q h)
theorem Zok (Q:QT) (R2:T2) (a0:Pt) (n0 c0:Nat) (e0:Bool) (v1x0:Zas) (x7 x8:Int) (h:Zaa) (ht:L2t Q R2 a0 n0 c0 e0 v1x0 x7 x8 h):Den pg fn.ntmps (C [1,0,1,0,0]) [(0,.slice a0 n0 c0 e0),(1,.fn Zdj [v1x0]),(7,.int .i64 x7),(8,.int .i64 x8)] h (K3 Q R2):=
 Zbf (kp:=kp) (cast (by kernel_rfl) ht)
theorem L2ind (Q:QT) (a0:Pt) (n0 c0:Nat) (e0:Bool) (v1x0:Zas) (x7:Int) {G:Type} (J:G→Int→Zaa→Prop) (m:G→Nat)
 (hr:∀ (g:G) (x8:Int) (h:Zaa),J g x8 h→∀ (R2:T2),(∀ g' (x8:Int) (h:Zaa),m g' < m g→J g' x8 h→R2 a0 n0 c0 e0 v1x0 x7 x8 h)→L2t Q R2 a0 n0 c0 e0 v1x0 x7 x8 h)
 (g:G) (x8:Int) (h:Zaa) (hj:J g x8 h):L2 Q a0 n0 c0 e0 v1x0 x7 x8 h:=by
 let P:=fun (K:Int→Zaa→Prop) a0' n0' c0' e0' v1x0' x7' x8 h=>a0=a0'∧n0=n0'∧c0=c0'∧e0=e0'∧v1x0=v1x0'∧x7=x7'∧K x8 h
 refine Zfb.inv2 (fun g=>E2 (P (J g))) (fun g=>E2 (P fun x8 h=>∃ g',m g' < m g∧J g' x8 h)) m ?_ ?_ g ⟨rfl,rfl,rfl,rfl,rfl,rfl,hj⟩
 ·intro g env h hi
  obtain ⟨a0',n0',c0',e0',v1x0',x7',x8,rfl,rfl,rfl,rfl,rfl,rfl,rfl,hj⟩:=Zfx hi
  exact Zok Q _ a0 n0 c0 e0 v1x0 x7 x8 h (hr g x8 h hj (P fun x8 h=>∃ g',m g' < m g∧J g' x8 h) fun g' x8 h hlt hj=>⟨rfl,rfl,rfl,rfl,rfl,rfl,g',hlt,hj⟩)
 ·intro g env h hi
  obtain ⟨a0',n0',c0',e0',v1x0',x7',x8,rfl,rfl,rfl,rfl,rfl,rfl,rfl,g',hlt,hj⟩:=Zfx hi
  exact ⟨g',hlt,rfl,rfl,rfl,rfl,rfl,rfl,hj⟩
theorem A2x0i (Q:QT) (h:Zaa) (ht :
 Q (.int .i64 (-1)) h):A2x0 Q h:=
 At.mk (cast (by kernel_rfl) ht)
theorem call (a0:Pt) (n0 c0:Nat) (e0:Bool) (v1x0:Zas) (h:Zaa) (Q:QT) (ht :
 L2 Q a0 n0 c0 e0 v1x0 (((n0:Nat):Int)) 0 h):Zah pg Zdr [.slice a0 n0 c0 e0,.fn Zdj [v1x0]] h Q:=
 Zah.of_body kp (c:=cod fn) (fn:=fn) Go.Proofs.Tryz.func164 (by kernel_rfl) (by kernel_rfl) (Nat.le_of_ble_eq_true (by kernel_rfl))
  (cast (by kernel_rfl) ht)
end Zbw
namespace Zvn
noncomputable abbrev fn:Func:=Go.Proofs.Tryz.f110
def kp:Zcu:=[]
noncomputable def C (p:List Nat):Code:=(cod fn).sub p
def KR (Q:QT):KT:=Zfi pg fn.results.toList Q
theorem call (a0:Pt) (n0 c0:Nat) (e0:Bool) (x1:List Nat) (h:Zaa) (Q:QT) (ht :
 Zco (h ++ [.cells Zbg [.str x1] false]) fun A=>Zah pg Zeo [.slice a0 n0 c0 e0,.fn Zdj [.ptr (h.length,0)]] A fun A B=>
 Zbr A fun A=>Q (.bool A) B):Zah pg Zjg [.slice a0 n0 c0 e0,.str x1] h Q:=
 Zah.of_body kp (c:=cod fn) (fn:=fn) Go.Proofs.Tryz.func110 (by kernel_rfl) (by kernel_rfl) (Nat.le_of_ble_eq_true (by kernel_rfl))
  (cast (by kernel_rfl) ht)
end Zvn
namespace Zdm
noncomputable abbrev fn:Func:=Go.Proofs.Tryz.f143
def kp:Zcu:=[]
noncomputable def C (p:List Nat):Code:=(cod fn).sub p
def KR (Q:QT):KT:=Zfi pg fn.results.toList Q
theorem call (a0:Pt) (n0 c0:Nat) (e0:Bool) (v1x0:Zas) (h:Zaa) (Q:QT) (ht :
 Zah pg Zdr [.slice a0 n0 c0 e0,.fn Zdj [v1x0]] h fun A B=>
 Zck .i64 A fun A=>Q (.bool (decide ((A:Int) ≥ 0))) B):Zah pg Zeo [.slice a0 n0 c0 e0,.fn Zdj [v1x0]] h Q:=
 Zah.of_body kp (c:=cod fn) (fn:=fn) Go.Proofs.Tryz.func143 (by kernel_rfl) (by kernel_rfl) (Nat.le_of_ble_eq_true (by kernel_rfl))
  (cast (by kernel_rfl) ht)
end Zdm
namespace Ziq
noncomputable abbrev fn:Func:=Go.Proofs.Tryz.f113
def kp:Zcu:=[(3000002,[4]),(1000002,[1,8,9,10])]
noncomputable def C (p:List Nat):Code:=(cod fn).sub p
def KR (Q:QT):KT:=Zfi pg fn.results.toList Q
abbrev T2:=List Nat→Pt→Nat→Nat→Bool→Int→Int→Zaa→Prop
def E2 (R2:T2) (env:Env) (h:Zaa):Prop:=Zci 1 env fun v env=>Zbn v fun x1=>Zci 8 env fun v env=>xSl v fun a8 n8 c8 e8=>Zci 9 env fun v env=>Zez .i64 v fun x9=>Zci 10 env fun v env=>Zez .i64 v fun x10=>Zky env (R2 x1 a8 n8 c8 e8 x9 x10 h)
theorem Zfx {R2:T2} {env:Env} {h:Zaa} (hi:E2 R2 env h):∃ x1,∃ a8,∃ n8,∃ c8,∃ e8,∃ x9,∃ x10,env=[(1,.str x1),(8,.slice a8 n8 c8 e8),(9,.int .i64 x9),(10,.int .i64 x10)]∧R2 x1 a8 n8 c8 e8 x9 x10 h:=by
 unfold E2 at hi
 repeat ((first | (have k:=Zal hi; clear hi; obtain ⟨_,_,e,hi⟩:=k) | (have k:=Zaz hi; clear hi; obtain ⟨_,e,hi⟩:=k) | (have k:=Zcp hi; clear hi; obtain ⟨_,_,_,_,e,hi⟩:=k) | (have k:=Zhb hi; clear hi; obtain ⟨_,e,hi⟩:=k)); subst e)
 obtain ⟨rfl,hi⟩:=Zca hi
 exact ⟨_,_,_,_,_,_,_,rfl,hi⟩
def K0 (Q:QT):KT:=andThen (fun env' h'=>(match kp.find 4000007 with | some ks=>Den pg fn.ntmps (C [1,1]) (env'.keep ks) h' (KR Q) | none=>den pg fn.ntmps kp (C [1,1]) env' h' (KR Q))) (KR Q)
def K1 (Q:QT):KT:=Zdg 0 (K0 Q)
def K2 (Q:QT):KT:=left kp 2 (K1 Q)
def K3 (Q:QT) (R2:T2):KT:=rnd ((kp.find 1000002).getD []) (E2 R2) (K2 Q)
def L2 (Q:QT) (x1:List Nat) (a8:Pt) (n8 c8:Nat) (e8:Bool) (x9 x10:Int) (h:Zaa):Prop:=Zfb (Den pg fn.ntmps (C [1,0,1,0,0])) ((kp.find 1000002).getD []) (K2 Q) [(1,.str x1),(8,.slice a8 n8 c8 e8),(9,.int .i64 x9),(10,.int .i64 x10)] h
def A2x0 (Q:QT) (h:Zaa):Prop:=At (K1 Q) (.exit 0) [(4,.undef)] h
def L2t (Q:QT) (R2:T2) (x1:List Nat) (a8:Pt) (n8 c8:Nat) (e8:Bool) (x9 x10:Int) (h:Zaa):Prop:=
 bcase (decide ((x10:Int) < x9)) ((0≤(x10:Int)∧(x10:Int) < (n8:Nat))∧(Zbi a8 fun A B=>Zcb (Zan h (.ptr (A,B + (Int.toNat x10) * 2)) 2) fun A=>Zag A fun A B=>Zbn A fun A=>Zag B fun B C=>Zbn B fun B=>Zbu C (Zco (h ++ [.cells Zbh [.str [],.str []] false]) fun C=>Zbx (Zbb C (.ptr (h.length,0)) [.str A,.str B]) fun A=>Zbn (Zai A (.ptr (h.length,0 + 0))) fun B=>bcase (decide (B=x1)) (Q (.int .i64 x10) A) (R2 x1 a8 n8 c8 e8 x9 (IntKind.wrap .i64 (x10 + 1)) A)))) (A2x0 Q h)
theorem Zok (Q:QT) (R2:T2) (x1:List Nat) (a8:Pt) (n8 c8:Nat) (e8:Bool) (x9 x10:Int) (h:Zaa) (ht:L2t Q R2 x1 a8 n8 c8 e8 x9 x10 h):Den pg fn.ntmps (C [1,0,1,0,0]) [(1,.str x1),(8,.slice a8 n8 c8 e8),(9,.int .i64 x9),(10,.int .i64 x10)] h (K3 Q R2):=
 Zbf (kp:=kp) (cast (by kernel_rfl) ht)
theorem L2ind (Q:QT) (x1:List Nat) (a8:Pt) (n8 c8:Nat) (e8:Bool) (x9:Int) {G:Type} (J:G→Int→Zaa→Prop) (m:G→Nat)
 (hr:∀ (g:G) (x10:Int) (h:Zaa),J g x10 h→∀ (R2:T2),(∀ g' (x10:Int) (h:Zaa),m g' < m g→J g' x10 h→R2 x1 a8 n8 c8 e8 x9 x10 h)→L2t Q R2 x1 a8 n8 c8 e8 x9 x10 h)
 (g:G) (x10:Int) (h:Zaa) (hj:J g x10 h):L2 Q x1 a8 n8 c8 e8 x9 x10 h:=by
 let P:=fun (K:Int→Zaa→Prop) x1' a8' n8' c8' e8' x9' x10 h=>x1=x1'∧a8=a8'∧n8=n8'∧c8=c8'∧e8=e8'∧x9=x9'∧K x10 h
 refine Zfb.inv2 (fun g=>E2 (P (J g))) (fun g=>E2 (P fun x10 h=>∃ g',m g' < m g∧J g' x10 h)) m ?_ ?_ g ⟨rfl,rfl,rfl,rfl,rfl,rfl,hj⟩
 ·intro g env h hi
  obtain ⟨x1',a8',n8',c8',e8',x9',x10,rfl,rfl,rfl,rfl,rfl,rfl,rfl,hj⟩:=Zfx hi
  exact Zok Q _ x1 a8 n8 c8 e8 x9 x10 h (hr g x10 h hj (P fun x10 h=>∃ g',m g' < m g∧J g' x10 h) fun g' x10 h hlt hj=>⟨rfl,rfl,rfl,rfl,rfl,rfl,g',hlt,hj⟩)
 ·intro g env h hi
  obtain ⟨x1',a8',n8',c8',e8',x9',x10,rfl,rfl,rfl,rfl,rfl,rfl,rfl,g',hlt,hj⟩:=Zfx hi
  exact ⟨g',hlt,rfl,rfl,rfl,rfl,rfl,rfl,hj⟩
theorem A2x0i (Q:QT) (h:Zaa) (ht :
 Q (.int .i64 (-1)) h):A2x0 Q h:=
 At.mk (cast (by kernel_rfl) ht)
theorem call (a0x0:Pt) (n0x0 c0x0:Nat) (e0x0:Bool) (a0x1:Pt) (n0x1 c0x1:Nat) (e0x1:Bool) (x1:List Nat) (h:Zaa) (Q:QT) (ht :
 Zco (h ++ [.cells Zad [.slice a0x0 n0x0 c0x0 e0x0,.slice a0x1 n0x1 c0x1 e0x1] false]) fun A=>xSl (Zai A (.ptr (h.length,0 + 0))) fun B C D E=>L2 Q x1 B C D E (((C:Nat):Int)) 0 A):Zah pg Zhc [.agg [.slice a0x0 n0x0 c0x0 e0x0,.slice a0x1 n0x1 c0x1 e0x1],.str x1] h Q:=
 Zah.of_body kp (c:=cod fn) (fn:=fn) Go.Proofs.Tryz.func113 (by kernel_rfl) (by kernel_rfl) (Nat.le_of_ble_eq_true (by kernel_rfl))
  (cast (by kernel_rfl) ht)
end Ziq
namespace Zdi
noncomputable abbrev fn:Func:=Go.Proofs.Tryz.f106
def kp:Zcu:=[(3000002,[1,2]),(1000002,[1,7,8,9]),(2000004,[33,4,1,3,7,8,9]),(4000006,[4,1,3,7,8,9]),(3000007,[9,8,7,1,2]),(1000007,[1,3,4,7,8,9,36,37]),(2000009,[67,37,36,1,3,4,9,8,7]),(4000011,[37,36,1,3,4,9,8,7]),(4000012,[9,8,7,1])]
noncomputable def C (p:List Nat):Code:=(cod fn).sub p
def KR (Q:QT):KT:=Zfi pg fn.results.toList Q
abbrev T2:=Nat→Nat→Pt→Nat→Nat→Bool→Int→Int→Zaa→Prop
def E2 (R2:T2) (env:Env) (h:Zaa):Prop:=Zci 1 env fun v env=>Zfc v fun a=>Zbi a fun i1 o1=>Zci 7 env fun v env=>xSl v fun a7 n7 c7 e7=>Zci 8 env fun v env=>Zez .i64 v fun x8=>Zci 9 env fun v env=>Zez .i64 v fun x9=>Zky env (R2 i1 o1 a7 n7 c7 e7 x8 x9 h)
theorem Zfx {R2:T2} {env:Env} {h:Zaa} (hi:E2 R2 env h):∃ i1,∃ o1,∃ a7,∃ n7,∃ c7,∃ e7,∃ x8,∃ x9,env=[(1,.ptr (i1,o1)),(7,.slice a7 n7 c7 e7),(8,.int .i64 x8),(9,.int .i64 x9)]∧R2 i1 o1 a7 n7 c7 e7 x8 x9 h:=by
 unfold E2 at hi
 have hi0:=hi
 clear hi
 obtain ⟨_,_,rfl,hi1⟩:=Zal hi0
 obtain ⟨a,rfl,hi2⟩:=Zbo hi1
 obtain ⟨i1,o1,rfl,hi3⟩:=Zbp hi2
 obtain ⟨_,_,rfl,hi4⟩:=Zal hi3
 obtain ⟨a7,n7,c7,e7,rfl,hi5⟩:=Zcp hi4
 obtain ⟨_,_,rfl,hi6⟩:=Zal hi5
 obtain ⟨x8,rfl,hi7⟩:=Zaz hi6
 obtain ⟨_,_,rfl,hi8⟩:=Zal hi7
 obtain ⟨x9,rfl,hi9⟩:=Zaz hi8
 obtain ⟨rfl,hi10⟩:=Zca hi9
 have hi:=hi10
 exact ⟨i1,o1,a7,n7,c7,e7,x8,x9,rfl,hi⟩
abbrev T7:=Nat→Nat→Int→Nat→Nat→Pt→Nat→Nat→Bool→Int→Int→Int→Int→Zaa→Prop
def E7 (R7:T7) (env:Env) (h:Zaa):Prop:=Zci 1 env fun v env=>Zfc v fun a=>Zbi a fun i1 o1=>Zci 3 env fun v env=>Zez .i64 v fun x3=>Zci 4 env fun v env=>Zfc v fun a=>Zbi a fun i4 o4=>Zci 7 env fun v env=>xSl v fun a7 n7 c7 e7=>Zci 8 env fun v env=>Zez .i64 v fun x8=>Zci 9 env fun v env=>Zez .i64 v fun x9=>Zci 36 env fun v env=>Zez .i64 v fun x36=>Zci 37 env fun v env=>Zez .i64 v fun x37=>Zky env (R7 i1 o1 x3 i4 o4 a7 n7 c7 e7 x8 x9 x36 x37 h)
theorem Zvi {R7:T7} {env:Env} {h:Zaa} (hi:E7 R7 env h):∃ i1,∃ o1,∃ x3,∃ i4,∃ o4,∃ a7,∃ n7,∃ c7,∃ e7,∃ x8,∃ x9,∃ x36,∃ x37,env=[(1,.ptr (i1,o1)),(3,.int .i64 x3),(4,.ptr (i4,o4)),(7,.slice a7 n7 c7 e7),(8,.int .i64 x8),(9,.int .i64 x9),(36,.int .i64 x36),(37,.int .i64 x37)]∧R7 i1 o1 x3 i4 o4 a7 n7 c7 e7 x8 x9 x36 x37 h:=by
 unfold E7 at hi
 have hi0:=hi
 clear hi
 obtain ⟨_,_,rfl,hi1⟩:=Zal hi0
 obtain ⟨a,rfl,hi2⟩:=Zbo hi1
 obtain ⟨i1,o1,rfl,hi3⟩:=Zbp hi2
 obtain ⟨_,_,rfl,hi4⟩:=Zal hi3
 obtain ⟨x3,rfl,hi5⟩:=Zaz hi4
 obtain ⟨_,_,rfl,hi6⟩:=Zal hi5
 obtain ⟨a,rfl,hi7⟩:=Zbo hi6
 obtain ⟨i4,o4,rfl,hi8⟩:=Zbp hi7
 obtain ⟨_,_,rfl,hi9⟩:=Zal hi8
 obtain ⟨a7,n7,c7,e7,rfl,hi10⟩:=Zcp hi9
 obtain ⟨_,_,rfl,hi11⟩:=Zal hi10
 obtain ⟨x8,rfl,hi12⟩:=Zaz hi11
 obtain ⟨_,_,rfl,hi13⟩:=Zal hi12
 obtain ⟨x9,rfl,hi14⟩:=Zaz hi13
 obtain ⟨_,_,rfl,hi15⟩:=Zal hi14
 obtain ⟨x36,rfl,hi16⟩:=Zaz hi15
 obtain ⟨_,_,rfl,hi17⟩:=Zal hi16
 obtain ⟨x37,rfl,hi18⟩:=Zaz hi17
 obtain ⟨rfl,hi19⟩:=Zca hi18
 have hi:=hi19
 exact ⟨i1,o1,x3,i4,o4,a7,n7,c7,e7,x8,x9,x36,x37,rfl,hi⟩
def K0 (Q:QT):KT:=andThen (fun env' h'=>(match kp.find 4000013 with | some ks=>Den pg fn.ntmps (C [1,1]) (env'.keep ks) h' (KR Q) | none=>den pg fn.ntmps kp (C [1,1]) env' h' (KR Q))) (KR Q)
def K1 (Q:QT):KT:=Zdg 0 (K0 Q)
def K2 (Q:QT):KT:=left kp 2 (K1 Q)
def K3 (Q:QT) (R2:T2):KT:=rnd ((kp.find 1000002).getD []) (E2 R2) (K2 Q)
def K4 (Q:QT) (R2:T2):KT:=andThen (fun env' h'=>(match kp.find 4000012 with | some ks=>Den pg fn.ntmps (C [1,0,1,0,0,1,1,1]) (env'.keep ks) h' (K3 Q R2) | none=>den pg fn.ntmps kp (C [1,0,1,0,0,1,1,1]) env' h' (K3 Q R2))) (K3 Q R2)
def K5 (Q:QT) (R2:T2):KT:=Zdg 1 (K4 Q R2)
def K6 (Q:QT) (R2:T2):KT:=Zdg 2 (K5 Q R2)
def K7 (Q:QT) (R2:T2):KT:=left kp 7 (K6 Q R2)
def K8 (Q:QT) (R2:T2) (R7:T7):KT:=rnd ((kp.find 1000007).getD []) (E7 R7) (K7 Q R2)
def L2 (Q:QT) (i1 o1:Nat) (a7:Pt) (n7 c7:Nat) (e7:Bool) (x8 x9:Int) (h:Zaa):Prop:=Zfb (Den pg fn.ntmps (C [1,0,1,0,0])) ((kp.find 1000002).getD []) (K2 Q) [(1,.ptr (i1,o1)),(7,.slice a7 n7 c7 e7),(8,.int .i64 x8),(9,.int .i64 x9)] h
def J6 (Q:QT) (R2:T2) (i4 o4 i1 o1:Nat) (x3:Int) (a7:Pt) (n7 c7:Nat) (e7:Bool) (x8 x9:Int) (h:Zaa):Prop:=Den pg fn.ntmps (C [1,0,1,0,0,1,1,0,0,1,1]) [(4,.ptr (i4,o4)),(1,.ptr (i1,o1)),(3,.int .i64 x3),(7,.slice a7 n7 c7 e7),(8,.int .i64 x8),(9,.int .i64 x9)] h (K5 Q R2)
def A2x0 (Q:QT) (i1 o1:Nat) (h:Zaa):Prop:=At (K1 Q) (.exit 0) [(1,.ptr (i1,o1)),(2,.undef)] h
def L7 (Q:QT) (R2:T2) (i1 o1:Nat) (x3:Int) (i4 o4:Nat) (a7:Pt) (n7 c7:Nat) (e7:Bool) (x8 x9 x36 x37:Int) (h:Zaa):Prop:=Zfb (Den pg fn.ntmps (C [1,0,1,0,0,1,1,0,0,1,1,1,0,0])) ((kp.find 1000007).getD []) (K7 Q R2) [(1,.ptr (i1,o1)),(3,.int .i64 x3),(4,.ptr (i4,o4)),(7,.slice a7 n7 c7 e7),(8,.int .i64 x8),(9,.int .i64 x9),(36,.int .i64 x36),(37,.int .i64 x37)] h
def J11 (Q:QT) (R2:T2) (R7:T7) (x37 x36:Int) (i1 o1:Nat) (x3:Int) (i4 o4:Nat) (x9 x8:Int) (a7:Pt) (n7 c7:Nat) (e7:Bool) (h:Zaa):Prop:=Den pg fn.ntmps (C [1,0,1,0,0,1,1,0,0,1,1,1,0,0,1,1,1]) [(37,.int .i64 x37),(36,.int .i64 x36),(1,.ptr (i1,o1)),(3,.int .i64 x3),(4,.ptr (i4,o4)),(9,.int .i64 x9),(8,.int .i64 x8),(7,.slice a7 n7 c7 e7)] h (K8 Q R2 R7)
def Ytu (Q:QT) (R2:T2) (x9 x8:Int) (a7:Pt) (n7 c7:Nat) (e7:Bool) (i1 o1:Nat) (h:Zaa):Prop:=At (K6 Q R2) (.exit 2) [(9,.int .i64 x9),(8,.int .i64 x8),(7,.slice a7 n7 c7 e7),(1,.ptr (i1,o1)),(2,.undef)] h
def J12 (Q:QT) (R2:T2) (x9 x8:Int) (a7:Pt) (n7 c7:Nat) (e7:Bool) (i1 o1:Nat) (h:Zaa):Prop:=Den pg fn.ntmps (C [1,0,1,0,0,1,1,1]) [(9,.int .i64 x9),(8,.int .i64 x8),(7,.slice a7 n7 c7 e7),(1,.ptr (i1,o1))] h (K3 Q R2)
def L2t (Q:QT) (R2:T2) (i1 o1:Nat) (a7:Pt) (n7 c7:Nat) (e7:Bool) (x8 x9:Int) (h:Zaa):Prop:=
 bcase (decide ((x9:Int) < x8)) ((0≤(x9:Int)∧(x9:Int) < (n7:Nat))∧(Zbi a7 fun A B=>Zcb (Zan h (.ptr (A,B + (Int.toNat x9) * 2)) 2) fun A=>Zag A fun A B=>Zbn A fun A=>Zag B fun B C=>Zbn B fun B=>Zbu C (Zco (h ++ [.cells Zbh [.str [],.str []] false]) fun C=>Zbx (Zbb C (.ptr (h.length,0)) [.str A,.str B]) fun A=>Zbn (Zai A (.ptr (h.length,0 + 0))) fun B=>Zah pg Znu [.str B] A fun A B=>
 Zbr A fun A=>bcase (!A) ((Zai B (.tup [])=Zai B (.tup []))∧(Zai B (.tup [])=Zai B (.tup []))∧Q (.bool false) B) (bcase (decide ((x9:Int) > 0)) (xSl (Zai B (.ptr (i1,o1 + 0))) fun A C D D=>(0≤(IntKind.wrap .i64 (x9 - 1):Int)∧(IntKind.wrap .i64 (x9 - 1):Int) < (C:Nat))∧(Zbi A fun A C=>Zbn (Zai B (.ptr (A,C + (Int.toNat (IntKind.wrap .i64 (x9 - 1))) * 2 + 0))) fun D=>Zbn (Zai B (.ptr (h.length,0 + 0))) fun E=>(Zai B (.ptr (A,C + (Int.toNat (IntKind.wrap .i64 (x9 - 1))) * 2 + 0))=Zai B (.ptr (A,C + (Int.toNat (IntKind.wrap .i64 (x9 - 1))) * 2 + 0)))∧(Zai B (.ptr (i1,o1 + 0))=Zai B (.ptr (i1,o1 + 0)))∧bcase (!Zfj D E) (Q (.bool false) B) (J6 Q R2 h.length 0 i1 o1 x9 a7 n7 c7 e7 x8 x9 B))) ((Zai B (.tup [])=Zai B (.tup []))∧(Zai B (.tup [])=Zai B (.tup []))∧J6 Q R2 h.length 0 i1 o1 x9 a7 n7 c7 e7 x8 x9 B))))) (A2x0 Q i1 o1 h)
theorem Zok (Q:QT) (R2:T2) (i1 o1:Nat) (a7:Pt) (n7 c7:Nat) (e7:Bool) (x8 x9:Int) (h:Zaa) (ht:L2t Q R2 i1 o1 a7 n7 c7 e7 x8 x9 h):Den pg fn.ntmps (C [1,0,1,0,0]) [(1,.ptr (i1,o1)),(7,.slice a7 n7 c7 e7),(8,.int .i64 x8),(9,.int .i64 x9)] h (K3 Q R2):=
 Zbf (kp:=kp) (cast (by kernel_rfl) ht)
theorem L2ind (Q:QT) (i1 o1:Nat) (a7:Pt) (n7 c7:Nat) (e7:Bool) (x8:Int) {G:Type} (J:G→Int→Zaa→Prop) (m:G→Nat)
 (hr:∀ (g:G) (x9:Int) (h:Zaa),J g x9 h→∀ (R2:T2),(∀ g' (x9:Int) (h:Zaa),m g' < m g→J g' x9 h→R2 i1 o1 a7 n7 c7 e7 x8 x9 h)→L2t Q R2 i1 o1 a7 n7 c7 e7 x8 x9 h)
 (g:G) (x9:Int) (h:Zaa) (hj:J g x9 h):L2 Q i1 o1 a7 n7 c7 e7 x8 x9 h:=by
 let P:=fun (K:Int→Zaa→Prop) i1' o1' a7' n7' c7' e7' x8' x9 h=>i1=i1'∧o1=o1'∧a7=a7'∧n7=n7'∧c7=c7'∧e7=e7'∧x8=x8'∧K x9 h
 refine Zfb.inv2 (fun g=>E2 (P (J g))) (fun g=>E2 (P fun x9 h=>∃ g',m g' < m g∧J g' x9 h)) m ?_ ?_ g ⟨rfl,rfl,rfl,rfl,rfl,rfl,rfl,hj⟩
 ·intro g env h hi
  obtain ⟨i1',o1',a7',n7',c7',e7',x8',x9,rfl,rfl,rfl,rfl,rfl,rfl,rfl,rfl,hj⟩:=Zfx hi
  exact Zok Q _ i1 o1 a7 n7 c7 e7 x8 x9 h (hr g x9 h hj (P fun x9 h=>∃ g',m g' < m g∧J g' x9 h) fun g' x9 h hlt hj=>⟨rfl,rfl,rfl,rfl,rfl,rfl,rfl,g',hlt,hj⟩)
 ·intro g env h hi
  obtain ⟨i1',o1',a7',n7',c7',e7',x8',x9,rfl,rfl,rfl,rfl,rfl,rfl,rfl,rfl,g',hlt,hj⟩:=Zfx hi
  exact ⟨g',hlt,rfl,rfl,rfl,rfl,rfl,rfl,rfl,hj⟩
theorem J6i (Q:QT) (R2:T2) (i4 o4 i1 o1:Nat) (x3:Int) (a7:Pt) (n7 c7:Nat) (e7:Bool) (x8 x9:Int) (h:Zaa) (ht :
 Zbn (Zai h (.ptr (i4,o4 + 1))) fun A=>L7 Q R2 i1 o1 x3 i4 o4 a7 n7 c7 e7 x8 x9 (((List.length A:Nat):Int)) 0 h):J6 Q R2 i4 o4 i1 o1 x3 a7 n7 c7 e7 x8 x9 h:=
 Zbf (kp:=kp) (cast (by kernel_rfl) ht)
theorem A2x0i (Q:QT) (i1 o1:Nat) (h:Zaa) (ht :
 xSl (Zai h (.ptr (i1,o1 + 0))) fun A A B B=>bcase (decide (((((A:Nat):Int)):Int) ≥ 1)) (xSl (Zai h (.ptr (i1,o1 + 0))) fun A A B B=>Q (.bool (decide (((((A:Nat):Int)):Int)≤4))) h) (Q (.bool false) h)):A2x0 Q i1 o1 h:=
 At.mk (cast (by kernel_rfl) ht)
def L7t (Q:QT) (R2:T2) (R7:T7) (i1 o1:Nat) (x3:Int) (i4 o4:Nat) (a7:Pt) (n7 c7:Nat) (e7:Bool) (x8 x9 x36 x37:Int) (h:Zaa):Prop:=
 bcase (decide ((x37:Int) < x36)) (xSl (Zai h (.ptr (i1,o1 + 0))) fun A B C D=>Zkm A B C D 2 none (some (.int .i64 x3)) none fun A=>xSl A fun A B C D=>Zbn (Zai h (.ptr (i4,o4 + 1))) fun E=>(Zai h (.ptr (i1,o1 + 0))=Zai h (.ptr (i1,o1 + 0)))∧(0≤(x37:Int)∧(x37:Int)≤IntKind.wrap .i64 (x37 + 1)∧(IntKind.wrap .i64 (x37 + 1):Int)≤(List.length E:Nat))∧(Zah pg Zjg [.slice A B C D,.str (sub E x37 (IntKind.wrap .i64 (x37 + 1)))] h fun A B=>
 Zbr A fun A=>(Zai B (.ptr (i1,o1 + 0))=Zai h (.ptr (i1,o1 + 0)))∧bcase (!A) ((Zai B (.tup [])=Zai B (.tup []))∧(Zai B (.ptr (i1,o1 + 0))=Zai B (.ptr (i1,o1 + 0)))∧Q (.bool false) B) (bcase (decide ((x37:Int) > 0)) (Zbn (Zai B (.ptr (i4,o4 + 1))) fun A=>Zjs A (IntKind.wrap .i64 (x37 - 1)) fun A=>Zbn (Zai B (.ptr (i4,o4 + 1))) fun C=>(Zai B (.ptr (i4,o4 + 1))=Zai B (.ptr (i4,o4 + 1)))∧(Zai B (.ptr (i1,o1 + 0))=Zai B (.ptr (i1,o1 + 0)))∧Zjs C x37 fun C=>bcase (decide (((((A:Nat):Int)):Int) ≥ (((C:Nat):Int)))) (Q (.bool false) B) (J11 Q R2 R7 x37 x36 i1 o1 x3 i4 o4 x9 x8 a7 n7 c7 e7 B)) ((Zai B (.tup [])=Zai B (.tup []))∧(Zai B (.ptr (i1,o1 + 0))=Zai B (.ptr (i1,o1 + 0)))∧J11 Q R2 R7 x37 x36 i1 o1 x3 i4 o4 x9 x8 a7 n7 c7 e7 B)))) (Ytu Q R2 x9 x8 a7 n7 c7 e7 i1 o1 h)
theorem Ykm (Q:QT) (R2:T2) (R7:T7) (i1 o1:Nat) (x3:Int) (i4 o4:Nat) (a7:Pt) (n7 c7:Nat) (e7:Bool) (x8 x9 x36 x37:Int) (h:Zaa) (ht:L7t Q R2 R7 i1 o1 x3 i4 o4 a7 n7 c7 e7 x8 x9 x36 x37 h):Den pg fn.ntmps (C [1,0,1,0,0,1,1,0,0,1,1,1,0,0]) [(1,.ptr (i1,o1)),(3,.int .i64 x3),(4,.ptr (i4,o4)),(7,.slice a7 n7 c7 e7),(8,.int .i64 x8),(9,.int .i64 x9),(36,.int .i64 x36),(37,.int .i64 x37)] h (K8 Q R2 R7):=
 Zbf (kp:=kp) (cast (by kernel_rfl) ht)
theorem L7ind (Q:QT) (R2:T2) (i1 o1:Nat) (x3:Int) (i4 o4:Nat) (a7:Pt) (n7 c7:Nat) (e7:Bool) (x8 x9 x36:Int) {G:Type} (J:G→Int→Zaa→Prop) (m:G→Nat)
 (hr:∀ (g:G) (x37:Int) (h:Zaa),J g x37 h→∀ (R7:T7),(∀ g' (x37:Int) (h:Zaa),m g' < m g→J g' x37 h→R7 i1 o1 x3 i4 o4 a7 n7 c7 e7 x8 x9 x36 x37 h)→L7t Q R2 R7 i1 o1 x3 i4 o4 a7 n7 c7 e7 x8 x9 x36 x37 h)
 (g:G) (x37:Int) (h:Zaa) (hj:J g x37 h):L7 Q R2 i1 o1 x3 i4 o4 a7 n7 c7 e7 x8 x9 x36 x37 h:=by
 let P:=fun (K:Int→Zaa→Prop) i1' o1' x3' i4' o4' a7' n7' c7' e7' x8' x9' x36' x37 h=>i1=i1'∧o1=o1'∧x3=x3'∧i4=i4'∧o4=o4'∧a7=a7'∧n7=n7'∧c7=c7'∧e7=e7'∧x8=x8'∧x9=x9'∧x36=x36'∧K x37 h
 refine Zfb.inv2 (fun g=>E7 (P (J g))) (fun g=>E7 (P fun x37 h=>∃ g',m g' < m g∧J g' x37 h)) m ?_ ?_ g ⟨rfl,rfl,rfl,rfl,rfl,rfl,rfl,rfl,rfl,rfl,rfl,rfl,hj⟩
 ·intro g env h hi
  obtain ⟨i1',o1',x3',i4',o4',a7',n7',c7',e7',x8',x9',x36',x37,rfl,rfl,rfl,rfl,rfl,rfl,rfl,rfl,rfl,rfl,rfl,rfl,rfl,hj⟩:=Zvi hi
  exact Ykm Q R2 (P fun x37 h=>∃ g',m g' < m g∧J g' x37 h) i1 o1 x3 i4 o4 a7 n7 c7 e7 x8 x9 x36 x37 h (hr g x37 h hj (P fun x37 h=>∃ g',m g' < m g∧J g' x37 h) fun g' x37 h hlt hj=>⟨rfl,rfl,rfl,rfl,rfl,rfl,rfl,rfl,rfl,rfl,rfl,rfl,g',hlt,hj⟩)
 ·intro g env h hi
  obtain ⟨i1',o1',x3',i4',o4',a7',n7',c7',e7',x8',x9',x36',x37,rfl,rfl,rfl,rfl,rfl,rfl,rfl,rfl,rfl,rfl,rfl,rfl,rfl,g',hlt,hj⟩:=Zvi hi
  exact ⟨g',hlt,rfl,rfl,rfl,rfl,rfl,rfl,rfl,rfl,rfl,rfl,rfl,rfl,hj⟩
theorem J11i (Q:QT) (R2:T2) (R7:T7) (x37 x36:Int) (i1 o1:Nat) (x3:Int) (i4 o4:Nat) (x9 x8:Int) (a7:Pt) (n7 c7:Nat) (e7:Bool) (h:Zaa) (ht :
 R7 i1 o1 x3 i4 o4 a7 n7 c7 e7 x8 x9 x36 (IntKind.wrap .i64 (x37 + 1)) h):J11 Q R2 R7 x37 x36 i1 o1 x3 i4 o4 x9 x8 a7 n7 c7 e7 h:=
 Zbf (kp:=kp) (cast (by kernel_rfl) ht)
theorem A7x2i (Q:QT) (R2:T2) (x9 x8:Int) (a7:Pt) (n7 c7:Nat) (e7:Bool) (i1 o1:Nat) (h:Zaa) (ht :
 J12 Q R2 x9 x8 a7 n7 c7 e7 i1 o1 h):Ytu Q R2 x9 x8 a7 n7 c7 e7 i1 o1 h:=
 At.mk (cast (by kernel_rfl) ht)
theorem J12i (Q:QT) (R2:T2) (x9 x8:Int) (a7:Pt) (n7 c7:Nat) (e7:Bool) (i1 o1:Nat) (h:Zaa) (ht :
 R2 i1 o1 a7 n7 c7 e7 x8 (IntKind.wrap .i64 (x9 + 1)) h):J12 Q R2 x9 x8 a7 n7 c7 e7 i1 o1 h:=
 Zbf (kp:=kp) (cast (by kernel_rfl) ht)
theorem call (a0x0:Pt) (n0x0 c0x0:Nat) (e0x0:Bool) (a0x1:Pt) (n0x1 c0x1:Nat) (e0x1:Bool) (h:Zaa) (Q:QT) (ht :
 Zco (h ++ [.cells Zad [.slice a0x0 n0x0 c0x0 e0x0,.slice a0x1 n0x1 c0x1 e0x1] false]) fun A=>xSl (Zai A (.ptr (h.length,0 + 0))) fun B C D E=>L2 Q h.length 0 B C D E (((C:Nat):Int)) 0 A):Zah pg Ziw [.agg [.slice a0x0 n0x0 c0x0 e0x0,.slice a0x1 n0x1 c0x1 e0x1]] h Q:=
 Zah.of_body kp (c:=cod fn) (fn:=fn) Go.Proofs.Tryz.func106 (by kernel_rfl) (by kernel_rfl) (Nat.le_of_ble_eq_true (by kernel_rfl))
  (cast (by kernel_rfl) ht)
end Zdi
end Go.Sim

set_option maxRecDepth 100000
set_option maxHeartbeats 0
set_option linter.unusedVariables false
namespace Go.Sim
open Go Go.RowKit
namespace Zyn
noncomputable abbrev fn:Func:=Go.Proofs.Tryz.f95
def kp:Zcu:=[]
noncomputable def C (p:List Nat):Code:=(cod fn).sub p
def KR (Q:QT):KT:=Zfi pg fn.results.toList Q
theorem call (x0 x1 x2:Int) (h:Zaa) (Q:QT) (ht :
 bcase (decide ((x0:Int) ≥ x1)) (Q (.bool (decide ((x0:Int)≤x2))) h) (Q (.bool false) h)):Zah pg Zoq [.int .i64 x0,.int .i64 x1,.int .i64 x2] h Q:=
 Zah.of_body kp (c:=cod fn) (fn:=fn) Go.Proofs.Tryz.func95 (by kernel_rfl) (by kernel_rfl) (Nat.le_of_ble_eq_true (by kernel_rfl))
  (cast (by kernel_rfl) ht)
end Zyn
namespace Zse
noncomputable abbrev fn:Func:=Go.Proofs.Tryz.f141
def kp:Zcu:=[]
noncomputable def C (p:List Nat):Code:=(cod fn).sub p
def KR (Q:QT):KT:=Zfi pg fn.results.toList Q
theorem call (x0:List Nat) (h:Zaa) (Q:QT) (ht :
 bcase ((((List.length x0:Nat):Int):Int) == 1) (bcase (!Zfj x0 [65]) (Q (.bool (Zfj x0 [84] || decide (x0=[84]))) h) (Q (.bool false) h)) (Q (.bool false) h)):Zah pg Znu [.str x0] h Q:=
 Zah.of_body kp (c:=cod fn) (fn:=fn) Go.Proofs.Tryz.func141 (by kernel_rfl) (by kernel_rfl) (Nat.le_of_ble_eq_true (by kernel_rfl))
  (cast (by kernel_rfl) ht)
end Zse
namespace Zpr
noncomputable abbrev fn:Func:=Go.Proofs.Tryz.f147
def kp:Zcu:=[]
noncomputable def C (p:List Nat):Code:=(cod fn).sub p
def KR (Q:QT):KT:=Zfi pg fn.results.toList Q
theorem call (x0:List Nat) (h:Zaa) (Q:QT) (ht :
 bcase ((((List.length x0:Nat):Int):Int) == 1) (Zjs x0 0 fun A=>Zah pg Zoq [.int .i64 (IntKind.wrap .i64 (((A:Nat):Int))),.int .i64 65,.int .i64 84] h fun A B=>
 Zbr A fun A=>Q (.bool A) B) (Q (.bool false) h)):Zah pg Zis [.str x0] h Q:=
 Zah.of_body kp (c:=cod fn) (fn:=fn) Go.Proofs.Tryz.func147 (by kernel_rfl) (by kernel_rfl) (Nat.le_of_ble_eq_true (by kernel_rfl))
  (cast (by kernel_rfl) ht)
end Zpr
namespace Zlq
noncomputable abbrev fn:Func:=Go.Proofs.Tryz.f197
def kp:Zcu:=[(4000003,[0,2]),(2000003,[2,3])]
noncomputable def C (p:List Nat):Code:=(cod fn).sub p
def KR (Q:QT):KT:=Zfi pg fn.results.toList Q
def J3 (Q:QT) (x0:List Nat) (i2 o2:Nat) (h:Zaa):Prop:=Den pg fn.ntmps (C [1,1]) [(0,.str x0),(2,.ptr (i2,o2))] h (KR Q)
theorem J3i (Q:QT) (x0:List Nat) (i2 o2:Nat) (h:Zaa) (ht :
 (0≤(0:Int)∧(0:Int)≤1∧(1:Int)≤(List.length x0:Nat))∧((0≤(2:Int)∧(2:Int)≤(List.length x0:Int)∧((List.length x0:Int):Int)≤(List.length x0:Nat))∧(Zbx (Zbb h (.ptr (i2,o2)) [.str (sub x0 0 1),.str (sub x0 2 ((List.length x0:Int)))]) fun A=>Zcb (Zan A (.ptr (i2,o2)) 2) fun B=>Zag B fun B C=>Zbn B fun B=>Zag C fun C D=>Zbn C fun C=>Zbu D (Q (.tup [.agg [.str B,.str C],.bool true]) A)))):J3 Q x0 i2 o2 h:=
 Zbf (kp:=kp) (cast (by kernel_rfl) ht)
theorem call (x0:List Nat) (h:Zaa) (Q:QT) (ht :
 Zco (h ++ [.cells Zae [.str [],.str []] false]) fun A=>bcase (decide (((((List.length x0:Nat):Int)):Int) < 3)) (Zbx (Zbb A (.ptr (h.length,0)) [.str [],.str []]) fun B=>Zcb (Zan B (.ptr (h.length,0)) 2) fun C=>Zag C fun C D=>Zbn C fun C=>Zag D fun D E=>Zbn D fun D=>Zbu E (Q (.tup [.agg [.str C,.str D],.bool false]) B)) (Zjs x0 1 fun B=>bcase (!((((B:Nat):Int):Int) == 32)) (Zbx (Zbb A (.ptr (h.length,0)) [.str [],.str []]) fun B=>Zcb (Zan B (.ptr (h.length,0)) 2) fun C=>Zag C fun C D=>Zbn C fun C=>Zag D fun D E=>Zbn D fun D=>Zbu E (Q (.tup [.agg [.str C,.str D],.bool false]) B)) ((0≤(0:Int)∧(0:Int)≤1∧(1:Int)≤(List.length x0:Nat))∧(Zah pg Zis [.str (sub x0 0 1)] A fun A B=>
 Zbr A fun A=>bcase (!A) (Zbx (Zbb B (.ptr (h.length,0)) [.str [],.str []]) fun A=>Zcb (Zan A (.ptr (h.length,0)) 2) fun C=>Zag C fun C D=>Zbn C fun C=>Zag D fun D E=>Zbn D fun D=>Zbu E (Q (.tup [.agg [.str C,.str D],.bool false]) A)) ((0≤(2:Int)∧(2:Int)≤(List.length x0:Int)∧((List.length x0:Int):Int)≤(List.length x0:Nat))∧(Zah pg Zfh [.str (sub x0 2 ((List.length x0:Int)))] B fun A B=>
 Zbr A fun A=>bcase (!A) (Zbx (Zbb B (.ptr (h.length,0)) [.str [],.str []]) fun A=>Zcb (Zan A (.ptr (h.length,0)) 2) fun C=>Zag C fun C D=>Zbn C fun C=>Zag D fun D E=>Zbn D fun D=>Zbu E (Q (.tup [.agg [.str C,.str D],.bool false]) A)) (J3 Q x0 h.length 0 B))))))):Zah pg Ziu [.str x0] h Q:=
 Zah.of_body kp (c:=cod fn) (fn:=fn) Go.Proofs.Tryz.func197 (by kernel_rfl) (by kernel_rfl) (Nat.le_of_ble_eq_true (by kernel_rfl))
  (cast (by kernel_rfl) ht)
end Zlq
end Go.Sim

set_option maxRecDepth 100000
set_option maxHeartbeats 0
set_option linter.unusedVariables false
namespace Go.Sim
open Go Go.RowKit
namespace Zda
noncomputable abbrev fn:Func:=Go.Proofs.Tryz.f193
def kp:Zcu:=[(3000004,[5]),(1000004,[0,1,5,6,7]),(4000005,[7,0,1,5,6])]
noncomputable def C (p:List Nat):Code:=(cod fn).sub p
def KR (Q:QT):KT:=Zfi pg fn.results.toList Q
abbrev T4:=List Nat→Int→Pt→Nat→Nat→Bool→Int→Int→Zaa→Prop
def E4 (R4:T4) (env:Env) (h:Zaa):Prop:=Zci 0 env fun v env=>Zbn v fun x0=>Zci 1 env fun v env=>Zez .u8 v fun x1=>Zci 5 env fun v env=>xSl v fun a5 n5 c5 e5=>Zci 6 env fun v env=>Zez .i64 v fun x6=>Zci 7 env fun v env=>Zez .i64 v fun x7=>Zky env (R4 x0 x1 a5 n5 c5 e5 x6 x7 h)
theorem Zlb {R4:T4} {env:Env} {h:Zaa} (hi:E4 R4 env h):∃ x0,∃ x1,∃ a5,∃ n5,∃ c5,∃ e5,∃ x6,∃ x7,env=[(0,.str x0),(1,.int .u8 x1),(5,.slice a5 n5 c5 e5),(6,.int .i64 x6),(7,.int .i64 x7)]∧R4 x0 x1 a5 n5 c5 e5 x6 x7 h:=by
 unfold E4 at hi
 repeat ((first | (have k:=Zal hi; clear hi; obtain ⟨_,_,e,hi⟩:=k) | (have k:=Zaz hi; clear hi; obtain ⟨_,e,hi⟩:=k) | (have k:=Zcp hi; clear hi; obtain ⟨_,_,_,_,e,hi⟩:=k) | (have k:=Zhb hi; clear hi; obtain ⟨_,e,hi⟩:=k)); subst e)
 obtain ⟨rfl,hi⟩:=Zca hi
 exact ⟨_,_,_,_,_,_,_,_,rfl,hi⟩
def K0 (Q:QT):KT:=andThen (fun env' h'=>(match kp.find 4000009 with | some ks=>Den pg fn.ntmps (C [1,1,1,1]) (env'.keep ks) h' (KR Q) | none=>den pg fn.ntmps kp (C [1,1,1,1]) env' h' (KR Q))) (KR Q)
def K1 (Q:QT):KT:=Zdg 0 (K0 Q)
def K2 (Q:QT):KT:=left kp 4 (K1 Q)
def K3 (Q:QT) (R4:T4):KT:=rnd ((kp.find 1000004).getD []) (E4 R4) (K2 Q)
def L4 (Q:QT) (x0:List Nat) (x1:Int) (a5:Pt) (n5 c5:Nat) (e5:Bool) (x6 x7:Int) (h:Zaa):Prop:=Zfb (Den pg fn.ntmps (C [1,1,1,0,1,0,0])) ((kp.find 1000004).getD []) (K2 Q) [(0,.str x0),(1,.int .u8 x1),(5,.slice a5 n5 c5 e5),(6,.int .i64 x6),(7,.int .i64 x7)] h
def J5 (Q:QT) (R4:T4) (x7:Int) (x0:List Nat) (x1:Int) (a5:Pt) (n5 c5:Nat) (e5:Bool) (x6:Int) (h:Zaa):Prop:=Den pg fn.ntmps (C [1,1,1,0,1,0,0,1,1]) [(7,.int .i64 x7),(0,.str x0),(1,.int .u8 x1),(5,.slice a5 n5 c5 e5),(6,.int .i64 x6)] h (K3 Q R4)
def Ycw (Q:QT) (a5:Pt) (n5 c5:Nat) (e5:Bool) (h:Zaa):Prop:=At (K1 Q) (.exit 0) [(5,.slice a5 n5 c5 e5)] h
def L4t (Q:QT) (R4:T4) (x0:List Nat) (x1:Int) (a5:Pt) (n5 c5:Nat) (e5:Bool) (x6 x7:Int) (h:Zaa):Prop:=
 bcase (decide ((x7:Int)≤(((List.length x0:Nat):Int)))) (bcase ((x7:Int) == (((List.length x0:Nat):Int))) ((0≤(x6:Int)∧(x6:Int)≤x7∧(x7:Int)≤(List.length x0:Nat))∧(Zco (h ++ [.cells Zbg [.str (sub x0 x6 x7)] false]) fun A=>Zcz pg Zjh A (.slice a5 n5 c5 e5) (.slice (h.length,0) 1 1 true) fun A B=>xSl A fun A C D E=>J5 Q R4 x7 x0 x1 A C D E (IntKind.wrap .i64 (x7 + 1)) B)) (Zjs x0 x7 fun A=>bcase ((((A:Nat):Int):Int) == x1) ((0≤(x6:Int)∧(x6:Int)≤x7∧(x7:Int)≤(List.length x0:Nat))∧(Zco (h ++ [.cells Zbg [.str (sub x0 x6 x7)] false]) fun A=>Zcz pg Zjh A (.slice a5 n5 c5 e5) (.slice (h.length,0) 1 1 true) fun A B=>xSl A fun A C D E=>J5 Q R4 x7 x0 x1 A C D E (IntKind.wrap .i64 (x7 + 1)) B)) (J5 Q R4 x7 x0 x1 a5 n5 c5 e5 x6 h))) (Ycw Q a5 n5 c5 e5 h)
theorem Zxe (Q:QT) (R4:T4) (x0:List Nat) (x1:Int) (a5:Pt) (n5 c5:Nat) (e5:Bool) (x6 x7:Int) (h:Zaa) (ht:L4t Q R4 x0 x1 a5 n5 c5 e5 x6 x7 h):Den pg fn.ntmps (C [1,1,1,0,1,0,0]) [(0,.str x0),(1,.int .u8 x1),(5,.slice a5 n5 c5 e5),(6,.int .i64 x6),(7,.int .i64 x7)] h (K3 Q R4):=
 Zbf (kp:=kp) (cast (by kernel_rfl) ht)
theorem L4ind (Q:QT) (x0:List Nat) (x1:Int) {G:Type} (J:G→Pt→Nat→Nat→Bool→Int→Int→Zaa→Prop) (m:G→Nat)
 (hr:∀ (g:G) (a5:Pt) (n5 c5:Nat) (e5:Bool) (x6 x7:Int) (h:Zaa),J g a5 n5 c5 e5 x6 x7 h→∀ (R4:T4),(∀ g' (a5:Pt) (n5 c5:Nat) (e5:Bool) (x6 x7:Int) (h:Zaa),m g' < m g→J g' a5 n5 c5 e5 x6 x7 h→R4 x0 x1 a5 n5 c5 e5 x6 x7 h)→L4t Q R4 x0 x1 a5 n5 c5 e5 x6 x7 h)
 (g:G) (a5:Pt) (n5 c5:Nat) (e5:Bool) (x6 x7:Int) (h:Zaa) (hj:J g a5 n5 c5 e5 x6 x7 h):L4 Q x0 x1 a5 n5 c5 e5 x6 x7 h:=by
 let P:=fun (K:Pt→Nat→Nat→Bool→Int→Int→Zaa→Prop) x0' x1' a5 n5 c5 e5 x6 x7 h=>x0=x0'∧x1=x1'∧K a5 n5 c5 e5 x6 x7 h
 refine Zfb.inv2 (fun g=>E4 (P (J g))) (fun g=>E4 (P fun a5 n5 c5 e5 x6 x7 h=>∃ g',m g' < m g∧J g' a5 n5 c5 e5 x6 x7 h)) m ?_ ?_ g ⟨rfl,rfl,hj⟩
 ·intro g env h hi
  obtain ⟨x0',x1',a5,n5,c5,e5,x6,x7,rfl,rfl,rfl,hj⟩:=Zlb hi
  exact Zxe Q _ x0 x1 a5 n5 c5 e5 x6 x7 h (hr g a5 n5 c5 e5 x6 x7 h hj (P fun a5 n5 c5 e5 x6 x7 h=>∃ g',m g' < m g∧J g' a5 n5 c5 e5 x6 x7 h) fun g' a5 n5 c5 e5 x6 x7 h hlt hj=>⟨rfl,rfl,g',hlt,hj⟩)
 ·intro g env h hi
  obtain ⟨x0',x1',a5,n5,c5,e5,x6,x7,rfl,rfl,rfl,g',hlt,hj⟩:=Zlb hi
  exact ⟨g',hlt,rfl,rfl,hj⟩
theorem J5i (Q:QT) (R4:T4) (x7:Int) (x0:List Nat) (x1:Int) (a5:Pt) (n5 c5:Nat) (e5:Bool) (x6:Int) (h:Zaa) (ht :
 R4 x0 x1 a5 n5 c5 e5 x6 (IntKind.wrap .i64 (x7 + 1)) h):J5 Q R4 x7 x0 x1 a5 n5 c5 e5 x6 h:=
 Zbf (kp:=kp) (cast (by kernel_rfl) ht)
theorem A4x0i (Q:QT) (a5:Pt) (n5 c5:Nat) (e5:Bool) (h:Zaa) (ht :
 Q (.slice a5 n5 c5 e5) h):Ycw Q a5 n5 c5 e5 h:=
 At.mk (cast (by kernel_rfl) ht)
theorem call (x0:List Nat) (x1:Int) (h:Zaa) (Q:QT) (ht :
 Zco (h ++ [.cells Zbg [] false]) fun A=>L4 Q x0 x1 (h.length,0) 0 0 true 0 0 A):Zah pg Zgq [.str x0,.int .u8 x1] h Q:=
 Zah.of_body kp (c:=cod fn) (fn:=fn) Go.Proofs.Tryz.func193 (by kernel_rfl) (by kernel_rfl) (Nat.le_of_ble_eq_true (by kernel_rfl))
  (cast (by kernel_rfl) ht)
end Zda
end Go.Sim

set_option maxRecDepth 100000
set_option maxHeartbeats 0
set_option linter.unusedVariables false
namespace Go.Sim
open Go Go.RowKit
namespace Zio
noncomputable abbrev fn:Func:=Go.Proofs.Tryz.f128
def kp:Zcu:=[(3000002,[4]),(1000002,[0,1,5])]
noncomputable def C (p:List Nat):Code:=(cod fn).sub p
def KR (Q:QT):KT:=Zfi pg fn.results.toList Q
abbrev T2:=List Nat→Int→Int→Zaa→Prop
def E2 (R2:T2) (env:Env) (h:Zaa):Prop:=Zci 0 env fun v env=>Zbn v fun x0=>Zci 1 env fun v env=>Zez .u8 v fun x1=>Zci 5 env fun v env=>Zez .i64 v fun x5=>Zky env (R2 x0 x1 x5 h)
theorem Zfx {R2:T2} {env:Env} {h:Zaa} (hi:E2 R2 env h):∃ x0,∃ x1,∃ x5,env=[(0,.str x0),(1,.int .u8 x1),(5,.int .i64 x5)]∧R2 x0 x1 x5 h:=by
 unfold E2 at hi
 repeat ((first | (have k:=Zal hi; clear hi; obtain ⟨_,_,e,hi⟩:=k) | (have k:=Zaz hi; clear hi; obtain ⟨_,e,hi⟩:=k) | (have k:=Zhb hi; clear hi; obtain ⟨_,e,hi⟩:=k)); subst e)
 obtain ⟨rfl,hi⟩:=Zca hi
 exact ⟨_,_,_,rfl,hi⟩
def K0 (Q:QT):KT:=andThen (fun env' h'=>(match kp.find 4000006 with | some ks=>Den pg fn.ntmps (C [1,1]) (env'.keep ks) h' (KR Q) | none=>den pg fn.ntmps kp (C [1,1]) env' h' (KR Q))) (KR Q)
def K1 (Q:QT):KT:=Zdg 0 (K0 Q)
def K2 (Q:QT):KT:=left kp 2 (K1 Q)
def K3 (Q:QT) (R2:T2):KT:=rnd ((kp.find 1000002).getD []) (E2 R2) (K2 Q)
def L2 (Q:QT) (x0:List Nat) (x1 x5:Int) (h:Zaa):Prop:=Zfb (Den pg fn.ntmps (C [1,0,1,0,0])) ((kp.find 1000002).getD []) (K2 Q) [(0,.str x0),(1,.int .u8 x1),(5,.int .i64 x5)] h
def A2x0 (Q:QT) (h:Zaa):Prop:=At (K1 Q) (.exit 0) [(4,.undef)] h
def L2t (Q:QT) (R2:T2) (x0:List Nat) (x1 x5:Int) (h:Zaa):Prop:=
 bcase (decide ((x5:Int) < (((List.length x0:Nat):Int)))) (Zjs x0 x5 fun A=>bcase ((((A:Nat):Int):Int) == x1) (Q (.int .i64 x5) h) (R2 x0 x1 (IntKind.wrap .i64 (x5 + 1)) h)) (A2x0 Q h)
theorem Zok (Q:QT) (R2:T2) (x0:List Nat) (x1 x5:Int) (h:Zaa) (ht:L2t Q R2 x0 x1 x5 h):Den pg fn.ntmps (C [1,0,1,0,0]) [(0,.str x0),(1,.int .u8 x1),(5,.int .i64 x5)] h (K3 Q R2):=
 Zbf (kp:=kp) (cast (by kernel_rfl) ht)
theorem L2ind (Q:QT) (x0:List Nat) (x1:Int) {G:Type} (J:G→Int→Zaa→Prop) (m:G→Nat)
 (hr:∀ (g:G) (x5:Int) (h:Zaa),J g x5 h→∀ (R2:T2),(∀ g' (x5:Int) (h:Zaa),m g' < m g→J g' x5 h→R2 x0 x1 x5 h)→L2t Q R2 x0 x1 x5 h)
 (g:G) (x5:Int) (h:Zaa) (hj:J g x5 h):L2 Q x0 x1 x5 h:=by
 let P:=fun (K:Int→Zaa→Prop) x0' x1' x5 h=>x0=x0'∧x1=x1'∧K x5 h
 refine Zfb.inv2 (fun g=>E2 (P (J g))) (fun g=>E2 (P fun x5 h=>∃ g',m g' < m g∧J g' x5 h)) m ?_ ?_ g ⟨rfl,rfl,hj⟩
 ·intro g env h hi
  obtain ⟨x0',x1',x5,rfl,rfl,rfl,hj⟩:=Zfx hi
  exact Zok Q _ x0 x1 x5 h (hr g x5 h hj (P fun x5 h=>∃ g',m g' < m g∧J g' x5 h) fun g' x5 h hlt hj=>⟨rfl,rfl,g',hlt,hj⟩)
 ·intro g env h hi
  obtain ⟨x0',x1',x5,rfl,rfl,rfl,g',hlt,hj⟩:=Zfx hi
  exact ⟨g',hlt,rfl,rfl,hj⟩
theorem A2x0i (Q:QT) (h:Zaa) (ht :
 Q (.int .i64 (-1)) h):A2x0 Q h:=
 At.mk (cast (by kernel_rfl) ht)
theorem call (x0:List Nat) (x1:Int) (h:Zaa) (Q:QT) (ht :
 L2 Q x0 x1 0 h):Zah pg Zhd [.str x0,.int .u8 x1] h Q:=
 Zah.of_body kp (c:=cod fn) (fn:=fn) Go.Proofs.Tryz.func128 (by kernel_rfl) (by kernel_rfl) (Nat.le_of_ble_eq_true (by kernel_rfl))
  (cast (by kernel_rfl) ht)
end Zio
namespace Zns
noncomputable abbrev fn:Func:=Go.Proofs.Tryz.f124
def kp:Zcu:=[(4000008,[])]
noncomputable def C (p:List Nat):Code:=(cod fn).sub p
def KR (Q:QT):KT:=Zfi pg fn.results.toList Q
def J8 (Q:QT) (h:Zaa):Prop:=Den pg fn.ntmps (C [1,1]) [] h (KR Q)
theorem J8i (Q:QT) (h:Zaa) (ht :
 Q (.int .i64 0) h):J8 Q h:=
 Zbf (kp:=kp) (cast (by kernel_rfl) ht)
theorem call (x0:Int) (h:Zaa) (Q:QT) (ht :
 Zah pg Zhd [.str ([105,98,117,108,109,112,120,121,122,88,89,90]),.int .u8 x0] h fun A B=>
 Zck .i64 A fun A=>bcase (decide ((A:Int) < 0)) (Q (.int .i64 (-1)) B) (bcase ((A:Int) == 3) (Q (.int .i64 1) B) (bcase ((A:Int) == 4) (Q (.int .i64 1) B) (bcase ((A:Int) == 5) (Q (.int .i64 2) B) (J8 Q B))))):Zah pg Zkv [.int .u8 x0] h Q:=
 Zah.of_body kp (c:=cod fn) (fn:=fn) Go.Proofs.Tryz.func124 (by kernel_rfl) (by kernel_rfl) (Nat.le_of_ble_eq_true (by kernel_rfl))
  (cast (by kernel_rfl) ht)
end Zns
namespace Zlr
noncomputable abbrev fn:Func:=Go.Proofs.Tryz.f123
def kp:Zcu:=[(2000001,[12,0]),(2000005,[2])]
noncomputable def C (p:List Nat):Code:=(cod fn).sub p
def KR (Q:QT):KT:=Zfi pg fn.results.toList Q
theorem call (a0:Pt) (h:Zaa) (Q:QT) (ht :
 Zbi a0 fun A B=>Zbi a0 fun C D=>Zck .i64 (Zai h (.ptr (A,B + 1))) fun E=>Zbn (Zai h (.ptr (C,D + 0))) fun C=>(Zai h (.ptr (A,B + 1))=Zai h (.ptr (A,B + 1)))∧bcase (decide ((E:Int) ≥ (((List.length C:Nat):Int)))) (Zbi a0 fun A B=>Zbx (Zbb h (.ptr (A,B + 2)) [.bool true]) fun A=>Q (.int .u8 0) A) (Zbi a0 fun A B=>Zck .i64 (Zai h (.ptr (A,B + 1))) fun A=>Zbi a0 fun B C=>Zbx (Zbb h (.ptr (B,C + 1)) [.int .i64 (IntKind.wrap .i64 (A + 1))]) fun A=>Zbi a0 fun B C=>Zbi a0 fun D E=>Zbn (Zai A (.ptr (B,C + 0))) fun F=>Zck .i64 (Zai A (.ptr (D,E + 1))) fun D=>(Zai A (.ptr (B,C + 0))=Zai A (.ptr (B,C + 0)))∧Zjs F (IntKind.wrap .i64 (D - 1)) fun B=>Q (.int .u8 (((B:Nat):Int))) A)):Zah pg Zfk [.ptr a0] h Q:=
 Zah.of_body kp (c:=cod fn) (fn:=fn) Go.Proofs.Tryz.func123 (by kernel_rfl) (by kernel_rfl) (Nat.le_of_ble_eq_true (by kernel_rfl))
  (cast (by kernel_rfl) ht)
end Zlr
namespace Zbs
noncomputable abbrev fn:Func:=Go.Proofs.Tryz.f78
def kp:Zcu:=[(4000004,[0,2,3,4]),(3000005,[4,0,3,2]),(1000005,[0,2,3,4,5]),(4000007,[0,5,3,4,2]),(2000007,[0,3,5,4,2]),(4000008,[0,3,5,4,2]),(2000009,[5,4,0,3,2]),(4000006,[5,4,0,3,2]),(4000012,[3,2])]
noncomputable def C (p:List Nat):Code:=(cod fn).sub p
def KR (Q:QT):KT:=Zfi pg fn.results.toList Q
abbrev T5:=Pt→Nat→Nat→Nat→Nat→Int→Int→Zaa→Prop
def E5 (R5:T5) (env:Env) (h:Zaa):Prop:=Zci 0 env fun v env=>Zfc v fun a0=>Zci 2 env fun v env=>Zfc v fun a=>Zbi a fun i2 o2=>Zci 3 env fun v env=>Zfc v fun a=>Zbi a fun i3 o3=>Zci 4 env fun v env=>Zez .i64 v fun x4=>Zci 5 env fun v env=>Zez .i64 v fun x5=>Zky env (R5 a0 i2 o2 i3 o3 x4 x5 h)
theorem Zli {R5:T5} {env:Env} {h:Zaa} (hi:E5 R5 env h):∃ a0,∃ i2,∃ o2,∃ i3,∃ o3,∃ x4,∃ x5,env=[(0,.ptr a0),(2,.ptr (i2,o2)),(3,.ptr (i3,o3)),(4,.int .i64 x4),(5,.int .i64 x5)]∧R5 a0 i2 o2 i3 o3 x4 x5 h:=by
 unfold E5 at hi
 have hi0:=hi
 clear hi
 obtain ⟨_,_,rfl,hi1⟩:=Zal hi0
 obtain ⟨a0,rfl,hi2⟩:=Zbo hi1
 obtain ⟨_,_,rfl,hi3⟩:=Zal hi2
 obtain ⟨a,rfl,hi4⟩:=Zbo hi3
 obtain ⟨i2,o2,rfl,hi5⟩:=Zbp hi4
 obtain ⟨_,_,rfl,hi6⟩:=Zal hi5
 obtain ⟨a,rfl,hi7⟩:=Zbo hi6
 obtain ⟨i3,o3,rfl,hi8⟩:=Zbp hi7
 obtain ⟨_,_,rfl,hi9⟩:=Zal hi8
 obtain ⟨x4,rfl,hi10⟩:=Zaz hi9
 obtain ⟨_,_,rfl,hi11⟩:=Zal hi10
 obtain ⟨x5,rfl,hi12⟩:=Zaz hi11
 obtain ⟨rfl,hi13⟩:=Zca hi12
 have hi:=hi13
 exact ⟨a0,i2,o2,i3,o3,x4,x5,rfl,hi⟩
def K0 (Q:QT):KT:=andThen (fun env' h'=>(match kp.find 4000010 with | some ks=>Den pg fn.ntmps (C [1,1,1,1,1]) (env'.keep ks) h' (KR Q) | none=>den pg fn.ntmps kp (C [1,1,1,1,1]) env' h' (KR Q))) (KR Q)
def K1 (Q:QT):KT:=Zdg 0 (K0 Q)
def K2 (Q:QT):KT:=left kp 5 (K1 Q)
def K3 (Q:QT) (R5:T5):KT:=rnd ((kp.find 1000005).getD []) (E5 R5) (K2 Q)
def K4 (Q:QT) (R5:T5):KT:=andThen (fun env' h'=>(match kp.find 4000006 with | some ks=>Den pg fn.ntmps (C [1,1,1,1,0,1,0,0,1,1]) (env'.keep ks) h' (K3 Q R5) | none=>den pg fn.ntmps kp (C [1,1,1,1,0,1,0,0,1,1]) env' h' (K3 Q R5))) (K3 Q R5)
def K5 (Q:QT) (R5:T5):KT:=Zdg 1 (K4 Q R5)
def J4 (Q:QT) (a0:Pt) (i2 o2 i3 o3:Nat) (x4:Int) (h:Zaa):Prop:=Den pg fn.ntmps (C [1,1,1,1]) [(0,.ptr a0),(2,.ptr (i2,o2)),(3,.ptr (i3,o3)),(4,.int .i64 x4)] h (KR Q)
def L5 (Q:QT) (a0:Pt) (i2 o2 i3 o3:Nat) (x4 x5:Int) (h:Zaa):Prop:=Zfb (Den pg fn.ntmps (C [1,1,1,1,0,1,0,0])) ((kp.find 1000005).getD []) (K2 Q) [(0,.ptr a0),(2,.ptr (i2,o2)),(3,.ptr (i3,o3)),(4,.int .i64 x4),(5,.int .i64 x5)] h
def J7 (Q:QT) (R5:T5) (a0:Pt) (x5:Int) (i3 o3:Nat) (x4:Int) (i2 o2:Nat) (h:Zaa):Prop:=Den pg fn.ntmps (C [1,1,1,1,0,1,0,0,1]) [(0,.ptr a0),(5,.int .i64 x5),(3,.ptr (i3,o3)),(4,.int .i64 x4),(2,.ptr (i2,o2))] h (K3 Q R5)
def A5x0 (Q:QT) (x4:Int) (a0:Pt) (i3 o3 i2 o2:Nat) (h:Zaa):Prop:=At (K1 Q) (.exit 0) [(4,.int .i64 x4),(0,.ptr a0),(3,.ptr (i3,o3)),(2,.ptr (i2,o2))] h
def J8 (Q:QT) (R5:T5) (a0:Pt) (i3 o3:Nat) (x5 x4:Int) (i2 o2:Nat) (h:Zaa):Prop:=Den pg fn.ntmps (C [1,1,1,1,0,1,0,0,1,0,0,1]) [(0,.ptr a0),(3,.ptr (i3,o3)),(5,.int .i64 x5),(4,.int .i64 x4),(2,.ptr (i2,o2))] h (K5 Q R5)
def J12 (Q:QT) (i3 o3 i2 o2:Nat) (h:Zaa):Prop:=Den pg fn.ntmps (C [1,1,1,1,1,1]) [(3,.ptr (i3,o3)),(2,.ptr (i2,o2))] h (KR Q)
def J6 (Q:QT) (R5:T5) (x5 x4:Int) (a0:Pt) (i3 o3 i2 o2:Nat) (h:Zaa):Prop:=Den pg fn.ntmps (C [1,1,1,1,0,1,0,0,1,1]) [(5,.int .i64 x5),(4,.int .i64 x4),(0,.ptr a0),(3,.ptr (i3,o3)),(2,.ptr (i2,o2))] h (K3 Q R5)
theorem J4i (Q:QT) (a0:Pt) (i2 o2 i3 o3:Nat) (x4:Int) (h:Zaa) (ht :
 L5 Q a0 i2 o2 i3 o3 x4 0 h):J4 Q a0 i2 o2 i3 o3 x4 h:=
 Zbf (kp:=kp) (cast (by kernel_rfl) ht)
def L5t (Q:QT) (R5:T5) (a0:Pt) (i2 o2 i3 o3:Nat) (x4 x5:Int) (h:Zaa):Prop:=
 bcase (decide ((x5:Int) < x4)) (Zbi a0 fun A B=>Zbr (Zai h (.ptr (A,B + 2))) fun A=>bcase (!A) (J7 Q R5 a0 x5 i3 o3 x4 i2 o2 h) (A5x0 Q x4 a0 i3 o3 i2 o2 h)) (A5x0 Q x4 a0 i3 o3 i2 o2 h)
theorem Zxf (Q:QT) (R5:T5) (a0:Pt) (i2 o2 i3 o3:Nat) (x4 x5:Int) (h:Zaa) (ht:L5t Q R5 a0 i2 o2 i3 o3 x4 x5 h):Den pg fn.ntmps (C [1,1,1,1,0,1,0,0]) [(0,.ptr a0),(2,.ptr (i2,o2)),(3,.ptr (i3,o3)),(4,.int .i64 x4),(5,.int .i64 x5)] h (K3 Q R5):=
 Zbf (kp:=kp) (cast (by kernel_rfl) ht)
theorem L5ind (Q:QT) (a0:Pt) (i2 o2 i3 o3:Nat) (x4:Int) {G:Type} (J:G→Int→Zaa→Prop) (m:G→Nat)
 (hr:∀ (g:G) (x5:Int) (h:Zaa),J g x5 h→∀ (R5:T5),(∀ g' (x5:Int) (h:Zaa),m g' < m g→J g' x5 h→R5 a0 i2 o2 i3 o3 x4 x5 h)→L5t Q R5 a0 i2 o2 i3 o3 x4 x5 h)
 (g:G) (x5:Int) (h:Zaa) (hj:J g x5 h):L5 Q a0 i2 o2 i3 o3 x4 x5 h:=by
 let P:=fun (K:Int→Zaa→Prop) a0' i2' o2' i3' o3' x4' x5 h=>a0=a0'∧i2=i2'∧o2=o2'∧i3=i3'∧o3=o3'∧x4=x4'∧K x5 h
 refine Zfb.inv2 (fun g=>E5 (P (J g))) (fun g=>E5 (P fun x5 h=>∃ g',m g' < m g∧J g' x5 h)) m ?_ ?_ g ⟨rfl,rfl,rfl,rfl,rfl,rfl,hj⟩
 ·intro g env h hi
  obtain ⟨a0',i2',o2',i3',o3',x4',x5,rfl,rfl,rfl,rfl,rfl,rfl,rfl,hj⟩:=Zli hi
  exact Zxf Q _ a0 i2 o2 i3 o3 x4 x5 h (hr g x5 h hj (P fun x5 h=>∃ g',m g' < m g∧J g' x5 h) fun g' x5 h hlt hj=>⟨rfl,rfl,rfl,rfl,rfl,rfl,g',hlt,hj⟩)
 ·intro g env h hi
  obtain ⟨a0',i2',o2',i3',o3',x4',x5,rfl,rfl,rfl,rfl,rfl,rfl,rfl,g',hlt,hj⟩:=Zli hi
  exact ⟨g',hlt,rfl,rfl,rfl,rfl,rfl,rfl,hj⟩
theorem J7i (Q:QT) (R5:T5) (a0:Pt) (x5:Int) (i3 o3:Nat) (x4:Int) (i2 o2:Nat) (h:Zaa) (ht :
 Zjs ([40,44]) x5 fun A=>Zah pg Zfk [.ptr a0] h fun B C=>
 Zck .u8 B fun B=>bcase (!((B:Int) == (((A:Nat):Int)))) (Zbi a0 fun A B=>Zbx (Zbb C (.ptr (A,B + 2)) [.bool true]) fun A=>J8 Q R5 a0 i3 o3 x5 x4 i2 o2 A) (Zbi a0 fun A B=>Zbr (Zai C (.ptr (A,B + 2))) fun A=>Zbi a0 fun B D=>Zbx (Zbb C (.ptr (B,D + 2)) [.bool A]) fun A=>J8 Q R5 a0 i3 o3 x5 x4 i2 o2 A)):J7 Q R5 a0 x5 i3 o3 x4 i2 o2 h:=
 Zbf (kp:=kp) (cast (by kernel_rfl) ht)
theorem A5x0i (Q:QT) (x4:Int) (a0:Pt) (i3 o3 i2 o2:Nat) (h:Zaa) (ht :
 bcase (decide ((x4:Int) > 0)) (Zbi a0 fun A B=>Zbr (Zai h (.ptr (A,B + 2))) fun A=>bcase (!A) (Zah pg Zfk [.ptr a0] h fun A B=>
 Zck .u8 A fun A=>bcase (!((A:Int) == 41)) (Zbi a0 fun A C=>Zbx (Zbb B (.ptr (A,C + 2)) [.bool true]) fun A=>J12 Q i3 o3 i2 o2 A) (Zbi a0 fun A C=>Zbr (Zai B (.ptr (A,C + 2))) fun A=>Zbi a0 fun C D=>Zbx (Zbb B (.ptr (C,D + 2)) [.bool A]) fun A=>J12 Q i3 o3 i2 o2 A)) (J12 Q i3 o3 i2 o2 h)) (J12 Q i3 o3 i2 o2 h)):A5x0 Q x4 a0 i3 o3 i2 o2 h:=
 At.mk (cast (by kernel_rfl) ht)
theorem J8i (Q:QT) (R5:T5) (a0:Pt) (i3 o3:Nat) (x5 x4:Int) (i2 o2:Nat) (h:Zaa) (ht :
 Zbi a0 fun A B=>Zbr (Zai h (.ptr (A,B + 2))) fun A=>bcase (!A) (xSl (Zai h (.ptr (i3,o3 + 1))) fun A B C D=>Zah pg Zev [.ptr a0] h fun E F=>
 Zmv E fun E=>Zag E fun E G=>Zck .u8 E fun E=>Zag G fun G H=>xSl G fun G I J K=>Zbu H ((Zai F (.ptr (i3,o3 + 1))=Zai h (.ptr (i3,o3 + 1)))∧Zco (F ++ [.cells Zab [.int .u8 E,.slice G I J K] false]) fun E=>(Zai E (.ptr (i3,o3 + 1))=Zai F (.ptr (i3,o3 + 1)))∧Zcz pg Zgh E (.slice A B C D) (.slice (F.length,0) 1 1 true) fun A B=>xSl A fun A C D E=>Zbx (Zbb B (.ptr (i3,o3 + 1)) [.slice A C D E]) fun A=>J6 Q R5 x5 x4 a0 i3 o3 i2 o2 A)) (J6 Q R5 x5 x4 a0 i3 o3 i2 o2 h)):J8 Q R5 a0 i3 o3 x5 x4 i2 o2 h:=
 Zbf (kp:=kp) (cast (by kernel_rfl) ht)
theorem J12i (Q:QT) (i3 o3 i2 o2:Nat) (h:Zaa) (ht :
 Zcb (Zan h (.ptr (i3,o3)) 2) fun A=>Zag A fun A B=>Zck .u8 A fun A=>Zag B fun B C=>xSl B fun B D E F=>Zbu C (Zbx (Zbb h (.ptr (i2,o2)) [.int .u8 A,.slice B D E F]) fun A=>Zcb (Zan A (.ptr (i2,o2)) 2) fun B=>Zag B fun B C=>Zck .u8 B fun B=>Zag C fun C D=>xSl C fun C E F G=>Zbu D (Q (.agg [.int .u8 B,.slice C E F G]) A))):J12 Q i3 o3 i2 o2 h:=
 Zbf (kp:=kp) (cast (by kernel_rfl) ht)
theorem J6i (Q:QT) (R5:T5) (x5 x4:Int) (a0:Pt) (i3 o3 i2 o2:Nat) (h:Zaa) (ht :
 R5 a0 i2 o2 i3 o3 x4 (IntKind.wrap .i64 (x5 + 1)) h):J6 Q R5 x5 x4 a0 i3 o3 i2 o2 h:=
 Zbf (kp:=kp) (cast (by kernel_rfl) ht)
theorem call (a0:Pt) (h:Zaa) (Q:QT) (ht :
 Zco (h ++ [.cells Zab [.int .u8 0,.slice none 0 0 true] false]) fun A=>Zah pg Zfk [.ptr a0] A fun A B=>
 Zck .u8 A fun A=>Zco (B ++ [.cells Zab [] false]) fun C=>Zco (C ++ [.cells Zab [.int .u8 0,.slice none 0 0 true] false]) fun D=>Zbx (Zbb D (.ptr (C.length,0)) [.int .u8 A,.slice (B.length,0) 0 0 true]) fun A=>Zck .u8 (Zai A (.ptr (C.length,0 + 0))) fun B=>Zah pg Zkv [.int .u8 B] A fun A B=>
 Zck .i64 A fun A=>Zbi a0 fun D E=>Zbr (Zai B (.ptr (D,E + 2))) fun D=>bcase D (Zbi a0 fun D E=>Zbx (Zbb B (.ptr (D,E + 2)) [.bool true]) fun D=>J4 Q a0 h.length 0 C.length 0 A D) (Zbi a0 fun D E=>Zbx (Zbb B (.ptr (D,E + 2)) [.bool (decide ((A:Int) < 0))]) fun B=>J4 Q a0 h.length 0 C.length 0 A B)):Zah pg Zev [.ptr a0] h Q:=
 Zah.of_body kp (c:=cod fn) (fn:=fn) Go.Proofs.Tryz.func78 (by kernel_rfl) (by kernel_rfl) (Nat.le_of_ble_eq_true (by kernel_rfl))
  (cast (by kernel_rfl) ht)
end Zbs
namespace Zot
noncomputable abbrev fn:Func:=Go.Proofs.Tryz.f41
def kp:Zcu:=[(4000005,[5,2])]
noncomputable def C (p:List Nat):Code:=(cod fn).sub p
def KR (Q:QT):KT:=Zfi pg fn.results.toList Q
def J5 (Q:QT) (i5 o5 i2 o2:Nat) (h:Zaa):Prop:=Den pg fn.ntmps (C [1,1,1,1]) [(5,.ptr (i5,o5)),(2,.ptr (i2,o2))] h (KR Q)
theorem J5i (Q:QT) (i5 o5 i2 o2:Nat) (h:Zaa) (ht :
 Zcb (Zan h (.ptr (i5,o5)) 2) fun A=>Zag A fun A B=>Zck .u8 A fun A=>Zag B fun B C=>xSl B fun B D E F=>Zbu C (Zbx (Zbb h (.ptr (i2,o2)) [.int .u8 A,.slice B D E F]) fun A=>Zcb (Zan A (.ptr (i2,o2)) 2) fun B=>Zag B fun B C=>Zck .u8 B fun B=>Zag C fun C D=>xSl C fun C E F G=>Zbu D (Q (.tup [.agg [.int .u8 B,.slice C E F G],.bool true]) A))):J5 Q i5 o5 i2 o2 h:=
 Zbf (kp:=kp) (cast (by kernel_rfl) ht)
theorem call (x0:List Nat) (h:Zaa) (Q:QT) (ht :
 Zco (h ++ [.cells Zab [.int .u8 0,.slice none 0 0 true] false]) fun A=>Zco (A ++ [.cells Zds [.str x0,.int .i64 0,.bool false] false]) fun B=>Zah pg Zev [.ptr (A.length,0)] B fun B C=>
 Zmv B fun B=>Zag B fun B D=>Zck .u8 B fun B=>Zag D fun D E=>xSl D fun D F G H=>Zbu E (Zco (C ++ [.cells Zab [.int .u8 0,.slice none 0 0 true] false]) fun E=>Zbx (Zbb E (.ptr (C.length,0)) [.int .u8 B,.slice D F G H]) fun B=>Zbr (Zai B (.ptr (A.length,0 + 2))) fun D=>bcase D (Zbx (Zbb B (.ptr (h.length,0)) [.int .u8 0,.slice none 0 0 true]) fun D=>Zcb (Zan D (.ptr (h.length,0)) 2) fun E=>Zag E fun E F=>Zck .u8 E fun E=>Zag F fun F G=>xSl F fun F H I J=>Zbu G (Q (.tup [.agg [.int .u8 E,.slice F H I J],.bool false]) D)) (Zck .i64 (Zai B (.ptr (A.length,0 + 1))) fun A=>bcase (!((A:Int) == (((List.length x0:Nat):Int)))) (Zbx (Zbb B (.ptr (h.length,0)) [.int .u8 0,.slice none 0 0 true]) fun A=>Zcb (Zan A (.ptr (h.length,0)) 2) fun D=>Zag D fun D E=>Zck .u8 D fun D=>Zag E fun E F=>xSl E fun E G H I=>Zbu F (Q (.tup [.agg [.int .u8 D,.slice E G H I],.bool false]) A)) (bcase (decide (((((List.length x0:Nat):Int)):Int) > 60)) (Zbx (Zbb B (.ptr (h.length,0)) [.int .u8 0,.slice none 0 0 true]) fun A=>Zcb (Zan A (.ptr (h.length,0)) 2) fun D=>Zag D fun D E=>Zck .u8 D fun D=>Zag E fun E F=>xSl E fun E G H I=>Zbu F (Q (.tup [.agg [.int .u8 D,.slice E G H I],.bool false]) A)) (J5 Q C.length 0 h.length 0 B))))):Zah pg Zfn [.str x0] h Q:=
 Zah.of_body kp (c:=cod fn) (fn:=fn) Go.Proofs.Tryz.func41 (by kernel_rfl) (by kernel_rfl) (Nat.le_of_ble_eq_true (by kernel_rfl))
  (cast (by kernel_rfl) ht)
end Zot
namespace Zpw
noncomputable abbrev fn:Func:=Go.Proofs.Tryz.f114
def kp:Zcu:=[]
noncomputable def C (p:List Nat):Code:=(cod fn).sub p
def KR (Q:QT):KT:=Zfi pg fn.results.toList Q
theorem call (x0:List Nat) (h:Zaa) (Q:QT) (ht :
 Zah pg Zfn [.str x0] h fun A B=>
 Zru A fun A=>Zag A fun A C=>Zmv A fun A=>Zag A fun A D=>Zck .u8 A fun A=>Zag D fun D E=>xSl D fun D F G H=>Zbu E (Zag C fun C E=>Zbr C fun C=>Zbu E (Zco (B ++ [.cells Zab [.int .u8 0,.slice none 0 0 true] false]) fun E=>Zbx (Zbb E (.ptr (B.length,0)) [.int .u8 A,.slice D F G H]) fun A=>Q (.bool C) A))):Zah pg Zfh [.str x0] h Q:=
 Zah.of_body kp (c:=cod fn) (fn:=fn) Go.Proofs.Tryz.func114 (by kernel_rfl) (by kernel_rfl) (Nat.le_of_ble_eq_true (by kernel_rfl))
  (cast (by kernel_rfl) ht)
end Zpw
end Go.Sim

set_option maxRecDepth 100000
set_option maxHeartbeats 0
set_option linter.unusedVariables false
namespace Go.Sim
open Go Go.RowKit
namespace Zqh
noncomputable abbrev fn:Func:=Go.Proofs.Tryz.f118
def kp:Zcu:=[(4000009,[])]
noncomputable def C (p:List Nat):Code:=(cod fn).sub p
def KR (Q:QT):KT:=Zfi pg fn.results.toList Q
def J9 (Q:QT) (h:Zaa):Prop:=Den pg fn.ntmps (C [1,1]) [] h (KR Q)
theorem J9i (Q:QT) (h:Zaa) (ht :
 Q (.int .i64 (-1)) h):J9 Q h:=
 Zbf (kp:=kp) (cast (by kernel_rfl) ht)
theorem call (x0:List Nat) (h:Zaa) (Q:QT) (ht :
 bcase (!((((List.length x0:Nat):Int):Int) == 1)) (Q (.int .i64 (-1)) h) (Zah pg Zfv [.str ([105,98,117,120,121,122,88,89,90]),.str x0] h fun A B=>
 Zbr A fun A=>bcase A (Q (.int .i64 0) B) (bcase (decide (x0=[108])) (Q (.int .i64 1) B) (bcase (decide (x0=[109])) (Q (.int .i64 1) B) (bcase (decide (x0=[112])) (Q (.int .i64 2) B) (J9 Q B)))))):Zah pg Zne [.str x0] h Q:=
 Zah.of_body kp (c:=cod fn) (fn:=fn) Go.Proofs.Tryz.func118 (by kernel_rfl) (by kernel_rfl) (Nat.le_of_ble_eq_true (by kernel_rfl))
  (cast (by kernel_rfl) ht)
end Zqh
namespace Zer
noncomputable abbrev fn:Func:=Go.Proofs.Tryz.f73
def kp:Zcu:=[(4000003,[0]),(3000006,[4,0,2,3]),(1000006,[0,4,27,28]),(4000020,[4,0])]
noncomputable def C (p:List Nat):Code:=(cod fn).sub p
def KR (Q:QT):KT:=Zfi pg fn.results.toList Q
abbrev T6:=List Nat→Nat→Nat→Int→Int→Zaa→Prop
def E6 (R6:T6) (env:Env) (h:Zaa):Prop:=Zci 0 env fun v env=>Zbn v fun x0=>Zci 4 env fun v env=>Zfc v fun a=>Zbi a fun i4 o4=>Zci 27 env fun v env=>Zez .i64 v fun x27=>Zci 28 env fun v env=>Zez .i64 v fun x28=>Zky env (R6 x0 i4 o4 x27 x28 h)
theorem Znc {R6:T6} {env:Env} {h:Zaa} (hi:E6 R6 env h):∃ x0,∃ i4,∃ o4,∃ x27,∃ x28,env=[(0,.str x0),(4,.ptr (i4,o4)),(27,.int .i64 x27),(28,.int .i64 x28)]∧R6 x0 i4 o4 x27 x28 h:=by
 unfold E6 at hi
 have hi0:=hi
 clear hi
 obtain ⟨_,_,rfl,hi1⟩:=Zal hi0
 obtain ⟨x0,rfl,hi2⟩:=Zhb hi1
 obtain ⟨_,_,rfl,hi3⟩:=Zal hi2
 obtain ⟨a,rfl,hi4⟩:=Zbo hi3
 obtain ⟨i4,o4,rfl,hi5⟩:=Zbp hi4
 obtain ⟨_,_,rfl,hi6⟩:=Zal hi5
 obtain ⟨x27,rfl,hi7⟩:=Zaz hi6
 obtain ⟨_,_,rfl,hi8⟩:=Zal hi7
 obtain ⟨x28,rfl,hi9⟩:=Zaz hi8
 obtain ⟨rfl,hi10⟩:=Zca hi9
 have hi:=hi10
 exact ⟨x0,i4,o4,x27,x28,rfl,hi⟩
def K0 (Q:QT):KT:=andThen (fun env' h'=>(match kp.find 4000016 with | some ks=>Den pg fn.ntmps (C [1,1,1,1,1]) (env'.keep ks) h' (KR Q) | none=>den pg fn.ntmps kp (C [1,1,1,1,1]) env' h' (KR Q))) (KR Q)
def K1 (Q:QT):KT:=Zdg 0 (K0 Q)
def K2 (Q:QT):KT:=left kp 6 (K1 Q)
def K3 (Q:QT) (R6:T6):KT:=rnd ((kp.find 1000006).getD []) (E6 R6) (K2 Q)
def J3 (Q:QT) (x0:List Nat) (h:Zaa):Prop:=Den pg fn.ntmps (C [1,1]) [(0,.str x0)] h (KR Q)
def L6 (Q:QT) (x0:List Nat) (i4 o4:Nat) (x27 x28:Int) (h:Zaa):Prop:=Zfb (Den pg fn.ntmps (C [1,1,1,1,0,1,0,0])) ((kp.find 1000006).getD []) (K2 Q) [(0,.str x0),(4,.ptr (i4,o4)),(27,.int .i64 x27),(28,.int .i64 x28)] h
def Ygl (Q:QT) (i4 o4:Nat) (x0:List Nat) (h:Zaa):Prop:=At (K1 Q) (.exit 0) [(4,.ptr (i4,o4)),(0,.str x0),(2,.undef),(3,.undef)] h
def J20 (Q:QT) (i4 o4:Nat) (x0:List Nat) (h:Zaa):Prop:=Den pg fn.ntmps (C [1,1,1,1,1,1]) [(4,.ptr (i4,o4)),(0,.str x0)] h (KR Q)
theorem J3i (Q:QT) (x0:List Nat) (h:Zaa) (ht :
 (0≤(0:Int)∧(0:Int)≤1∧(1:Int)≤(List.length x0:Nat))∧(Zco (h ++ [.cells Zcl [.str (sub x0 0 1),.slice none 0 0 true,.ptr none] false]) fun A=>(0≤(1:Int)∧(1:Int)≤(List.length x0:Int)∧((List.length x0:Int):Int)≤(List.length x0:Nat))∧(Zbn (Zai A (.ptr (h.length,0 + 0))) fun B=>Zah pg Zne [.str B] A fun A B=>
 Zck .i64 A fun A=>L6 Q (sub x0 1 ((List.length x0:Int))) h.length 0 A 0 B))):J3 Q x0 h:=
 Zbf (kp:=kp) (cast (by kernel_rfl) ht)
def L6t (Q:QT) (R6:T6) (x0:List Nat) (i4 o4:Nat) (x27 x28:Int) (h:Zaa):Prop:=
 bcase (decide ((x28:Int) < x27)) ((0≤(x28:Int)∧(x28:Int)≤IntKind.wrap .i64 (x28 + 1)∧(IntKind.wrap .i64 (x28 + 1):Int)≤(List.length ([40,44]):Nat))∧(Zah pg Zjd [.str x0,.str (sub ([40,44]) x28 (IntKind.wrap .i64 (x28 + 1)))] h fun A B=>
 Zbr A fun A=>bcase (!A) (Q (.tup [.ptr none,.str x0]) B) ((0≤(1:Int)∧(1:Int)≤(List.length x0:Int)∧((List.length x0:Int):Int)≤(List.length x0:Nat))∧(Zah pg Zhv [.str (sub x0 1 ((List.length x0:Int)))] B fun A B=>
 Zru A fun A=>Zag A fun A C=>Zfc A fun A=>Zag C fun C D=>Zbn C fun C=>Zbu D (bcase (Option.isNone A) (Q (.tup [.ptr none,.str x0]) B) (xSl (Zai B (.ptr (i4,o4 + 1))) fun D E F G=>Zco (B ++ [.cells Zdw [.ptr A] false]) fun A=>Zcz pg Zmq A (.slice D E F G) (.slice (B.length,0) 1 1 true) fun A B=>xSl A fun A D E F=>Zbx (Zbb B (.ptr (i4,o4 + 1)) [.slice A D E F]) fun A=>R6 C i4 o4 x27 (IntKind.wrap .i64 (x28 + 1)) A)))))) (Ygl Q i4 o4 x0 h)
theorem Ybc (Q:QT) (R6:T6) (x0:List Nat) (i4 o4:Nat) (x27 x28:Int) (h:Zaa) (ht:L6t Q R6 x0 i4 o4 x27 x28 h):Den pg fn.ntmps (C [1,1,1,1,0,1,0,0]) [(0,.str x0),(4,.ptr (i4,o4)),(27,.int .i64 x27),(28,.int .i64 x28)] h (K3 Q R6):=
 Zbf (kp:=kp) (cast (by kernel_rfl) ht)
theorem L6ind (Q:QT) (i4 o4:Nat) (x27:Int) {G:Type} (J:G→List Nat→Int→Zaa→Prop) (m:G→Nat)
 (hr:∀ (g:G) (x0:List Nat) (x28:Int) (h:Zaa),J g x0 x28 h→∀ (R6:T6),(∀ g' (x0:List Nat) (x28:Int) (h:Zaa),m g' < m g→J g' x0 x28 h→R6 x0 i4 o4 x27 x28 h)→L6t Q R6 x0 i4 o4 x27 x28 h)
 (g:G) (x0:List Nat) (x28:Int) (h:Zaa) (hj:J g x0 x28 h):L6 Q x0 i4 o4 x27 x28 h:=by
 let P:=fun (K:List Nat→Int→Zaa→Prop) x0 i4' o4' x27' x28 h=>i4=i4'∧o4=o4'∧x27=x27'∧K x0 x28 h
 refine Zfb.inv2 (fun g=>E6 (P (J g))) (fun g=>E6 (P fun x0 x28 h=>∃ g',m g' < m g∧J g' x0 x28 h)) m ?_ ?_ g ⟨rfl,rfl,rfl,hj⟩
 ·intro g env h hi
  obtain ⟨x0,i4',o4',x27',x28,rfl,rfl,rfl,rfl,hj⟩:=Znc hi
  exact Ybc Q _ x0 i4 o4 x27 x28 h (hr g x0 x28 h hj (P fun x0 x28 h=>∃ g',m g' < m g∧J g' x0 x28 h) fun g' x0 x28 h hlt hj=>⟨rfl,rfl,rfl,g',hlt,hj⟩)
 ·intro g env h hi
  obtain ⟨x0,i4',o4',x27',x28,rfl,rfl,rfl,rfl,g',hlt,hj⟩:=Znc hi
  exact ⟨g',hlt,rfl,rfl,rfl,hj⟩
theorem A6x0i (Q:QT) (i4 o4:Nat) (x0:List Nat) (h:Zaa) (ht :
 xSl (Zai h (.ptr (i4,o4 + 1))) fun A A B B=>bcase (decide (((((A:Nat):Int)):Int) > 0)) (Zah pg Zjd [.str x0,.str [41]] h fun A B=>
 Zbr A fun A=>bcase (!A) (Q (.tup [.ptr none,.str x0]) B) ((0≤(1:Int)∧(1:Int)≤(List.length x0:Int)∧((List.length x0:Int):Int)≤(List.length x0:Nat))∧(J20 Q i4 o4 (sub x0 1 ((List.length x0:Int))) B))) (J20 Q i4 o4 x0 h)):Ygl Q i4 o4 x0 h:=
 At.mk (cast (by kernel_rfl) ht)
theorem J20i (Q:QT) (i4 o4:Nat) (x0:List Nat) (h:Zaa) (ht :
 Q (.tup [.ptr (i4,o4),.str x0]) h):J20 Q i4 o4 x0 h:=
 Zbf (kp:=kp) (cast (by kernel_rfl) ht)
theorem call (x0:List Nat) (h:Zaa) (Q:QT) (ht :
 bcase (decide (x0=[])) (Q (.tup [.ptr none,.str x0]) h) ((0≤(0:Int)∧(0:Int)≤1∧(1:Int)≤(List.length x0:Nat))∧(Zah pg Zne [.str (sub x0 0 1)] h fun A B=>
 Zck .i64 A fun A=>bcase (decide ((A:Int) < 0)) (Q (.tup [.ptr none,.str x0]) B) (J3 Q x0 B)))):Zah pg Zhv [.str x0] h Q:=
 Zah.of_body kp (c:=cod fn) (fn:=fn) Go.Proofs.Tryz.func73 (by kernel_rfl) (by kernel_rfl) (Nat.le_of_ble_eq_true (by kernel_rfl))
  (cast (by kernel_rfl) ht)
end Zer
namespace Ztu
noncomputable abbrev fn:Func:=Go.Proofs.Tryz.f72
def kp:Zcu:=[]
noncomputable def C (p:List Nat):Code:=(cod fn).sub p
def KR (Q:QT):KT:=Zfi pg fn.results.toList Q
theorem call (x0:List Nat) (h:Zaa) (Q:QT) (ht :
 bcase (decide (((((List.length x0:Nat):Int)):Int) > 60)) (Q (.ptr none) h) (Zah pg Zhv [.str x0] h fun A B=>
 Zru A fun A=>Zag A fun A C=>Zfc A fun A=>Zag C fun C D=>Zbn C fun C=>Zbu D (bcase (!(decide (C=[]))) (Q (.ptr none) B) (Q (.ptr A) B)))):Zah pg Zjx [.str x0] h Q:=
 Zah.of_body kp (c:=cod fn) (fn:=fn) Go.Proofs.Tryz.func72 (by kernel_rfl) (by kernel_rfl) (Nat.le_of_ble_eq_true (by kernel_rfl))
  (cast (by kernel_rfl) ht)
end Ztu
namespace Zpq
noncomputable abbrev fn:Func:=Go.Proofs.Tryz.f33
def kp:Zcu:=[]
noncomputable def C (p:List Nat):Code:=(cod fn).sub p
def KR (Q:QT):KT:=Zfi pg fn.results.toList Q
theorem call (x0:List Nat) (h:Zaa) (Q:QT) (ht :
 Zah pg Zjx [.str x0] h fun A B=>
 Zfc A fun A=>Q (.bool (!(Option.isNone A))) B):Zah pg Zek [.str x0] h Q:=
 Zah.of_body kp (c:=cod fn) (fn:=fn) Go.Proofs.Tryz.func33 (by kernel_rfl) (by kernel_rfl) (Nat.le_of_ble_eq_true (by kernel_rfl))
  (cast (by kernel_rfl) ht)
end Zpq
end Go.Sim

set_option maxRecDepth 100000
set_option maxHeartbeats 0
set_option linter.unusedVariables false
namespace Go.Sim
open Go Go.RowKit
end Go.Sim

set_option maxRecDepth 100000
set_option maxHeartbeats 0
set_option linter.unusedVariables false
namespace Go.Sim
open Go Go.RowKit
end Go.Sim

set_option maxRecDepth 100000
set_option maxHeartbeats 0
set_option linter.unusedVariables false
namespace Go.Sim
open Go Go.RowKit
namespace Zjc
noncomputable abbrev fn:Func:=Go.Proofs.Tryz.f116
def kp:Zcu:=[(3000003,[3]),(1000003,[0,3,7,8,9]),(4000007,[9,8,7,0,3])]
noncomputable def C (p:List Nat):Code:=(cod fn).sub p
def KR (Q:QT):KT:=Zfi pg fn.results.toList Q
abbrev T3:=List Nat→Pt→Nat→Nat→Bool→Pt→Nat→Nat→Bool→Int→Int→Zaa→Prop
def E3 (R3:T3) (env:Env) (h:Zaa):Prop:=Zci 0 env fun v env=>Zbn v fun x0=>Zci 3 env fun v env=>xSl v fun a3 n3 c3 e3=>Zci 7 env fun v env=>xSl v fun a7 n7 c7 e7=>Zci 8 env fun v env=>Zez .i64 v fun x8=>Zci 9 env fun v env=>Zez .i64 v fun x9=>Zky env (R3 x0 a3 n3 c3 e3 a7 n7 c7 e7 x8 x9 h)
theorem Zfy {R3:T3} {env:Env} {h:Zaa} (hi:E3 R3 env h):∃ x0,∃ a3,∃ n3,∃ c3,∃ e3,∃ a7,∃ n7,∃ c7,∃ e7,∃ x8,∃ x9,env=[(0,.str x0),(3,.slice a3 n3 c3 e3),(7,.slice a7 n7 c7 e7),(8,.int .i64 x8),(9,.int .i64 x9)]∧R3 x0 a3 n3 c3 e3 a7 n7 c7 e7 x8 x9 h:=by
 unfold E3 at hi
 repeat ((first | (have k:=Zal hi; clear hi; obtain ⟨_,_,e,hi⟩:=k) | (have k:=Zaz hi; clear hi; obtain ⟨_,e,hi⟩:=k) | (have k:=Zcp hi; clear hi; obtain ⟨_,_,_,_,e,hi⟩:=k) | (have k:=Zhb hi; clear hi; obtain ⟨_,e,hi⟩:=k)); subst e)
 obtain ⟨rfl,hi⟩:=Zca hi
 exact ⟨_,_,_,_,_,_,_,_,_,_,_,rfl,hi⟩
def K0 (Q:QT):KT:=andThen (fun env' h'=>(match kp.find 4000008 with | some ks=>Den pg fn.ntmps (C [1,1,1]) (env'.keep ks) h' (KR Q) | none=>den pg fn.ntmps kp (C [1,1,1]) env' h' (KR Q))) (KR Q)
def K1 (Q:QT):KT:=Zdg 0 (K0 Q)
def K2 (Q:QT):KT:=left kp 3 (K1 Q)
def K3 (Q:QT) (R3:T3):KT:=rnd ((kp.find 1000003).getD []) (E3 R3) (K2 Q)
def L3 (Q:QT) (x0:List Nat) (a3:Pt) (n3 c3:Nat) (e3:Bool) (a7:Pt) (n7 c7:Nat) (e7:Bool) (x8 x9:Int) (h:Zaa):Prop:=Zfb (Den pg fn.ntmps (C [1,1,0,1,0,0])) ((kp.find 1000003).getD []) (K2 Q) [(0,.str x0),(3,.slice a3 n3 c3 e3),(7,.slice a7 n7 c7 e7),(8,.int .i64 x8),(9,.int .i64 x9)] h
def J7 (Q:QT) (R3:T3) (x9 x8:Int) (a7:Pt) (n7 c7:Nat) (e7:Bool) (x0:List Nat) (a3:Pt) (n3 c3:Nat) (e3:Bool) (h:Zaa):Prop:=Den pg fn.ntmps (C [1,1,0,1,0,0,1,1,1]) [(9,.int .i64 x9),(8,.int .i64 x8),(7,.slice a7 n7 c7 e7),(0,.str x0),(3,.slice a3 n3 c3 e3)] h (K3 Q R3)
def Zsz (Q:QT) (a3:Pt) (n3 c3:Nat) (e3:Bool) (h:Zaa):Prop:=At (K1 Q) (.exit 0) [(3,.slice a3 n3 c3 e3)] h
def L3t (Q:QT) (R3:T3) (x0:List Nat) (a3:Pt) (n3 c3:Nat) (e3:Bool) (a7:Pt) (n7 c7:Nat) (e7:Bool) (x8 x9:Int) (h:Zaa):Prop:=
 bcase (decide ((x9:Int) < x8)) ((0≤(x9:Int)∧(x9:Int) < (n7:Nat))∧(Zbi a7 fun A B=>Zbn (Zai h (.ptr (A,B + (Int.toNat x9) * 1))) fun A=>Zah pg Zfv [.str x0,.str A] h fun B C=>
 Zbr B fun B=>bcase B (Zco (C ++ [.cells Zbg [.str A] false]) fun A=>Zcz pg Zjh A (.slice a3 n3 c3 e3) (.slice (C.length,0) 1 1 true) fun A B=>xSl A fun A D E F=>J7 Q R3 x9 x8 a7 n7 c7 e7 x0 A D E F B) (J7 Q R3 x9 x8 a7 n7 c7 e7 x0 a3 n3 c3 e3 C))) (Zsz Q a3 n3 c3 e3 h)
theorem Zoo (Q:QT) (R3:T3) (x0:List Nat) (a3:Pt) (n3 c3:Nat) (e3:Bool) (a7:Pt) (n7 c7:Nat) (e7:Bool) (x8 x9:Int) (h:Zaa) (ht:L3t Q R3 x0 a3 n3 c3 e3 a7 n7 c7 e7 x8 x9 h):Den pg fn.ntmps (C [1,1,0,1,0,0]) [(0,.str x0),(3,.slice a3 n3 c3 e3),(7,.slice a7 n7 c7 e7),(8,.int .i64 x8),(9,.int .i64 x9)] h (K3 Q R3):=
 Zbf (kp:=kp) (cast (by kernel_rfl) ht)
theorem L3ind (Q:QT) (x0:List Nat) (a7:Pt) (n7 c7:Nat) (e7:Bool) (x8:Int) {G:Type} (J:G→Pt→Nat→Nat→Bool→Int→Zaa→Prop) (m:G→Nat)
 (hr:∀ (g:G) (a3:Pt) (n3 c3:Nat) (e3:Bool) (x9:Int) (h:Zaa),J g a3 n3 c3 e3 x9 h→∀ (R3:T3),(∀ g' (a3:Pt) (n3 c3:Nat) (e3:Bool) (x9:Int) (h:Zaa),m g' < m g→J g' a3 n3 c3 e3 x9 h→R3 x0 a3 n3 c3 e3 a7 n7 c7 e7 x8 x9 h)→L3t Q R3 x0 a3 n3 c3 e3 a7 n7 c7 e7 x8 x9 h)
 (g:G) (a3:Pt) (n3 c3:Nat) (e3:Bool) (x9:Int) (h:Zaa) (hj:J g a3 n3 c3 e3 x9 h):L3 Q x0 a3 n3 c3 e3 a7 n7 c7 e7 x8 x9 h:=by
 let P:=fun (K:Pt→Nat→Nat→Bool→Int→Zaa→Prop) x0' a3 n3 c3 e3 a7' n7' c7' e7' x8' x9 h=>x0=x0'∧a7=a7'∧n7=n7'∧c7=c7'∧e7=e7'∧x8=x8'∧K a3 n3 c3 e3 x9 h
 refine Zfb.inv2 (fun g=>E3 (P (J g))) (fun g=>E3 (P fun a3 n3 c3 e3 x9 h=>∃ g',m g' < m g∧J g' a3 n3 c3 e3 x9 h)) m ?_ ?_ g ⟨rfl,rfl,rfl,rfl,rfl,rfl,hj⟩
 ·intro g env h hi
  obtain ⟨x0',a3,n3,c3,e3,a7',n7',c7',e7',x8',x9,rfl,rfl,rfl,rfl,rfl,rfl,rfl,hj⟩:=Zfy hi
  exact Zoo Q _ x0 a3 n3 c3 e3 a7 n7 c7 e7 x8 x9 h (hr g a3 n3 c3 e3 x9 h hj (P fun a3 n3 c3 e3 x9 h=>∃ g',m g' < m g∧J g' a3 n3 c3 e3 x9 h) fun g' a3 n3 c3 e3 x9 h hlt hj=>⟨rfl,rfl,rfl,rfl,rfl,rfl,g',hlt,hj⟩)
 ·intro g env h hi
  obtain ⟨x0',a3,n3,c3,e3,a7',n7',c7',e7',x8',x9,rfl,rfl,rfl,rfl,rfl,rfl,rfl,g',hlt,hj⟩:=Zfy hi
  exact ⟨g',hlt,rfl,rfl,rfl,rfl,rfl,rfl,hj⟩
theorem J7i (Q:QT) (R3:T3) (x9 x8:Int) (a7:Pt) (n7 c7:Nat) (e7:Bool) (x0:List Nat) (a3:Pt) (n3 c3:Nat) (e3:Bool) (h:Zaa) (ht :
 R3 x0 a3 n3 c3 e3 a7 n7 c7 e7 x8 (IntKind.wrap .i64 (x9 + 1)) h):J7 Q R3 x9 x8 a7 n7 c7 e7 x0 a3 n3 c3 e3 h:=
 Zbf (kp:=kp) (cast (by kernel_rfl) ht)
theorem A3x0i (Q:QT) (a3:Pt) (n3 c3:Nat) (e3:Bool) (h:Zaa) (ht :
 Q (.slice a3 n3 c3 e3) h):Zsz Q a3 n3 c3 e3 h:=
 At.mk (cast (by kernel_rfl) ht)
theorem call (x0:List Nat) (h:Zaa) (Q:QT) (ht :
 Zco (h ++ [.cells Zbg [] false]) fun A=>Zco (A ++ [.cells Zbg [.str [88],.str [89],.str [90],.str [120],.str [121],.str [122]] false]) fun B=>L3 Q x0 (h.length,0) 0 0 true (A.length,0) 6 6 true (((6:Nat):Int)) 0 B):Zah pg Zph [.str x0] h Q:=
 Zah.of_body kp (c:=cod fn) (fn:=fn) Go.Proofs.Tryz.func116 (by kernel_rfl) (by kernel_rfl) (Nat.le_of_ble_eq_true (by kernel_rfl))
  (cast (by kernel_rfl) ht)
end Zjc
namespace Ztk
noncomputable abbrev fn:Func:=Go.Proofs.Tryz.f68
def kp:Zcu:=[]
noncomputable def C (p:List Nat):Code:=(cod fn).sub p
def KR (Q:QT):KT:=Zfi pg fn.results.toList Q
theorem call (x0:List Nat) (h:Zaa) (Q:QT) (ht :
 Zah pg Zek [.str x0] h fun A B=>
 Zbr A fun A=>bcase (!A) (Q (.str []) B) (Zah pg Zph [.str x0] B fun A B=>
 xSl A fun A C D E=>Zah pg Znq [.slice A C D E,.str []] B fun A B=>
 Zbn A fun A=>Q (.str A) B)):Zah pg Zpl [.str x0] h Q:=
 Zah.of_body kp (c:=cod fn) (fn:=fn) Go.Proofs.Tryz.func68 (by kernel_rfl) (by kernel_rfl) (Nat.le_of_ble_eq_true (by kernel_rfl))
  (cast (by kernel_rfl) ht)
end Ztk
namespace Zqq
noncomputable abbrev fn:Func:=Go.Proofs.Tryz.f30
def kp:Zcu:=[]
noncomputable def C (p:List Nat):Code:=(cod fn).sub p
def KR (Q:QT):KT:=Zfi pg fn.results.toList Q
theorem call (x0:List Nat) (h:Zaa) (Q:QT) (ht :
 Zah pg Zek [.str x0] h fun A B=>
 Zbr A fun A=>bcase A (Zah pg Zpl [.str x0] B fun A C=>
 Zbn A fun A=>Q (.bool (decide (A=[]))) C) (Q (.bool false) B)):Zah pg Zmr [.str x0] h Q:=
 Zah.of_body kp (c:=cod fn) (fn:=fn) Go.Proofs.Tryz.func30 (by kernel_rfl) (by kernel_rfl) (Nat.le_of_ble_eq_true (by kernel_rfl))
  (cast (by kernel_rfl) ht)
end Zqq
end Go.Sim

set_option maxRecDepth 100000
set_option maxHeartbeats 0
set_option linter.unusedVariables false
namespace Go.Sim
open Go Go.RowKit
namespace Zhp
noncomputable abbrev fn:Func:=Go.Proofs.Tryz.f85
def kp:Zcu:=[(4000004,[3,0,4]),(3000006,[6,4]),(1000006,[0,4,6,33,34,35]),(2000008,[35,34,33,6,0,4])]
noncomputable def C (p:List Nat):Code:=(cod fn).sub p
def KR (Q:QT):KT:=Zfi pg fn.results.toList Q
abbrev T6:=Pt→Nat→Nat→Nat→Nat→Pt→Nat→Nat→Bool→Int→Int→Zaa→Prop
def E6 (R6:T6) (env:Env) (h:Zaa):Prop:=Zci 0 env fun v env=>Zfc v fun a0=>Zci 4 env fun v env=>Zfc v fun a=>Zbi a fun i4 o4=>Zci 6 env fun v env=>Zfc v fun a=>Zbi a fun i6 o6=>Zci 33 env fun v env=>xSl v fun a33 n33 c33 e33=>Zci 34 env fun v env=>Zez .i64 v fun x34=>Zci 35 env fun v env=>Zez .i64 v fun x35=>Zky env (R6 a0 i4 o4 i6 o6 a33 n33 c33 e33 x34 x35 h)
theorem Znc {R6:T6} {env:Env} {h:Zaa} (hi:E6 R6 env h):∃ a0,∃ i4,∃ o4,∃ i6,∃ o6,∃ a33,∃ n33,∃ c33,∃ e33,∃ x34,∃ x35,env=[(0,.ptr a0),(4,.ptr (i4,o4)),(6,.ptr (i6,o6)),(33,.slice a33 n33 c33 e33),(34,.int .i64 x34),(35,.int .i64 x35)]∧R6 a0 i4 o4 i6 o6 a33 n33 c33 e33 x34 x35 h:=by
 unfold E6 at hi
 have hi0:=hi
 clear hi
 obtain ⟨_,_,rfl,hi1⟩:=Zal hi0
 obtain ⟨a0,rfl,hi2⟩:=Zbo hi1
 obtain ⟨_,_,rfl,hi3⟩:=Zal hi2
 obtain ⟨a,rfl,hi4⟩:=Zbo hi3
 obtain ⟨i4,o4,rfl,hi5⟩:=Zbp hi4
 obtain ⟨_,_,rfl,hi6⟩:=Zal hi5
 obtain ⟨a,rfl,hi7⟩:=Zbo hi6
 obtain ⟨i6,o6,rfl,hi8⟩:=Zbp hi7
 obtain ⟨_,_,rfl,hi9⟩:=Zal hi8
 obtain ⟨a33,n33,c33,e33,rfl,hi10⟩:=Zcp hi9
 obtain ⟨_,_,rfl,hi11⟩:=Zal hi10
 obtain ⟨x34,rfl,hi12⟩:=Zaz hi11
 obtain ⟨_,_,rfl,hi13⟩:=Zal hi12
 obtain ⟨x35,rfl,hi14⟩:=Zaz hi13
 obtain ⟨rfl,hi15⟩:=Zca hi14
 have hi:=hi15
 exact ⟨a0,i4,o4,i6,o6,a33,n33,c33,e33,x34,x35,rfl,hi⟩
def K0 (Q:QT):KT:=andThen (fun env' h'=>(match kp.find 4000010 with | some ks=>Den pg fn.ntmps (C [1,1,1,1]) (env'.keep ks) h' (KR Q) | none=>den pg fn.ntmps kp (C [1,1,1,1]) env' h' (KR Q))) (KR Q)
def K1 (Q:QT):KT:=Zdg 0 (K0 Q)
def K2 (Q:QT):KT:=left kp 6 (K1 Q)
def K3 (Q:QT) (R6:T6):KT:=rnd ((kp.find 1000006).getD []) (E6 R6) (K2 Q)
def J4 (Q:QT) (i3 o3:Nat) (a0:Pt) (i4 o4:Nat) (h:Zaa):Prop:=Den pg fn.ntmps (C [1,1]) [(3,.ptr (i3,o3)),(0,.ptr a0),(4,.ptr (i4,o4))] h (KR Q)
def L6 (Q:QT) (a0:Pt) (i4 o4 i6 o6:Nat) (a33:Pt) (n33 c33:Nat) (e33:Bool) (x34 x35:Int) (h:Zaa):Prop:=Zfb (Den pg fn.ntmps (C [1,1,1,0,1,0,0])) ((kp.find 1000006).getD []) (K2 Q) [(0,.ptr a0),(4,.ptr (i4,o4)),(6,.ptr (i6,o6)),(33,.slice a33 n33 c33 e33),(34,.int .i64 x34),(35,.int .i64 x35)] h
def Ygl (Q:QT) (i6 o6 i4 o4:Nat) (h:Zaa):Prop:=At (K1 Q) (.exit 0) [(6,.ptr (i6,o6)),(4,.ptr (i4,o4))] h
theorem J4i (Q:QT) (i3 o3:Nat) (a0:Pt) (i4 o4:Nat) (h:Zaa) (ht :
 Zck .u8 (Zai h (.ptr (i3,o3 + 0))) fun A=>Zco (h ++ [.cells Zab [] false]) fun B=>Zco (B ++ [.cells Zab [.int .u8 0,.slice none 0 0 true] false]) fun C=>Zbx (Zbb C (.ptr (B.length,0)) [.int .u8 A,.slice (h.length,0) 0 0 true]) fun A=>xSl (Zai A (.ptr (i3,o3 + 1))) fun C D E F=>L6 Q a0 i4 o4 B.length 0 C D E F (((D:Nat):Int)) 0 A):J4 Q i3 o3 a0 i4 o4 h:=
 Zbf (kp:=kp) (cast (by kernel_rfl) ht)
def L6t (Q:QT) (R6:T6) (a0:Pt) (i4 o4 i6 o6:Nat) (a33:Pt) (n33 c33:Nat) (e33:Bool) (x34 x35:Int) (h:Zaa):Prop:=
 bcase (decide ((x35:Int) < x34)) ((0≤(x35:Int)∧(x35:Int) < (n33:Nat))∧(Zbi a33 fun A B=>Zcb (Zan h (.ptr (A,B + (Int.toNat x35) * 2)) 2) fun A=>Zag A fun A B=>Zck .u8 A fun A=>Zag B fun B C=>xSl B fun B D E F=>Zbu C (Zco (h ++ [.cells Zab [.int .u8 0,.slice none 0 0 true] false]) fun C=>Zbx (Zbb C (.ptr (h.length,0)) [.int .u8 A,.slice B D E F]) fun A=>xSl (Zai A (.ptr (i6,o6 + 1))) fun B C D E=>Zcb (Zan A (.ptr (h.length,0)) 2) fun F=>Zag F fun F G=>Zck .u8 F fun F=>Zag G fun G H=>xSl G fun G I J K=>Zbu H ((Zai A (.ptr (i6,o6 + 1))=Zai A (.ptr (i6,o6 + 1)))∧Zah pg Znn [.ptr a0,.agg [.int .u8 F,.slice G I J K]] A fun F G=>
 Zmv F fun F=>Zag F fun F H=>Zck .u8 F fun F=>Zag H fun H I=>xSl H fun H J K L=>Zbu I ((Zai G (.ptr (i6,o6 + 1))=Zai A (.ptr (i6,o6 + 1)))∧Zco (G ++ [.cells Zab [.int .u8 F,.slice H J K L] false]) fun A=>(Zai A (.ptr (i6,o6 + 1))=Zai G (.ptr (i6,o6 + 1)))∧Zcz pg Zgh A (.slice B C D E) (.slice (G.length,0) 1 1 true) fun A B=>xSl A fun A C D E=>Zbx (Zbb B (.ptr (i6,o6 + 1)) [.slice A C D E]) fun A=>R6 a0 i4 o4 i6 o6 a33 n33 c33 e33 x34 (IntKind.wrap .i64 (x35 + 1)) A))))) (Ygl Q i6 o6 i4 o4 h)
theorem Ybc (Q:QT) (R6:T6) (a0:Pt) (i4 o4 i6 o6:Nat) (a33:Pt) (n33 c33:Nat) (e33:Bool) (x34 x35:Int) (h:Zaa) (ht:L6t Q R6 a0 i4 o4 i6 o6 a33 n33 c33 e33 x34 x35 h):Den pg fn.ntmps (C [1,1,1,0,1,0,0]) [(0,.ptr a0),(4,.ptr (i4,o4)),(6,.ptr (i6,o6)),(33,.slice a33 n33 c33 e33),(34,.int .i64 x34),(35,.int .i64 x35)] h (K3 Q R6):=
 Zbf (kp:=kp) (cast (by kernel_rfl) ht)
theorem L6ind (Q:QT) (a0:Pt) (i4 o4 i6 o6:Nat) (a33:Pt) (n33 c33:Nat) (e33:Bool) (x34:Int) {G:Type} (J:G→Int→Zaa→Prop) (m:G→Nat)
 (hr:∀ (g:G) (x35:Int) (h:Zaa),J g x35 h→∀ (R6:T6),(∀ g' (x35:Int) (h:Zaa),m g' < m g→J g' x35 h→R6 a0 i4 o4 i6 o6 a33 n33 c33 e33 x34 x35 h)→L6t Q R6 a0 i4 o4 i6 o6 a33 n33 c33 e33 x34 x35 h)
 (g:G) (x35:Int) (h:Zaa) (hj:J g x35 h):L6 Q a0 i4 o4 i6 o6 a33 n33 c33 e33 x34 x35 h:=by
 let P:=fun (K:Int→Zaa→Prop) a0' i4' o4' i6' o6' a33' n33' c33' e33' x34' x35 h=>a0=a0'∧i4=i4'∧o4=o4'∧i6=i6'∧o6=o6'∧a33=a33'∧n33=n33'∧c33=c33'∧e33=e33'∧x34=x34'∧K x35 h
 refine Zfb.inv2 (fun g=>E6 (P (J g))) (fun g=>E6 (P fun x35 h=>∃ g',m g' < m g∧J g' x35 h)) m ?_ ?_ g ⟨rfl,rfl,rfl,rfl,rfl,rfl,rfl,rfl,rfl,rfl,hj⟩
 ·intro g env h hi
  obtain ⟨a0',i4',o4',i6',o6',a33',n33',c33',e33',x34',x35,rfl,rfl,rfl,rfl,rfl,rfl,rfl,rfl,rfl,rfl,rfl,hj⟩:=Znc hi
  exact Ybc Q _ a0 i4 o4 i6 o6 a33 n33 c33 e33 x34 x35 h (hr g x35 h hj (P fun x35 h=>∃ g',m g' < m g∧J g' x35 h) fun g' x35 h hlt hj=>⟨rfl,rfl,rfl,rfl,rfl,rfl,rfl,rfl,rfl,rfl,g',hlt,hj⟩)
 ·intro g env h hi
  obtain ⟨a0',i4',o4',i6',o6',a33',n33',c33',e33',x34',x35,rfl,rfl,rfl,rfl,rfl,rfl,rfl,rfl,rfl,rfl,rfl,g',hlt,hj⟩:=Znc hi
  exact ⟨g',hlt,rfl,rfl,rfl,rfl,rfl,rfl,rfl,rfl,rfl,rfl,hj⟩
theorem A6x0i (Q:QT) (i6 o6 i4 o4:Nat) (h:Zaa) (ht :
 Zcb (Zan h (.ptr (i6,o6)) 2) fun A=>Zag A fun A B=>Zck .u8 A fun A=>Zag B fun B C=>xSl B fun B D E F=>Zbu C (Zbx (Zbb h (.ptr (i4,o4)) [.int .u8 A,.slice B D E F]) fun A=>Zcb (Zan A (.ptr (i4,o4)) 2) fun B=>Zag B fun B C=>Zck .u8 B fun B=>Zag C fun C D=>xSl C fun C E F G=>Zbu D (Q (.agg [.int .u8 B,.slice C E F G]) A))):Ygl Q i6 o6 i4 o4 h:=
 At.mk (cast (by kernel_rfl) ht)
theorem call (a0:Pt) (x1x0:Int) (a1x1:Pt) (n1x1 c1x1:Nat) (e1x1:Bool) (h:Zaa) (Q:QT) (ht :
 Zco (h ++ [.cells Zab [.int .u8 x1x0,.slice a1x1 n1x1 c1x1 e1x1] false]) fun A=>Zco (A ++ [.cells Zab [.int .u8 0,.slice none 0 0 true] false]) fun B=>Zck .u8 (Zai B (.ptr (h.length,0 + 0))) fun C=>Zah pg Zfa [.int .u8 C] B fun B C=>
 Zck .i64 B fun B=>bcase (decide ((B:Int) ≥ 0)) (Zbi a0 fun D E=>(0≤(B:Int)∧(B:Int) < (12:Nat))∧(Zck .u8 (Zai C (.ptr (D,E + (Int.toNat B) * 2 + 0))) fun D=>bcase (!((D:Int) == 0)) (Zbi a0 fun D E=>(0≤(B:Int)∧(B:Int) < (12:Nat))∧(Zcb (Zan C (.ptr (D,E + (Int.toNat B) * 2)) 2) fun B=>Zag B fun B D=>Zck .u8 B fun B=>Zag D fun D E=>xSl D fun D F G H=>Zbu E (Zbx (Zbb C (.ptr (A.length,0)) [.int .u8 B,.slice D F G H]) fun B=>Zcb (Zan B (.ptr (A.length,0)) 2) fun D=>Zag D fun D E=>Zck .u8 D fun D=>Zag E fun E F=>xSl E fun E G H I=>Zbu F (Q (.agg [.int .u8 D,.slice E G H I]) B)))) (J4 Q h.length 0 a0 A.length 0 C))) (J4 Q h.length 0 a0 A.length 0 C)):Zah pg Znn [.ptr a0,.agg [.int .u8 x1x0,.slice a1x1 n1x1 c1x1 e1x1]] h Q:=
 Zah.of_body kp (c:=cod fn) (fn:=fn) Go.Proofs.Tryz.func85 (by kernel_rfl) (by kernel_rfl) (Nat.le_of_ble_eq_true (by kernel_rfl))
  (cast (by kernel_rfl) ht)
end Zhp
end Go.Sim

set_option maxRecDepth 100000
set_option maxHeartbeats 0
set_option linter.unusedVariables false
namespace Go.Sim
open Go Go.RowKit
end Go.Sim

set_option maxRecDepth 100000
set_option maxHeartbeats 0
set_option linter.unusedVariables false
namespace Go.Sim
open Go Go.RowKit
end Go.Sim
