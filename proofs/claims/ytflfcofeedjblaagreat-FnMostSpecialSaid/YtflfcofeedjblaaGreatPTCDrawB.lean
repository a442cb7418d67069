/- A part of the proof of a statement of this seat: see the text that holds the theorem. No condition. -/
import Derived.Test.YtflfcofeedjblaaGreatNm
set_option linter.unusedVariables false
set_option linter.unusedSimpArgs false
set_option linter.all false
set_option maxRecDepth 100000
set_option maxHeartbeats 0
set_option linter.unusedVariables false
namespace Go.Sim
open Go Go.RowKit
namespace Zlf
noncomputable abbrev fn:Func:=Go.Proofs.Tryz.f89
def kp:Zcj:=[(2000001,[4])]
noncomputable def C (p:List Nat):Code:=(cod fn).sub p
def KR (Q:QT):KT:=Zfb pg fn.results.toList Q
theorem call (x0:Int) (v1 v2:Zau) (h:Zaa) (Q:QT) (ht :
 Zhf pg Zab v1 1 fun A=>Zhf pg Zab v1 1 fun B=>xSl (Zag h (A)) fun C D E E=>Zdo .i64 (Zag h (v2)) fun E=>(0≤(E:Int)∧(E:Int) < (D:Nat))∧(Zbm C fun C D=>Zco (Zbj h (.ptr (C,D + (Int.toNat E) * 3)) 3) fun F=>Zaj F fun F G=>Zbg F fun F=>Zaj G fun G H=>Zbg G fun G=>Zaj H fun H I=>xSl H fun H J K L=>Zbv I (xSl (Zag h (B)) fun B I M M=>(Zbj h (.ptr (C,D + (Int.toNat E) * 3)) 3=Zbj h (.ptr (C,D + (Int.toNat E) * 3)) 3)∧(Zag h (v2)=Zag h (v2))∧(Zag h (A)=Zag h (A))∧(0≤(x0:Int)∧(x0:Int) < (I:Nat))∧(Zbm B fun B I=>Zco (Zbj h (.ptr (B,I + (Int.toNat x0) * 3)) 3) fun B=>Zaj B fun B I=>Zbg B fun B=>Zaj I fun I M=>Zbg I fun I=>Zaj M fun M N=>xSl M fun M O P R=>Zbv N ((Zbj h (.ptr (C,D + (Int.toNat E) * 3)) 3=Zbj h (.ptr (C,D + (Int.toNat E) * 3)) 3)∧(Zag h (v2)=Zag h (v2))∧(Zag h (A)=Zag h (A))∧Zah pg Zlx [.agg [.str F,.str G,.slice H J K L],.agg [.str B,.str I,.slice M O P R]] h fun B C=>
 Zbx B fun B=>(Zag C (v2)=Zag h (v2))∧(Zag C (A)=Zag h (A))∧Q (.bool (!B)) C))))):Zah pg Zch [.int .i64 x0,v1,v2] h Q:=
 Zah.of_body kp (c:=cod fn) (fn:=fn) Go.Proofs.Tryz.func89 (by kernel_rfl) (by kernel_rfl) (Nat.le_of_ble_eq_true (by kernel_rfl))
  (cast (by kernel_rfl) ht)
end Zlf
namespace Zcb
noncomputable abbrev fn:Func:=Go.Proofs.Tryz.f116
def kp:Zcj:=[(3000002,[4]),(1000002,[0,1,7,8])]
noncomputable def C (p:List Nat):Code:=(cod fn).sub p
def KR (Q:QT):KT:=Zfb pg fn.results.toList Q
abbrev T2:=Pt→Nat→Nat→Bool→Zau→Zau→Int→Int→Zaa→Prop
def E2 (R2:T2) (env:Env) (h:Zaa):Prop:=Zbw 0 env fun v env=>xSl v fun a0 n0 c0 e0=>Zbw 1 env fun v env=>eFn Zch v fun cs=>Zaj cs fun c cs'=>Yaw c fun v1x0=>Zaj cs' fun c cs''=>Yaw c fun v1x1=>Zbv cs'' (Zbw 7 env fun v env=>Zee .i64 v fun x7=>Zbw 8 env fun v env=>Zee .i64 v fun x8=>Zkh env (R2 a0 n0 c0 e0 v1x0 v1x1 x7 x8 h))
theorem Zek {R2:T2} {env:Env} {h:Zaa} (hi:E2 R2 env h):∃ a0,∃ n0,∃ c0,∃ e0,∃ v1x0,∃ v1x1,∃ x7,∃ x8,env=[(0,.slice a0 n0 c0 e0),(1,.fn Zch [v1x0,v1x1]),(7,.int .i64 x7),(8,.int .i64 x8)]∧R2 a0 n0 c0 e0 v1x0 v1x1 x7 x8 h:=by
 unfold E2 at hi
 have hi0:=hi
 clear hi
 obtain ⟨_,_,rfl,hi1⟩:=Zak hi0
 obtain ⟨a0,n0,c0,e0,rfl,hi2⟩:=Zby hi1
 obtain ⟨_,_,rfl,hi3⟩:=Zak hi2
 obtain ⟨cs,rfl,hi4⟩:=Zux hi3
 obtain ⟨c,cs',rfl,hi5⟩:=Zph hi4
 obtain ⟨v1x0,hx,hi6⟩:=Zlz hi5
 replace hx:=(Option.some.inj hx).symm
 subst hx
 obtain ⟨c,cs'',rfl,hi7⟩:=Zph hi6
 obtain ⟨v1x1,hx,hi8⟩:=Zlz hi7
 replace hx:=(Option.some.inj hx).symm
 subst hx
 obtain ⟨rfl,hi9⟩:=Zsi hi8
 obtain ⟨_,_,rfl,hi10⟩:=Zak hi9
 obtain ⟨x7,rfl,hi11⟩:=Zax hi10
 obtain ⟨_,_,rfl,hi12⟩:=Zak hi11
 obtain ⟨x8,rfl,hi13⟩:=Zax hi12
 obtain ⟨rfl,hi14⟩:=Zbp hi13
 have hi:=hi14
 exact ⟨a0,n0,c0,e0,v1x0,v1x1,x7,x8,rfl,hi⟩
def K0 (Q:QT):KT:=andThen (fun env' h'=>(match kp.find 4000007 with | some ks=>Den pg fn.ntmps (C [1,1]) (env'.keep ks) h' (KR Q) | none=>den pg fn.ntmps kp (C [1,1]) env' h' (KR Q))) (KR Q)
def K1 (Q:QT):KT:=Zcs 0 (K0 Q)
def K2 (Q:QT):KT:=left kp 2 (K1 Q)
def K3 (Q:QT) (R2:T2):KT:=rnd ((kp.find 1000002).getD []) (E2 R2) (K2 Q)
def L2 (Q:QT) (a0:Pt) (n0 c0:Nat) (e0:Bool) (v1x0 v1x1:Zau) (x7 x8:Int) (h:Zaa):Prop:=Zet (Den pg fn.ntmps (C [1,0,1,0,0])) ((kp.find 1000002).getD []) (K2 Q) [(0,.slice a0 n0 c0 e0),(1,.fn Zch [v1x0,v1x1]),(7,.int .i64 x7),(8,.int .i64 x8)] h
def Zom (Q:QT) (h:Zaa):Prop:=At (K1 Q) (.exit 0) [(4,.undef)] h
def L2t (Q:QT) (R2:T2) (a0:Pt) (n0 c0:Nat) (e0:Bool) (v1x0 v1x1:Zau) (x7 x8:Int) (h:Zaa):Prop:=
 bcase (decide ((x8:Int) < x7)) ((0≤(x8:Int)∧(x8:Int) < (n0:Nat))∧(Zbm a0 fun A B=>Zdo .i64 (Zag h (.ptr (A,B + (Int.toNat x8) * 1))) fun A=>Zah pg Zch [.int .i64 A,v1x0,v1x1] h fun A B=>
 Zbx A fun A=>bcase A (Q (.int .i64 x8) B) (R2 a0 n0 c0 e0 v1x0 v1x1 x7 (IntKind.wrap .i64 (x8 + 1)) B))) (Zom Q h)
theorem Zld (Q:QT) (R2:T2) (a0:Pt) (n0 c0:Nat) (e0:Bool) (v1x0 v1x1:Zau) (x7 x8:Int) (h:Zaa) (ht:L2t Q R2 a0 n0 c0 e0 v1x0 v1x1 x7 x8 h):Den pg fn.ntmps (C [1,0,1,0,0]) [(0,.slice a0 n0 c0 e0),(1,.fn Zch [v1x0,v1x1]),(7,.int .i64 x7),(8,.int .i64 x8)] h (K3 Q R2):=
 Zba (kp:=kp) (cast (by kernel_rfl) ht)
theorem L2ind (Q:QT) (a0:Pt) (n0 c0:Nat) (e0:Bool) (v1x0 v1x1:Zau) (x7:Int) {G:Type} (J:G→Int→Zaa→Prop) (m:G→Nat)
 (hr:∀ (g:G) (x8:Int) (h:Zaa),J g x8 h→∀ (R2:T2),(∀ g' (x8:Int) (h:Zaa),m g' < m g→J g' x8 h→R2 a0 n0 c0 e0 v1x0 v1x1 x7 x8 h)→L2t Q R2 a0 n0 c0 e0 v1x0 v1x1 x7 x8 h)
 (g:G) (x8:Int) (h:Zaa) (hj:J g x8 h):L2 Q a0 n0 c0 e0 v1x0 v1x1 x7 x8 h:=by
 let P:=fun (K:Int→Zaa→Prop) a0' n0' c0' e0' v1x0' v1x1' x7' x8 h=>a0=a0'∧n0=n0'∧c0=c0'∧e0=e0'∧v1x0=v1x0'∧v1x1=v1x1'∧x7=x7'∧K x8 h
 refine Zet.inv2 (fun g=>E2 (P (J g))) (fun g=>E2 (P fun x8 h=>∃ g',m g' < m g∧J g' x8 h)) m ?_ ?_ g ⟨rfl,rfl,rfl,rfl,rfl,rfl,rfl,hj⟩
 ·intro g env h hi
  obtain ⟨a0',n0',c0',e0',v1x0',v1x1',x7',x8,rfl,rfl,rfl,rfl,rfl,rfl,rfl,rfl,hj⟩:=Zek hi
  exact Zld Q _ a0 n0 c0 e0 v1x0 v1x1 x7 x8 h (hr g x8 h hj (P fun x8 h=>∃ g',m g' < m g∧J g' x8 h) fun g' x8 h hlt hj=>⟨rfl,rfl,rfl,rfl,rfl,rfl,rfl,g',hlt,hj⟩)
 ·intro g env h hi
  obtain ⟨a0',n0',c0',e0',v1x0',v1x1',x7',x8,rfl,rfl,rfl,rfl,rfl,rfl,rfl,rfl,g',hlt,hj⟩:=Zek hi
  exact ⟨g',hlt,rfl,rfl,rfl,rfl,rfl,rfl,rfl,hj⟩
theorem A2x0i (Q:QT) (h:Zaa) (ht :
 Q (.int .i64 (-1)) h):Zom Q h:=
 At.mk (cast (by kernel_rfl) ht)
theorem call (a0:Pt) (n0 c0:Nat) (e0:Bool) (v1x0 v1x1:Zau) (h:Zaa) (Q:QT) (ht :
 L2 Q a0 n0 c0 e0 v1x0 v1x1 (((n0:Nat):Int)) 0 h):Zah pg Zfx [.slice a0 n0 c0 e0,.fn Zch [v1x0,v1x1]] h Q:=
 Zah.of_body kp (c:=cod fn) (fn:=fn) Go.Proofs.Tryz.func116 (by kernel_rfl) (by kernel_rfl) (Nat.le_of_ble_eq_true (by kernel_rfl))
  (cast (by kernel_rfl) ht)
end Zcb
namespace Zgd
noncomputable abbrev fn:Func:=Go.Proofs.Tryz.f52
def kp:Zcj:=[(3000002,[4]),(1000002,[1,2,7,8,9])]
noncomputable def C (p:List Nat):Code:=(cod fn).sub p
def KR (Q:QT):KT:=Zfb pg fn.results.toList Q
abbrev T2:=Pt→Nat→Nat→Bool→Nat→Nat→Pt→Nat→Nat→Bool→Int→Int→Zaa→Prop
def E2 (R2:T2) (env:Env) (h:Zaa):Prop:=Zbw 1 env fun v env=>xSl v fun a1 n1 c1 e1=>Zbw 2 env fun v env=>Zhh v fun a=>Zbm a fun i2 o2=>Zbw 7 env fun v env=>xSl v fun a7 n7 c7 e7=>Zbw 8 env fun v env=>Zee .i64 v fun x8=>Zbw 9 env fun v env=>Zee .i64 v fun x9=>Zkh env (R2 a1 n1 c1 e1 i2 o2 a7 n7 c7 e7 x8 x9 h)
theorem Zek {R2:T2} {env:Env} {h:Zaa} (hi:E2 R2 env h):∃ a1,∃ n1,∃ c1,∃ e1,∃ i2,∃ o2,∃ a7,∃ n7,∃ c7,∃ e7,∃ x8,∃ x9,env=[(1,.slice a1 n1 c1 e1),(2,.ptr (i2,o2)),(7,.slice a7 n7 c7 e7),(8,.int .i64 x8),(9,.int .i64 x9)]∧R2 a1 n1 c1 e1 i2 o2 a7 n7 c7 e7 x8 x9 h:=by
 unfold E2 at hi
 have hi0:=hi
 clear hi
 obtain ⟨_,_,rfl,hi1⟩:=Zak hi0
 obtain ⟨a1,n1,c1,e1,rfl,hi2⟩:=Zby hi1
 obtain ⟨_,_,rfl,hi3⟩:=Zak hi2
 obtain ⟨a,rfl,hi4⟩:=Zbt hi3
 obtain ⟨i2,o2,rfl,hi5⟩:=Zbn hi4
 obtain ⟨_,_,rfl,hi6⟩:=Zak hi5
 obtain ⟨a7,n7,c7,e7,rfl,hi7⟩:=Zby hi6
 obtain ⟨_,_,rfl,hi8⟩:=Zak hi7
 obtain ⟨x8,rfl,hi9⟩:=Zax hi8
 obtain ⟨_,_,rfl,hi10⟩:=Zak hi9
 obtain ⟨x9,rfl,hi11⟩:=Zax hi10
 obtain ⟨rfl,hi12⟩:=Zbp hi11
 have hi:=hi12
 exact ⟨a1,n1,c1,e1,i2,o2,a7,n7,c7,e7,x8,x9,rfl,hi⟩
def K0 (Q:QT):KT:=andThen (fun env' h'=>(match kp.find 4000007 with | some ks=>Den pg fn.ntmps (C [1,1]) (env'.keep ks) h' (KR Q) | none=>den pg fn.ntmps kp (C [1,1]) env' h' (KR Q))) (KR Q)
def K1 (Q:QT):KT:=Zcs 0 (K0 Q)
def K2 (Q:QT):KT:=left kp 2 (K1 Q)
def K3 (Q:QT) (R2:T2):KT:=rnd ((kp.find 1000002).getD []) (E2 R2) (K2 Q)
def L2 (Q:QT) (a1:Pt) (n1 c1:Nat) (e1:Bool) (i2 o2:Nat) (a7:Pt) (n7 c7:Nat) (e7:Bool) (x8 x9:Int) (h:Zaa):Prop:=Zet (Den pg fn.ntmps (C [1,0,1,0,0])) ((kp.find 1000002).getD []) (K2 Q) [(1,.slice a1 n1 c1 e1),(2,.ptr (i2,o2)),(7,.slice a7 n7 c7 e7),(8,.int .i64 x8),(9,.int .i64 x9)] h
def Zom (Q:QT) (h:Zaa):Prop:=At (K1 Q) (.exit 0) [(4,.undef)] h
def L2t (Q:QT) (R2:T2) (a1:Pt) (n1 c1:Nat) (e1:Bool) (i2 o2:Nat) (a7:Pt) (n7 c7:Nat) (e7:Bool) (x8 x9:Int) (h:Zaa):Prop:=
 bcase (decide ((x9:Int) < x8)) ((0≤(x9:Int)∧(x9:Int) < (n7:Nat))∧(Zbm a7 fun A B=>Zdo .i64 (Zag h (.ptr (A,B + (Int.toNat x9) * 1))) fun A=>Zck (h ++ [.cells Zfw [.int .i64 0] false]) fun B=>Zbu (Zbb B (.ptr (h.length,0)) [.int .i64 A]) fun A=>Zah pg Zgl [.slice a1 n1 c1 e1,.fn Zch [.ptr (i2,o2),.ptr (h.length,0)]] A fun A B=>
 Zbx A fun A=>bcase (!A) (Zdo .i64 (Zag B (.ptr (h.length,0))) fun A=>Q (.int .i64 A) B) (R2 a1 n1 c1 e1 i2 o2 a7 n7 c7 e7 x8 (IntKind.wrap .i64 (x9 + 1)) B))) (Zom Q h)
theorem Zld (Q:QT) (R2:T2) (a1:Pt) (n1 c1:Nat) (e1:Bool) (i2 o2:Nat) (a7:Pt) (n7 c7:Nat) (e7:Bool) (x8 x9:Int) (h:Zaa) (ht:L2t Q R2 a1 n1 c1 e1 i2 o2 a7 n7 c7 e7 x8 x9 h):Den pg fn.ntmps (C [1,0,1,0,0]) [(1,.slice a1 n1 c1 e1),(2,.ptr (i2,o2)),(7,.slice a7 n7 c7 e7),(8,.int .i64 x8),(9,.int .i64 x9)] h (K3 Q R2):=
 Zba (kp:=kp) (cast (by kernel_rfl) ht)
theorem L2ind (Q:QT) (a1:Pt) (n1 c1:Nat) (e1:Bool) (i2 o2:Nat) (a7:Pt) (n7 c7:Nat) (e7:Bool) (x8:Int) {G:Type} (J:G→Int→Zaa→Prop) (m:G→Nat)
 (hr:∀ (g:G) (x9:Int) (h:Zaa),J g x9 h→∀ (R2:T2),(∀ g' (x9:Int) (h:Zaa),m g' < m g→J g' x9 h→R2 a1 n1 c1 e1 i2 o2 a7 n7 c7 e7 x8 x9 h)→L2t Q R2 a1 n1 c1 e1 i2 o2 a7 n7 c7 e7 x8 x9 h)
 (g:G) (x9:Int) (h:Zaa) (hj:J g x9 h):L2 Q a1 n1 c1 e1 i2 o2 a7 n7 c7 e7 x8 x9 h:=by
 let P:=fun (K:Int→Zaa→Prop) a1' n1' c1' e1' i2' o2' a7' n7' c7' e7' x8' x9 h=>a1=a1'∧n1=n1'∧c1=c1'∧e1=e1'∧i2=i2'∧o2=o2'∧a7=a7'∧n7=n7'∧c7=c7'∧e7=e7'∧x8=x8'∧K x9 h
 refine Zet.inv2 (fun g=>E2 (P (J g))) (fun g=>E2 (P fun x9 h=>∃ g',m g' < m g∧J g' x9 h)) m ?_ ?_ g ⟨rfl,rfl,rfl,rfl,rfl,rfl,rfl,rfl,rfl,rfl,rfl,hj⟩
 ·intro g env h hi
  obtain ⟨a1',n1',c1',e1',i2',o2',a7',n7',c7',e7',x8',x9,rfl,rfl,rfl,rfl,rfl,rfl,rfl,rfl,rfl,rfl,rfl,rfl,hj⟩:=Zek hi
  exact Zld Q _ a1 n1 c1 e1 i2 o2 a7 n7 c7 e7 x8 x9 h (hr g x9 h hj (P fun x9 h=>∃ g',m g' < m g∧J g' x9 h) fun g' x9 h hlt hj=>⟨rfl,rfl,rfl,rfl,rfl,rfl,rfl,rfl,rfl,rfl,rfl,g',hlt,hj⟩)
 ·intro g env h hi
  obtain ⟨a1',n1',c1',e1',i2',o2',a7',n7',c7',e7',x8',x9,rfl,rfl,rfl,rfl,rfl,rfl,rfl,rfl,rfl,rfl,rfl,rfl,g',hlt,hj⟩:=Zek hi
  exact ⟨g',hlt,rfl,rfl,rfl,rfl,rfl,rfl,rfl,rfl,rfl,rfl,rfl,hj⟩
theorem A2x0i (Q:QT) (h:Zaa) (ht :
 Q (.int .i64 (-1)) h):Zom Q h:=
 At.mk (cast (by kernel_rfl) ht)
theorem call (a0x0:Pt) (n0x0 c0x0:Nat) (e0x0:Bool) (a0x1:Pt) (n0x1 c0x1:Nat) (e0x1:Bool) (a1:Pt) (n1 c1:Nat) (e1:Bool) (h:Zaa) (Q:QT) (ht :
 Zck (h ++ [.cells Zab [.slice a0x0 n0x0 c0x0 e0x0,.slice a0x1 n0x1 c0x1 e0x1] false]) fun A=>L2 Q a1 n1 c1 e1 h.length 0 a1 n1 c1 e1 (((n1:Nat):Int)) 0 A):Zah pg Zkw [.agg [.slice a0x0 n0x0 c0x0 e0x0,.slice a0x1 n0x1 c0x1 e0x1],.slice a1 n1 c1 e1] h Q:=
 Zah.of_body kp (c:=cod fn) (fn:=fn) Go.Proofs.Tryz.func52 (by kernel_rfl) (by kernel_rfl) (Nat.le_of_ble_eq_true (by kernel_rfl))
  (cast (by kernel_rfl) ht)
end Zgd
namespace Zdy
noncomputable abbrev fn:Func:=Go.Proofs.Tryz.f88
def kp:Zcj:=[]
noncomputable def C (p:List Nat):Code:=(cod fn).sub p
def KR (Q:QT):KT:=Zfb pg fn.results.toList Q
theorem call (a0:Pt) (n0 c0:Nat) (e0:Bool) (v1x0 v1x1:Zau) (h:Zaa) (Q:QT) (ht :
 Zah pg Zfx [.slice a0 n0 c0 e0,.fn Zch [v1x0,v1x1]] h fun A B=>
 Zdo .i64 A fun A=>Q (.bool (decide ((A:Int) ≥ 0))) B):Zah pg Zgl [.slice a0 n0 c0 e0,.fn Zch [v1x0,v1x1]] h Q:=
 Zah.of_body kp (c:=cod fn) (fn:=fn) Go.Proofs.Tryz.func88 (by kernel_rfl) (by kernel_rfl) (Nat.le_of_ble_eq_true (by kernel_rfl))
  (cast (by kernel_rfl) ht)
end Zdy
namespace Zop
noncomputable abbrev fn:Func:=Go.Proofs.Tryz.f20
def kp:Zcj:=[(2000003,[4])]
noncomputable def C (p:List Nat):Code:=(cod fn).sub p
def KR (Q:QT):KT:=Zfb pg fn.results.toList Q
theorem call (a0x0:Pt) (n0x0 c0x0:Nat) (e0x0:Bool) (a0x1:Pt) (n0x1 c0x1:Nat) (e0x1:Bool) (x1x0 x1x1:List Nat) (h:Zaa) (Q:QT) (ht :
 Zck (h ++ [.cells Zab [.slice a0x0 n0x0 c0x0 e0x0,.slice a0x1 n0x1 c0x1 e0x1] false]) fun A=>Zck (A ++ [.cells Zad [.str x1x0,.str x1x1] false]) fun B=>Zco (Zbj B (.ptr (h.length,0)) 2) fun C=>Zaj C fun C D=>xSl C fun C E F G=>Zaj D fun D H=>xSl D fun D I J K=>Zbv H (Zco (Zbj B (.ptr (A.length,0)) 2) fun H=>Zaj H fun H L=>Zbg H fun H=>Zaj L fun L M=>Zbg L fun L=>Zbv M (Zah pg Zjs [.agg [.slice C E F G,.slice D I J K],.agg [.str H,.str L]] B fun B C=>
 Zbx B fun B=>bcase (!B) (Q (.int .i64 (-1)) C) (Zco (Zbj C (.ptr (h.length,0)) 2) fun B=>Zaj B fun B D=>xSl B fun B E F G=>Zaj D fun D H=>xSl D fun D I J K=>Zbv H (Zco (Zbj C (.ptr (h.length,0)) 2) fun H=>Zaj H fun H L=>xSl H fun H M N O=>Zaj L fun L P=>xSl L fun L R S T=>Zbv P (Zco (Zbj C (.ptr (A.length,0)) 2) fun A=>Zaj A fun A P=>Zbg A fun A=>Zaj P fun P U=>Zbg P fun P=>Zbv U ((Zbj C (.ptr (h.length,0)) 2=Zbj C (.ptr (h.length,0)) 2)∧(Zbj C (.ptr (h.length,0)) 2=Zbj C (.ptr (h.length,0)) 2)∧Zah pg Zij [.agg [.slice H M N O,.slice L R S T],.agg [.str A,.str P]] C fun A H=>
 xSl A fun A L M N=>(Zbj H (.ptr (h.length,0)) 2=Zbj C (.ptr (h.length,0)) 2)∧Zah pg Zkw [.agg [.slice B E F G,.slice D I J K],.slice A L M N] H fun A B=>
 Zdo .i64 A fun A=>(Zbj B (.ptr (h.length,0)) 2=Zbj H (.ptr (h.length,0)) 2)∧Q (.int .i64 A) B))))))):Zah pg Zks [.agg [.slice a0x0 n0x0 c0x0 e0x0,.slice a0x1 n0x1 c0x1 e0x1],.agg [.str x1x0,.str x1x1]] h Q:=
 Zah.of_body kp (c:=cod fn) (fn:=fn) Go.Proofs.Tryz.func20 (by kernel_rfl) (by kernel_rfl) (Nat.le_of_ble_eq_true (by kernel_rfl))
  (cast (by kernel_rfl) ht)
end Zop
namespace Zdr
noncomputable abbrev fn:Func:=Go.Proofs.Tryz.f21
def kp:Zcj:=[(3000003,[4]),(1000003,[2,5,18,19,20]),(3000007,[9,8,20,19,18,5,2]),(1000007,[2,5,8,9,18,19,20,24,25,26]),(4000010,[26,25,24,9,2,8,20,19,18,5])]
noncomputable def C (p:List Nat):Code:=(cod fn).sub p
def KR (Q:QT):KT:=Zfb pg fn.results.toList Q
abbrev T3:=Nat→Nat→Pt→Nat→Nat→Bool→Pt→Nat→Nat→Bool→Int→Int→Zaa→Prop
def E3 (R3:T3) (env:Env) (h:Zaa):Prop:=Zbw 2 env fun v env=>Zhh v fun a=>Zbm a fun i2 o2=>Zbw 5 env fun v env=>xSl v fun a5 n5 c5 e5=>Zbw 18 env fun v env=>xSl v fun a18 n18 c18 e18=>Zbw 19 env fun v env=>Zee .i64 v fun x19=>Zbw 20 env fun v env=>Zee .i64 v fun x20=>Zkh env (R3 i2 o2 a5 n5 c5 e5 a18 n18 c18 e18 x19 x20 h)
theorem Zfy {R3:T3} {env:Env} {h:Zaa} (hi:E3 R3 env h):∃ i2,∃ o2,∃ a5,∃ n5,∃ c5,∃ e5,∃ a18,∃ n18,∃ c18,∃ e18,∃ x19,∃ x20,env=[(2,.ptr (i2,o2)),(5,.slice a5 n5 c5 e5),(18,.slice a18 n18 c18 e18),(19,.int .i64 x19),(20,.int .i64 x20)]∧R3 i2 o2 a5 n5 c5 e5 a18 n18 c18 e18 x19 x20 h:=by
 unfold E3 at hi
 have hi0:=hi
 clear hi
 obtain ⟨_,_,rfl,hi1⟩:=Zak hi0
 obtain ⟨a,rfl,hi2⟩:=Zbt hi1
 obtain ⟨i2,o2,rfl,hi3⟩:=Zbn hi2
 obtain ⟨_,_,rfl,hi4⟩:=Zak hi3
 obtain ⟨a5,n5,c5,e5,rfl,hi5⟩:=Zby hi4
 obtain ⟨_,_,rfl,hi6⟩:=Zak hi5
 obtain ⟨a18,n18,c18,e18,rfl,hi7⟩:=Zby hi6
 obtain ⟨_,_,rfl,hi8⟩:=Zak hi7
 obtain ⟨x19,rfl,hi9⟩:=Zax hi8
 obtain ⟨_,_,rfl,hi10⟩:=Zak hi9
 obtain ⟨x20,rfl,hi11⟩:=Zax hi10
 obtain ⟨rfl,hi12⟩:=Zbp hi11
 have hi:=hi12
 exact ⟨i2,o2,a5,n5,c5,e5,a18,n18,c18,e18,x19,x20,rfl,hi⟩
abbrev T7:=Nat→Nat→Pt→Nat→Nat→Bool→Int→Bool→Pt→Nat→Nat→Bool→Int→Int→Pt→Nat→Nat→Bool→Int→Int→Zaa→Prop
def E7 (R7:T7) (env:Env) (h:Zaa):Prop:=Zbw 2 env fun v env=>Zhh v fun a=>Zbm a fun i2 o2=>Zbw 5 env fun v env=>xSl v fun a5 n5 c5 e5=>Zbw 8 env fun v env=>Zee .i64 v fun x8=>Zbw 9 env fun v env=>Zbx v fun x9=>Zbw 18 env fun v env=>xSl v fun a18 n18 c18 e18=>Zbw 19 env fun v env=>Zee .i64 v fun x19=>Zbw 20 env fun v env=>Zee .i64 v fun x20=>Zbw 24 env fun v env=>xSl v fun a24 n24 c24 e24=>Zbw 25 env fun v env=>Zee .i64 v fun x25=>Zbw 26 env fun v env=>Zee .i64 v fun x26=>Zkh env (R7 i2 o2 a5 n5 c5 e5 x8 x9 a18 n18 c18 e18 x19 x20 a24 n24 c24 e24 x25 x26 h)
theorem Zwg {R7:T7} {env:Env} {h:Zaa} (hi:E7 R7 env h):∃ i2,∃ o2,∃ a5,∃ n5,∃ c5,∃ e5,∃ x8,∃ x9,∃ a18,∃ n18,∃ c18,∃ e18,∃ x19,∃ x20,∃ a24,∃ n24,∃ c24,∃ e24,∃ x25,∃ x26,env=[(2,.ptr (i2,o2)),(5,.slice a5 n5 c5 e5),(8,.int .i64 x8),(9,.bool x9),(18,.slice a18 n18 c18 e18),(19,.int .i64 x19),(20,.int .i64 x20),(24,.slice a24 n24 c24 e24),(25,.int .i64 x25),(26,.int .i64 x26)]∧R7 i2 o2 a5 n5 c5 e5 x8 x9 a18 n18 c18 e18 x19 x20 a24 n24 c24 e24 x25 x26 h:=by
 unfold E7 at hi
 have hi0:=hi
 clear hi
 obtain ⟨_,_,rfl,hi1⟩:=Zak hi0
 obtain ⟨a,rfl,hi2⟩:=Zbt hi1
 obtain ⟨i2,o2,rfl,hi3⟩:=Zbn hi2
 obtain ⟨_,_,rfl,hi4⟩:=Zak hi3
 obtain ⟨a5,n5,c5,e5,rfl,hi5⟩:=Zby hi4
 obtain ⟨_,_,rfl,hi6⟩:=Zak hi5
 obtain ⟨x8,rfl,hi7⟩:=Zax hi6
 obtain ⟨_,_,rfl,hi8⟩:=Zak hi7
 obtain ⟨x9,rfl,hi9⟩:=Zlq hi8
 obtain ⟨_,_,rfl,hi10⟩:=Zak hi9
 obtain ⟨a18,n18,c18,e18,rfl,hi11⟩:=Zby hi10
 obtain ⟨_,_,rfl,hi12⟩:=Zak hi11
 obtain ⟨x19,rfl,hi13⟩:=Zax hi12
 obtain ⟨_,_,rfl,hi14⟩:=Zak hi13
 obtain ⟨x20,rfl,hi15⟩:=Zax hi14
 obtain ⟨_,_,rfl,hi16⟩:=Zak hi15
 obtain ⟨a24,n24,c24,e24,rfl,hi17⟩:=Zby hi16
 obtain ⟨_,_,rfl,hi18⟩:=Zak hi17
 obtain ⟨x25,rfl,hi19⟩:=Zax hi18
 obtain ⟨_,_,rfl,hi20⟩:=Zak hi19
 obtain ⟨x26,rfl,hi21⟩:=Zax hi20
 obtain ⟨rfl,hi22⟩:=Zbp hi21
 have hi:=hi22
 exact ⟨i2,o2,a5,n5,c5,e5,x8,x9,a18,n18,c18,e18,x19,x20,a24,n24,c24,e24,x25,x26,rfl,hi⟩
def K0 (Q:QT):KT:=andThen (fun env' h'=>(match kp.find 4000014 with | some ks=>Den pg fn.ntmps (C [1,1,1]) (env'.keep ks) h' (KR Q) | none=>den pg fn.ntmps kp (C [1,1,1]) env' h' (KR Q))) (KR Q)
def K1 (Q:QT):KT:=Zcs 0 (K0 Q)
def K2 (Q:QT):KT:=left kp 3 (K1 Q)
def K3 (Q:QT) (R3:T3):KT:=rnd ((kp.find 1000003).getD []) (E3 R3) (K2 Q)
def K4 (Q:QT) (R3:T3):KT:=andThen (fun env' h'=>(match kp.find 4000013 with | some ks=>Den pg fn.ntmps (C [1,1,0,1,0,0,1,1,1]) (env'.keep ks) h' (K3 Q R3) | none=>den pg fn.ntmps kp (C [1,1,0,1,0,0,1,1,1]) env' h' (K3 Q R3))) (K3 Q R3)
def K5 (Q:QT) (R3:T3):KT:=Zcs 1 (K4 Q R3)
def K6 (Q:QT) (R3:T3):KT:=andThen (fun env' h'=>(match kp.find 4000011 with | some ks=>Den pg fn.ntmps (C [1,1,0,1,0,0,1,1,0,0,1,1,1]) (env'.keep ks) h' (K5 Q R3) | none=>den pg fn.ntmps kp (C [1,1,0,1,0,0,1,1,0,0,1,1,1]) env' h' (K5 Q R3))) (K5 Q R3)
def K7 (Q:QT) (R3:T3):KT:=Zcs 2 (K6 Q R3)
def K8 (Q:QT) (R3:T3):KT:=left kp 7 (K7 Q R3)
def K9 (Q:QT) (R3:T3) (R7:T7):KT:=rnd ((kp.find 1000007).getD []) (E7 R7) (K8 Q R3)
def L3 (Q:QT) (i2 o2:Nat) (a5:Pt) (n5 c5:Nat) (e5:Bool) (a18:Pt) (n18 c18:Nat) (e18:Bool) (x19 x20:Int) (h:Zaa):Prop:=Zet (Den pg fn.ntmps (C [1,1,0,1,0,0])) ((kp.find 1000003).getD []) (K2 Q) [(2,.ptr (i2,o2)),(5,.slice a5 n5 c5 e5),(18,.slice a18 n18 c18 e18),(19,.int .i64 x19),(20,.int .i64 x20)] h
def L7 (Q:QT) (R3:T3) (i2 o2:Nat) (a5:Pt) (n5 c5:Nat) (e5:Bool) (x8:Int) (x9:Bool) (a18:Pt) (n18 c18:Nat) (e18:Bool) (x19 x20:Int) (a24:Pt) (n24 c24:Nat) (e24:Bool) (x25 x26:Int) (h:Zaa):Prop:=Zet (Den pg fn.ntmps (C [1,1,0,1,0,0,1,1,0,0,1,1,0,1,0,0])) ((kp.find 1000007).getD []) (K8 Q R3) [(2,.ptr (i2,o2)),(5,.slice a5 n5 c5 e5),(8,.int .i64 x8),(9,.bool x9),(18,.slice a18 n18 c18 e18),(19,.int .i64 x19),(20,.int .i64 x20),(24,.slice a24 n24 c24 e24),(25,.int .i64 x25),(26,.int .i64 x26)] h
def Ztb (Q:QT) (h:Zaa):Prop:=At (K1 Q) (.exit 0) [(4,.undef)] h
def J10 (Q:QT) (R3:T3) (R7:T7) (x26 x25:Int) (a24:Pt) (n24 c24:Nat) (e24 x9:Bool) (i2 o2:Nat) (x8 x20 x19:Int) (a18:Pt) (n18 c18:Nat) (e18:Bool) (a5:Pt) (n5 c5:Nat) (e5:Bool) (h:Zaa):Prop:=Den pg fn.ntmps (C [1,1,0,1,0,0,1,1,0,0,1,1,0,1,0,0,1,1,1]) [(26,.int .i64 x26),(25,.int .i64 x25),(24,.slice a24 n24 c24 e24),(9,.bool x9),(2,.ptr (i2,o2)),(8,.int .i64 x8),(20,.int .i64 x20),(19,.int .i64 x19),(18,.slice a18 n18 c18 e18),(5,.slice a5 n5 c5 e5)] h (K9 Q R3 R7)
def Yqy (Q:QT) (R3:T3) (x9:Bool) (x8 x20 x19:Int) (a18:Pt) (n18 c18:Nat) (e18:Bool) (a5:Pt) (n5 c5:Nat) (e5:Bool) (i2 o2:Nat) (h:Zaa):Prop:=At (K7 Q R3) (.exit 2) [(9,.bool x9),(8,.int .i64 x8),(20,.int .i64 x20),(19,.int .i64 x19),(18,.slice a18 n18 c18 e18),(5,.slice a5 n5 c5 e5),(2,.ptr (i2,o2))] h
def L3t (Q:QT) (R3:T3) (i2 o2:Nat) (a5:Pt) (n5 c5:Nat) (e5:Bool) (a18:Pt) (n18 c18:Nat) (e18:Bool) (x19 x20:Int) (h:Zaa):Prop:=
 bcase (decide ((x20:Int) < x19)) ((0≤(x20:Int)∧(x20:Int) < (n18:Nat))∧(Zbm a18 fun A B=>Zdo .i64 (Zag h (.ptr (A,B + (Int.toNat x20) * 1))) fun A=>L7 Q R3 i2 o2 a5 n5 c5 e5 A true a18 n18 c18 e18 x19 x20 a5 n5 c5 e5 (((n5:Nat):Int)) 0 h)) (Ztb Q h)
theorem Zpe (Q:QT) (R3:T3) (i2 o2:Nat) (a5:Pt) (n5 c5:Nat) (e5:Bool) (a18:Pt) (n18 c18:Nat) (e18:Bool) (x19 x20:Int) (h:Zaa) (ht:L3t Q R3 i2 o2 a5 n5 c5 e5 a18 n18 c18 e18 x19 x20 h):Den pg fn.ntmps (C [1,1,0,1,0,0]) [(2,.ptr (i2,o2)),(5,.slice a5 n5 c5 e5),(18,.slice a18 n18 c18 e18),(19,.int .i64 x19),(20,.int .i64 x20)] h (K3 Q R3):=
 Zba (kp:=kp) (cast (by kernel_rfl) ht)
theorem L3ind (Q:QT) (i2 o2:Nat) (a5:Pt) (n5 c5:Nat) (e5:Bool) (a18:Pt) (n18 c18:Nat) (e18:Bool) (x19:Int) {G:Type} (J:G→Int→Zaa→Prop) (m:G→Nat)
 (hr:∀ (g:G) (x20:Int) (h:Zaa),J g x20 h→∀ (R3:T3),(∀ g' (x20:Int) (h:Zaa),m g' < m g→J g' x20 h→R3 i2 o2 a5 n5 c5 e5 a18 n18 c18 e18 x19 x20 h)→L3t Q R3 i2 o2 a5 n5 c5 e5 a18 n18 c18 e18 x19 x20 h)
 (g:G) (x20:Int) (h:Zaa) (hj:J g x20 h):L3 Q i2 o2 a5 n5 c5 e5 a18 n18 c18 e18 x19 x20 h:=by
 let P:=fun (K:Int→Zaa→Prop) i2' o2' a5' n5' c5' e5' a18' n18' c18' e18' x19' x20 h=>i2=i2'∧o2=o2'∧a5=a5'∧n5=n5'∧c5=c5'∧e5=e5'∧a18=a18'∧n18=n18'∧c18=c18'∧e18=e18'∧x19=x19'∧K x20 h
 refine Zet.inv2 (fun g=>E3 (P (J g))) (fun g=>E3 (P fun x20 h=>∃ g',m g' < m g∧J g' x20 h)) m ?_ ?_ g ⟨rfl,rfl,rfl,rfl,rfl,rfl,rfl,rfl,rfl,rfl,rfl,hj⟩
 ·intro g env h hi
  obtain ⟨i2',o2',a5',n5',c5',e5',a18',n18',c18',e18',x19',x20,rfl,rfl,rfl,rfl,rfl,rfl,rfl,rfl,rfl,rfl,rfl,rfl,hj⟩:=Zfy hi
  exact Zpe Q _ i2 o2 a5 n5 c5 e5 a18 n18 c18 e18 x19 x20 h (hr g x20 h hj (P fun x20 h=>∃ g',m g' < m g∧J g' x20 h) fun g' x20 h hlt hj=>⟨rfl,rfl,rfl,rfl,rfl,rfl,rfl,rfl,rfl,rfl,rfl,g',hlt,hj⟩)
 ·intro g env h hi
  obtain ⟨i2',o2',a5',n5',c5',e5',a18',n18',c18',e18',x19',x20,rfl,rfl,rfl,rfl,rfl,rfl,rfl,rfl,rfl,rfl,rfl,rfl,g',hlt,hj⟩:=Zfy hi
  exact ⟨g',hlt,rfl,rfl,rfl,rfl,rfl,rfl,rfl,rfl,rfl,rfl,rfl,hj⟩
def L7t (Q:QT) (R3:T3) (R7:T7) (i2 o2:Nat) (a5:Pt) (n5 c5:Nat) (e5:Bool) (x8:Int) (x9:Bool) (a18:Pt) (n18 c18:Nat) (e18:Bool) (x19 x20:Int) (a24:Pt) (n24 c24:Nat) (e24:Bool) (x25 x26:Int) (h:Zaa):Prop:=
 bcase (decide ((x26:Int) < x25)) ((0≤(x26:Int)∧(x26:Int) < (n24:Nat))∧(Zbm a24 fun A B=>Zdo .i64 (Zag h (.ptr (A,B + (Int.toNat x26) * 1))) fun A=>bcase x9 (Zco (Zbj h (.ptr (i2,o2)) 2) fun B=>Zaj B fun B C=>xSl B fun B D E F=>Zaj C fun C G=>xSl C fun C H I J=>Zbv G (Zah pg Zjq [.agg [.slice B D E F,.slice C H I J],.int .i64 x8,.int .i64 A] h fun A B=>
 Zbx A fun A=>J10 Q R3 R7 x26 x25 a24 n24 c24 e24 A i2 o2 x8 x20 x19 a18 n18 c18 e18 a5 n5 c5 e5 B)) (J10 Q R3 R7 x26 x25 a24 n24 c24 e24 false i2 o2 x8 x20 x19 a18 n18 c18 e18 a5 n5 c5 e5 h))) (Yqy Q R3 x9 x8 x20 x19 a18 n18 c18 e18 a5 n5 c5 e5 i2 o2 h)
theorem Ynz (Q:QT) (R3:T3) (R7:T7) (i2 o2:Nat) (a5:Pt) (n5 c5:Nat) (e5:Bool) (x8:Int) (x9:Bool) (a18:Pt) (n18 c18:Nat) (e18:Bool) (x19 x20:Int) (a24:Pt) (n24 c24:Nat) (e24:Bool) (x25 x26:Int) (h:Zaa) (ht:L7t Q R3 R7 i2 o2 a5 n5 c5 e5 x8 x9 a18 n18 c18 e18 x19 x20 a24 n24 c24 e24 x25 x26 h):Den pg fn.ntmps (C [1,1,0,1,0,0,1,1,0,0,1,1,0,1,0,0]) [(2,.ptr (i2,o2)),(5,.slice a5 n5 c5 e5),(8,.int .i64 x8),(9,.bool x9),(18,.slice a18 n18 c18 e18),(19,.int .i64 x19),(20,.int .i64 x20),(24,.slice a24 n24 c24 e24),(25,.int .i64 x25),(26,.int .i64 x26)] h (K9 Q R3 R7):=
 Zba (kp:=kp) (cast (by kernel_rfl) ht)
theorem L7ind (Q:QT) (R3:T3) (i2 o2:Nat) (a5:Pt) (n5 c5:Nat) (e5:Bool) (x8:Int) (a18:Pt) (n18 c18:Nat) (e18:Bool) (x19 x20:Int) (a24:Pt) (n24 c24:Nat) (e24:Bool) (x25:Int) {G:Type} (J:G→Bool→Int→Zaa→Prop) (m:G→Nat)
 (hr:∀ (g:G) (x9:Bool) (x26:Int) (h:Zaa),J g x9 x26 h→∀ (R7:T7),(∀ g' (x9:Bool) (x26:Int) (h:Zaa),m g' < m g→J g' x9 x26 h→R7 i2 o2 a5 n5 c5 e5 x8 x9 a18 n18 c18 e18 x19 x20 a24 n24 c24 e24 x25 x26 h)→L7t Q R3 R7 i2 o2 a5 n5 c5 e5 x8 x9 a18 n18 c18 e18 x19 x20 a24 n24 c24 e24 x25 x26 h)
 (g:G) (x9:Bool) (x26:Int) (h:Zaa) (hj:J g x9 x26 h):L7 Q R3 i2 o2 a5 n5 c5 e5 x8 x9 a18 n18 c18 e18 x19 x20 a24 n24 c24 e24 x25 x26 h:=by
 let P:=fun (K:Bool→Int→Zaa→Prop) i2' o2' a5' n5' c5' e5' x8' x9 a18' n18' c18' e18' x19' x20' a24' n24' c24' e24' x25' x26 h=>i2=i2'∧o2=o2'∧a5=a5'∧n5=n5'∧c5=c5'∧e5=e5'∧x8=x8'∧a18=a18'∧n18=n18'∧c18=c18'∧e18=e18'∧x19=x19'∧x20=x20'∧a24=a24'∧n24=n24'∧c24=c24'∧e24=e24'∧x25=x25'∧K x9 x26 h
 refine Zet.inv2 (fun g=>E7 (P (J g))) (fun g=>E7 (P fun x9 x26 h=>∃ g',m g' < m g∧J g' x9 x26 h)) m ?_ ?_ g ⟨rfl,rfl,rfl,rfl,rfl,rfl,rfl,rfl,rfl,rfl,rfl,rfl,rfl,rfl,rfl,rfl,rfl,rfl,hj⟩
 ·intro g env h hi
  obtain ⟨i2',o2',a5',n5',c5',e5',x8',x9,a18',n18',c18',e18',x19',x20',a24',n24',c24',e24',x25',x26,rfl,rfl,rfl,rfl,rfl,rfl,rfl,rfl,rfl,rfl,rfl,rfl,rfl,rfl,rfl,rfl,rfl,rfl,rfl,hj⟩:=Zwg hi
  exact Ynz Q R3 (P fun x9 x26 h=>∃ g',m g' < m g∧J g' x9 x26 h) i2 o2 a5 n5 c5 e5 x8 x9 a18 n18 c18 e18 x19 x20 a24 n24 c24 e24 x25 x26 h (hr g x9 x26 h hj (P fun x9 x26 h=>∃ g',m g' < m g∧J g' x9 x26 h) fun g' x9 x26 h hlt hj=>⟨rfl,rfl,rfl,rfl,rfl,rfl,rfl,rfl,rfl,rfl,rfl,rfl,rfl,rfl,rfl,rfl,rfl,rfl,g',hlt,hj⟩)
 ·intro g env h hi
  obtain ⟨i2',o2',a5',n5',c5',e5',x8',x9,a18',n18',c18',e18',x19',x20',a24',n24',c24',e24',x25',x26,rfl,rfl,rfl,rfl,rfl,rfl,rfl,rfl,rfl,rfl,rfl,rfl,rfl,rfl,rfl,rfl,rfl,rfl,rfl,g',hlt,hj⟩:=Zwg hi
  exact ⟨g',hlt,rfl,rfl,rfl,rfl,rfl,rfl,rfl,rfl,rfl,rfl,rfl,rfl,rfl,rfl,rfl,rfl,rfl,rfl,hj⟩
theorem A3x0i (Q:QT) (h:Zaa) (ht :
 Q (.int .i64 (-1)) h):Ztb Q h:=
 At.mk (cast (by kernel_rfl) ht)
theorem J10i (Q:QT) (R3:T3) (R7:T7) (x26 x25:Int) (a24:Pt) (n24 c24:Nat) (e24 x9:Bool) (i2 o2:Nat) (x8 x20 x19:Int) (a18:Pt) (n18 c18:Nat) (e18:Bool) (a5:Pt) (n5 c5:Nat) (e5:Bool) (h:Zaa) (ht :
 R7 i2 o2 a5 n5 c5 e5 x8 x9 a18 n18 c18 e18 x19 x20 a24 n24 c24 e24 x25 (IntKind.wrap .i64 (x26 + 1)) h):J10 Q R3 R7 x26 x25 a24 n24 c24 e24 x9 i2 o2 x8 x20 x19 a18 n18 c18 e18 a5 n5 c5 e5 h:=
 Zba (kp:=kp) (cast (by kernel_rfl) ht)
theorem A7x2i (Q:QT) (R3:T3) (x9:Bool) (x8 x20 x19:Int) (a18:Pt) (n18 c18:Nat) (e18:Bool) (a5:Pt) (n5 c5:Nat) (e5:Bool) (i2 o2:Nat) (h:Zaa) (ht :
 bcase x9 (Q (.int .i64 x8) h) (R3 i2 o2 a5 n5 c5 e5 a18 n18 c18 e18 x19 (IntKind.wrap .i64 (x20 + 1)) h)):Yqy Q R3 x9 x8 x20 x19 a18 n18 c18 e18 a5 n5 c5 e5 i2 o2 h:=
 At.mk (cast (by kernel_rfl) ht)
theorem call (a0x0:Pt) (n0x0 c0x0:Nat) (e0x0:Bool) (a0x1:Pt) (n0x1 c0x1:Nat) (e0x1:Bool) (x1x0 x1x1:List Nat) (h:Zaa) (Q:QT) (ht :
 Zck (h ++ [.cells Zab [.slice a0x0 n0x0 c0x0 e0x0,.slice a0x1 n0x1 c0x1 e0x1] false]) fun A=>Zck (A ++ [.cells Zad [.str x1x0,.str x1x1] false]) fun B=>Zco (Zbj B (.ptr (h.length,0)) 2) fun C=>Zaj C fun C D=>xSl C fun C E F G=>Zaj D fun D H=>xSl D fun D I J K=>Zbv H (Zco (Zbj B (.ptr (A.length,0)) 2) fun A=>Zaj A fun A H=>Zbg A fun A=>Zaj H fun H L=>Zbg H fun H=>Zbv L (Zah pg Zjy [.agg [.slice C E F G,.slice D I J K],.agg [.str A,.str H]] B fun A B=>
 Zny A fun A=>Zaj A fun A C=>xSl A fun A D E F=>Zaj C fun C G=>Zbx C fun C=>Zbv G (L3 Q h.length 0 A D E F A D E F (((D:Nat):Int)) 0 B)))):Zah pg Zko [.agg [.slice a0x0 n0x0 c0x0 e0x0,.slice a0x1 n0x1 c0x1 e0x1],.agg [.str x1x0,.str x1x1]] h Q:=
 Zah.of_body kp (c:=cod fn) (fn:=fn) Go.Proofs.Tryz.func21 (by kernel_rfl) (by kernel_rfl) (Nat.le_of_ble_eq_true (by kernel_rfl))
  (cast (by kernel_rfl) ht)
end Zdr
end Go.Sim

set_option maxRecDepth 100000
set_option maxHeartbeats 0
set_option linter.unusedVariables false
namespace Go.Sim
open Go Go.RowKit
namespace Zrl
noncomputable abbrev fn:Func:=Go.Proofs.Tryz.f37
def kp:Zcj:=[]
noncomputable def C (p:List Nat):Code:=(cod fn).sub p
def KR (Q:QT):KT:=Zfb pg fn.results.toList Q
theorem call (a0x0:Pt) (n0x0 c0x0:Nat) (e0x0:Bool) (a0x1:Pt) (n0x1 c0x1:Nat) (e0x1:Bool) (x1x0 x1x1:List Nat) (h:Zaa) (Q:QT) (ht :
 Zck (h ++ [.cells Zab [.slice a0x0 n0x0 c0x0 e0x0,.slice a0x1 n0x1 c0x1 e0x1] false]) fun A=>Zck (A ++ [.cells Zad [.str x1x0,.str x1x1] false]) fun B=>Zco (Zbj B (.ptr (h.length,0)) 2) fun C=>Zaj C fun C D=>xSl C fun C E F G=>Zaj D fun D H=>xSl D fun D I J K=>Zbv H (Zah pg Zfg [.agg [.slice C E F G,.slice D I J K]] B fun B C=>
 Zbx B fun B=>bcase B (Zco (Zbj C (.ptr (h.length,0)) 2) fun B=>Zaj B fun B D=>xSl B fun B E F G=>Zaj D fun D H=>xSl D fun D I J K=>Zbv H (Zco (Zbj C (.ptr (A.length,0)) 2) fun A=>Zaj A fun A H=>Zbg A fun A=>Zaj H fun H L=>Zbg H fun H=>Zbv L (Zah pg Zra [.agg [.slice B E F G,.slice D I J K],.agg [.str A,.str H]] C fun A B=>
 Zbx A fun A=>Q (.bool A) B))) (Q (.bool false) C))):Zah pg Zjs [.agg [.slice a0x0 n0x0 c0x0 e0x0,.slice a0x1 n0x1 c0x1 e0x1],.agg [.str x1x0,.str x1x1]] h Q:=
 Zah.of_body kp (c:=cod fn) (fn:=fn) Go.Proofs.Tryz.func37 (by kernel_rfl) (by kernel_rfl) (Nat.le_of_ble_eq_true (by kernel_rfl))
  (cast (by kernel_rfl) ht)
end Zrl
namespace Zli
noncomputable abbrev fn:Func:=Go.Proofs.Tryz.f72
def kp:Zcj:=[]
noncomputable def C (p:List Nat):Code:=(cod fn).sub p
def KR (Q:QT):KT:=Zfb pg fn.results.toList Q
theorem call (x0x0 x0x1:List Nat) (a0x2:Pt) (n0x2 c0x2:Nat) (e0x2:Bool) (v1:Zau) (h:Zaa) (Q:QT) (ht :
 Zck (h ++ [.cells Zac [.str x0x0,.str x0x1,.slice a0x2 n0x2 c0x2 e0x2] false]) fun A=>Zbg (Zag A (.ptr (h.length,0 + 0 + 1))) fun B=>Zhf pg Zad v1 1 fun C=>Zbg (Zag A (C)) fun C=>Zah pg Zin [.str B,.str C] A fun A B=>
 Zbx A fun A=>Q (.bool A) B):Zah pg Zcq [.agg [.str x0x0,.str x0x1,.slice a0x2 n0x2 c0x2 e0x2],v1] h Q:=
 Zah.of_body kp (c:=cod fn) (fn:=fn) Go.Proofs.Tryz.func72 (by kernel_rfl) (by kernel_rfl) (Nat.le_of_ble_eq_true (by kernel_rfl))
  (cast (by kernel_rfl) ht)
end Zli
namespace Zce
noncomputable abbrev fn:Func:=Go.Proofs.Tryz.f55
def kp:Zcj:=[(3000003,[7]),(1000003,[1,2,7,12,13,14]),(4000007,[14,13,12,1,2,7])]
noncomputable def C (p:List Nat):Code:=(cod fn).sub p
def KR (Q:QT):KT:=Zfb pg fn.results.toList Q
abbrev T3:=List Nat→Zau→Pt→Nat→Nat→Bool→Pt→Nat→Nat→Bool→Int→Int→Zaa→Prop
def E3 (R3:T3) (env:Env) (h:Zaa):Prop:=Zbw 1 env fun v env=>Zbg v fun x1=>Zbw 2 env fun v env=>eFn Zcq v fun cs=>Zaj cs fun c cs'=>Yaw c fun v2x0=>Zbv cs' (Zbw 7 env fun v env=>xSl v fun a7 n7 c7 e7=>Zbw 12 env fun v env=>xSl v fun a12 n12 c12 e12=>Zbw 13 env fun v env=>Zee .i64 v fun x13=>Zbw 14 env fun v env=>Zee .i64 v fun x14=>Zkh env (R3 x1 v2x0 a7 n7 c7 e7 a12 n12 c12 e12 x13 x14 h))
theorem Zfy {R3:T3} {env:Env} {h:Zaa} (hi:E3 R3 env h):∃ x1,∃ v2x0,∃ a7,∃ n7,∃ c7,∃ e7,∃ a12,∃ n12,∃ c12,∃ e12,∃ x13,∃ x14,env=[(1,.str x1),(2,.fn Zcq [v2x0]),(7,.slice a7 n7 c7 e7),(12,.slice a12 n12 c12 e12),(13,.int .i64 x13),(14,.int .i64 x14)]∧R3 x1 v2x0 a7 n7 c7 e7 a12 n12 c12 e12 x13 x14 h:=by
 unfold E3 at hi
 have hi0:=hi
 clear hi
 obtain ⟨_,_,rfl,hi1⟩:=Zak hi0
 obtain ⟨x1,rfl,hi2⟩:=Zfe hi1
 obtain ⟨_,_,rfl,hi3⟩:=Zak hi2
 obtain ⟨cs,rfl,hi4⟩:=Zux hi3
 obtain ⟨c,cs',rfl,hi5⟩:=Zph hi4
 obtain ⟨v2x0,hx,hi6⟩:=Zlz hi5
 replace hx:=(Option.some.inj hx).symm
 subst hx
 obtain ⟨rfl,hi7⟩:=Zsi hi6
 obtain ⟨_,_,rfl,hi8⟩:=Zak hi7
 obtain ⟨a7,n7,c7,e7,rfl,hi9⟩:=Zby hi8
 obtain ⟨_,_,rfl,hi10⟩:=Zak hi9
 obtain ⟨a12,n12,c12,e12,rfl,hi11⟩:=Zby hi10
 obtain ⟨_,_,rfl,hi12⟩:=Zak hi11
 obtain ⟨x13,rfl,hi13⟩:=Zax hi12
 obtain ⟨_,_,rfl,hi14⟩:=Zak hi13
 obtain ⟨x14,rfl,hi15⟩:=Zax hi14
 obtain ⟨rfl,hi16⟩:=Zbp hi15
 have hi:=hi16
 exact ⟨x1,v2x0,a7,n7,c7,e7,a12,n12,c12,e12,x13,x14,rfl,hi⟩
def K0 (Q:QT):KT:=andThen (fun env' h'=>(match kp.find 4000008 with | some ks=>Den pg fn.ntmps (C [1,1,1]) (env'.keep ks) h' (KR Q) | none=>den pg fn.ntmps kp (C [1,1,1]) env' h' (KR Q))) (KR Q)
def K1 (Q:QT):KT:=Zcs 0 (K0 Q)
def K2 (Q:QT):KT:=left kp 3 (K1 Q)
def K3 (Q:QT) (R3:T3):KT:=rnd ((kp.find 1000003).getD []) (E3 R3) (K2 Q)
def L3 (Q:QT) (x1:List Nat) (v2x0:Zau) (a7:Pt) (n7 c7:Nat) (e7:Bool) (a12:Pt) (n12 c12:Nat) (e12:Bool) (x13 x14:Int) (h:Zaa):Prop:=Zet (Den pg fn.ntmps (C [1,1,0,1,0,0])) ((kp.find 1000003).getD []) (K2 Q) [(1,.str x1),(2,.fn Zcq [v2x0]),(7,.slice a7 n7 c7 e7),(12,.slice a12 n12 c12 e12),(13,.int .i64 x13),(14,.int .i64 x14)] h
def J7 (Q:QT) (R3:T3) (x14 x13:Int) (a12:Pt) (n12 c12:Nat) (e12:Bool) (x1:List Nat) (v2x0:Zau) (a7:Pt) (n7 c7:Nat) (e7:Bool) (h:Zaa):Prop:=Den pg fn.ntmps (C [1,1,0,1,0,0,1,1,1]) [(14,.int .i64 x14),(13,.int .i64 x13),(12,.slice a12 n12 c12 e12),(1,.str x1),(2,.fn Zcq [v2x0]),(7,.slice a7 n7 c7 e7)] h (K3 Q R3)
def Ztb (Q:QT) (a7:Pt) (n7 c7:Nat) (e7:Bool) (h:Zaa):Prop:=At (K1 Q) (.exit 0) [(7,.slice a7 n7 c7 e7)] h
def L3t (Q:QT) (R3:T3) (x1:List Nat) (v2x0:Zau) (a7:Pt) (n7 c7:Nat) (e7:Bool) (a12:Pt) (n12 c12:Nat) (e12:Bool) (x13 x14:Int) (h:Zaa):Prop:=
 bcase (decide ((x14:Int) < x13)) ((0≤(x14:Int)∧(x14:Int) < (n12:Nat))∧(Zbm a12 fun A B=>Zco (Zbj h (.ptr (A,B + (Int.toNat x14) * 3)) 3) fun A=>Zaj A fun A B=>Zbg A fun A=>Zaj B fun B C=>Zbg B fun B=>Zaj C fun C D=>xSl C fun C E F G=>Zbv D (Zck (h ++ [.cells Zac [.str [],.str [],.slice none 0 0 true] false]) fun D=>Zbu (Zbb D (.ptr (h.length,0)) [.str A,.str B,.slice C E F G]) fun A=>Zbg (Zag A (.ptr (h.length,0 + 0 + 0))) fun B=>bcase (decide (B=x1)) (Zco (Zbj A (.ptr (h.length,0)) 3) fun B=>Zaj B fun B C=>Zbg B fun B=>Zaj C fun C D=>Zbg C fun C=>Zaj D fun D E=>xSl D fun D F G H=>Zbv E (Zah pg Zcq [.agg [.str B,.str C,.slice D F G H],v2x0] A fun B C=>
 Zbx B fun B=>bcase B (Zck (C ++ [.cells Zfw [.int .i64 x14] false]) fun B=>Zcz pg Zxl B (.slice a7 n7 c7 e7) (.slice (C.length,0) 1 1 true) fun B D=>xSl B fun B E F G=>J7 Q R3 x14 x13 a12 n12 c12 e12 x1 v2x0 B E F G D) (J7 Q R3 x14 x13 a12 n12 c12 e12 x1 v2x0 a7 n7 c7 e7 C))) (J7 Q R3 x14 x13 a12 n12 c12 e12 x1 v2x0 a7 n7 c7 e7 A)))) (Ztb Q a7 n7 c7 e7 h)
theorem Zpe (Q:QT) (R3:T3) (x1:List Nat) (v2x0:Zau) (a7:Pt) (n7 c7:Nat) (e7:Bool) (a12:Pt) (n12 c12:Nat) (e12:Bool) (x13 x14:Int) (h:Zaa) (ht:L3t Q R3 x1 v2x0 a7 n7 c7 e7 a12 n12 c12 e12 x13 x14 h):Den pg fn.ntmps (C [1,1,0,1,0,0]) [(1,.str x1),(2,.fn Zcq [v2x0]),(7,.slice a7 n7 c7 e7),(12,.slice a12 n12 c12 e12),(13,.int .i64 x13),(14,.int .i64 x14)] h (K3 Q R3):=
 Zba (kp:=kp) (cast (by kernel_rfl) ht)
theorem L3ind (Q:QT) (x1:List Nat) (v2x0:Zau) (a12:Pt) (n12 c12:Nat) (e12:Bool) (x13:Int) {G:Type} (J:G→Pt→Nat→Nat→Bool→Int→Zaa→Prop) (m:G→Nat)
 (hr:∀ (g:G) (a7:Pt) (n7 c7:Nat) (e7:Bool) (x14:Int) (h:Zaa),J g a7 n7 c7 e7 x14 h→∀ (R3:T3),(∀ g' (a7:Pt) (n7 c7:Nat) (e7:Bool) (x14:Int) (h:Zaa),m g' < m g→J g' a7 n7 c7 e7 x14 h→R3 x1 v2x0 a7 n7 c7 e7 a12 n12 c12 e12 x13 x14 h)→L3t Q R3 x1 v2x0 a7 n7 c7 e7 a12 n12 c12 e12 x13 x14 h)
 (g:G) (a7:Pt) (n7 c7:Nat) (e7:Bool) (x14:Int) (h:Zaa) (hj:J g a7 n7 c7 e7 x14 h):L3 Q x1 v2x0 a7 n7 c7 e7 a12 n12 c12 e12 x13 x14 h:=by
 let P:=fun (K:Pt→Nat→Nat→Bool→Int→Zaa→Prop) x1' v2x0' a7 n7 c7 e7 a12' n12' c12' e12' x13' x14 h=>x1=x1'∧v2x0=v2x0'∧a12=a12'∧n12=n12'∧c12=c12'∧e12=e12'∧x13=x13'∧K a7 n7 c7 e7 x14 h
 refine Zet.inv2 (fun g=>E3 (P (J g))) (fun g=>E3 (P fun a7 n7 c7 e7 x14 h=>∃ g',m g' < m g∧J g' a7 n7 c7 e7 x14 h)) m ?_ ?_ g ⟨rfl,rfl,rfl,rfl,rfl,rfl,rfl,hj⟩
 ·intro g env h hi
  obtain ⟨x1',v2x0',a7,n7,c7,e7,a12',n12',c12',e12',x13',x14,rfl,rfl,rfl,rfl,rfl,rfl,rfl,rfl,hj⟩:=Zfy hi
  exact Zpe Q _ x1 v2x0 a7 n7 c7 e7 a12 n12 c12 e12 x13 x14 h (hr g a7 n7 c7 e7 x14 h hj (P fun a7 n7 c7 e7 x14 h=>∃ g',m g' < m g∧J g' a7 n7 c7 e7 x14 h) fun g' a7 n7 c7 e7 x14 h hlt hj=>⟨rfl,rfl,rfl,rfl,rfl,rfl,rfl,g',hlt,hj⟩)
 ·intro g env h hi
  obtain ⟨x1',v2x0',a7,n7,c7,e7,a12',n12',c12',e12',x13',x14,rfl,rfl,rfl,rfl,rfl,rfl,rfl,rfl,g',hlt,hj⟩:=Zfy hi
  exact ⟨g',hlt,rfl,rfl,rfl,rfl,rfl,rfl,rfl,hj⟩
theorem J7i (Q:QT) (R3:T3) (x14 x13:Int) (a12:Pt) (n12 c12:Nat) (e12:Bool) (x1:List Nat) (v2x0:Zau) (a7:Pt) (n7 c7:Nat) (e7:Bool) (h:Zaa) (ht :
 R3 x1 v2x0 a7 n7 c7 e7 a12 n12 c12 e12 x13 (IntKind.wrap .i64 (x14 + 1)) h):J7 Q R3 x14 x13 a12 n12 c12 e12 x1 v2x0 a7 n7 c7 e7 h:=
 Zba (kp:=kp) (cast (by kernel_rfl) ht)
theorem A3x0i (Q:QT) (a7:Pt) (n7 c7:Nat) (e7:Bool) (h:Zaa) (ht :
 Q (.slice a7 n7 c7 e7) h):Ztb Q a7 n7 c7 e7 h:=
 At.mk (cast (by kernel_rfl) ht)
theorem call (a0x0:Pt) (n0x0 c0x0:Nat) (e0x0:Bool) (a0x1:Pt) (n0x1 c0x1:Nat) (e0x1:Bool) (x1:List Nat) (v2x0:Zau) (h:Zaa) (Q:QT) (ht :
 Zck (h ++ [.cells Zab [.slice a0x0 n0x0 c0x0 e0x0,.slice a0x1 n0x1 c0x1 e0x1] false]) fun A=>Zck (A ++ [.cells Zfw [] false]) fun B=>xSl (Zag B (.ptr (h.length,0 + 1))) fun C D E F=>L3 Q x1 v2x0 (A.length,0) 0 0 true C D E F (((D:Nat):Int)) 0 B):Zah pg Zkc [.agg [.slice a0x0 n0x0 c0x0 e0x0,.slice a0x1 n0x1 c0x1 e0x1],.str x1,.fn Zcq [v2x0]] h Q:=
 Zah.of_body kp (c:=cod fn) (fn:=fn) Go.Proofs.Tryz.func55 (by kernel_rfl) (by kernel_rfl) (Nat.le_of_ble_eq_true (by kernel_rfl))
  (cast (by kernel_rfl) ht)
end Zce
namespace Zpj
noncomputable abbrev fn:Func:=Go.Proofs.Tryz.f38
def kp:Zcj:=[]
noncomputable def C (p:List Nat):Code:=(cod fn).sub p
def KR (Q:QT):KT:=Zfb pg fn.results.toList Q
theorem call (a0x0:Pt) (n0x0 c0x0:Nat) (e0x0:Bool) (a0x1:Pt) (n0x1 c0x1:Nat) (e0x1:Bool) (x1x0 x1x1:List Nat) (h:Zaa) (Q:QT) (ht :
 Zck (h ++ [.cells Zab [.slice a0x0 n0x0 c0x0 e0x0,.slice a0x1 n0x1 c0x1 e0x1] false]) fun A=>Zck (A ++ [.cells Zad [.str x1x0,.str x1x1] false]) fun B=>Zco (Zbj B (.ptr (h.length,0)) 2) fun C=>Zaj C fun C D=>xSl C fun C E F G=>Zaj D fun D H=>xSl D fun D I J K=>Zbv H (Zbg (Zag B (.ptr (A.length,0 + 0))) fun H=>Zah pg Zkc [.agg [.slice C E F G,.slice D I J K],.str H,.fn Zcq [.ptr (A.length,0)]] B fun A B=>
 xSl A fun A C D E=>Q (.slice A C D E) B)):Zah pg Zij [.agg [.slice a0x0 n0x0 c0x0 e0x0,.slice a0x1 n0x1 c0x1 e0x1],.agg [.str x1x0,.str x1x1]] h Q:=
 Zah.of_body kp (c:=cod fn) (fn:=fn) Go.Proofs.Tryz.func38 (by kernel_rfl) (by kernel_rfl) (Nat.le_of_ble_eq_true (by kernel_rfl))
  (cast (by kernel_rfl) ht)
end Zpj
namespace Zod
noncomputable abbrev fn:Func:=Go.Proofs.Tryz.f10
def kp:Zcj:=[]
noncomputable def C (p:List Nat):Code:=(cod fn).sub p
def KR (Q:QT):KT:=Zfb pg fn.results.toList Q
theorem call (a0x0:Pt) (n0x0 c0x0:Nat) (e0x0:Bool) (a0x1:Pt) (n0x1 c0x1:Nat) (e0x1:Bool) (x1x0 x1x1:List Nat) (h:Zaa) (Q:QT) (ht :
 Zck (h ++ [.cells Zab [.slice a0x0 n0x0 c0x0 e0x0,.slice a0x1 n0x1 c0x1 e0x1] false]) fun A=>Zck (A ++ [.cells Zad [.str x1x0,.str x1x1] false]) fun B=>Zco (Zbj B (.ptr (h.length,0)) 2) fun C=>Zaj C fun C D=>xSl C fun C E F G=>Zaj D fun D H=>xSl D fun D I J K=>Zbv H (Zco (Zbj B (.ptr (A.length,0)) 2) fun H=>Zaj H fun H L=>Zbg H fun H=>Zaj L fun L M=>Zbg L fun L=>Zbv M (Zah pg Zjs [.agg [.slice C E F G,.slice D I J K],.agg [.str H,.str L]] B fun B C=>
 Zbx B fun B=>bcase (!B) (Q (.tup [.slice none 0 0 true,.bool false]) C) (Zco (Zbj C (.ptr (h.length,0)) 2) fun B=>Zaj B fun B D=>xSl B fun B E F G=>Zaj D fun D H=>xSl D fun D I J K=>Zbv H (Zco (Zbj C (.ptr (A.length,0)) 2) fun A=>Zaj A fun A H=>Zbg A fun A=>Zaj H fun H L=>Zbg H fun H=>Zbv L (Zah pg Zij [.agg [.slice B E F G,.slice D I J K],.agg [.str A,.str H]] C fun A B=>
 xSl A fun A C D E=>Q (.tup [.slice A C D E,.bool true]) B)))))):Zah pg Zgt [.agg [.slice a0x0 n0x0 c0x0 e0x0,.slice a0x1 n0x1 c0x1 e0x1],.agg [.str x1x0,.str x1x1]] h Q:=
 Zah.of_body kp (c:=cod fn) (fn:=fn) Go.Proofs.Tryz.func10 (by kernel_rfl) (by kernel_rfl) (Nat.le_of_ble_eq_true (by kernel_rfl))
  (cast (by kernel_rfl) ht)
end Zod
namespace Zdz
noncomputable abbrev fn:Func:=Go.Proofs.Tryz.f91
def kp:Zcj:=[(3000003,[5]),(1000003,[3,5,10,11,12]),(4000007,[12,11,10,3,5])]
noncomputable def C (p:List Nat):Code:=(cod fn).sub p
def KR (Q:QT):KT:=Zfb pg fn.results.toList Q
abbrev T3:=Nat→Nat→Pt→Nat→Nat→Bool→Pt→Nat→Nat→Bool→Int→Int→Zaa→Prop
def E3 (R3:T3) (env:Env) (h:Zaa):Prop:=Zbw 3 env fun v env=>Zhh v fun a=>Zbm a fun i3 o3=>Zbw 5 env fun v env=>xSl v fun a5 n5 c5 e5=>Zbw 10 env fun v env=>xSl v fun a10 n10 c10 e10=>Zbw 11 env fun v env=>Zee .i64 v fun x11=>Zbw 12 env fun v env=>Zee .i64 v fun x12=>Zkh env (R3 i3 o3 a5 n5 c5 e5 a10 n10 c10 e10 x11 x12 h)
theorem Zfy {R3:T3} {env:Env} {h:Zaa} (hi:E3 R3 env h):∃ i3,∃ o3,∃ a5,∃ n5,∃ c5,∃ e5,∃ a10,∃ n10,∃ c10,∃ e10,∃ x11,∃ x12,env=[(3,.ptr (i3,o3)),(5,.slice a5 n5 c5 e5),(10,.slice a10 n10 c10 e10),(11,.int .i64 x11),(12,.int .i64 x12)]∧R3 i3 o3 a5 n5 c5 e5 a10 n10 c10 e10 x11 x12 h:=by
 unfold E3 at hi
 have hi0:=hi
 clear hi
 obtain ⟨_,_,rfl,hi1⟩:=Zak hi0
 obtain ⟨a,rfl,hi2⟩:=Zbt hi1
 obtain ⟨i3,o3,rfl,hi3⟩:=Zbn hi2
 obtain ⟨_,_,rfl,hi4⟩:=Zak hi3
 obtain ⟨a5,n5,c5,e5,rfl,hi5⟩:=Zby hi4
 obtain ⟨_,_,rfl,hi6⟩:=Zak hi5
 obtain ⟨a10,n10,c10,e10,rfl,hi7⟩:=Zby hi6
 obtain ⟨_,_,rfl,hi8⟩:=Zak hi7
 obtain ⟨x11,rfl,hi9⟩:=Zax hi8
 obtain ⟨_,_,rfl,hi10⟩:=Zak hi9
 obtain ⟨x12,rfl,hi11⟩:=Zax hi10
 obtain ⟨rfl,hi12⟩:=Zbp hi11
 have hi:=hi12
 exact ⟨i3,o3,a5,n5,c5,e5,a10,n10,c10,e10,x11,x12,rfl,hi⟩
def K0 (Q:QT):KT:=andThen (fun env' h'=>(match kp.find 4000008 with | some ks=>Den pg fn.ntmps (C [1,1,1]) (env'.keep ks) h' (KR Q) | none=>den pg fn.ntmps kp (C [1,1,1]) env' h' (KR Q))) (KR Q)
def K1 (Q:QT):KT:=Zcs 0 (K0 Q)
def K2 (Q:QT):KT:=left kp 3 (K1 Q)
def K3 (Q:QT) (R3:T3):KT:=rnd ((kp.find 1000003).getD []) (E3 R3) (K2 Q)
def L3 (Q:QT) (i3 o3:Nat) (a5:Pt) (n5 c5:Nat) (e5:Bool) (a10:Pt) (n10 c10:Nat) (e10:Bool) (x11 x12:Int) (h:Zaa):Prop:=Zet (Den pg fn.ntmps (C [1,1,0,1,0,0])) ((kp.find 1000003).getD []) (K2 Q) [(3,.ptr (i3,o3)),(5,.slice a5 n5 c5 e5),(10,.slice a10 n10 c10 e10),(11,.int .i64 x11),(12,.int .i64 x12)] h
def J7 (Q:QT) (R3:T3) (x12 x11:Int) (a10:Pt) (n10 c10:Nat) (e10:Bool) (i3 o3:Nat) (a5:Pt) (n5 c5:Nat) (e5:Bool) (h:Zaa):Prop:=Den pg fn.ntmps (C [1,1,0,1,0,0,1,1,1]) [(12,.int .i64 x12),(11,.int .i64 x11),(10,.slice a10 n10 c10 e10),(3,.ptr (i3,o3)),(5,.slice a5 n5 c5 e5)] h (K3 Q R3)
def Ztb (Q:QT) (a5:Pt) (n5 c5:Nat) (e5:Bool) (h:Zaa):Prop:=At (K1 Q) (.exit 0) [(5,.slice a5 n5 c5 e5)] h
def L3t (Q:QT) (R3:T3) (i3 o3:Nat) (a5:Pt) (n5 c5:Nat) (e5:Bool) (a10:Pt) (n10 c10:Nat) (e10:Bool) (x11 x12:Int) (h:Zaa):Prop:=
 bcase (decide ((x12:Int) < x11)) ((0≤(x12:Int)∧(x12:Int) < (n10:Nat))∧(Zbm a10 fun A B=>Zco (Zbj h (.ptr (A,B + (Int.toNat x12) * 3)) 3) fun A=>Zaj A fun A B=>Zbg A fun A=>Zaj B fun B C=>Zbg B fun B=>Zaj C fun C D=>xSl C fun C E F G=>Zbv D (Zck (h ++ [.cells Zac [.str [],.str [],.slice none 0 0 true] false]) fun D=>Zbu (Zbb D (.ptr (h.length,0)) [.str A,.str B,.slice C E F G]) fun A=>Zbg (Zag A (.ptr (h.length,0 + 0 + 0))) fun B=>Zbg (Zag A (.ptr (i3,o3 + 0))) fun C=>bcase (decide (B=C)) (Zbg (Zag A (.ptr (h.length,0 + 0 + 1))) fun B=>Zbg (Zag A (.ptr (i3,o3 + 1))) fun C=>Zah pg Ziq [.str B,.str C] A fun B C=>
 Zbx B fun B=>bcase B (Zck (C ++ [.cells Zfw [.int .i64 x12] false]) fun B=>Zcz pg Zxl B (.slice a5 n5 c5 e5) (.slice (C.length,0) 1 1 true) fun B D=>xSl B fun B E F G=>J7 Q R3 x12 x11 a10 n10 c10 e10 i3 o3 B E F G D) (J7 Q R3 x12 x11 a10 n10 c10 e10 i3 o3 a5 n5 c5 e5 C)) (J7 Q R3 x12 x11 a10 n10 c10 e10 i3 o3 a5 n5 c5 e5 A)))) (Ztb Q a5 n5 c5 e5 h)
theorem Zpe (Q:QT) (R3:T3) (i3 o3:Nat) (a5:Pt) (n5 c5:Nat) (e5:Bool) (a10:Pt) (n10 c10:Nat) (e10:Bool) (x11 x12:Int) (h:Zaa) (ht:L3t Q R3 i3 o3 a5 n5 c5 e5 a10 n10 c10 e10 x11 x12 h):Den pg fn.ntmps (C [1,1,0,1,0,0]) [(3,.ptr (i3,o3)),(5,.slice a5 n5 c5 e5),(10,.slice a10 n10 c10 e10),(11,.int .i64 x11),(12,.int .i64 x12)] h (K3 Q R3):=
 Zba (kp:=kp) (cast (by kernel_rfl) ht)
theorem L3ind (Q:QT) (i3 o3:Nat) (a10:Pt) (n10 c10:Nat) (e10:Bool) (x11:Int) {G:Type} (J:G→Pt→Nat→Nat→Bool→Int→Zaa→Prop) (m:G→Nat)
 (hr:∀ (g:G) (a5:Pt) (n5 c5:Nat) (e5:Bool) (x12:Int) (h:Zaa),J g a5 n5 c5 e5 x12 h→∀ (R3:T3),(∀ g' (a5:Pt) (n5 c5:Nat) (e5:Bool) (x12:Int) (h:Zaa),m g' < m g→J g' a5 n5 c5 e5 x12 h→R3 i3 o3 a5 n5 c5 e5 a10 n10 c10 e10 x11 x12 h)→L3t Q R3 i3 o3 a5 n5 c5 e5 a10 n10 c10 e10 x11 x12 h)
 (g:G) (a5:Pt) (n5 c5:Nat) (e5:Bool) (x12:Int) (h:Zaa) (hj:J g a5 n5 c5 e5 x12 h):L3 Q i3 o3 a5 n5 c5 e5 a10 n10 c10 e10 x11 x12 h:=by
 let P:=fun (K:Pt→Nat→Nat→Bool→Int→Zaa→Prop) i3' o3' a5 n5 c5 e5 a10' n10' c10' e10' x11' x12 h=>i3=i3'∧o3=o3'∧a10=a10'∧n10=n10'∧c10=c10'∧e10=e10'∧x11=x11'∧K a5 n5 c5 e5 x12 h
 refine Zet.inv2 (fun g=>E3 (P (J g))) (fun g=>E3 (P fun a5 n5 c5 e5 x12 h=>∃ g',m g' < m g∧J g' a5 n5 c5 e5 x12 h)) m ?_ ?_ g ⟨rfl,rfl,rfl,rfl,rfl,rfl,rfl,hj⟩
 ·intro g env h hi
  obtain ⟨i3',o3',a5,n5,c5,e5,a10',n10',c10',e10',x11',x12,rfl,rfl,rfl,rfl,rfl,rfl,rfl,rfl,hj⟩:=Zfy hi
  exact Zpe Q _ i3 o3 a5 n5 c5 e5 a10 n10 c10 e10 x11 x12 h (hr g a5 n5 c5 e5 x12 h hj (P fun a5 n5 c5 e5 x12 h=>∃ g',m g' < m g∧J g' a5 n5 c5 e5 x12 h) fun g' a5 n5 c5 e5 x12 h hlt hj=>⟨rfl,rfl,rfl,rfl,rfl,rfl,rfl,g',hlt,hj⟩)
 ·intro g env h hi
  obtain ⟨i3',o3',a5,n5,c5,e5,a10',n10',c10',e10',x11',x12,rfl,rfl,rfl,rfl,rfl,rfl,rfl,rfl,g',hlt,hj⟩:=Zfy hi
  exact ⟨g',hlt,rfl,rfl,rfl,rfl,rfl,rfl,rfl,hj⟩
theorem J7i (Q:QT) (R3:T3) (x12 x11:Int) (a10:Pt) (n10 c10:Nat) (e10:Bool) (i3 o3:Nat) (a5:Pt) (n5 c5:Nat) (e5:Bool) (h:Zaa) (ht :
 R3 i3 o3 a5 n5 c5 e5 a10 n10 c10 e10 x11 (IntKind.wrap .i64 (x12 + 1)) h):J7 Q R3 x12 x11 a10 n10 c10 e10 i3 o3 a5 n5 c5 e5 h:=
 Zba (kp:=kp) (cast (by kernel_rfl) ht)
theorem A3x0i (Q:QT) (a5:Pt) (n5 c5:Nat) (e5:Bool) (h:Zaa) (ht :
 Q (.slice a5 n5 c5 e5) h):Ztb Q a5 n5 c5 e5 h:=
 At.mk (cast (by kernel_rfl) ht)
theorem call (a0x0:Pt) (n0x0 c0x0:Nat) (e0x0:Bool) (a0x1:Pt) (n0x1 c0x1:Nat) (e0x1:Bool) (x1x0 x1x1:List Nat) (h:Zaa) (Q:QT) (ht :
 Zck (h ++ [.cells Zab [.slice a0x0 n0x0 c0x0 e0x0,.slice a0x1 n0x1 c0x1 e0x1] false]) fun A=>Zck (A ++ [.cells Zad [.str x1x0,.str x1x1] false]) fun B=>Zck (B ++ [.cells Zfw [] false]) fun C=>xSl (Zag C (.ptr (h.length,0 + 1))) fun D E F G=>L3 Q A.length 0 (B.length,0) 0 0 true D E F G (((E:Nat):Int)) 0 C):Zah pg Zju [.agg [.slice a0x0 n0x0 c0x0 e0x0,.slice a0x1 n0x1 c0x1 e0x1],.agg [.str x1x0,.str x1x1]] h Q:=
 Zah.of_body kp (c:=cod fn) (fn:=fn) Go.Proofs.Tryz.func91 (by kernel_rfl) (by kernel_rfl) (Nat.le_of_ble_eq_true (by kernel_rfl))
  (cast (by kernel_rfl) ht)
end Zdz
namespace Znr
noncomputable abbrev fn:Func:=Go.Proofs.Tryz.f53
def kp:Zcj:=[]
noncomputable def C (p:List Nat):Code:=(cod fn).sub p
def KR (Q:QT):KT:=Zfb pg fn.results.toList Q
theorem call (a0x0:Pt) (n0x0 c0x0:Nat) (e0x0:Bool) (a0x1:Pt) (n0x1 c0x1:Nat) (e0x1:Bool) (x1x0 x1x1:List Nat) (h:Zaa) (Q:QT) (ht :
 Zck (h ++ [.cells Zab [.slice a0x0 n0x0 c0x0 e0x0,.slice a0x1 n0x1 c0x1 e0x1] false]) fun A=>Zck (A ++ [.cells Zad [.str x1x0,.str x1x1] false]) fun B=>Zco (Zbj B (.ptr (h.length,0)) 2) fun C=>Zaj C fun C D=>xSl C fun C E F G=>Zaj D fun D H=>xSl D fun D I J K=>Zbv H (Zco (Zbj B (.ptr (A.length,0)) 2) fun H=>Zaj H fun H L=>Zbg H fun H=>Zaj L fun L M=>Zbg L fun L=>Zbv M (Zah pg Zmu [.agg [.slice C E F G,.slice D I J K],.agg [.str H,.str L]] B fun B C=>
 Zbx B fun B=>bcase (!B) (Zck (C ++ [.cells Zfw [] false]) fun B=>Q (.tup [.slice (C.length,0) 0 0 true,.bool false]) B) (Zco (Zbj C (.ptr (h.length,0)) 2) fun B=>Zaj B fun B D=>xSl B fun B E F G=>Zaj D fun D H=>xSl D fun D I J K=>Zbv H (Zco (Zbj C (.ptr (A.length,0)) 2) fun A=>Zaj A fun A H=>Zbg A fun A=>Zaj H fun H L=>Zbg H fun H=>Zbv L (Zah pg Zju [.agg [.slice B E F G,.slice D I J K],.agg [.str A,.str H]] C fun A B=>
 xSl A fun A C D E=>Q (.tup [.slice A C D E,.bool true]) B)))))):Zah pg Zjy [.agg [.slice a0x0 n0x0 c0x0 e0x0,.slice a0x1 n0x1 c0x1 e0x1],.agg [.str x1x0,.str x1x1]] h Q:=
 Zah.of_body kp (c:=cod fn) (fn:=fn) Go.Proofs.Tryz.func53 (by kernel_rfl) (by kernel_rfl) (Nat.le_of_ble_eq_true (by kernel_rfl))
  (cast (by kernel_rfl) ht)
end Znr
end Go.Sim

set_option maxRecDepth 100000
set_option maxHeartbeats 0
set_option linter.unusedVariables false
namespace Go.Sim
open Go Go.RowKit
namespace Ztk
noncomputable abbrev fn:Func:=Go.Proofs.Tryz.f29
def kp:Zcj:=[]
noncomputable def C (p:List Nat):Code:=(cod fn).sub p
def KR (Q:QT):KT:=Zfb pg fn.results.toList Q
theorem call (x0x0 x0x1:List Nat) (a0x2:Pt) (n0x2 c0x2:Nat) (e0x2:Bool) (x1x0 x1x1:List Nat) (a1x2:Pt) (n1x2 c1x2:Nat) (e1x2:Bool) (h:Zaa) (Q:QT) (ht :
 Zck (h ++ [.cells Zac [.str x0x0,.str x0x1,.slice a0x2 n0x2 c0x2 e0x2] false]) fun A=>Zck (A ++ [.cells Zac [.str x1x0,.str x1x1,.slice a1x2 n1x2 c1x2 e1x2] false]) fun B=>Zbg (Zag B (.ptr (h.length,0 + 0 + 0))) fun C=>Zbg (Zag B (.ptr (A.length,0 + 0 + 0))) fun D=>bcase (decide (C=D)) (Zbg (Zag B (.ptr (A.length,0 + 0 + 1))) fun A=>Zbg (Zag B (.ptr (h.length,0 + 0 + 1))) fun C=>Zah pg Zin [.str A,.str C] B fun A C=>
 Zbx A fun A=>Q (.bool A) C) (Q (.bool false) B)):Zah pg Zlx [.agg [.str x0x0,.str x0x1,.slice a0x2 n0x2 c0x2 e0x2],.agg [.str x1x0,.str x1x1,.slice a1x2 n1x2 c1x2 e1x2]] h Q:=
 Zah.of_body kp (c:=cod fn) (fn:=fn) Go.Proofs.Tryz.func29 (by kernel_rfl) (by kernel_rfl) (Nat.le_of_ble_eq_true (by kernel_rfl))
  (cast (by kernel_rfl) ht)
end Ztk
namespace Zro
noncomputable abbrev fn:Func:=Go.Proofs.Tryz.f7
def kp:Zcj:=[(2000002,[6])]
noncomputable def C (p:List Nat):Code:=(cod fn).sub p
def KR (Q:QT):KT:=Zfb pg fn.results.toList Q
theorem call (a0x0:Pt) (n0x0 c0x0:Nat) (e0x0:Bool) (a0x1:Pt) (n0x1 c0x1:Nat) (e0x1:Bool) (x1 x2:Int) (h:Zaa) (Q:QT) (ht :
 Zck (h ++ [.cells Zab [.slice a0x0 n0x0 c0x0 e0x0,.slice a0x1 n0x1 c0x1 e0x1] false]) fun A=>xSl (Zag A (.ptr (h.length,0 + 1))) fun B B C C=>Zco (Zbj A (.ptr (h.length,0)) 2) fun C=>Zaj C fun C D=>xSl C fun C E F G=>Zaj D fun D H=>xSl D fun D I J K=>Zbv H (Zah pg Zfg [.agg [.slice C E F G,.slice D I J K]] A fun A C=>
 Zbx A fun A=>bcase A (bcase (decide ((x1:Int) ≥ 0)) (bcase (decide ((x1:Int) < (((B:Nat):Int)))) (bcase (decide ((x2:Int) ≥ 0)) (bcase (decide ((x2:Int) < (((B:Nat):Int)))) (xSl (Zag C (.ptr (h.length,0 + 1))) fun A B D D=>(0≤(x1:Int)∧(x1:Int) < (B:Nat))∧(Zbm A fun A B=>Zco (Zbj C (.ptr (A,B + (Int.toNat x1) * 3)) 3) fun D=>Zaj D fun D E=>Zbg D fun D=>Zaj E fun E F=>Zbg E fun E=>Zaj F fun F G=>xSl F fun F H I J=>Zbv G (xSl (Zag C (.ptr (h.length,0 + 1))) fun G K L L=>(Zbj C (.ptr (A,B + (Int.toNat x1) * 3)) 3=Zbj C (.ptr (A,B + (Int.toNat x1) * 3)) 3)∧(Zag C (.ptr (h.length,0 + 1))=Zag C (.ptr (h.length,0 + 1)))∧(0≤(x2:Int)∧(x2:Int) < (K:Nat))∧(Zbm G fun G K=>Zco (Zbj C (.ptr (G,K + (Int.toNat x2) * 3)) 3) fun G=>Zaj G fun G K=>Zbg G fun G=>Zaj K fun K L=>Zbg K fun K=>Zaj L fun L M=>xSl L fun L N O P=>Zbv M ((Zbj C (.ptr (A,B + (Int.toNat x1) * 3)) 3=Zbj C (.ptr (A,B + (Int.toNat x1) * 3)) 3)∧(Zag C (.ptr (h.length,0 + 1))=Zag C (.ptr (h.length,0 + 1)))∧Zah pg Zlx [.agg [.str D,.str E,.slice F H I J],.agg [.str G,.str K,.slice L N O P]] C fun A B=>
 Zbx A fun A=>(Zag B (.ptr (h.length,0 + 1))=Zag C (.ptr (h.length,0 + 1)))∧Q (.bool A) B))))) ((Zbj C (.tup []) 3=Zbj C (.tup []) 3)∧(Zag C (.tup [])=Zag C (.tup []))∧(Zbj C (.tup []) 3=Zbj C (.tup []) 3)∧(Zag C (.tup [])=Zag C (.tup []))∧(Zag C (.tup [])=Zag C (.tup []))∧Q (.bool false) C)) ((Zbj C (.tup []) 3=Zbj C (.tup []) 3)∧(Zag C (.tup [])=Zag C (.tup []))∧(Zbj C (.tup []) 3=Zbj C (.tup []) 3)∧(Zag C (.tup [])=Zag C (.tup []))∧(Zag C (.tup [])=Zag C (.tup []))∧Q (.bool false) C)) ((Zbj C (.tup []) 3=Zbj C (.tup []) 3)∧(Zag C (.tup [])=Zag C (.tup []))∧(Zbj C (.tup []) 3=Zbj C (.tup []) 3)∧(Zag C (.tup [])=Zag C (.tup []))∧(Zag C (.tup [])=Zag C (.tup []))∧Q (.bool false) C)) ((Zbj C (.tup []) 3=Zbj C (.tup []) 3)∧(Zag C (.tup [])=Zag C (.tup []))∧(Zbj C (.tup []) 3=Zbj C (.tup []) 3)∧(Zag C (.tup [])=Zag C (.tup []))∧(Zag C (.tup [])=Zag C (.tup []))∧Q (.bool false) C)) ((Zbj C (.tup []) 3=Zbj C (.tup []) 3)∧(Zag C (.tup [])=Zag C (.tup []))∧(Zbj C (.tup []) 3=Zbj C (.tup []) 3)∧(Zag C (.tup [])=Zag C (.tup []))∧(Zag C (.tup [])=Zag C (.tup []))∧Q (.bool false) C))):Zah pg Zfp [.agg [.slice a0x0 n0x0 c0x0 e0x0,.slice a0x1 n0x1 c0x1 e0x1],.int .i64 x1,.int .i64 x2] h Q:=
 Zah.of_body kp (c:=cod fn) (fn:=fn) Go.Proofs.Tryz.func7 (by kernel_rfl) (by kernel_rfl) (Nat.le_of_ble_eq_true (by kernel_rfl))
  (cast (by kernel_rfl) ht)
end Zro
namespace Zmr
noncomputable abbrev fn:Func:=Go.Proofs.Tryz.f8
def kp:Zcj:=[(4000003,[3,1,2]),(2000003,[6])]
noncomputable def C (p:List Nat):Code:=(cod fn).sub p
def KR (Q:QT):KT:=Zfb pg fn.results.toList Q
def J3 (Q:QT) (i3 o3:Nat) (x1 x2:Int) (h:Zaa):Prop:=Den pg fn.ntmps (C [1,1]) [(3,.ptr (i3,o3)),(1,.int .i64 x1),(2,.int .i64 x2)] h (KR Q)
theorem J3i (Q:QT) (i3 o3:Nat) (x1 x2:Int) (h:Zaa) (ht :
 xSl (Zag h (.ptr (i3,o3 + 1))) fun A B C C=>(0≤(x1:Int)∧(x1:Int) < (B:Nat))∧(Zbm A fun A B=>Zbg (Zag h (.ptr (A,B + (Int.toNat x1) * 3 + 0 + 0))) fun C=>xSl (Zag h (.ptr (i3,o3 + 1))) fun D E F F=>(Zag h (.ptr (A,B + (Int.toNat x1) * 3 + 0 + 0))=Zag h (.ptr (A,B + (Int.toNat x1) * 3 + 0 + 0)))∧(Zag h (.ptr (i3,o3 + 1))=Zag h (.ptr (i3,o3 + 1)))∧(0≤(x2:Int)∧(x2:Int) < (E:Nat))∧(Zbm D fun D E=>Zbg (Zag h (.ptr (D,E + (Int.toNat x2) * 3 + 0 + 0))) fun D=>(Zag h (.ptr (A,B + (Int.toNat x1) * 3 + 0 + 0))=Zag h (.ptr (A,B + (Int.toNat x1) * 3 + 0 + 0)))∧(Zag h (.ptr (i3,o3 + 1))=Zag h (.ptr (i3,o3 + 1)))∧bcase (decide (C=D)) (xSl (Zag h (.ptr (i3,o3 + 1))) fun C D E E=>(0≤(x2:Int)∧(x2:Int) < (D:Nat))∧(Zbm C fun C D=>Zbg (Zag h (.ptr (C,D + (Int.toNat x2) * 3 + 0 + 1))) fun E=>xSl (Zag h (.ptr (i3,o3 + 1))) fun F G H H=>(Zag h (.ptr (C,D + (Int.toNat x2) * 3 + 0 + 1))=Zag h (.ptr (C,D + (Int.toNat x2) * 3 + 0 + 1)))∧(Zag h (.ptr (i3,o3 + 1))=Zag h (.ptr (i3,o3 + 1)))∧(Zag h (.ptr (A,B + (Int.toNat x1) * 3 + 0 + 0))=Zag h (.ptr (A,B + (Int.toNat x1) * 3 + 0 + 0)))∧(Zag h (.ptr (i3,o3 + 1))=Zag h (.ptr (i3,o3 + 1)))∧(0≤(x1:Int)∧(x1:Int) < (G:Nat))∧(Zbm F fun F G=>Zbg (Zag h (.ptr (F,G + (Int.toNat x1) * 3 + 0 + 1))) fun F=>(Zag h (.ptr (C,D + (Int.toNat x2) * 3 + 0 + 1))=Zag h (.ptr (C,D + (Int.toNat x2) * 3 + 0 + 1)))∧(Zag h (.ptr (i3,o3 + 1))=Zag h (.ptr (i3,o3 + 1)))∧(Zag h (.ptr (A,B + (Int.toNat x1) * 3 + 0 + 0))=Zag h (.ptr (A,B + (Int.toNat x1) * 3 + 0 + 0)))∧(Zag h (.ptr (i3,o3 + 1))=Zag h (.ptr (i3,o3 + 1)))∧Zah pg Ziq [.str E,.str F] h fun C D=>
 Zbx C fun C=>(Zag D (.ptr (i3,o3 + 1))=Zag h (.ptr (i3,o3 + 1)))∧(Zag D (.ptr (A,B + (Int.toNat x1) * 3 + 0 + 0))=Zag h (.ptr (A,B + (Int.toNat x1) * 3 + 0 + 0)))∧(Zag D (.ptr (i3,o3 + 1))=Zag h (.ptr (i3,o3 + 1)))∧Q (.bool C) D))) ((Zag h (.tup [])=Zag h (.tup []))∧(Zag h (.tup [])=Zag h (.tup []))∧(Zag h (.ptr (A,B + (Int.toNat x1) * 3 + 0 + 0))=Zag h (.ptr (A,B + (Int.toNat x1) * 3 + 0 + 0)))∧(Zag h (.ptr (i3,o3 + 1))=Zag h (.ptr (i3,o3 + 1)))∧(Zag h (.tup [])=Zag h (.tup []))∧(Zag h (.tup [])=Zag h (.tup []))∧(Zag h (.ptr (A,B + (Int.toNat x1) * 3 + 0 + 0))=Zag h (.ptr (A,B + (Int.toNat x1) * 3 + 0 + 0)))∧(Zag h (.ptr (i3,o3 + 1))=Zag h (.ptr (i3,o3 + 1)))∧(Zag h (.tup [])=Zag h (.tup []))∧(Zag h (.ptr (A,B + (Int.toNat x1) * 3 + 0 + 0))=Zag h (.ptr (A,B + (Int.toNat x1) * 3 + 0 + 0)))∧(Zag h (.ptr (i3,o3 + 1))=Zag h (.ptr (i3,o3 + 1)))∧Q (.bool false) h)))):J3 Q i3 o3 x1 x2 h:=
 Zba (kp:=kp) (cast (by kernel_rfl) ht)
theorem call (a0x0:Pt) (n0x0 c0x0:Nat) (e0x0:Bool) (a0x1:Pt) (n0x1 c0x1:Nat) (e0x1:Bool) (x1 x2:Int) (h:Zaa) (Q:QT) (ht :
 Zck (h ++ [.cells Zab [.slice a0x0 n0x0 c0x0 e0x0,.slice a0x1 n0x1 c0x1 e0x1] false]) fun A=>Zco (Zbj A (.ptr (h.length,0)) 2) fun B=>Zaj B fun B C=>xSl B fun B D E F=>Zaj C fun C G=>xSl C fun C H I J=>Zbv G (Zah pg Zfi [.agg [.slice B D E F,.slice C H I J]] A fun A B=>
 Zbx A fun A=>bcase (!A) (Q (.bool false) B) (xSl (Zag B (.ptr (h.length,0 + 1))) fun A A C C=>Zah pg Zig [.int .i64 x1,.int .i64 0,.int .i64 (IntKind.wrap .i64 ((((A:Nat):Int)) - 1))] B fun A B=>
 Zbx A fun A=>bcase (!A) (Q (.bool false) B) (xSl (Zag B (.ptr (h.length,0 + 1))) fun A A C C=>Zah pg Zig [.int .i64 x2,.int .i64 0,.int .i64 (IntKind.wrap .i64 ((((A:Nat):Int)) - 1))] B fun A B=>
 Zbx A fun A=>bcase (!A) (Q (.bool false) B) (J3 Q h.length 0 x1 x2 B))))):Zah pg Zjq [.agg [.slice a0x0 n0x0 c0x0 e0x0,.slice a0x1 n0x1 c0x1 e0x1],.int .i64 x1,.int .i64 x2] h Q:=
 Zah.of_body kp (c:=cod fn) (fn:=fn) Go.Proofs.Tryz.func8 (by kernel_rfl) (by kernel_rfl) (Nat.le_of_ble_eq_true (by kernel_rfl))
  (cast (by kernel_rfl) ht)
end Zmr
end Go.Sim

set_option maxRecDepth 100000
set_option maxHeartbeats 0
set_option linter.unusedVariables false
namespace Go.Sim
open Go Go.RowKit
namespace Zmh
noncomputable abbrev fn:Func:=Go.Proofs.Tryz.f152
def kp:Zcj:=[]
noncomputable def C (p:List Nat):Code:=(cod fn).sub p
def KR (Q:QT):KT:=Zfb pg fn.results.toList Q
theorem call (x0x0 x0x1:List Nat) (a0x2:Pt) (n0x2 c0x2:Nat) (e0x2:Bool) (h:Zaa) (Q:QT) (ht :
 Zck (h ++ [.cells Zac [.str x0x0,.str x0x1,.slice a0x2 n0x2 c0x2 e0x2] false]) fun A=>Zck (A ++ [.cells Zac [.str [],.str [],.slice none 0 0 true] false]) fun B=>Zck (B ++ [.cells Zad [] false]) fun C=>xSl (Zag C (.ptr (h.length,0 + 2))) fun D E F G=>Zcz pg Zfu C (.slice (B.length,0) 0 0 true) (.slice D E F G) fun B C=>xSl B fun B D E F=>Zbu (Zbb C (.ptr (h.length,0 + 2)) [.slice B D E F]) fun B=>Zco (Zbj B (.ptr (h.length,0)) 3) fun C=>Zaj C fun C D=>Zbg C fun C=>Zaj D fun D E=>Zbg D fun D=>Zaj E fun E F=>xSl E fun E G H I=>Zbv F (Zbu (Zbb B (.ptr (A.length,0)) [.str C,.str D,.slice E G H I]) fun B=>Zco (Zbj B (.ptr (A.length,0)) 3) fun A=>Zaj A fun A C=>Zbg A fun A=>Zaj C fun C D=>Zbg C fun C=>Zaj D fun D E=>xSl D fun D F G H=>Zbv E (Q (.agg [.str A,.str C,.slice D F G H]) B))):Zah pg Zhu [.agg [.str x0x0,.str x0x1,.slice a0x2 n0x2 c0x2 e0x2]] h Q:=
 Zah.of_body kp (c:=cod fn) (fn:=fn) Go.Proofs.Tryz.func152 (by kernel_rfl) (by kernel_rfl) (Nat.le_of_ble_eq_true (by kernel_rfl))
  (cast (by kernel_rfl) ht)
end Zmh
namespace Zem
noncomputable abbrev fn:Func:=Go.Proofs.Tryz.f135
def kp:Zcj:=[(3000003,[3]),(1000003,[3,7,8,9])]
noncomputable def C (p:List Nat):Code:=(cod fn).sub p
def KR (Q:QT):KT:=Zfb pg fn.results.toList Q
abbrev T3:=Pt→Nat→Nat→Bool→Pt→Nat→Nat→Bool→Int→Int→Zaa→Prop
def E3 (R3:T3) (env:Env) (h:Zaa):Prop:=Zbw 3 env fun v env=>xSl v fun a3 n3 c3 e3=>Zbw 7 env fun v env=>xSl v fun a7 n7 c7 e7=>Zbw 8 env fun v env=>Zee .i64 v fun x8=>Zbw 9 env fun v env=>Zee .i64 v fun x9=>Zkh env (R3 a3 n3 c3 e3 a7 n7 c7 e7 x8 x9 h)
theorem Zfy {R3:T3} {env:Env} {h:Zaa} (hi:E3 R3 env h):∃ a3,∃ n3,∃ c3,∃ e3,∃ a7,∃ n7,∃ c7,∃ e7,∃ x8,∃ x9,env=[(3,.slice a3 n3 c3 e3),(7,.slice a7 n7 c7 e7),(8,.int .i64 x8),(9,.int .i64 x9)]∧R3 a3 n3 c3 e3 a7 n7 c7 e7 x8 x9 h:=by
 unfold E3 at hi
 repeat ((first | (have k:=Zak hi; clear hi; obtain ⟨_,_,e,hi⟩:=k) | (have k:=Zax hi; clear hi; obtain ⟨_,e,hi⟩:=k) | (have k:=Zby hi; clear hi; obtain ⟨_,_,_,_,e,hi⟩:=k)); subst e)
 obtain ⟨rfl,hi⟩:=Zbp hi
 exact ⟨_,_,_,_,_,_,_,_,_,_,rfl,hi⟩
def K0 (Q:QT):KT:=andThen (fun env' h'=>(match kp.find 4000007 with | some ks=>Den pg fn.ntmps (C [1,1,1]) (env'.keep ks) h' (KR Q) | none=>den pg fn.ntmps kp (C [1,1,1]) env' h' (KR Q))) (KR Q)
def K1 (Q:QT):KT:=Zcs 0 (K0 Q)
def K2 (Q:QT):KT:=left kp 3 (K1 Q)
def K3 (Q:QT) (R3:T3):KT:=rnd ((kp.find 1000003).getD []) (E3 R3) (K2 Q)
def L3 (Q:QT) (a3:Pt) (n3 c3:Nat) (e3:Bool) (a7:Pt) (n7 c7:Nat) (e7:Bool) (x8 x9:Int) (h:Zaa):Prop:=Zet (Den pg fn.ntmps (C [1,1,0,1,0,0])) ((kp.find 1000003).getD []) (K2 Q) [(3,.slice a3 n3 c3 e3),(7,.slice a7 n7 c7 e7),(8,.int .i64 x8),(9,.int .i64 x9)] h
def Ztb (Q:QT) (a3:Pt) (n3 c3:Nat) (e3:Bool) (h:Zaa):Prop:=At (K1 Q) (.exit 0) [(3,.slice a3 n3 c3 e3)] h
def L3t (Q:QT) (R3:T3) (a3:Pt) (n3 c3:Nat) (e3:Bool) (a7:Pt) (n7 c7:Nat) (e7:Bool) (x8 x9:Int) (h:Zaa):Prop:=
 bcase (decide ((x9:Int) < x8)) ((0≤(x9:Int)∧(x9:Int) < (n7:Nat))∧(Zbm a7 fun A B=>Zco (Zbj h (.ptr (A,B + (Int.toNat x9) * 3)) 3) fun A=>Zaj A fun A B=>Zbg A fun A=>Zaj B fun B C=>Zbg B fun B=>Zaj C fun C D=>xSl C fun C E F G=>Zbv D (Zck (h ++ [.cells Zac [.str [],.str [],.slice none 0 0 true] false]) fun D=>Zbu (Zbb D (.ptr (h.length,0)) [.str A,.str B,.slice C E F G]) fun A=>Zco (Zbj A (.ptr (h.length,0)) 3) fun B=>Zaj B fun B C=>Zbg B fun B=>Zaj C fun C D=>Zbg C fun C=>Zaj D fun D E=>xSl D fun D F G H=>Zbv E (Zah pg Zhu [.agg [.str B,.str C,.slice D F G H]] A fun A B=>
 Znt A fun A=>Zaj A fun A C=>Zbg A fun A=>Zaj C fun C D=>Zbg C fun C=>Zaj D fun D E=>xSl D fun D F G H=>Zbv E (Zck (B ++ [.cells Zac [.str A,.str C,.slice D F G H] false]) fun A=>Zcz pg Zes A (.slice a3 n3 c3 e3) (.slice (B.length,0) 1 1 true) fun A B=>xSl A fun A C D E=>R3 A C D E a7 n7 c7 e7 x8 (IntKind.wrap .i64 (x9 + 1)) B))))) (Ztb Q a3 n3 c3 e3 h)
theorem Zpe (Q:QT) (R3:T3) (a3:Pt) (n3 c3:Nat) (e3:Bool) (a7:Pt) (n7 c7:Nat) (e7:Bool) (x8 x9:Int) (h:Zaa) (ht:L3t Q R3 a3 n3 c3 e3 a7 n7 c7 e7 x8 x9 h):Den pg fn.ntmps (C [1,1,0,1,0,0]) [(3,.slice a3 n3 c3 e3),(7,.slice a7 n7 c7 e7),(8,.int .i64 x8),(9,.int .i64 x9)] h (K3 Q R3):=
 Zba (kp:=kp) (cast (by kernel_rfl) ht)
theorem L3ind (Q:QT) (a7:Pt) (n7 c7:Nat) (e7:Bool) (x8:Int) {G:Type} (J:G→Pt→Nat→Nat→Bool→Int→Zaa→Prop) (m:G→Nat)
 (hr:∀ (g:G) (a3:Pt) (n3 c3:Nat) (e3:Bool) (x9:Int) (h:Zaa),J g a3 n3 c3 e3 x9 h→∀ (R3:T3),(∀ g' (a3:Pt) (n3 c3:Nat) (e3:Bool) (x9:Int) (h:Zaa),m g' < m g→J g' a3 n3 c3 e3 x9 h→R3 a3 n3 c3 e3 a7 n7 c7 e7 x8 x9 h)→L3t Q R3 a3 n3 c3 e3 a7 n7 c7 e7 x8 x9 h)
 (g:G) (a3:Pt) (n3 c3:Nat) (e3:Bool) (x9:Int) (h:Zaa) (hj:J g a3 n3 c3 e3 x9 h):L3 Q a3 n3 c3 e3 a7 n7 c7 e7 x8 x9 h:=by
 let P:=fun (K:Pt→Nat→Nat→Bool→Int→Zaa→Prop) a3 n3 c3 e3 a7' n7' c7' e7' x8' x9 h=>a7=a7'∧n7=n7'∧c7=c7'∧e7=e7'∧x8=x8'∧K a3 n3 c3 e3 x9 h
 refine Zet.inv2 (fun g=>E3 (P (J g))) (fun g=>E3 (P fun a3 n3 c3 e3 x9 h=>∃ g',m g' < m g∧J g' a3 n3 c3 e3 x9 h)) m ?_ ?_ g ⟨rfl,rfl,rfl,rfl,rfl,hj⟩
 ·intro g env h hi
  obtain ⟨a3,n3,c3,e3,a7',n7',c7',e7',x8',x9,rfl,rfl,rfl,rfl,rfl,rfl,hj⟩:=Zfy hi
  exact Zpe Q _ a3 n3 c3 e3 a7 n7 c7 e7 x8 x9 h (hr g a3 n3 c3 e3 x9 h hj (P fun a3 n3 c3 e3 x9 h=>∃ g',m g' < m g∧J g' a3 n3 c3 e3 x9 h) fun g' a3 n3 c3 e3 x9 h hlt hj=>⟨rfl,rfl,rfl,rfl,rfl,g',hlt,hj⟩)
 ·intro g env h hi
  obtain ⟨a3,n3,c3,e3,a7',n7',c7',e7',x8',x9,rfl,rfl,rfl,rfl,rfl,rfl,g',hlt,hj⟩:=Zfy hi
  exact ⟨g',hlt,rfl,rfl,rfl,rfl,rfl,hj⟩
theorem A3x0i (Q:QT) (a3:Pt) (n3 c3:Nat) (e3:Bool) (h:Zaa) (ht :
 Q (.slice a3 n3 c3 e3) h):Ztb Q a3 n3 c3 e3 h:=
 At.mk (cast (by kernel_rfl) ht)
theorem call (a0:Pt) (n0 c0:Nat) (e0:Bool) (h:Zaa) (Q:QT) (ht :
 Zck (h ++ [.cells Zac [] false]) fun A=>L3 Q (h.length,0) 0 0 true a0 n0 c0 e0 (((n0:Nat):Int)) 0 A):Zah pg Zgg [.slice a0 n0 c0 e0] h Q:=
 Zah.of_body kp (c:=cod fn) (fn:=fn) Go.Proofs.Tryz.func135 (by kernel_rfl) (by kernel_rfl) (Nat.le_of_ble_eq_true (by kernel_rfl))
  (cast (by kernel_rfl) ht)
end Zem
namespace Zol
noncomputable abbrev fn:Func:=Go.Proofs.Tryz.f119
def kp:Zcj:=[]
noncomputable def C (p:List Nat):Code:=(cod fn).sub p
def KR (Q:QT):KT:=Zfb pg fn.results.toList Q
theorem call (a0x0:Pt) (n0x0 c0x0:Nat) (e0x0:Bool) (a0x1:Pt) (n0x1 c0x1:Nat) (e0x1:Bool) (h:Zaa) (Q:QT) (ht :
 Zck (h ++ [.cells Zab [.slice a0x0 n0x0 c0x0 e0x0,.slice a0x1 n0x1 c0x1 e0x1] false]) fun A=>Zck (A ++ [.cells Zab [.slice none 0 0 true,.slice none 0 0 true] false]) fun B=>Zck (B ++ [.cells Zbf [] false]) fun C=>xSl (Zag C (.ptr (h.length,0 + 0))) fun D E F G=>Zcz pg Zjk C (.slice (B.length,0) 0 0 true) (.slice D E F G) fun B C=>xSl B fun B D E F=>Zbu (Zbb C (.ptr (h.length,0 + 0)) [.slice B D E F]) fun B=>xSl (Zag B (.ptr (h.length,0 + 1))) fun C D E F=>Zah pg Zgg [.slice C D E F] B fun B C=>
 xSl B fun B D E F=>Zbu (Zbb C (.ptr (h.length,0 + 1)) [.slice B D E F]) fun B=>Zco (Zbj B (.ptr (h.length,0)) 2) fun C=>Zaj C fun C D=>xSl C fun C E F G=>Zaj D fun D H=>xSl D fun D I J K=>Zbv H (Zbu (Zbb B (.ptr (A.length,0)) [.slice C E F G,.slice D I J K]) fun B=>Zco (Zbj B (.ptr (A.length,0)) 2) fun A=>Zaj A fun A C=>xSl A fun A D E F=>Zaj C fun C G=>xSl C fun C H I J=>Zbv G (Q (.agg [.slice A D E F,.slice C H I J]) B))):Zah pg Zkm [.agg [.slice a0x0 n0x0 c0x0 e0x0,.slice a0x1 n0x1 c0x1 e0x1]] h Q:=
 Zah.of_body kp (c:=cod fn) (fn:=fn) Go.Proofs.Tryz.func119 (by kernel_rfl) (by kernel_rfl) (Nat.le_of_ble_eq_true (by kernel_rfl))
  (cast (by kernel_rfl) ht)
end Zol
end Go.Sim

set_option maxRecDepth 100000
set_option maxHeartbeats 0
set_option linter.unusedVariables false
namespace Go.Sim
open Go Go.RowKit
namespace Zsb
noncomputable abbrev fn:Func:=Go.Proofs.Tryz.f54
def kp:Zcj:=[]
noncomputable def C (p:List Nat):Code:=(cod fn).sub p
def KR (Q:QT):KT:=Zfb pg fn.results.toList Q
theorem call (a0x0:Pt) (n0x0 c0x0:Nat) (e0x0:Bool) (a0x1:Pt) (n0x1 c0x1:Nat) (e0x1:Bool) (x1:List Nat) (h:Zaa) (Q:QT) (ht :
 Zck (h ++ [.cells Zab [.slice a0x0 n0x0 c0x0 e0x0,.slice a0x1 n0x1 c0x1 e0x1] false]) fun A=>Zco (Zbj A (.ptr (h.length,0)) 2) fun B=>Zaj B fun B C=>xSl B fun B D E F=>Zaj C fun C G=>xSl C fun C H I J=>Zbv G (Zah pg Zfg [.agg [.slice B D E F,.slice C H I J]] A fun A B=>
 Zbx A fun A=>bcase A (xSl (Zag B (.ptr (h.length,0 + 0))) fun A C D E=>Zah pg Zid [.slice A C D E,.str x1] B fun A C=>
 Zbx A fun A=>Q (.bool A) C) (Q (.bool false) B))):Zah pg Zns [.agg [.slice a0x0 n0x0 c0x0 e0x0,.slice a0x1 n0x1 c0x1 e0x1],.str x1] h Q:=
 Zah.of_body kp (c:=cod fn) (fn:=fn) Go.Proofs.Tryz.func54 (by kernel_rfl) (by kernel_rfl) (Nat.le_of_ble_eq_true (by kernel_rfl))
  (cast (by kernel_rfl) ht)
end Zsb
namespace Zsa
noncomputable abbrev fn:Func:=Go.Proofs.Tryz.f58
def kp:Zcj:=[]
noncomputable def C (p:List Nat):Code:=(cod fn).sub p
def KR (Q:QT):KT:=Zfb pg fn.results.toList Q
theorem call (a0x0:Pt) (n0x0 c0x0:Nat) (e0x0:Bool) (a0x1:Pt) (n0x1 c0x1:Nat) (e0x1:Bool) (x1:List Nat) (h:Zaa) (Q:QT) (ht :
 Zck (h ++ [.cells Zab [.slice a0x0 n0x0 c0x0 e0x0,.slice a0x1 n0x1 c0x1 e0x1] false]) fun A=>Zco (Zbj A (.ptr (h.length,0)) 2) fun B=>Zaj B fun B C=>xSl B fun B D E F=>Zaj C fun C G=>xSl C fun C H I J=>Zbv G (Zah pg Zfi [.agg [.slice B D E F,.slice C H I J]] A fun A B=>
 Zbx A fun A=>bcase A (Zco (Zbj B (.ptr (h.length,0)) 2) fun A=>Zaj A fun A C=>xSl A fun A D E F=>Zaj C fun C G=>xSl C fun C H I J=>Zbv G (Zah pg Zgh [.agg [.slice A D E F,.slice C H I J],.str x1] B fun A C=>
 Zdo .i64 A fun A=>Q (.bool (decide ((A:Int) ≥ 0))) C)) (Q (.bool false) B))):Zah pg Zob [.agg [.slice a0x0 n0x0 c0x0 e0x0,.slice a0x1 n0x1 c0x1 e0x1],.str x1] h Q:=
 Zah.of_body kp (c:=cod fn) (fn:=fn) Go.Proofs.Tryz.func58 (by kernel_rfl) (by kernel_rfl) (Nat.le_of_ble_eq_true (by kernel_rfl))
  (cast (by kernel_rfl) ht)
end Zsa
end Go.Sim

set_option maxRecDepth 100000
set_option maxHeartbeats 0
set_option linter.unusedVariables false
namespace Go.Sim
open Go Go.RowKit
namespace Zlj
noncomputable abbrev fn:Func:=Go.Proofs.Tryz.f19
def kp:Zcj:=[]
noncomputable def C (p:List Nat):Code:=(cod fn).sub p
def KR (Q:QT):KT:=Zfb pg fn.results.toList Q
theorem call (a0:Pt) (n0 c0:Nat) (e0:Bool) (h:Zaa) (Q:QT) (ht :
 Zck (h ++ [.cells Zab [.slice none 0 0 true,.slice none 0 0 true] false]) fun A=>Zck (A ++ [.cells Zad [.str [],.str []] false]) fun B=>Zah pg Zgi [.slice a0 n0 c0 e0] B fun B C=>
 Zhh B fun B=>Zah pg Znh [.ptr B] C fun B C=>
 Zny B fun B=>Zaj B fun B D=>Znt B fun B=>Zaj B fun B E=>xSl B fun B F G H=>Zaj E fun E I=>xSl E fun E J K L=>Zbv I (Zaj D fun D I=>Znt D fun D=>Zaj D fun D M=>Zbg D fun D=>Zaj M fun M N=>Zbg M fun M=>Zbv N (Zbv I (Zbu (Zbb C (.ptr (h.length,0)) [.slice B F G H,.slice E J K L]) fun B=>Zbu (Zbb B (.ptr (A.length,0)) [.str D,.str M]) fun B=>Zco (Zbj B (.ptr (h.length,0)) 2) fun C=>Zaj C fun C D=>xSl C fun C E F G=>Zaj D fun D H=>xSl D fun D I J K=>Zbv H (Zco (Zbj B (.ptr (A.length,0)) 2) fun A=>Zaj A fun A H=>Zbg A fun A=>Zaj H fun H L=>Zbg H fun H=>Zbv L (Q (.tup [.agg [.slice C E F G,.slice D I J K],.agg [.str A,.str H]]) B)))))):Zah pg Zhj [.slice a0 n0 c0 e0] h Q:=
 Zah.of_body kp (c:=cod fn) (fn:=fn) Go.Proofs.Tryz.func19 (by kernel_rfl) (by kernel_rfl) (Nat.le_of_ble_eq_true (by kernel_rfl))
  (cast (by kernel_rfl) ht)
end Zlj
namespace Zoe
noncomputable abbrev fn:Func:=Go.Proofs.Tryz.f57
def kp:Zcj:=[(2000003,[2,3])]
noncomputable def C (p:List Nat):Code:=(cod fn).sub p
def KR (Q:QT):KT:=Zfb pg fn.results.toList Q
theorem call (a0:Pt) (n0 c0:Nat) (e0:Bool) (h:Zaa) (Q:QT) (ht :
 Zck (h ++ [.cells Zab [.slice none 0 0 true,.slice none 0 0 true] false]) fun A=>Zah pg Zgi [.slice a0 n0 c0 e0] A fun A B=>
 Zhh A fun A=>Zah pg Zil [.ptr A] B fun B C=>
 Znt B fun B=>Zaj B fun B D=>xSl B fun B E F G=>Zaj D fun D H=>xSl D fun D I J K=>Zbv H (Zck (C ++ [.cells Zab [.slice none 0 0 true,.slice none 0 0 true] false]) fun H=>Zbu (Zbb H (.ptr (C.length,0)) [.slice B E F G,.slice D I J K]) fun B=>Zco (Zbj B (.ptr (C.length,0)) 2) fun D=>Zaj D fun D E=>xSl D fun D F G H=>Zaj E fun E I=>xSl E fun E J K L=>Zbv I (Zco (Zbj B (.ptr (C.length,0)) 2) fun I=>Zaj I fun I M=>xSl I fun I N O P=>Zaj M fun M R=>xSl M fun M S T U=>Zbv R ((Zbj B (.ptr (C.length,0)) 2=Zbj B (.ptr (C.length,0)) 2)∧Zah pg Zkn [.ptr A,.agg [.slice I N O P,.slice M S T U]] B fun A I=>
 Zbg A fun A=>(Zbj I (.ptr (C.length,0)) 2=Zbj B (.ptr (C.length,0)) 2)∧Zbu (Zbb I (.ptr (h.length,0)) [.slice D F G H,.slice E J K L]) fun B=>Zco (Zbj B (.ptr (h.length,0)) 2) fun C=>Zaj C fun C D=>xSl C fun C E F G=>Zaj D fun D H=>xSl D fun D I J K=>Zbv H (Q (.tup [.agg [.slice C E F G,.slice D I J K],.str A]) B))))):Zah pg Zjx [.slice a0 n0 c0 e0] h Q:=
 Zah.of_body kp (c:=cod fn) (fn:=fn) Go.Proofs.Tryz.func57 (by kernel_rfl) (by kernel_rfl) (Nat.le_of_ble_eq_true (by kernel_rfl))
  (cast (by kernel_rfl) ht)
end Zoe
namespace Zku
noncomputable abbrev fn:Func:=Go.Proofs.Tryz.f23
def kp:Zcj:=[]
noncomputable def C (p:List Nat):Code:=(cod fn).sub p
def KR (Q:QT):KT:=Zfb pg fn.results.toList Q
theorem call (a0:Pt) (n0 c0:Nat) (e0:Bool) (h:Zaa) (Q:QT) (ht :
 Zck (h ++ [.cells Zab [.slice none 0 0 true,.slice none 0 0 true] false]) fun A=>Zah pg Zjx [.slice a0 n0 c0 e0] A fun A B=>
 Zny A fun A=>Zaj A fun A C=>Znt A fun A=>Zaj A fun A D=>xSl A fun A E F G=>Zaj D fun D H=>xSl D fun D I J K=>Zbv H (Zaj C fun C H=>Zbg C fun C=>Zbv H (Zbu (Zbb B (.ptr (h.length,0)) [.slice A E F G,.slice D I J K]) fun A=>Zco (Zbj A (.ptr (h.length,0)) 2) fun B=>Zaj B fun B D=>xSl B fun B E F G=>Zaj D fun D H=>xSl D fun D I J K=>Zbv H (Q (.tup [.agg [.slice B E F G,.slice D I J K],.str C]) A)))):Zah pg Zgu [.slice a0 n0 c0 e0] h Q:=
 Zah.of_body kp (c:=cod fn) (fn:=fn) Go.Proofs.Tryz.func23 (by kernel_rfl) (by kernel_rfl) (Nat.le_of_ble_eq_true (by kernel_rfl))
  (cast (by kernel_rfl) ht)
end Zku
end Go.Sim
