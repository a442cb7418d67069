/- A part of the proof of a statement of this seat: see the text that holds the theorem. No condition. -/
import Derived.Test.YtflfcofeedjblaaGreatDoorNm
set_option linter.unusedVariables false
set_option linter.unusedSimpArgs false
set_option linter.all false
set_option maxRecDepth 100000
set_option linter.unusedVariables false
namespace Go.Sim
open Go Go.RowKit
namespace Zlc
noncomputable abbrev fn:Func:=Go.Proofs.Tryz.f127
def kp:Zco:=[(2000001,[4])]
noncomputable def C (p:List Nat):Code:=(cod fn).sub p
def KR (Q:QT):KT:=Zfd pg fn.results.toList Q
theorem call (x0:Int) (v1 v2:Zat) (h:Zaa) (Q:QT) (ht :
 Zhq pg Zad v1 1 fun A=>Zhq pg Zad v1 1 fun B=>xSl (Zae h (A)) fun C D E E=>Zdt .i64 (Zae h (v2)) fun E=>(0≤(E:Int)∧(E:Int) < (D:Nat))∧(Zbg C fun C D=>Zcn (Zbj h (.ptr (C,D + (Int.toNat E) * 3)) 3) fun F=>Zai F fun F G=>Zbc F fun F=>Zai G fun G H=>Zbc G fun G=>Zai H fun H I=>xSl H fun H J K L=>Zbu I (xSl (Zae h (B)) fun B I M M=>(Zbj h (.ptr (C,D + (Int.toNat E) * 3)) 3=Zbj h (.ptr (C,D + (Int.toNat E) * 3)) 3)∧(Zae h (v2)=Zae h (v2))∧(Zae h (A)=Zae h (A))∧(0≤(x0:Int)∧(x0:Int) < (I:Nat))∧(Zbg B fun B I=>Zcn (Zbj h (.ptr (B,I + (Int.toNat x0) * 3)) 3) fun B=>Zai B fun B I=>Zbc B fun B=>Zai I fun I M=>Zbc I fun I=>Zai M fun M N=>xSl M fun M O P R=>Zbu N ((Zbj h (.ptr (C,D + (Int.toNat E) * 3)) 3=Zbj h (.ptr (C,D + (Int.toNat E) * 3)) 3)∧(Zae h (v2)=Zae h (v2))∧(Zae h (A)=Zae h (A))∧Zaj pg Zov [.agg [.str F,.str G,.slice H J K L],.agg [.str B,.str I,.slice M O P R]] h fun B C=>
 Zck B fun B=>(Zae C (v2)=Zae h (v2))∧(Zae C (A)=Zae h (A))∧Q (.bool (!B)) C))))):Zaj pg Zcj [.int .i64 x0,v1,v2] h Q:=
 Zaj.of_body kp (c:=cod fn) (fn:=fn) Go.Proofs.Tryz.func127 (by kernel_rfl) (by kernel_rfl) (Nat.le_of_ble_eq_true (by kernel_rfl))
  (cast (by kernel_rfl) ht)
end Zlc
namespace Zca
noncomputable abbrev fn:Func:=Go.Proofs.Tryz.f145
def kp:Zco:=[(3000002,[4]),(1000002,[0,1,7,8])]
noncomputable def C (p:List Nat):Code:=(cod fn).sub p
def KR (Q:QT):KT:=Zfd pg fn.results.toList Q
abbrev T2:=Pt→Nat→Nat→Bool→Zat→Zat→Int→Int→Zaa→Prop
def E2 (R2:T2) (env:Env) (h:Zaa):Prop:=Zce 0 env fun v env=>xSl v fun a0 n0 c0 e0=>Zce 1 env fun v env=>eFn Zcj v fun cs=>Zai cs fun c cs'=>Zzn c fun v1x0=>Zai cs' fun c cs''=>Zzn c fun v1x1=>Zbu cs'' (Zce 7 env fun v env=>Zew .i64 v fun x7=>Zce 8 env fun v env=>Zew .i64 v fun x8=>Zls env (R2 a0 n0 c0 e0 v1x0 v1x1 x7 x8 h))
theorem Zfj {R2:T2} {env:Env} {h:Zaa} (hi:E2 R2 env h):∃ a0,∃ n0,∃ c0,∃ e0,∃ v1x0,∃ v1x1,∃ x7,∃ x8,env=[(0,.slice a0 n0 c0 e0),(1,.fn Zcj [v1x0,v1x1]),(7,.int .i64 x7),(8,.int .i64 x8)]∧R2 a0 n0 c0 e0 v1x0 v1x1 x7 x8 h:=by
 unfold E2 at hi
 have hi0:=hi
 clear hi
 obtain ⟨_,_,rfl,hi1⟩:=Zan hi0
 obtain ⟨a0,n0,c0,e0,rfl,hi2⟩:=Zcg hi1
 obtain ⟨_,_,rfl,hi3⟩:=Zan hi2
 obtain ⟨cs,rfl,hi4⟩:=Zwy hi3
 obtain ⟨c,cs',rfl,hi5⟩:=Zpb hi4
 obtain ⟨v1x0,hx,hi6⟩:=Zlz hi5
 replace hx:=(Option.some.inj hx).symm
 subst hx
 obtain ⟨c,cs'',rfl,hi7⟩:=Zpb hi6
 obtain ⟨v1x1,hx,hi8⟩:=Zlz hi7
 replace hx:=(Option.some.inj hx).symm
 subst hx
 obtain ⟨rfl,hi9⟩:=Ztp hi8
 obtain ⟨_,_,rfl,hi10⟩:=Zan hi9
 obtain ⟨x7,rfl,hi11⟩:=Zay hi10
 obtain ⟨_,_,rfl,hi12⟩:=Zan hi11
 obtain ⟨x8,rfl,hi13⟩:=Zay hi12
 obtain ⟨rfl,hi14⟩:=Zbw hi13
 have hi:=hi14
 exact ⟨a0,n0,c0,e0,v1x0,v1x1,x7,x8,rfl,hi⟩
def K0 (Q:QT):KT:=andThen (fun env' h'=>(match kp.find 4000007 with | some ks=>Den pg fn.ntmps (C [1,1]) (env'.keep ks) h' (KR Q) | none=>den pg fn.ntmps kp (C [1,1]) env' h' (KR Q))) (KR Q)
def K1 (Q:QT):KT:=Zde 0 (K0 Q)
def K2 (Q:QT):KT:=left kp 2 (K1 Q)
def K3 (Q:QT) (R2:T2):KT:=rnd ((kp.find 1000002).getD []) (E2 R2) (K2 Q)
def L2 (Q:QT) (a0:Pt) (n0 c0:Nat) (e0:Bool) (v1x0 v1x1:Zat) (x7 x8:Int) (h:Zaa):Prop:=Zff (Den pg fn.ntmps (C [1,0,1,0,0])) ((kp.find 1000002).getD []) (K2 Q) [(0,.slice a0 n0 c0 e0),(1,.fn Zcj [v1x0,v1x1]),(7,.int .i64 x7),(8,.int .i64 x8)] h
def Zrj (Q:QT) (h:Zaa):Prop:=At (K1 Q) (.exit 0) [(4,.undef)] h
def L2t (Q:QT) (R2:T2) (a0:Pt) (n0 c0:Nat) (e0:Bool) (v1x0 v1x1:Zat) (x7 x8:Int) (h:Zaa):Prop:=
 bcase (decide ((x8:Int) < x7)) ((0≤(x8:Int)∧(x8:Int) < (n0:Nat))∧(Zbg a0 fun A B=>Zdt .i64 (Zae h (.ptr (A,B + (Int.toNat x8) * 1))) fun A=>Zaj pg Zcj [.int .i64 A,v1x0,v1x1] h fun A B=>
 Zck A fun A=>bcase A (Q (.int .i64 x8) B) (R2 a0 n0 c0 e0 v1x0 v1x1 x7 (IntKind.wrap .i64 (x8 + 1)) B))) (Zrj Q h)
theorem Zno (Q:QT) (R2:T2) (a0:Pt) (n0 c0:Nat) (e0:Bool) (v1x0 v1x1:Zat) (x7 x8:Int) (h:Zaa) (ht:L2t Q R2 a0 n0 c0 e0 v1x0 v1x1 x7 x8 h):Den pg fn.ntmps (C [1,0,1,0,0]) [(0,.slice a0 n0 c0 e0),(1,.fn Zcj [v1x0,v1x1]),(7,.int .i64 x7),(8,.int .i64 x8)] h (K3 Q R2):=
 Zbf (kp:=kp) (cast (by kernel_rfl) ht)
theorem L2ind (Q:QT) (a0:Pt) (n0 c0:Nat) (e0:Bool) (v1x0 v1x1:Zat) (x7:Int) {G:Type} (J:G→Int→Zaa→Prop) (m:G→Nat)
 (hr:∀ (g:G) (x8:Int) (h:Zaa),J g x8 h→∀ (R2:T2),(∀ g' (x8:Int) (h:Zaa),m g' < m g→J g' x8 h→R2 a0 n0 c0 e0 v1x0 v1x1 x7 x8 h)→L2t Q R2 a0 n0 c0 e0 v1x0 v1x1 x7 x8 h)
 (g:G) (x8:Int) (h:Zaa) (hj:J g x8 h):L2 Q a0 n0 c0 e0 v1x0 v1x1 x7 x8 h:=by
 let P:=fun (K:Int→Zaa→Prop) a0' n0' c0' e0' v1x0' v1x1' x7' x8 h=>a0=a0'∧n0=n0'∧c0=c0'∧e0=e0'∧v1x0=v1x0'∧v1x1=v1x1'∧x7=x7'∧K x8 h
 refine Zff.inv2 (fun g=>E2 (P (J g))) (fun g=>E2 (P fun x8 h=>∃ g',m g' < m g∧J g' x8 h)) m ?_ ?_ g ⟨rfl,rfl,rfl,rfl,rfl,rfl,rfl,hj⟩
 ·intro g env h hi
  obtain ⟨a0',n0',c0',e0',v1x0',v1x1',x7',x8,rfl,rfl,rfl,rfl,rfl,rfl,rfl,rfl,hj⟩:=Zfj hi
  exact Zno Q _ a0 n0 c0 e0 v1x0 v1x1 x7 x8 h (hr g x8 h hj (P fun x8 h=>∃ g',m g' < m g∧J g' x8 h) fun g' x8 h hlt hj=>⟨rfl,rfl,rfl,rfl,rfl,rfl,rfl,g',hlt,hj⟩)
 ·intro g env h hi
  obtain ⟨a0',n0',c0',e0',v1x0',v1x1',x7',x8,rfl,rfl,rfl,rfl,rfl,rfl,rfl,rfl,g',hlt,hj⟩:=Zfj hi
  exact ⟨g',hlt,rfl,rfl,rfl,rfl,rfl,rfl,rfl,hj⟩
theorem A2x0i (Q:QT) (h:Zaa) (ht :
 Q (.int .i64 (-1)) h):Zrj Q h:=
 At.mk (cast (by kernel_rfl) ht)
theorem call (a0:Pt) (n0 c0:Nat) (e0:Bool) (v1x0 v1x1:Zat) (h:Zaa) (Q:QT) (ht :
 L2 Q a0 n0 c0 e0 v1x0 v1x1 (((n0:Nat):Int)) 0 h):Zaj pg Zfv [.slice a0 n0 c0 e0,.fn Zcj [v1x0,v1x1]] h Q:=
 Zaj.of_body kp (c:=cod fn) (fn:=fn) Go.Proofs.Tryz.func145 (by kernel_rfl) (by kernel_rfl) (Nat.le_of_ble_eq_true (by kernel_rfl))
  (cast (by kernel_rfl) ht)
end Zca
namespace Zgk
noncomputable abbrev fn:Func:=Go.Proofs.Tryz.f105
def kp:Zco:=[(3000002,[4]),(1000002,[1,2,7,8,9])]
noncomputable def C (p:List Nat):Code:=(cod fn).sub p
def KR (Q:QT):KT:=Zfd pg fn.results.toList Q
abbrev T2:=Pt→Nat→Nat→Bool→Nat→Nat→Pt→Nat→Nat→Bool→Int→Int→Zaa→Prop
def E2 (R2:T2) (env:Env) (h:Zaa):Prop:=Zce 1 env fun v env=>xSl v fun a1 n1 c1 e1=>Zce 2 env fun v env=>Zgm v fun a=>Zbg a fun i2 o2=>Zce 7 env fun v env=>xSl v fun a7 n7 c7 e7=>Zce 8 env fun v env=>Zew .i64 v fun x8=>Zce 9 env fun v env=>Zew .i64 v fun x9=>Zls env (R2 a1 n1 c1 e1 i2 o2 a7 n7 c7 e7 x8 x9 h)
theorem Zfj {R2:T2} {env:Env} {h:Zaa} (hi:E2 R2 env h):∃ a1,∃ n1,∃ c1,∃ e1,∃ i2,∃ o2,∃ a7,∃ n7,∃ c7,∃ e7,∃ x8,∃ x9,env=[(1,.slice a1 n1 c1 e1),(2,.ptr (i2,o2)),(7,.slice a7 n7 c7 e7),(8,.int .i64 x8),(9,.int .i64 x9)]∧R2 a1 n1 c1 e1 i2 o2 a7 n7 c7 e7 x8 x9 h:=by
 unfold E2 at hi
 have hi0:=hi
 clear hi
 obtain ⟨_,_,rfl,hi1⟩:=Zan hi0
 obtain ⟨a1,n1,c1,e1,rfl,hi2⟩:=Zcg hi1
 obtain ⟨_,_,rfl,hi3⟩:=Zan hi2
 obtain ⟨a,rfl,hi4⟩:=Zbv hi3
 obtain ⟨i2,o2,rfl,hi5⟩:=Zbr hi4
 obtain ⟨_,_,rfl,hi6⟩:=Zan hi5
 obtain ⟨a7,n7,c7,e7,rfl,hi7⟩:=Zcg hi6
 obtain ⟨_,_,rfl,hi8⟩:=Zan hi7
 obtain ⟨x8,rfl,hi9⟩:=Zay hi8
 obtain ⟨_,_,rfl,hi10⟩:=Zan hi9
 obtain ⟨x9,rfl,hi11⟩:=Zay hi10
 obtain ⟨rfl,hi12⟩:=Zbw hi11
 have hi:=hi12
 exact ⟨a1,n1,c1,e1,i2,o2,a7,n7,c7,e7,x8,x9,rfl,hi⟩
def K0 (Q:QT):KT:=andThen (fun env' h'=>(match kp.find 4000007 with | some ks=>Den pg fn.ntmps (C [1,1]) (env'.keep ks) h' (KR Q) | none=>den pg fn.ntmps kp (C [1,1]) env' h' (KR Q))) (KR Q)
def K1 (Q:QT):KT:=Zde 0 (K0 Q)
def K2 (Q:QT):KT:=left kp 2 (K1 Q)
def K3 (Q:QT) (R2:T2):KT:=rnd ((kp.find 1000002).getD []) (E2 R2) (K2 Q)
def L2 (Q:QT) (a1:Pt) (n1 c1:Nat) (e1:Bool) (i2 o2:Nat) (a7:Pt) (n7 c7:Nat) (e7:Bool) (x8 x9:Int) (h:Zaa):Prop:=Zff (Den pg fn.ntmps (C [1,0,1,0,0])) ((kp.find 1000002).getD []) (K2 Q) [(1,.slice a1 n1 c1 e1),(2,.ptr (i2,o2)),(7,.slice a7 n7 c7 e7),(8,.int .i64 x8),(9,.int .i64 x9)] h
def Zrj (Q:QT) (h:Zaa):Prop:=At (K1 Q) (.exit 0) [(4,.undef)] h
def L2t (Q:QT) (R2:T2) (a1:Pt) (n1 c1:Nat) (e1:Bool) (i2 o2:Nat) (a7:Pt) (n7 c7:Nat) (e7:Bool) (x8 x9:Int) (h:Zaa):Prop:=
 bcase (decide ((x9:Int) < x8)) ((0≤(x9:Int)∧(x9:Int) < (n7:Nat))∧(Zbg a7 fun A B=>Zdt .i64 (Zae h (.ptr (A,B + (Int.toNat x9) * 1))) fun A=>Zch (h ++ [.cells Zix [.int .i64 0] false]) fun B=>Zbn (Zaz B (.ptr (h.length,0)) [.int .i64 A]) fun A=>Zaj pg Zgr [.slice a1 n1 c1 e1,.fn Zcj [.ptr (i2,o2),.ptr (h.length,0)]] A fun A B=>
 Zck A fun A=>bcase (!A) (Zdt .i64 (Zae B (.ptr (h.length,0))) fun A=>Q (.int .i64 A) B) (R2 a1 n1 c1 e1 i2 o2 a7 n7 c7 e7 x8 (IntKind.wrap .i64 (x9 + 1)) B))) (Zrj Q h)
theorem Zno (Q:QT) (R2:T2) (a1:Pt) (n1 c1:Nat) (e1:Bool) (i2 o2:Nat) (a7:Pt) (n7 c7:Nat) (e7:Bool) (x8 x9:Int) (h:Zaa) (ht:L2t Q R2 a1 n1 c1 e1 i2 o2 a7 n7 c7 e7 x8 x9 h):Den pg fn.ntmps (C [1,0,1,0,0]) [(1,.slice a1 n1 c1 e1),(2,.ptr (i2,o2)),(7,.slice a7 n7 c7 e7),(8,.int .i64 x8),(9,.int .i64 x9)] h (K3 Q R2):=
 Zbf (kp:=kp) (cast (by kernel_rfl) ht)
theorem L2ind (Q:QT) (a1:Pt) (n1 c1:Nat) (e1:Bool) (i2 o2:Nat) (a7:Pt) (n7 c7:Nat) (e7:Bool) (x8:Int) {G:Type} (J:G→Int→Zaa→Prop) (m:G→Nat)
 (hr:∀ (g:G) (x9:Int) (h:Zaa),J g x9 h→∀ (R2:T2),(∀ g' (x9:Int) (h:Zaa),m g' < m g→J g' x9 h→R2 a1 n1 c1 e1 i2 o2 a7 n7 c7 e7 x8 x9 h)→L2t Q R2 a1 n1 c1 e1 i2 o2 a7 n7 c7 e7 x8 x9 h)
 (g:G) (x9:Int) (h:Zaa) (hj:J g x9 h):L2 Q a1 n1 c1 e1 i2 o2 a7 n7 c7 e7 x8 x9 h:=by
 let P:=fun (K:Int→Zaa→Prop) a1' n1' c1' e1' i2' o2' a7' n7' c7' e7' x8' x9 h=>a1=a1'∧n1=n1'∧c1=c1'∧e1=e1'∧i2=i2'∧o2=o2'∧a7=a7'∧n7=n7'∧c7=c7'∧e7=e7'∧x8=x8'∧K x9 h
 refine Zff.inv2 (fun g=>E2 (P (J g))) (fun g=>E2 (P fun x9 h=>∃ g',m g' < m g∧J g' x9 h)) m ?_ ?_ g ⟨rfl,rfl,rfl,rfl,rfl,rfl,rfl,rfl,rfl,rfl,rfl,hj⟩
 ·intro g env h hi
  obtain ⟨a1',n1',c1',e1',i2',o2',a7',n7',c7',e7',x8',x9,rfl,rfl,rfl,rfl,rfl,rfl,rfl,rfl,rfl,rfl,rfl,rfl,hj⟩:=Zfj hi
  exact Zno Q _ a1 n1 c1 e1 i2 o2 a7 n7 c7 e7 x8 x9 h (hr g x9 h hj (P fun x9 h=>∃ g',m g' < m g∧J g' x9 h) fun g' x9 h hlt hj=>⟨rfl,rfl,rfl,rfl,rfl,rfl,rfl,rfl,rfl,rfl,rfl,g',hlt,hj⟩)
 ·intro g env h hi
  obtain ⟨a1',n1',c1',e1',i2',o2',a7',n7',c7',e7',x8',x9,rfl,rfl,rfl,rfl,rfl,rfl,rfl,rfl,rfl,rfl,rfl,rfl,g',hlt,hj⟩:=Zfj hi
  exact ⟨g',hlt,rfl,rfl,rfl,rfl,rfl,rfl,rfl,rfl,rfl,rfl,rfl,hj⟩
theorem A2x0i (Q:QT) (h:Zaa) (ht :
 Q (.int .i64 (-1)) h):Zrj Q h:=
 At.mk (cast (by kernel_rfl) ht)
theorem call (a0x0:Pt) (n0x0 c0x0:Nat) (e0x0:Bool) (a0x1:Pt) (n0x1 c0x1:Nat) (e0x1:Bool) (a1:Pt) (n1 c1:Nat) (e1:Bool) (h:Zaa) (Q:QT) (ht :
 Zch (h ++ [.cells Zad [.slice a0x0 n0x0 c0x0 e0x0,.slice a0x1 n0x1 c0x1 e0x1] false]) fun A=>L2 Q a1 n1 c1 e1 h.length 0 a1 n1 c1 e1 (((n1:Nat):Int)) 0 A):Zaj pg Zki [.agg [.slice a0x0 n0x0 c0x0 e0x0,.slice a0x1 n0x1 c0x1 e0x1],.slice a1 n1 c1 e1] h Q:=
 Zaj.of_body kp (c:=cod fn) (fn:=fn) Go.Proofs.Tryz.func105 (by kernel_rfl) (by kernel_rfl) (Nat.le_of_ble_eq_true (by kernel_rfl))
  (cast (by kernel_rfl) ht)
end Zgk
namespace Zea
noncomputable abbrev fn:Func:=Go.Proofs.Tryz.f126
def kp:Zco:=[]
noncomputable def C (p:List Nat):Code:=(cod fn).sub p
def KR (Q:QT):KT:=Zfd pg fn.results.toList Q
theorem call (a0:Pt) (n0 c0:Nat) (e0:Bool) (v1x0 v1x1:Zat) (h:Zaa) (Q:QT) (ht :
 Zaj pg Zfv [.slice a0 n0 c0 e0,.fn Zcj [v1x0,v1x1]] h fun A B=>
 Zdt .i64 A fun A=>Q (.bool (decide ((A:Int) ≥ 0))) B):Zaj pg Zgr [.slice a0 n0 c0 e0,.fn Zcj [v1x0,v1x1]] h Q:=
 Zaj.of_body kp (c:=cod fn) (fn:=fn) Go.Proofs.Tryz.func126 (by kernel_rfl) (by kernel_rfl) (Nat.le_of_ble_eq_true (by kernel_rfl))
  (cast (by kernel_rfl) ht)
end Zea
namespace Zdr
noncomputable abbrev fn:Func:=Go.Proofs.Tryz.f133
def kp:Zco:=[(3000003,[4]),(1000003,[2,5,18,19,20]),(3000007,[9,8,20,19,18,5,2]),(1000007,[2,5,8,9,18,19,20,24,25,26]),(4000010,[26,25,24,9,2,8,20,19,18,5])]
noncomputable def C (p:List Nat):Code:=(cod fn).sub p
def KR (Q:QT):KT:=Zfd pg fn.results.toList Q
abbrev T3:=Nat→Nat→Pt→Nat→Nat→Bool→Pt→Nat→Nat→Bool→Int→Int→Zaa→Prop
def E3 (R3:T3) (env:Env) (h:Zaa):Prop:=Zce 2 env fun v env=>Zgm v fun a=>Zbg a fun i2 o2=>Zce 5 env fun v env=>xSl v fun a5 n5 c5 e5=>Zce 18 env fun v env=>xSl v fun a18 n18 c18 e18=>Zce 19 env fun v env=>Zew .i64 v fun x19=>Zce 20 env fun v env=>Zew .i64 v fun x20=>Zls env (R3 i2 o2 a5 n5 c5 e5 a18 n18 c18 e18 x19 x20 h)
theorem Zgj {R3:T3} {env:Env} {h:Zaa} (hi:E3 R3 env h):∃ i2,∃ o2,∃ a5,∃ n5,∃ c5,∃ e5,∃ a18,∃ n18,∃ c18,∃ e18,∃ x19,∃ x20,env=[(2,.ptr (i2,o2)),(5,.slice a5 n5 c5 e5),(18,.slice a18 n18 c18 e18),(19,.int .i64 x19),(20,.int .i64 x20)]∧R3 i2 o2 a5 n5 c5 e5 a18 n18 c18 e18 x19 x20 h:=by
 unfold E3 at hi
 have hi0:=hi
 clear hi
 obtain ⟨_,_,rfl,hi1⟩:=Zan hi0
 obtain ⟨a,rfl,hi2⟩:=Zbv hi1
 obtain ⟨i2,o2,rfl,hi3⟩:=Zbr hi2
 obtain ⟨_,_,rfl,hi4⟩:=Zan hi3
 obtain ⟨a5,n5,c5,e5,rfl,hi5⟩:=Zcg hi4
 obtain ⟨_,_,rfl,hi6⟩:=Zan hi5
 obtain ⟨a18,n18,c18,e18,rfl,hi7⟩:=Zcg hi6
 obtain ⟨_,_,rfl,hi8⟩:=Zan hi7
 obtain ⟨x19,rfl,hi9⟩:=Zay hi8
 obtain ⟨_,_,rfl,hi10⟩:=Zan hi9
 obtain ⟨x20,rfl,hi11⟩:=Zay hi10
 obtain ⟨rfl,hi12⟩:=Zbw hi11
 have hi:=hi12
 exact ⟨i2,o2,a5,n5,c5,e5,a18,n18,c18,e18,x19,x20,rfl,hi⟩
abbrev T7:=Nat→Nat→Pt→Nat→Nat→Bool→Int→Bool→Pt→Nat→Nat→Bool→Int→Int→Pt→Nat→Nat→Bool→Int→Int→Zaa→Prop
def E7 (R7:T7) (env:Env) (h:Zaa):Prop:=Zce 2 env fun v env=>Zgm v fun a=>Zbg a fun i2 o2=>Zce 5 env fun v env=>xSl v fun a5 n5 c5 e5=>Zce 8 env fun v env=>Zew .i64 v fun x8=>Zce 9 env fun v env=>Zck v fun x9=>Zce 18 env fun v env=>xSl v fun a18 n18 c18 e18=>Zce 19 env fun v env=>Zew .i64 v fun x19=>Zce 20 env fun v env=>Zew .i64 v fun x20=>Zce 24 env fun v env=>xSl v fun a24 n24 c24 e24=>Zce 25 env fun v env=>Zew .i64 v fun x25=>Zce 26 env fun v env=>Zew .i64 v fun x26=>Zls env (R7 i2 o2 a5 n5 c5 e5 x8 x9 a18 n18 c18 e18 x19 x20 a24 n24 c24 e24 x25 x26 h)
theorem Zvz {R7:T7} {env:Env} {h:Zaa} (hi:E7 R7 env h):∃ i2,∃ o2,∃ a5,∃ n5,∃ c5,∃ e5,∃ x8,∃ x9,∃ a18,∃ n18,∃ c18,∃ e18,∃ x19,∃ x20,∃ a24,∃ n24,∃ c24,∃ e24,∃ x25,∃ x26,env=[(2,.ptr (i2,o2)),(5,.slice a5 n5 c5 e5),(8,.int .i64 x8),(9,.bool x9),(18,.slice a18 n18 c18 e18),(19,.int .i64 x19),(20,.int .i64 x20),(24,.slice a24 n24 c24 e24),(25,.int .i64 x25),(26,.int .i64 x26)]∧R7 i2 o2 a5 n5 c5 e5 x8 x9 a18 n18 c18 e18 x19 x20 a24 n24 c24 e24 x25 x26 h:=by
 unfold E7 at hi
 have hi0:=hi
 clear hi
 obtain ⟨_,_,rfl,hi1⟩:=Zan hi0
 obtain ⟨a,rfl,hi2⟩:=Zbv hi1
 obtain ⟨i2,o2,rfl,hi3⟩:=Zbr hi2
 obtain ⟨_,_,rfl,hi4⟩:=Zan hi3
 obtain ⟨a5,n5,c5,e5,rfl,hi5⟩:=Zcg hi4
 obtain ⟨_,_,rfl,hi6⟩:=Zan hi5
 obtain ⟨x8,rfl,hi7⟩:=Zay hi6
 obtain ⟨_,_,rfl,hi8⟩:=Zan hi7
 obtain ⟨x9,rfl,hi9⟩:=Zuy hi8
 obtain ⟨_,_,rfl,hi10⟩:=Zan hi9
 obtain ⟨a18,n18,c18,e18,rfl,hi11⟩:=Zcg hi10
 obtain ⟨_,_,rfl,hi12⟩:=Zan hi11
 obtain ⟨x19,rfl,hi13⟩:=Zay hi12
 obtain ⟨_,_,rfl,hi14⟩:=Zan hi13
 obtain ⟨x20,rfl,hi15⟩:=Zay hi14
 obtain ⟨_,_,rfl,hi16⟩:=Zan hi15
 obtain ⟨a24,n24,c24,e24,rfl,hi17⟩:=Zcg hi16
 obtain ⟨_,_,rfl,hi18⟩:=Zan hi17
 obtain ⟨x25,rfl,hi19⟩:=Zay hi18
 obtain ⟨_,_,rfl,hi20⟩:=Zan hi19
 obtain ⟨x26,rfl,hi21⟩:=Zay hi20
 obtain ⟨rfl,hi22⟩:=Zbw hi21
 have hi:=hi22
 exact ⟨i2,o2,a5,n5,c5,e5,x8,x9,a18,n18,c18,e18,x19,x20,a24,n24,c24,e24,x25,x26,rfl,hi⟩
def K0 (Q:QT):KT:=andThen (fun env' h'=>(match kp.find 4000014 with | some ks=>Den pg fn.ntmps (C [1,1,1]) (env'.keep ks) h' (KR Q) | none=>den pg fn.ntmps kp (C [1,1,1]) env' h' (KR Q))) (KR Q)
def K1 (Q:QT):KT:=Zde 0 (K0 Q)
def K2 (Q:QT):KT:=left kp 3 (K1 Q)
def K3 (Q:QT) (R3:T3):KT:=rnd ((kp.find 1000003).getD []) (E3 R3) (K2 Q)
def K4 (Q:QT) (R3:T3):KT:=andThen (fun env' h'=>(match kp.find 4000013 with | some ks=>Den pg fn.ntmps (C [1,1,0,1,0,0,1,1,1]) (env'.keep ks) h' (K3 Q R3) | none=>den pg fn.ntmps kp (C [1,1,0,1,0,0,1,1,1]) env' h' (K3 Q R3))) (K3 Q R3)
def K5 (Q:QT) (R3:T3):KT:=Zde 1 (K4 Q R3)
def K6 (Q:QT) (R3:T3):KT:=andThen (fun env' h'=>(match kp.find 4000011 with | some ks=>Den pg fn.ntmps (C [1,1,0,1,0,0,1,1,0,0,1,1,1]) (env'.keep ks) h' (K5 Q R3) | none=>den pg fn.ntmps kp (C [1,1,0,1,0,0,1,1,0,0,1,1,1]) env' h' (K5 Q R3))) (K5 Q R3)
def K7 (Q:QT) (R3:T3):KT:=Zde 2 (K6 Q R3)
def K8 (Q:QT) (R3:T3):KT:=left kp 7 (K7 Q R3)
def K9 (Q:QT) (R3:T3) (R7:T7):KT:=rnd ((kp.find 1000007).getD []) (E7 R7) (K8 Q R3)
def L3 (Q:QT) (i2 o2:Nat) (a5:Pt) (n5 c5:Nat) (e5:Bool) (a18:Pt) (n18 c18:Nat) (e18:Bool) (x19 x20:Int) (h:Zaa):Prop:=Zff (Den pg fn.ntmps (C [1,1,0,1,0,0])) ((kp.find 1000003).getD []) (K2 Q) [(2,.ptr (i2,o2)),(5,.slice a5 n5 c5 e5),(18,.slice a18 n18 c18 e18),(19,.int .i64 x19),(20,.int .i64 x20)] h
def L7 (Q:QT) (R3:T3) (i2 o2:Nat) (a5:Pt) (n5 c5:Nat) (e5:Bool) (x8:Int) (x9:Bool) (a18:Pt) (n18 c18:Nat) (e18:Bool) (x19 x20:Int) (a24:Pt) (n24 c24:Nat) (e24:Bool) (x25 x26:Int) (h:Zaa):Prop:=Zff (Den pg fn.ntmps (C [1,1,0,1,0,0,1,1,0,0,1,1,0,1,0,0])) ((kp.find 1000007).getD []) (K8 Q R3) [(2,.ptr (i2,o2)),(5,.slice a5 n5 c5 e5),(8,.int .i64 x8),(9,.bool x9),(18,.slice a18 n18 c18 e18),(19,.int .i64 x19),(20,.int .i64 x20),(24,.slice a24 n24 c24 e24),(25,.int .i64 x25),(26,.int .i64 x26)] h
def Zua (Q:QT) (h:Zaa):Prop:=At (K1 Q) (.exit 0) [(4,.undef)] h
def J10 (Q:QT) (R3:T3) (R7:T7) (x26 x25:Int) (a24:Pt) (n24 c24:Nat) (e24 x9:Bool) (i2 o2:Nat) (x8 x20 x19:Int) (a18:Pt) (n18 c18:Nat) (e18:Bool) (a5:Pt) (n5 c5:Nat) (e5:Bool) (h:Zaa):Prop:=Den pg fn.ntmps (C [1,1,0,1,0,0,1,1,0,0,1,1,0,1,0,0,1,1,1]) [(26,.int .i64 x26),(25,.int .i64 x25),(24,.slice a24 n24 c24 e24),(9,.bool x9),(2,.ptr (i2,o2)),(8,.int .i64 x8),(20,.int .i64 x20),(19,.int .i64 x19),(18,.slice a18 n18 c18 e18),(5,.slice a5 n5 c5 e5)] h (K9 Q R3 R7)
def Yrt (Q:QT) (R3:T3) (x9:Bool) (x8 x20 x19:Int) (a18:Pt) (n18 c18:Nat) (e18:Bool) (a5:Pt) (n5 c5:Nat) (e5:Bool) (i2 o2:Nat) (h:Zaa):Prop:=At (K7 Q R3) (.exit 2) [(9,.bool x9),(8,.int .i64 x8),(20,.int .i64 x20),(19,.int .i64 x19),(18,.slice a18 n18 c18 e18),(5,.slice a5 n5 c5 e5),(2,.ptr (i2,o2))] h
def L3t (Q:QT) (R3:T3) (i2 o2:Nat) (a5:Pt) (n5 c5:Nat) (e5:Bool) (a18:Pt) (n18 c18:Nat) (e18:Bool) (x19 x20:Int) (h:Zaa):Prop:=
 bcase (decide ((x20:Int) < x19)) ((0≤(x20:Int)∧(x20:Int) < (n18:Nat))∧(Zbg a18 fun A B=>Zdt .i64 (Zae h (.ptr (A,B + (Int.toNat x20) * 1))) fun A=>L7 Q R3 i2 o2 a5 n5 c5 e5 A true a18 n18 c18 e18 x19 x20 a5 n5 c5 e5 (((n5:Nat):Int)) 0 h)) (Zua Q h)
theorem Zqi (Q:QT) (R3:T3) (i2 o2:Nat) (a5:Pt) (n5 c5:Nat) (e5:Bool) (a18:Pt) (n18 c18:Nat) (e18:Bool) (x19 x20:Int) (h:Zaa) (ht:L3t Q R3 i2 o2 a5 n5 c5 e5 a18 n18 c18 e18 x19 x20 h):Den pg fn.ntmps (C [1,1,0,1,0,0]) [(2,.ptr (i2,o2)),(5,.slice a5 n5 c5 e5),(18,.slice a18 n18 c18 e18),(19,.int .i64 x19),(20,.int .i64 x20)] h (K3 Q R3):=
 Zbf (kp:=kp) (cast (by kernel_rfl) ht)
theorem L3ind (Q:QT) (i2 o2:Nat) (a5:Pt) (n5 c5:Nat) (e5:Bool) (a18:Pt) (n18 c18:Nat) (e18:Bool) (x19:Int) {G:Type} (J:G→Int→Zaa→Prop) (m:G→Nat)
 (hr:∀ (g:G) (x20:Int) (h:Zaa),J g x20 h→∀ (R3:T3),(∀ g' (x20:Int) (h:Zaa),m g' < m g→J g' x20 h→R3 i2 o2 a5 n5 c5 e5 a18 n18 c18 e18 x19 x20 h)→L3t Q R3 i2 o2 a5 n5 c5 e5 a18 n18 c18 e18 x19 x20 h)
 (g:G) (x20:Int) (h:Zaa) (hj:J g x20 h):L3 Q i2 o2 a5 n5 c5 e5 a18 n18 c18 e18 x19 x20 h:=by
 let P:=fun (K:Int→Zaa→Prop) i2' o2' a5' n5' c5' e5' a18' n18' c18' e18' x19' x20 h=>i2=i2'∧o2=o2'∧a5=a5'∧n5=n5'∧c5=c5'∧e5=e5'∧a18=a18'∧n18=n18'∧c18=c18'∧e18=e18'∧x19=x19'∧K x20 h
 refine Zff.inv2 (fun g=>E3 (P (J g))) (fun g=>E3 (P fun x20 h=>∃ g',m g' < m g∧J g' x20 h)) m ?_ ?_ g ⟨rfl,rfl,rfl,rfl,rfl,rfl,rfl,rfl,rfl,rfl,rfl,hj⟩
 ·intro g env h hi
  obtain ⟨i2',o2',a5',n5',c5',e5',a18',n18',c18',e18',x19',x20,rfl,rfl,rfl,rfl,rfl,rfl,rfl,rfl,rfl,rfl,rfl,rfl,hj⟩:=Zgj hi
  exact Zqi Q _ i2 o2 a5 n5 c5 e5 a18 n18 c18 e18 x19 x20 h (hr g x20 h hj (P fun x20 h=>∃ g',m g' < m g∧J g' x20 h) fun g' x20 h hlt hj=>⟨rfl,rfl,rfl,rfl,rfl,rfl,rfl,rfl,rfl,rfl,rfl,g',hlt,hj⟩)
 ·intro g env h hi
  obtain ⟨i2',o2',a5',n5',c5',e5',a18',n18',c18',e18',x19',x20,rfl,rfl,rfl,rfl,rfl,rfl,rfl,rfl,rfl,rfl,rfl,rfl,g',hlt,hj⟩:=Zgj hi
  exact ⟨g',hlt,rfl,rfl,rfl,rfl,rfl,rfl,rfl,rfl,rfl,rfl,rfl,hj⟩
def L7t (Q:QT) (R3:T3) (R7:T7) (i2 o2:Nat) (a5:Pt) (n5 c5:Nat) (e5:Bool) (x8:Int) (x9:Bool) (a18:Pt) (n18 c18:Nat) (e18:Bool) (x19 x20:Int) (a24:Pt) (n24 c24:Nat) (e24:Bool) (x25 x26:Int) (h:Zaa):Prop:=
 bcase (decide ((x26:Int) < x25)) ((0≤(x26:Int)∧(x26:Int) < (n24:Nat))∧(Zbg a24 fun A B=>Zdt .i64 (Zae h (.ptr (A,B + (Int.toNat x26) * 1))) fun A=>bcase x9 (Zcn (Zbj h (.ptr (i2,o2)) 2) fun B=>Zai B fun B C=>xSl B fun B D E F=>Zai C fun C G=>xSl C fun C H I J=>Zbu G (Zaj pg Zmn [.agg [.slice B D E F,.slice C H I J],.int .i64 x8,.int .i64 A] h fun A B=>
 Zck A fun A=>J10 Q R3 R7 x26 x25 a24 n24 c24 e24 A i2 o2 x8 x20 x19 a18 n18 c18 e18 a5 n5 c5 e5 B)) (J10 Q R3 R7 x26 x25 a24 n24 c24 e24 false i2 o2 x8 x20 x19 a18 n18 c18 e18 a5 n5 c5 e5 h))) (Yrt Q R3 x9 x8 x20 x19 a18 n18 c18 e18 a5 n5 c5 e5 i2 o2 h)
theorem Ylf (Q:QT) (R3:T3) (R7:T7) (i2 o2:Nat) (a5:Pt) (n5 c5:Nat) (e5:Bool) (x8:Int) (x9:Bool) (a18:Pt) (n18 c18:Nat) (e18:Bool) (x19 x20:Int) (a24:Pt) (n24 c24:Nat) (e24:Bool) (x25 x26:Int) (h:Zaa) (ht:L7t Q R3 R7 i2 o2 a5 n5 c5 e5 x8 x9 a18 n18 c18 e18 x19 x20 a24 n24 c24 e24 x25 x26 h):Den pg fn.ntmps (C [1,1,0,1,0,0,1,1,0,0,1,1,0,1,0,0]) [(2,.ptr (i2,o2)),(5,.slice a5 n5 c5 e5),(8,.int .i64 x8),(9,.bool x9),(18,.slice a18 n18 c18 e18),(19,.int .i64 x19),(20,.int .i64 x20),(24,.slice a24 n24 c24 e24),(25,.int .i64 x25),(26,.int .i64 x26)] h (K9 Q R3 R7):=
 Zbf (kp:=kp) (cast (by kernel_rfl) ht)
theorem L7ind (Q:QT) (R3:T3) (i2 o2:Nat) (a5:Pt) (n5 c5:Nat) (e5:Bool) (x8:Int) (a18:Pt) (n18 c18:Nat) (e18:Bool) (x19 x20:Int) (a24:Pt) (n24 c24:Nat) (e24:Bool) (x25:Int) {G:Type} (J:G→Bool→Int→Zaa→Prop) (m:G→Nat)
 (hr:∀ (g:G) (x9:Bool) (x26:Int) (h:Zaa),J g x9 x26 h→∀ (R7:T7),(∀ g' (x9:Bool) (x26:Int) (h:Zaa),m g' < m g→J g' x9 x26 h→R7 i2 o2 a5 n5 c5 e5 x8 x9 a18 n18 c18 e18 x19 x20 a24 n24 c24 e24 x25 x26 h)→L7t Q R3 R7 i2 o2 a5 n5 c5 e5 x8 x9 a18 n18 c18 e18 x19 x20 a24 n24 c24 e24 x25 x26 h)
 (g:G) (x9:Bool) (x26:Int) (h:Zaa) (hj:J g x9 x26 h):L7 Q R3 i2 o2 a5 n5 c5 e5 x8 x9 a18 n18 c18 e18 x19 x20 a24 n24 c24 e24 x25 x26 h:=by
 let P:=fun (K:Bool→Int→Zaa→Prop) i2' o2' a5' n5' c5' e5' x8' x9 a18' n18' c18' e18' x19' x20' a24' n24' c24' e24' x25' x26 h=>i2=i2'∧o2=o2'∧a5=a5'∧n5=n5'∧c5=c5'∧e5=e5'∧x8=x8'∧a18=a18'∧n18=n18'∧c18=c18'∧e18=e18'∧x19=x19'∧x20=x20'∧a24=a24'∧n24=n24'∧c24=c24'∧e24=e24'∧x25=x25'∧K x9 x26 h
 refine Zff.inv2 (fun g=>E7 (P (J g))) (fun g=>E7 (P fun x9 x26 h=>∃ g',m g' < m g∧J g' x9 x26 h)) m ?_ ?_ g ⟨rfl,rfl,rfl,rfl,rfl,rfl,rfl,rfl,rfl,rfl,rfl,rfl,rfl,rfl,rfl,rfl,rfl,rfl,hj⟩
 ·intro g env h hi
  obtain ⟨i2',o2',a5',n5',c5',e5',x8',x9,a18',n18',c18',e18',x19',x20',a24',n24',c24',e24',x25',x26,rfl,rfl,rfl,rfl,rfl,rfl,rfl,rfl,rfl,rfl,rfl,rfl,rfl,rfl,rfl,rfl,rfl,rfl,rfl,hj⟩:=Zvz hi
  exact Ylf Q R3 (P fun x9 x26 h=>∃ g',m g' < m g∧J g' x9 x26 h) i2 o2 a5 n5 c5 e5 x8 x9 a18 n18 c18 e18 x19 x20 a24 n24 c24 e24 x25 x26 h (hr g x9 x26 h hj (P fun x9 x26 h=>∃ g',m g' < m g∧J g' x9 x26 h) fun g' x9 x26 h hlt hj=>⟨rfl,rfl,rfl,rfl,rfl,rfl,rfl,rfl,rfl,rfl,rfl,rfl,rfl,rfl,rfl,rfl,rfl,rfl,g',hlt,hj⟩)
 ·intro g env h hi
  obtain ⟨i2',o2',a5',n5',c5',e5',x8',x9,a18',n18',c18',e18',x19',x20',a24',n24',c24',e24',x25',x26,rfl,rfl,rfl,rfl,rfl,rfl,rfl,rfl,rfl,rfl,rfl,rfl,rfl,rfl,rfl,rfl,rfl,rfl,rfl,g',hlt,hj⟩:=Zvz hi
  exact ⟨g',hlt,rfl,rfl,rfl,rfl,rfl,rfl,rfl,rfl,rfl,rfl,rfl,rfl,rfl,rfl,rfl,rfl,rfl,rfl,hj⟩
theorem A3x0i (Q:QT) (h:Zaa) (ht :
 Q (.int .i64 (-1)) h):Zua Q h:=
 At.mk (cast (by kernel_rfl) ht)
theorem J10i (Q:QT) (R3:T3) (R7:T7) (x26 x25:Int) (a24:Pt) (n24 c24:Nat) (e24 x9:Bool) (i2 o2:Nat) (x8 x20 x19:Int) (a18:Pt) (n18 c18:Nat) (e18:Bool) (a5:Pt) (n5 c5:Nat) (e5:Bool) (h:Zaa) (ht :
 R7 i2 o2 a5 n5 c5 e5 x8 x9 a18 n18 c18 e18 x19 x20 a24 n24 c24 e24 x25 (IntKind.wrap .i64 (x26 + 1)) h):J10 Q R3 R7 x26 x25 a24 n24 c24 e24 x9 i2 o2 x8 x20 x19 a18 n18 c18 e18 a5 n5 c5 e5 h:=
 Zbf (kp:=kp) (cast (by kernel_rfl) ht)
theorem A7x2i (Q:QT) (R3:T3) (x9:Bool) (x8 x20 x19:Int) (a18:Pt) (n18 c18:Nat) (e18:Bool) (a5:Pt) (n5 c5:Nat) (e5:Bool) (i2 o2:Nat) (h:Zaa) (ht :
 bcase x9 (Q (.int .i64 x8) h) (R3 i2 o2 a5 n5 c5 e5 a18 n18 c18 e18 x19 (IntKind.wrap .i64 (x20 + 1)) h)):Yrt Q R3 x9 x8 x20 x19 a18 n18 c18 e18 a5 n5 c5 e5 i2 o2 h:=
 At.mk (cast (by kernel_rfl) ht)
theorem call (a0x0:Pt) (n0x0 c0x0:Nat) (e0x0:Bool) (a0x1:Pt) (n0x1 c0x1:Nat) (e0x1:Bool) (x1x0 x1x1:List Nat) (h:Zaa) (Q:QT) (ht :
 Zch (h ++ [.cells Zad [.slice a0x0 n0x0 c0x0 e0x0,.slice a0x1 n0x1 c0x1 e0x1] false]) fun A=>Zch (A ++ [.cells Zab [.str x1x0,.str x1x1] false]) fun B=>Zcn (Zbj B (.ptr (h.length,0)) 2) fun C=>Zai C fun C D=>xSl C fun C E F G=>Zai D fun D H=>xSl D fun D I J K=>Zbu H (Zcn (Zbj B (.ptr (A.length,0)) 2) fun A=>Zai A fun A H=>Zbc A fun A=>Zai H fun H L=>Zbc H fun H=>Zbu L (Zaj pg Zjw [.agg [.slice C E F G,.slice D I J K],.agg [.str A,.str H]] B fun A B=>
 Zjx A fun A=>Zai A fun A C=>xSl A fun A D E F=>Zai C fun C G=>Zck C fun C=>Zbu G (L3 Q h.length 0 A D E F A D E F (((D:Nat):Int)) 0 B)))):Zaj pg Zku [.agg [.slice a0x0 n0x0 c0x0 e0x0,.slice a0x1 n0x1 c0x1 e0x1],.agg [.str x1x0,.str x1x1]] h Q:=
 Zaj.of_body kp (c:=cod fn) (fn:=fn) Go.Proofs.Tryz.func133 (by kernel_rfl) (by kernel_rfl) (Nat.le_of_ble_eq_true (by kernel_rfl))
  (cast (by kernel_rfl) ht)
end Zdr
end Go.Sim

set_option maxRecDepth 100000
set_option linter.unusedVariables false
namespace Go.Sim
open Go Go.RowKit
namespace Zqp
noncomputable abbrev fn:Func:=Go.Proofs.Tryz.f44
def kp:Zco:=[]
noncomputable def C (p:List Nat):Code:=(cod fn).sub p
def KR (Q:QT):KT:=Zfd pg fn.results.toList Q
theorem call (a0x0:Pt) (n0x0 c0x0:Nat) (e0x0:Bool) (a0x1:Pt) (n0x1 c0x1:Nat) (e0x1:Bool) (x1x0 x1x1:List Nat) (h:Zaa) (Q:QT) (ht :
 Zch (h ++ [.cells Zad [.slice a0x0 n0x0 c0x0 e0x0,.slice a0x1 n0x1 c0x1 e0x1] false]) fun A=>Zch (A ++ [.cells Zab [.str x1x0,.str x1x1] false]) fun B=>Zcn (Zbj B (.ptr (h.length,0)) 2) fun C=>Zai C fun C D=>xSl C fun C E F G=>Zai D fun D H=>xSl D fun D I J K=>Zbu H (Zaj pg Zil [.agg [.slice C E F G,.slice D I J K]] B fun B C=>
 Zck B fun B=>bcase B (Zcn (Zbj C (.ptr (h.length,0)) 2) fun B=>Zai B fun B D=>xSl B fun B E F G=>Zai D fun D H=>xSl D fun D I J K=>Zbu H (Zcn (Zbj C (.ptr (A.length,0)) 2) fun A=>Zai A fun A H=>Zbc A fun A=>Zai H fun H L=>Zbc H fun H=>Zbu L (Zaj pg Zqa [.agg [.slice B E F G,.slice D I J K],.agg [.str A,.str H]] C fun A B=>
 Zck A fun A=>Q (.bool A) B))) (Q (.bool false) C))):Zaj pg Zjq [.agg [.slice a0x0 n0x0 c0x0 e0x0,.slice a0x1 n0x1 c0x1 e0x1],.agg [.str x1x0,.str x1x1]] h Q:=
 Zaj.of_body kp (c:=cod fn) (fn:=fn) Go.Proofs.Tryz.func44 (by kernel_rfl) (by kernel_rfl) (Nat.le_of_ble_eq_true (by kernel_rfl))
  (cast (by kernel_rfl) ht)
end Zqp
namespace Zlg
noncomputable abbrev fn:Func:=Go.Proofs.Tryz.f77
def kp:Zco:=[]
noncomputable def C (p:List Nat):Code:=(cod fn).sub p
def KR (Q:QT):KT:=Zfd pg fn.results.toList Q
theorem call (x0x0 x0x1:List Nat) (a0x2:Pt) (n0x2 c0x2:Nat) (e0x2:Bool) (v1:Zat) (h:Zaa) (Q:QT) (ht :
 Zch (h ++ [.cells Zac [.str x0x0,.str x0x1,.slice a0x2 n0x2 c0x2 e0x2] false]) fun A=>Zbc (Zae A (.ptr (h.length,0 + 0 + 1))) fun B=>Zhq pg Zab v1 1 fun C=>Zbc (Zae A (C)) fun C=>Zaj pg Zit [.str B,.str C] A fun A B=>
 Zck A fun A=>Q (.bool A) B):Zaj pg Zcr [.agg [.str x0x0,.str x0x1,.slice a0x2 n0x2 c0x2 e0x2],v1] h Q:=
 Zaj.of_body kp (c:=cod fn) (fn:=fn) Go.Proofs.Tryz.func77 (by kernel_rfl) (by kernel_rfl) (Nat.le_of_ble_eq_true (by kernel_rfl))
  (cast (by kernel_rfl) ht)
end Zlg
namespace Zcc
noncomputable abbrev fn:Func:=Go.Proofs.Tryz.f76
def kp:Zco:=[(3000003,[7]),(1000003,[1,2,7,12,13,14]),(4000007,[14,13,12,1,2,7])]
noncomputable def C (p:List Nat):Code:=(cod fn).sub p
def KR (Q:QT):KT:=Zfd pg fn.results.toList Q
abbrev T3:=List Nat→Zat→Pt→Nat→Nat→Bool→Pt→Nat→Nat→Bool→Int→Int→Zaa→Prop
def E3 (R3:T3) (env:Env) (h:Zaa):Prop:=Zce 1 env fun v env=>Zbc v fun x1=>Zce 2 env fun v env=>eFn Zcr v fun cs=>Zai cs fun c cs'=>Zzn c fun v2x0=>Zbu cs' (Zce 7 env fun v env=>xSl v fun a7 n7 c7 e7=>Zce 12 env fun v env=>xSl v fun a12 n12 c12 e12=>Zce 13 env fun v env=>Zew .i64 v fun x13=>Zce 14 env fun v env=>Zew .i64 v fun x14=>Zls env (R3 x1 v2x0 a7 n7 c7 e7 a12 n12 c12 e12 x13 x14 h))
theorem Zgj {R3:T3} {env:Env} {h:Zaa} (hi:E3 R3 env h):∃ x1,∃ v2x0,∃ a7,∃ n7,∃ c7,∃ e7,∃ a12,∃ n12,∃ c12,∃ e12,∃ x13,∃ x14,env=[(1,.str x1),(2,.fn Zcr [v2x0]),(7,.slice a7 n7 c7 e7),(12,.slice a12 n12 c12 e12),(13,.int .i64 x13),(14,.int .i64 x14)]∧R3 x1 v2x0 a7 n7 c7 e7 a12 n12 c12 e12 x13 x14 h:=by
 unfold E3 at hi
 have hi0:=hi
 clear hi
 obtain ⟨_,_,rfl,hi1⟩:=Zan hi0
 obtain ⟨x1,rfl,hi2⟩:=Zfc hi1
 obtain ⟨_,_,rfl,hi3⟩:=Zan hi2
 obtain ⟨cs,rfl,hi4⟩:=Zwy hi3
 obtain ⟨c,cs',rfl,hi5⟩:=Zpb hi4
 obtain ⟨v2x0,hx,hi6⟩:=Zlz hi5
 replace hx:=(Option.some.inj hx).symm
 subst hx
 obtain ⟨rfl,hi7⟩:=Ztp hi6
 obtain ⟨_,_,rfl,hi8⟩:=Zan hi7
 obtain ⟨a7,n7,c7,e7,rfl,hi9⟩:=Zcg hi8
 obtain ⟨_,_,rfl,hi10⟩:=Zan hi9
 obtain ⟨a12,n12,c12,e12,rfl,hi11⟩:=Zcg hi10
 obtain ⟨_,_,rfl,hi12⟩:=Zan hi11
 obtain ⟨x13,rfl,hi13⟩:=Zay hi12
 obtain ⟨_,_,rfl,hi14⟩:=Zan hi13
 obtain ⟨x14,rfl,hi15⟩:=Zay hi14
 obtain ⟨rfl,hi16⟩:=Zbw hi15
 have hi:=hi16
 exact ⟨x1,v2x0,a7,n7,c7,e7,a12,n12,c12,e12,x13,x14,rfl,hi⟩
def K0 (Q:QT):KT:=andThen (fun env' h'=>(match kp.find 4000008 with | some ks=>Den pg fn.ntmps (C [1,1,1]) (env'.keep ks) h' (KR Q) | none=>den pg fn.ntmps kp (C [1,1,1]) env' h' (KR Q))) (KR Q)
def K1 (Q:QT):KT:=Zde 0 (K0 Q)
def K2 (Q:QT):KT:=left kp 3 (K1 Q)
def K3 (Q:QT) (R3:T3):KT:=rnd ((kp.find 1000003).getD []) (E3 R3) (K2 Q)
def L3 (Q:QT) (x1:List Nat) (v2x0:Zat) (a7:Pt) (n7 c7:Nat) (e7:Bool) (a12:Pt) (n12 c12:Nat) (e12:Bool) (x13 x14:Int) (h:Zaa):Prop:=Zff (Den pg fn.ntmps (C [1,1,0,1,0,0])) ((kp.find 1000003).getD []) (K2 Q) [(1,.str x1),(2,.fn Zcr [v2x0]),(7,.slice a7 n7 c7 e7),(12,.slice a12 n12 c12 e12),(13,.int .i64 x13),(14,.int .i64 x14)] h
def J7 (Q:QT) (R3:T3) (x14 x13:Int) (a12:Pt) (n12 c12:Nat) (e12:Bool) (x1:List Nat) (v2x0:Zat) (a7:Pt) (n7 c7:Nat) (e7:Bool) (h:Zaa):Prop:=Den pg fn.ntmps (C [1,1,0,1,0,0,1,1,1]) [(14,.int .i64 x14),(13,.int .i64 x13),(12,.slice a12 n12 c12 e12),(1,.str x1),(2,.fn Zcr [v2x0]),(7,.slice a7 n7 c7 e7)] h (K3 Q R3)
def Zua (Q:QT) (a7:Pt) (n7 c7:Nat) (e7:Bool) (h:Zaa):Prop:=At (K1 Q) (.exit 0) [(7,.slice a7 n7 c7 e7)] h
def L3t (Q:QT) (R3:T3) (x1:List Nat) (v2x0:Zat) (a7:Pt) (n7 c7:Nat) (e7:Bool) (a12:Pt) (n12 c12:Nat) (e12:Bool) (x13 x14:Int) (h:Zaa):Prop:=
 bcase (decide ((x14:Int) < x13)) ((0≤(x14:Int)∧(x14:Int) < (n12:Nat))∧(Zbg a12 fun A B=>Zcn (Zbj h (.ptr (A,B + (Int.toNat x14) * 3)) 3) fun A=>Zai A fun A B=>Zbc A fun A=>Zai B fun B C=>Zbc B fun B=>Zai C fun C D=>xSl C fun C E F G=>Zbu D (Zch (h ++ [.cells Zac [.str [],.str [],.slice none 0 0 true] false]) fun D=>Zbn (Zaz D (.ptr (h.length,0)) [.str A,.str B,.slice C E F G]) fun A=>Zbc (Zae A (.ptr (h.length,0 + 0 + 0))) fun B=>bcase (decide (B=x1)) (Zcn (Zbj A (.ptr (h.length,0)) 3) fun B=>Zai B fun B C=>Zbc B fun B=>Zai C fun C D=>Zbc C fun C=>Zai D fun D E=>xSl D fun D F G H=>Zbu E (Zaj pg Zcr [.agg [.str B,.str C,.slice D F G H],v2x0] A fun B C=>
 Zck B fun B=>bcase B (Zch (C ++ [.cells Zix [.int .i64 x14] false]) fun B=>Zcf pg Yff B (.slice a7 n7 c7 e7) (.slice (C.length,0) 1 1 true) fun B D=>xSl B fun B E F G=>J7 Q R3 x14 x13 a12 n12 c12 e12 x1 v2x0 B E F G D) (J7 Q R3 x14 x13 a12 n12 c12 e12 x1 v2x0 a7 n7 c7 e7 C))) (J7 Q R3 x14 x13 a12 n12 c12 e12 x1 v2x0 a7 n7 c7 e7 A)))) (Zua Q a7 n7 c7 e7 h)
theorem Zqi (Q:QT) (R3:T3) (x1:List Nat) (v2x0:Zat) (a7:Pt) (n7 c7:Nat) (e7:Bool) (a12:Pt) (n12 c12:Nat) (e12:Bool) (x13 x14:Int) (h:Zaa) (ht:L3t Q R3 x1 v2x0 a7 n7 c7 e7 a12 n12 c12 e12 x13 x14 h):Den pg fn.ntmps (C [1,1,0,1,0,0]) [(1,.str x1),(2,.fn Zcr [v2x0]),(7,.slice a7 n7 c7 e7),(12,.slice a12 n12 c12 e12),(13,.int .i64 x13),(14,.int .i64 x14)] h (K3 Q R3):=
 Zbf (kp:=kp) (cast (by kernel_rfl) ht)
theorem L3ind (Q:QT) (x1:List Nat) (v2x0:Zat) (a12:Pt) (n12 c12:Nat) (e12:Bool) (x13:Int) {G:Type} (J:G→Pt→Nat→Nat→Bool→Int→Zaa→Prop) (m:G→Nat)
 (hr:∀ (g:G) (a7:Pt) (n7 c7:Nat) (e7:Bool) (x14:Int) (h:Zaa),J g a7 n7 c7 e7 x14 h→∀ (R3:T3),(∀ g' (a7:Pt) (n7 c7:Nat) (e7:Bool) (x14:Int) (h:Zaa),m g' < m g→J g' a7 n7 c7 e7 x14 h→R3 x1 v2x0 a7 n7 c7 e7 a12 n12 c12 e12 x13 x14 h)→L3t Q R3 x1 v2x0 a7 n7 c7 e7 a12 n12 c12 e12 x13 x14 h)
 (g:G) (a7:Pt) (n7 c7:Nat) (e7:Bool) (x14:Int) (h:Zaa) (hj:J g a7 n7 c7 e7 x14 h):L3 Q x1 v2x0 a7 n7 c7 e7 a12 n12 c12 e12 x13 x14 h:=by
 let P:=fun (K:Pt→Nat→Nat→Bool→Int→Zaa→Prop) x1' v2x0' a7 n7 c7 e7 a12' n12' c12' e12' x13' x14 h=>x1=x1'∧v2x0=v2x0'∧a12=a12'∧n12=n12'∧c12=c12'∧e12=e12'∧x13=x13'∧K a7 n7 c7 e7 x14 h
 refine Zff.inv2 (fun g=>E3 (P (J g))) (fun g=>E3 (P fun a7 n7 c7 e7 x14 h=>∃ g',m g' < m g∧J g' a7 n7 c7 e7 x14 h)) m ?_ ?_ g ⟨rfl,rfl,rfl,rfl,rfl,rfl,rfl,hj⟩
 ·intro g env h hi
  obtain ⟨x1',v2x0',a7,n7,c7,e7,a12',n12',c12',e12',x13',x14,rfl,rfl,rfl,rfl,rfl,rfl,rfl,rfl,hj⟩:=Zgj hi
  exact Zqi Q _ x1 v2x0 a7 n7 c7 e7 a12 n12 c12 e12 x13 x14 h (hr g a7 n7 c7 e7 x14 h hj (P fun a7 n7 c7 e7 x14 h=>∃ g',m g' < m g∧J g' a7 n7 c7 e7 x14 h) fun g' a7 n7 c7 e7 x14 h hlt hj=>⟨rfl,rfl,rfl,rfl,rfl,rfl,rfl,g',hlt,hj⟩)
 ·intro g env h hi
  obtain ⟨x1',v2x0',a7,n7,c7,e7,a12',n12',c12',e12',x13',x14,rfl,rfl,rfl,rfl,rfl,rfl,rfl,rfl,g',hlt,hj⟩:=Zgj hi
  exact ⟨g',hlt,rfl,rfl,rfl,rfl,rfl,rfl,rfl,hj⟩
theorem J7i (Q:QT) (R3:T3) (x14 x13:Int) (a12:Pt) (n12 c12:Nat) (e12:Bool) (x1:List Nat) (v2x0:Zat) (a7:Pt) (n7 c7:Nat) (e7:Bool) (h:Zaa) (ht :
 R3 x1 v2x0 a7 n7 c7 e7 a12 n12 c12 e12 x13 (IntKind.wrap .i64 (x14 + 1)) h):J7 Q R3 x14 x13 a12 n12 c12 e12 x1 v2x0 a7 n7 c7 e7 h:=
 Zbf (kp:=kp) (cast (by kernel_rfl) ht)
theorem A3x0i (Q:QT) (a7:Pt) (n7 c7:Nat) (e7:Bool) (h:Zaa) (ht :
 Q (.slice a7 n7 c7 e7) h):Zua Q a7 n7 c7 e7 h:=
 At.mk (cast (by kernel_rfl) ht)
theorem call (a0x0:Pt) (n0x0 c0x0:Nat) (e0x0:Bool) (a0x1:Pt) (n0x1 c0x1:Nat) (e0x1:Bool) (x1:List Nat) (v2x0:Zat) (h:Zaa) (Q:QT) (ht :
 Zch (h ++ [.cells Zad [.slice a0x0 n0x0 c0x0 e0x0,.slice a0x1 n0x1 c0x1 e0x1] false]) fun A=>Zch (A ++ [.cells Zix [] false]) fun B=>xSl (Zae B (.ptr (h.length,0 + 1))) fun C D E F=>L3 Q x1 v2x0 (A.length,0) 0 0 true C D E F (((D:Nat):Int)) 0 B):Zaj pg Zre [.agg [.slice a0x0 n0x0 c0x0 e0x0,.slice a0x1 n0x1 c0x1 e0x1],.str x1,.fn Zcr [v2x0]] h Q:=
 Zaj.of_body kp (c:=cod fn) (fn:=fn) Go.Proofs.Tryz.func76 (by kernel_rfl) (by kernel_rfl) (Nat.le_of_ble_eq_true (by kernel_rfl))
  (cast (by kernel_rfl) ht)
end Zcc
namespace Zpj
noncomputable abbrev fn:Func:=Go.Proofs.Tryz.f45
def kp:Zco:=[]
noncomputable def C (p:List Nat):Code:=(cod fn).sub p
def KR (Q:QT):KT:=Zfd pg fn.results.toList Q
theorem call (a0x0:Pt) (n0x0 c0x0:Nat) (e0x0:Bool) (a0x1:Pt) (n0x1 c0x1:Nat) (e0x1:Bool) (x1x0 x1x1:List Nat) (h:Zaa) (Q:QT) (ht :
 Zch (h ++ [.cells Zad [.slice a0x0 n0x0 c0x0 e0x0,.slice a0x1 n0x1 c0x1 e0x1] false]) fun A=>Zch (A ++ [.cells Zab [.str x1x0,.str x1x1] false]) fun B=>Zcn (Zbj B (.ptr (h.length,0)) 2) fun C=>Zai C fun C D=>xSl C fun C E F G=>Zai D fun D H=>xSl D fun D I J K=>Zbu H (Zbc (Zae B (.ptr (A.length,0 + 0))) fun H=>Zaj pg Zre [.agg [.slice C E F G,.slice D I J K],.str H,.fn Zcr [.ptr (A.length,0)]] B fun A B=>
 xSl A fun A C D E=>Q (.slice A C D E) B)):Zaj pg Zis [.agg [.slice a0x0 n0x0 c0x0 e0x0,.slice a0x1 n0x1 c0x1 e0x1],.agg [.str x1x0,.str x1x1]] h Q:=
 Zaj.of_body kp (c:=cod fn) (fn:=fn) Go.Proofs.Tryz.func45 (by kernel_rfl) (by kernel_rfl) (Nat.le_of_ble_eq_true (by kernel_rfl))
  (cast (by kernel_rfl) ht)
end Zpj
namespace Znf
noncomputable abbrev fn:Func:=Go.Proofs.Tryz.f22
def kp:Zco:=[]
noncomputable def C (p:List Nat):Code:=(cod fn).sub p
def KR (Q:QT):KT:=Zfd pg fn.results.toList Q
theorem call (a0x0:Pt) (n0x0 c0x0:Nat) (e0x0:Bool) (a0x1:Pt) (n0x1 c0x1:Nat) (e0x1:Bool) (x1x0 x1x1:List Nat) (h:Zaa) (Q:QT) (ht :
 Zch (h ++ [.cells Zad [.slice a0x0 n0x0 c0x0 e0x0,.slice a0x1 n0x1 c0x1 e0x1] false]) fun A=>Zch (A ++ [.cells Zab [.str x1x0,.str x1x1] false]) fun B=>Zcn (Zbj B (.ptr (h.length,0)) 2) fun C=>Zai C fun C D=>xSl C fun C E F G=>Zai D fun D H=>xSl D fun D I J K=>Zbu H (Zcn (Zbj B (.ptr (A.length,0)) 2) fun H=>Zai H fun H L=>Zbc H fun H=>Zai L fun L M=>Zbc L fun L=>Zbu M (Zaj pg Zjq [.agg [.slice C E F G,.slice D I J K],.agg [.str H,.str L]] B fun B C=>
 Zck B fun B=>bcase (!B) (Q (.tup [.slice none 0 0 true,.bool false]) C) (Zcn (Zbj C (.ptr (h.length,0)) 2) fun B=>Zai B fun B D=>xSl B fun B E F G=>Zai D fun D H=>xSl D fun D I J K=>Zbu H (Zcn (Zbj C (.ptr (A.length,0)) 2) fun A=>Zai A fun A H=>Zbc A fun A=>Zai H fun H L=>Zbc H fun H=>Zbu L (Zaj pg Zis [.agg [.slice B E F G,.slice D I J K],.agg [.str A,.str H]] C fun A B=>
 xSl A fun A C D E=>Q (.tup [.slice A C D E,.bool true]) B)))))):Zaj pg Zjy [.agg [.slice a0x0 n0x0 c0x0 e0x0,.slice a0x1 n0x1 c0x1 e0x1],.agg [.str x1x0,.str x1x1]] h Q:=
 Zaj.of_body kp (c:=cod fn) (fn:=fn) Go.Proofs.Tryz.func22 (by kernel_rfl) (by kernel_rfl) (Nat.le_of_ble_eq_true (by kernel_rfl))
  (cast (by kernel_rfl) ht)
end Znf
namespace Zef
noncomputable abbrev fn:Func:=Go.Proofs.Tryz.f132
def kp:Zco:=[(3000003,[5]),(1000003,[3,5,10,11,12]),(4000007,[12,11,10,3,5])]
noncomputable def C (p:List Nat):Code:=(cod fn).sub p
def KR (Q:QT):KT:=Zfd pg fn.results.toList Q
abbrev T3:=Nat→Nat→Pt→Nat→Nat→Bool→Pt→Nat→Nat→Bool→Int→Int→Zaa→Prop
def E3 (R3:T3) (env:Env) (h:Zaa):Prop:=Zce 3 env fun v env=>Zgm v fun a=>Zbg a fun i3 o3=>Zce 5 env fun v env=>xSl v fun a5 n5 c5 e5=>Zce 10 env fun v env=>xSl v fun a10 n10 c10 e10=>Zce 11 env fun v env=>Zew .i64 v fun x11=>Zce 12 env fun v env=>Zew .i64 v fun x12=>Zls env (R3 i3 o3 a5 n5 c5 e5 a10 n10 c10 e10 x11 x12 h)
theorem Zgj {R3:T3} {env:Env} {h:Zaa} (hi:E3 R3 env h):∃ i3,∃ o3,∃ a5,∃ n5,∃ c5,∃ e5,∃ a10,∃ n10,∃ c10,∃ e10,∃ x11,∃ x12,env=[(3,.ptr (i3,o3)),(5,.slice a5 n5 c5 e5),(10,.slice a10 n10 c10 e10),(11,.int .i64 x11),(12,.int .i64 x12)]∧R3 i3 o3 a5 n5 c5 e5 a10 n10 c10 e10 x11 x12 h:=by
 unfold E3 at hi
 have hi0:=hi
 clear hi
 obtain ⟨_,_,rfl,hi1⟩:=Zan hi0
 obtain ⟨a,rfl,hi2⟩:=Zbv hi1
 obtain ⟨i3,o3,rfl,hi3⟩:=Zbr hi2
 obtain ⟨_,_,rfl,hi4⟩:=Zan hi3
 obtain ⟨a5,n5,c5,e5,rfl,hi5⟩:=Zcg hi4
 obtain ⟨_,_,rfl,hi6⟩:=Zan hi5
 obtain ⟨a10,n10,c10,e10,rfl,hi7⟩:=Zcg hi6
 obtain ⟨_,_,rfl,hi8⟩:=Zan hi7
 obtain ⟨x11,rfl,hi9⟩:=Zay hi8
 obtain ⟨_,_,rfl,hi10⟩:=Zan hi9
 obtain ⟨x12,rfl,hi11⟩:=Zay hi10
 obtain ⟨rfl,hi12⟩:=Zbw hi11
 have hi:=hi12
 exact ⟨i3,o3,a5,n5,c5,e5,a10,n10,c10,e10,x11,x12,rfl,hi⟩
def K0 (Q:QT):KT:=andThen (fun env' h'=>(match kp.find 4000008 with | some ks=>Den pg fn.ntmps (C [1,1,1]) (env'.keep ks) h' (KR Q) | none=>den pg fn.ntmps kp (C [1,1,1]) env' h' (KR Q))) (KR Q)
def K1 (Q:QT):KT:=Zde 0 (K0 Q)
def K2 (Q:QT):KT:=left kp 3 (K1 Q)
def K3 (Q:QT) (R3:T3):KT:=rnd ((kp.find 1000003).getD []) (E3 R3) (K2 Q)
def L3 (Q:QT) (i3 o3:Nat) (a5:Pt) (n5 c5:Nat) (e5:Bool) (a10:Pt) (n10 c10:Nat) (e10:Bool) (x11 x12:Int) (h:Zaa):Prop:=Zff (Den pg fn.ntmps (C [1,1,0,1,0,0])) ((kp.find 1000003).getD []) (K2 Q) [(3,.ptr (i3,o3)),(5,.slice a5 n5 c5 e5),(10,.slice a10 n10 c10 e10),(11,.int .i64 x11),(12,.int .i64 x12)] h
def J7 (Q:QT) (R3:T3) (x12 x11:Int) (a10:Pt) (n10 c10:Nat) (e10:Bool) (i3 o3:Nat) (a5:Pt) (n5 c5:Nat) (e5:Bool) (h:Zaa):Prop:=Den pg fn.ntmps (C [1,1,0,1,0,0,1,1,1]) [(12,.int .i64 x12),(11,.int .i64 x11),(10,.slice a10 n10 c10 e10),(3,.ptr (i3,o3)),(5,.slice a5 n5 c5 e5)] h (K3 Q R3)
def Zua (Q:QT) (a5:Pt) (n5 c5:Nat) (e5:Bool) (h:Zaa):Prop:=At (K1 Q) (.exit 0) [(5,.slice a5 n5 c5 e5)] h
def L3t (Q:QT) (R3:T3) (i3 o3:Nat) (a5:Pt) (n5 c5:Nat) (e5:Bool) (a10:Pt) (n10 c10:Nat) (e10:Bool) (x11 x12:Int) (h:Zaa):Prop:=
 bcase (decide ((x12:Int) < x11)) ((0≤(x12:Int)∧(x12:Int) < (n10:Nat))∧(Zbg a10 fun A B=>Zcn (Zbj h (.ptr (A,B + (Int.toNat x12) * 3)) 3) fun A=>Zai A fun A B=>Zbc A fun A=>Zai B fun B C=>Zbc B fun B=>Zai C fun C D=>xSl C fun C E F G=>Zbu D (Zch (h ++ [.cells Zac [.str [],.str [],.slice none 0 0 true] false]) fun D=>Zbn (Zaz D (.ptr (h.length,0)) [.str A,.str B,.slice C E F G]) fun A=>Zbc (Zae A (.ptr (h.length,0 + 0 + 0))) fun B=>Zbc (Zae A (.ptr (i3,o3 + 0))) fun C=>bcase (decide (B=C)) (Zbc (Zae A (.ptr (h.length,0 + 0 + 1))) fun B=>Zbc (Zae A (.ptr (i3,o3 + 1))) fun C=>Zaj pg Zik [.str B,.str C] A fun B C=>
 Zck B fun B=>bcase B (Zch (C ++ [.cells Zix [.int .i64 x12] false]) fun B=>Zcf pg Yff B (.slice a5 n5 c5 e5) (.slice (C.length,0) 1 1 true) fun B D=>xSl B fun B E F G=>J7 Q R3 x12 x11 a10 n10 c10 e10 i3 o3 B E F G D) (J7 Q R3 x12 x11 a10 n10 c10 e10 i3 o3 a5 n5 c5 e5 C)) (J7 Q R3 x12 x11 a10 n10 c10 e10 i3 o3 a5 n5 c5 e5 A)))) (Zua Q a5 n5 c5 e5 h)
theorem Zqi (Q:QT) (R3:T3) (i3 o3:Nat) (a5:Pt) (n5 c5:Nat) (e5:Bool) (a10:Pt) (n10 c10:Nat) (e10:Bool) (x11 x12:Int) (h:Zaa) (ht:L3t Q R3 i3 o3 a5 n5 c5 e5 a10 n10 c10 e10 x11 x12 h):Den pg fn.ntmps (C [1,1,0,1,0,0]) [(3,.ptr (i3,o3)),(5,.slice a5 n5 c5 e5),(10,.slice a10 n10 c10 e10),(11,.int .i64 x11),(12,.int .i64 x12)] h (K3 Q R3):=
 Zbf (kp:=kp) (cast (by kernel_rfl) ht)
theorem L3ind (Q:QT) (i3 o3:Nat) (a10:Pt) (n10 c10:Nat) (e10:Bool) (x11:Int) {G:Type} (J:G→Pt→Nat→Nat→Bool→Int→Zaa→Prop) (m:G→Nat)
 (hr:∀ (g:G) (a5:Pt) (n5 c5:Nat) (e5:Bool) (x12:Int) (h:Zaa),J g a5 n5 c5 e5 x12 h→∀ (R3:T3),(∀ g' (a5:Pt) (n5 c5:Nat) (e5:Bool) (x12:Int) (h:Zaa),m g' < m g→J g' a5 n5 c5 e5 x12 h→R3 i3 o3 a5 n5 c5 e5 a10 n10 c10 e10 x11 x12 h)→L3t Q R3 i3 o3 a5 n5 c5 e5 a10 n10 c10 e10 x11 x12 h)
 (g:G) (a5:Pt) (n5 c5:Nat) (e5:Bool) (x12:Int) (h:Zaa) (hj:J g a5 n5 c5 e5 x12 h):L3 Q i3 o3 a5 n5 c5 e5 a10 n10 c10 e10 x11 x12 h:=by
 let P:=fun (K:Pt→Nat→Nat→Bool→Int→Zaa→Prop) i3' o3' a5 n5 c5 e5 a10' n10' c10' e10' x11' x12 h=>i3=i3'∧o3=o3'∧a10=a10'∧n10=n10'∧c10=c10'∧e10=e10'∧x11=x11'∧K a5 n5 c5 e5 x12 h
 refine Zff.inv2 (fun g=>E3 (P (J g))) (fun g=>E3 (P fun a5 n5 c5 e5 x12 h=>∃ g',m g' < m g∧J g' a5 n5 c5 e5 x12 h)) m ?_ ?_ g ⟨rfl,rfl,rfl,rfl,rfl,rfl,rfl,hj⟩
 ·intro g env h hi
  obtain ⟨i3',o3',a5,n5,c5,e5,a10',n10',c10',e10',x11',x12,rfl,rfl,rfl,rfl,rfl,rfl,rfl,rfl,hj⟩:=Zgj hi
  exact Zqi Q _ i3 o3 a5 n5 c5 e5 a10 n10 c10 e10 x11 x12 h (hr g a5 n5 c5 e5 x12 h hj (P fun a5 n5 c5 e5 x12 h=>∃ g',m g' < m g∧J g' a5 n5 c5 e5 x12 h) fun g' a5 n5 c5 e5 x12 h hlt hj=>⟨rfl,rfl,rfl,rfl,rfl,rfl,rfl,g',hlt,hj⟩)
 ·intro g env h hi
  obtain ⟨i3',o3',a5,n5,c5,e5,a10',n10',c10',e10',x11',x12,rfl,rfl,rfl,rfl,rfl,rfl,rfl,rfl,g',hlt,hj⟩:=Zgj hi
  exact ⟨g',hlt,rfl,rfl,rfl,rfl,rfl,rfl,rfl,hj⟩
theorem J7i (Q:QT) (R3:T3) (x12 x11:Int) (a10:Pt) (n10 c10:Nat) (e10:Bool) (i3 o3:Nat) (a5:Pt) (n5 c5:Nat) (e5:Bool) (h:Zaa) (ht :
 R3 i3 o3 a5 n5 c5 e5 a10 n10 c10 e10 x11 (IntKind.wrap .i64 (x12 + 1)) h):J7 Q R3 x12 x11 a10 n10 c10 e10 i3 o3 a5 n5 c5 e5 h:=
 Zbf (kp:=kp) (cast (by kernel_rfl) ht)
theorem A3x0i (Q:QT) (a5:Pt) (n5 c5:Nat) (e5:Bool) (h:Zaa) (ht :
 Q (.slice a5 n5 c5 e5) h):Zua Q a5 n5 c5 e5 h:=
 At.mk (cast (by kernel_rfl) ht)
theorem call (a0x0:Pt) (n0x0 c0x0:Nat) (e0x0:Bool) (a0x1:Pt) (n0x1 c0x1:Nat) (e0x1:Bool) (x1x0 x1x1:List Nat) (h:Zaa) (Q:QT) (ht :
 Zch (h ++ [.cells Zad [.slice a0x0 n0x0 c0x0 e0x0,.slice a0x1 n0x1 c0x1 e0x1] false]) fun A=>Zch (A ++ [.cells Zab [.str x1x0,.str x1x1] false]) fun B=>Zch (B ++ [.cells Zix [] false]) fun C=>xSl (Zae C (.ptr (h.length,0 + 1))) fun D E F G=>L3 Q A.length 0 (B.length,0) 0 0 true D E F G (((E:Nat):Int)) 0 C):Zaj pg Zhi [.agg [.slice a0x0 n0x0 c0x0 e0x0,.slice a0x1 n0x1 c0x1 e0x1],.agg [.str x1x0,.str x1x1]] h Q:=
 Zaj.of_body kp (c:=cod fn) (fn:=fn) Go.Proofs.Tryz.func132 (by kernel_rfl) (by kernel_rfl) (Nat.le_of_ble_eq_true (by kernel_rfl))
  (cast (by kernel_rfl) ht)
end Zef
namespace Znm
noncomputable abbrev fn:Func:=Go.Proofs.Tryz.f150
def kp:Zco:=[]
noncomputable def C (p:List Nat):Code:=(cod fn).sub p
def KR (Q:QT):KT:=Zfd pg fn.results.toList Q
theorem call (a0x0:Pt) (n0x0 c0x0:Nat) (e0x0:Bool) (a0x1:Pt) (n0x1 c0x1:Nat) (e0x1:Bool) (x1x0 x1x1:List Nat) (h:Zaa) (Q:QT) (ht :
 Zch (h ++ [.cells Zad [.slice a0x0 n0x0 c0x0 e0x0,.slice a0x1 n0x1 c0x1 e0x1] false]) fun A=>Zch (A ++ [.cells Zab [.str x1x0,.str x1x1] false]) fun B=>Zcn (Zbj B (.ptr (h.length,0)) 2) fun C=>Zai C fun C D=>xSl C fun C E F G=>Zai D fun D H=>xSl D fun D I J K=>Zbu H (Zcn (Zbj B (.ptr (A.length,0)) 2) fun H=>Zai H fun H L=>Zbc H fun H=>Zai L fun L M=>Zbc L fun L=>Zbu M (Zaj pg Zju [.agg [.slice C E F G,.slice D I J K],.agg [.str H,.str L]] B fun B C=>
 Zck B fun B=>bcase (!B) (Zch (C ++ [.cells Zix [] false]) fun B=>Q (.tup [.slice (C.length,0) 0 0 true,.bool false]) B) (Zcn (Zbj C (.ptr (h.length,0)) 2) fun B=>Zai B fun B D=>xSl B fun B E F G=>Zai D fun D H=>xSl D fun D I J K=>Zbu H (Zcn (Zbj C (.ptr (A.length,0)) 2) fun A=>Zai A fun A H=>Zbc A fun A=>Zai H fun H L=>Zbc H fun H=>Zbu L (Zaj pg Zhi [.agg [.slice B E F G,.slice D I J K],.agg [.str A,.str H]] C fun A B=>
 xSl A fun A C D E=>Q (.tup [.slice A C D E,.bool true]) B)))))):Zaj pg Zjw [.agg [.slice a0x0 n0x0 c0x0 e0x0,.slice a0x1 n0x1 c0x1 e0x1],.agg [.str x1x0,.str x1x1]] h Q:=
 Zaj.of_body kp (c:=cod fn) (fn:=fn) Go.Proofs.Tryz.func150 (by kernel_rfl) (by kernel_rfl) (Nat.le_of_ble_eq_true (by kernel_rfl))
  (cast (by kernel_rfl) ht)
end Znm
end Go.Sim

set_option maxRecDepth 100000
set_option linter.unusedVariables false
namespace Go.Sim
open Go Go.RowKit
namespace Zsz
noncomputable abbrev fn:Func:=Go.Proofs.Tryz.f128
def kp:Zco:=[]
noncomputable def C (p:List Nat):Code:=(cod fn).sub p
def KR (Q:QT):KT:=Zfd pg fn.results.toList Q
theorem call (x0x0 x0x1:List Nat) (a0x2:Pt) (n0x2 c0x2:Nat) (e0x2:Bool) (x1x0 x1x1:List Nat) (a1x2:Pt) (n1x2 c1x2:Nat) (e1x2:Bool) (h:Zaa) (Q:QT) (ht :
 Zch (h ++ [.cells Zac [.str x0x0,.str x0x1,.slice a0x2 n0x2 c0x2 e0x2] false]) fun A=>Zch (A ++ [.cells Zac [.str x1x0,.str x1x1,.slice a1x2 n1x2 c1x2 e1x2] false]) fun B=>Zbc (Zae B (.ptr (h.length,0 + 0 + 0))) fun C=>Zbc (Zae B (.ptr (A.length,0 + 0 + 0))) fun D=>bcase (decide (C=D)) (Zbc (Zae B (.ptr (A.length,0 + 0 + 1))) fun A=>Zbc (Zae B (.ptr (h.length,0 + 0 + 1))) fun C=>Zaj pg Zit [.str A,.str C] B fun A C=>
 Zck A fun A=>Q (.bool A) C) (Q (.bool false) B)):Zaj pg Zov [.agg [.str x0x0,.str x0x1,.slice a0x2 n0x2 c0x2 e0x2],.agg [.str x1x0,.str x1x1,.slice a1x2 n1x2 c1x2 e1x2]] h Q:=
 Zaj.of_body kp (c:=cod fn) (fn:=fn) Go.Proofs.Tryz.func128 (by kernel_rfl) (by kernel_rfl) (Nat.le_of_ble_eq_true (by kernel_rfl))
  (cast (by kernel_rfl) ht)
end Zsz
namespace Zmk
noncomputable abbrev fn:Func:=Go.Proofs.Tryz.f151
def kp:Zco:=[(4000003,[3,1,2]),(2000003,[6])]
noncomputable def C (p:List Nat):Code:=(cod fn).sub p
def KR (Q:QT):KT:=Zfd pg fn.results.toList Q
def J3 (Q:QT) (i3 o3:Nat) (x1 x2:Int) (h:Zaa):Prop:=Den pg fn.ntmps (C [1,1]) [(3,.ptr (i3,o3)),(1,.int .i64 x1),(2,.int .i64 x2)] h (KR Q)
theorem J3i (Q:QT) (i3 o3:Nat) (x1 x2:Int) (h:Zaa) (ht :
 xSl (Zae h (.ptr (i3,o3 + 1))) fun A B C C=>(0≤(x1:Int)∧(x1:Int) < (B:Nat))∧(Zbg A fun A B=>Zbc (Zae h (.ptr (A,B + (Int.toNat x1) * 3 + 0 + 0))) fun C=>xSl (Zae h (.ptr (i3,o3 + 1))) fun D E F F=>(Zae h (.ptr (A,B + (Int.toNat x1) * 3 + 0 + 0))=Zae h (.ptr (A,B + (Int.toNat x1) * 3 + 0 + 0)))∧(Zae h (.ptr (i3,o3 + 1))=Zae h (.ptr (i3,o3 + 1)))∧(0≤(x2:Int)∧(x2:Int) < (E:Nat))∧(Zbg D fun D E=>Zbc (Zae h (.ptr (D,E + (Int.toNat x2) * 3 + 0 + 0))) fun D=>(Zae h (.ptr (A,B + (Int.toNat x1) * 3 + 0 + 0))=Zae h (.ptr (A,B + (Int.toNat x1) * 3 + 0 + 0)))∧(Zae h (.ptr (i3,o3 + 1))=Zae h (.ptr (i3,o3 + 1)))∧bcase (decide (C=D)) (xSl (Zae h (.ptr (i3,o3 + 1))) fun C D E E=>(0≤(x2:Int)∧(x2:Int) < (D:Nat))∧(Zbg C fun C D=>Zbc (Zae h (.ptr (C,D + (Int.toNat x2) * 3 + 0 + 1))) fun E=>xSl (Zae h (.ptr (i3,o3 + 1))) fun F G H H=>(Zae h (.ptr (C,D + (Int.toNat x2) * 3 + 0 + 1))=Zae h (.ptr (C,D + (Int.toNat x2) * 3 + 0 + 1)))∧(Zae h (.ptr (i3,o3 + 1))=Zae h (.ptr (i3,o3 + 1)))∧(Zae h (.ptr (A,B + (Int.toNat x1) * 3 + 0 + 0))=Zae h (.ptr (A,B + (Int.toNat x1) * 3 + 0 + 0)))∧(Zae h (.ptr (i3,o3 + 1))=Zae h (.ptr (i3,o3 + 1)))∧(0≤(x1:Int)∧(x1:Int) < (G:Nat))∧(Zbg F fun F G=>Zbc (Zae h (.ptr (F,G + (Int.toNat x1) * 3 + 0 + 1))) fun F=>(Zae h (.ptr (C,D + (Int.toNat x2) * 3 + 0 + 1))=Zae h (.ptr (C,D + (Int.toNat x2) * 3 + 0 + 1)))∧(Zae h (.ptr (i3,o3 + 1))=Zae h (.ptr (i3,o3 + 1)))∧(Zae h (.ptr (A,B + (Int.toNat x1) * 3 + 0 + 0))=Zae h (.ptr (A,B + (Int.toNat x1) * 3 + 0 + 0)))∧(Zae h (.ptr (i3,o3 + 1))=Zae h (.ptr (i3,o3 + 1)))∧Zaj pg Zik [.str E,.str F] h fun C D=>
 Zck C fun C=>(Zae D (.ptr (i3,o3 + 1))=Zae h (.ptr (i3,o3 + 1)))∧(Zae D (.ptr (A,B + (Int.toNat x1) * 3 + 0 + 0))=Zae h (.ptr (A,B + (Int.toNat x1) * 3 + 0 + 0)))∧(Zae D (.ptr (i3,o3 + 1))=Zae h (.ptr (i3,o3 + 1)))∧Q (.bool C) D))) ((Zae h (.tup [])=Zae h (.tup []))∧(Zae h (.tup [])=Zae h (.tup []))∧(Zae h (.ptr (A,B + (Int.toNat x1) * 3 + 0 + 0))=Zae h (.ptr (A,B + (Int.toNat x1) * 3 + 0 + 0)))∧(Zae h (.ptr (i3,o3 + 1))=Zae h (.ptr (i3,o3 + 1)))∧(Zae h (.tup [])=Zae h (.tup []))∧(Zae h (.tup [])=Zae h (.tup []))∧(Zae h (.ptr (A,B + (Int.toNat x1) * 3 + 0 + 0))=Zae h (.ptr (A,B + (Int.toNat x1) * 3 + 0 + 0)))∧(Zae h (.ptr (i3,o3 + 1))=Zae h (.ptr (i3,o3 + 1)))∧(Zae h (.tup [])=Zae h (.tup []))∧(Zae h (.ptr (A,B + (Int.toNat x1) * 3 + 0 + 0))=Zae h (.ptr (A,B + (Int.toNat x1) * 3 + 0 + 0)))∧(Zae h (.ptr (i3,o3 + 1))=Zae h (.ptr (i3,o3 + 1)))∧Q (.bool false) h)))):J3 Q i3 o3 x1 x2 h:=
 Zbf (kp:=kp) (cast (by kernel_rfl) ht)
theorem call (a0x0:Pt) (n0x0 c0x0:Nat) (e0x0:Bool) (a0x1:Pt) (n0x1 c0x1:Nat) (e0x1:Bool) (x1 x2:Int) (h:Zaa) (Q:QT) (ht :
 Zch (h ++ [.cells Zad [.slice a0x0 n0x0 c0x0 e0x0,.slice a0x1 n0x1 c0x1 e0x1] false]) fun A=>Zcn (Zbj A (.ptr (h.length,0)) 2) fun B=>Zai B fun B C=>xSl B fun B D E F=>Zai C fun C G=>xSl C fun C H I J=>Zbu G (Zaj pg Zgx [.agg [.slice B D E F,.slice C H I J]] A fun A B=>
 Zck A fun A=>bcase (!A) (Q (.bool false) B) (xSl (Zae B (.ptr (h.length,0 + 1))) fun A A C C=>Zaj pg Zll [.int .i64 x1,.int .i64 0,.int .i64 (IntKind.wrap .i64 ((((A:Nat):Int)) - 1))] B fun A B=>
 Zck A fun A=>bcase (!A) (Q (.bool false) B) (xSl (Zae B (.ptr (h.length,0 + 1))) fun A A C C=>Zaj pg Zll [.int .i64 x2,.int .i64 0,.int .i64 (IntKind.wrap .i64 ((((A:Nat):Int)) - 1))] B fun A B=>
 Zck A fun A=>bcase (!A) (Q (.bool false) B) (J3 Q h.length 0 x1 x2 B))))):Zaj pg Zmn [.agg [.slice a0x0 n0x0 c0x0 e0x0,.slice a0x1 n0x1 c0x1 e0x1],.int .i64 x1,.int .i64 x2] h Q:=
 Zaj.of_body kp (c:=cod fn) (fn:=fn) Go.Proofs.Tryz.func151 (by kernel_rfl) (by kernel_rfl) (Nat.le_of_ble_eq_true (by kernel_rfl))
  (cast (by kernel_rfl) ht)
end Zmk
end Go.Sim

set_option maxRecDepth 100000
set_option linter.unusedVariables false
namespace Go.Sim
open Go Go.RowKit
end Go.Sim

set_option maxRecDepth 100000
set_option linter.unusedVariables false
namespace Go.Sim
open Go Go.RowKit
end Go.Sim

set_option maxRecDepth 100000
set_option linter.unusedVariables false
namespace Go.Sim
open Go Go.RowKit
end Go.Sim

set_option maxRecDepth 100000
set_option maxHeartbeats 4000000
set_option linter.unusedVariables false
namespace Go.Sim
open Go Go.RowKit
namespace Zsr
noncomputable abbrev fn:Func:=Go.Proofs.Tryz.f43
def kp:Zco:=[]
noncomputable def C (p:List Nat):Code:=(cod fn).sub p
def KR (Q:QT):KT:=Zfd pg fn.results.toList Q
theorem call (a0x0:Pt) (n0x0 c0x0:Nat) (e0x0:Bool) (a0x1:Pt) (n0x1 c0x1:Nat) (e0x1:Bool) (x1x0 x1x1:List Nat) (x2:Bool) (h:Zaa) (Q:QT) (ht :
 Zch (h ++ [.cells Zad [.slice a0x0 n0x0 c0x0 e0x0,.slice a0x1 n0x1 c0x1 e0x1] false]) fun A=>Zch (A ++ [.cells Zab [.str x1x0,.str x1x1] false]) fun B=>Zcn (Zbj B (.ptr (h.length,0)) 2) fun C=>Zai C fun C D=>xSl C fun C E F G=>Zai D fun D H=>xSl D fun D I J K=>Zbu H (Zch (B ++ [.cells Zab [] false]) fun H=>Zch (H ++ [.cells Zab [] false]) fun L=>Zch (L ++ [.cells Zcw [.slice C E F G,.slice D I J K,.bool x2,.slice (B.length,0) 0 0 true,.slice (H.length,0) 0 0 true,.str []] false]) fun B=>Zcn (Zbj B (.ptr (h.length,0)) 2) fun C=>Zai C fun C D=>xSl C fun C E F G=>Zai D fun D H=>xSl D fun D I J K=>Zbu H (Zcn (Zbj B (.ptr (A.length,0)) 2) fun H=>Zai H fun H M=>Zbc H fun H=>Zai M fun M N=>Zbc M fun M=>Zbu N (Zaj pg Zju [.agg [.slice C E F G,.slice D I J K],.agg [.str H,.str M]] B fun B C=>
 Zck B fun B=>bcase (!B) (Zbn (Zaz C (.ptr (L.length,0 + 5)) [.str ([119,114,111,110,103])]) fun B=>Q (.tup [.ptr (L.length,0),.str [],.bool false]) B) (Zcn (Zbj C (.ptr (A.length,0)) 2) fun A=>Zai A fun A B=>Zbc A fun A=>Zai B fun B D=>Zbc B fun B=>Zbu D (Zaj pg Zfq [.ptr (L.length,0),.agg [.str A,.str B],.int .i64 0] C fun A B=>
 Zbc A fun A=>Q (.tup [.ptr (L.length,0),.str A,.bool true]) B)))))):Zaj pg Zlq [.agg [.slice a0x0 n0x0 c0x0 e0x0,.slice a0x1 n0x1 c0x1 e0x1],.agg [.str x1x0,.str x1x1],.bool x2] h Q:=
 Zaj.of_body kp (c:=cod fn) (fn:=fn) Go.Proofs.Tryz.func43 (by kernel_rfl) (by kernel_rfl) (Nat.le_of_ble_eq_true (by kernel_rfl))
  (cast (by kernel_rfl) ht)
end Zsr
namespace Zrl
noncomputable abbrev fn:Func:=Go.Proofs.Tryz.f20
def kp:Zco:=[(2000002,[4,5])]
noncomputable def C (p:List Nat):Code:=(cod fn).sub p
def KR (Q:QT):KT:=Zfd pg fn.results.toList Q
theorem call (a0x0:Pt) (n0x0 c0x0:Nat) (e0x0:Bool) (a0x1:Pt) (n0x1 c0x1:Nat) (e0x1:Bool) (x1x0 x1x1:List Nat) (h:Zaa) (Q:QT) (ht :
 Zch (h ++ [.cells Zad [.slice a0x0 n0x0 c0x0 e0x0,.slice a0x1 n0x1 c0x1 e0x1] false]) fun A=>Zch (A ++ [.cells Zab [.str x1x0,.str x1x1] false]) fun B=>Zcn (Zbj B (.ptr (h.length,0)) 2) fun C=>Zai C fun C D=>xSl C fun C E F G=>Zai D fun D H=>xSl D fun D I J K=>Zbu H (Zcn (Zbj B (.ptr (A.length,0)) 2) fun A=>Zai A fun A H=>Zbc A fun A=>Zai H fun H L=>Zbc H fun H=>Zbu L (Zaj pg Zlq [.agg [.slice C E F G,.slice D I J K],.agg [.str A,.str H],.bool false] B fun A B=>
 Zjx A fun A=>Zai A fun A C=>Zgm A fun A=>Zai C fun C D=>Zbc C fun C=>Zai D fun D E=>Zck D fun D=>Zbu E (Zbg A fun A D=>Zbc (Zae B (.ptr (A,D + 5))) fun A=>Q (.tup [.str C,.str A]) B)))):Zaj pg Znj [.agg [.slice a0x0 n0x0 c0x0 e0x0,.slice a0x1 n0x1 c0x1 e0x1],.agg [.str x1x0,.str x1x1]] h Q:=
 Zaj.of_body kp (c:=cod fn) (fn:=fn) Go.Proofs.Tryz.func20 (by kernel_rfl) (by kernel_rfl) (Nat.le_of_ble_eq_true (by kernel_rfl))
  (cast (by kernel_rfl) ht)
end Zrl
namespace Zod
noncomputable abbrev fn:Func:=Go.Proofs.Tryz.f17
def kp:Zco:=[(2000002,[4,5])]
noncomputable def C (p:List Nat):Code:=(cod fn).sub p
def KR (Q:QT):KT:=Zfd pg fn.results.toList Q
theorem call (a0x0:Pt) (n0x0 c0x0:Nat) (e0x0:Bool) (a0x1:Pt) (n0x1 c0x1:Nat) (e0x1:Bool) (x1x0 x1x1:List Nat) (h:Zaa) (Q:QT) (ht :
 Zch (h ++ [.cells Zad [.slice a0x0 n0x0 c0x0 e0x0,.slice a0x1 n0x1 c0x1 e0x1] false]) fun A=>Zch (A ++ [.cells Zab [.str x1x0,.str x1x1] false]) fun B=>Zcn (Zbj B (.ptr (h.length,0)) 2) fun C=>Zai C fun C D=>xSl C fun C E F G=>Zai D fun D H=>xSl D fun D I J K=>Zbu H (Zcn (Zbj B (.ptr (A.length,0)) 2) fun A=>Zai A fun A H=>Zbc A fun A=>Zai H fun H L=>Zbc H fun H=>Zbu L (Zaj pg Zlq [.agg [.slice C E F G,.slice D I J K],.agg [.str A,.str H],.bool true] B fun A B=>
 Zjx A fun A=>Zai A fun A C=>Zgm A fun A=>Zai C fun C D=>Zbc C fun C=>Zai D fun D E=>Zck D fun D=>Zbu E (Zbg A fun A D=>Zbc (Zae B (.ptr (A,D + 5))) fun A=>Q (.tup [.str C,.str A]) B)))):Zaj pg Zkv [.agg [.slice a0x0 n0x0 c0x0 e0x0,.slice a0x1 n0x1 c0x1 e0x1],.agg [.str x1x0,.str x1x1]] h Q:=
 Zaj.of_body kp (c:=cod fn) (fn:=fn) Go.Proofs.Tryz.func17 (by kernel_rfl) (by kernel_rfl) (Nat.le_of_ble_eq_true (by kernel_rfl))
  (cast (by kernel_rfl) ht)
end Zod
end Go.Sim

set_option maxRecDepth 100000
set_option maxHeartbeats 4000000
set_option linter.unusedVariables false
namespace Go.Sim
open Go Go.RowKit
namespace Zgp
noncomputable abbrev fn:Func:=Go.Proofs.Tryz.f111
def kp:Zco:=[(2000001,[5,0,3]),(2000008,[6,0]),(4000011,[0])]
noncomputable def C (p:List Nat):Code:=(cod fn).sub p
def KR (Q:QT):KT:=Zfd pg fn.results.toList Q
def J11 (Q:QT) (a0:Pt) (h:Zaa):Prop:=Den pg fn.ntmps (C [1,1,1,1]) [(0,.ptr a0)] h (KR Q)
theorem J11i (Q:QT) (a0:Pt) (h:Zaa) (ht :
 Zbg a0 fun A B=>Zbn (Zaz h (.ptr (A,B + 5)) [.str ([109,97,110,121])]) fun A=>Q (.int .i64 (-1)) A):J11 Q a0 h:=
 Zbf (kp:=kp) (cast (by kernel_rfl) ht)
theorem call (a0:Pt) (x1x0 x1x1:List Nat) (h:Zaa) (Q:QT) (ht :
 Zch (h ++ [.cells Zab [.str x1x0,.str x1x1] false]) fun A=>Zbg a0 fun B C=>Zcn (Zbj A (.ptr (B,C + 0)) 2) fun D=>Zai D fun D E=>xSl D fun D F G H=>Zai E fun E I=>xSl E fun E J K L=>Zbu I (Zcn (Zbj A (.ptr (h.length,0)) 2) fun I=>Zai I fun I M=>Zbc I fun I=>Zai M fun M N=>Zbc M fun M=>Zbu N ((Zbj A (.ptr (B,C + 0)) 2=Zbj A (.ptr (B,C + 0)) 2)∧Zaj pg Zhi [.agg [.slice D F G H,.slice E J K L],.agg [.str I,.str M]] A fun A B=>
 xSl A fun A C D D=>bcase ((((C:Nat):Int):Int) == 0) (Zbg a0 fun D E=>Zbn (Zaz B (.ptr (D,E + 5)) [.str ([110,111,110,101])]) fun D=>Q (.int .i64 (-1)) D) (bcase ((((C:Nat):Int):Int) == 1) ((0≤(0:Int)∧(0:Int) < (C:Nat))∧(Zbg A fun A C=>Zdt .i64 (Zae B (.ptr (A,C + (Int.toNat 0) * 1))) fun A=>Q (.int .i64 A) B)) (Zbg a0 fun A C=>Zck (Zae B (.ptr (A,C + 2))) fun A=>bcase A (Zbg a0 fun A C=>Zcn (Zbj B (.ptr (A,C + 0)) 2) fun D=>Zai D fun D E=>xSl D fun D F G H=>Zai E fun E I=>xSl E fun E J K L=>Zbu I (Zcn (Zbj B (.ptr (h.length,0)) 2) fun I=>Zai I fun I M=>Zbc I fun I=>Zai M fun M N=>Zbc M fun M=>Zbu N ((Zbj B (.ptr (A,C + 0)) 2=Zbj B (.ptr (A,C + 0)) 2)∧Zaj pg Zku [.agg [.slice D F G H,.slice E J K L],.agg [.str I,.str M]] B fun A C=>
 Zdt .i64 A fun A=>bcase (decide ((A:Int) ≥ 0)) (Q (.int .i64 A) C) (J11 Q a0 C)))) (J11 Q a0 B)))))):Zaj pg Zey [.ptr a0,.agg [.str x1x0,.str x1x1]] h Q:=
 Zaj.of_body kp (c:=cod fn) (fn:=fn) Go.Proofs.Tryz.func111 (by kernel_rfl) (by kernel_rfl) (Nat.le_of_ble_eq_true (by kernel_rfl))
  (cast (by kernel_rfl) ht)
end Zgp
end Go.Sim

set_option maxRecDepth 100000
set_option maxHeartbeats 4000000
set_option linter.unusedVariables false
namespace Go.Sim
open Go Go.RowKit
namespace Zeb
noncomputable abbrev fn:Func:=Go.Proofs.Tryz.f75
def kp:Zco:=[(2000001,[0,4,2]),(2000005,[2,0,4]),(2000012,[9,0,7,8,2]),(3000018,[8,10,0,2,6]),(1000018,[0,2,8,10,78,79,80]),(4000027,[0,2,10])]
noncomputable def C (p:List Nat):Code:=(cod fn).sub p
def KR (Q:QT):KT:=Zfd pg fn.results.toList Q
abbrev T18:=Pt→Int→Pt→Nat→Nat→Bool→List Nat→Pt→Nat→Nat→Bool→Int→Int→Zaa→Prop
def E18 (R18:T18) (env:Env) (h:Zaa):Prop:=Zce 0 env fun v env=>Zgm v fun a0=>Zce 2 env fun v env=>Zew .i64 v fun x2=>Zce 8 env fun v env=>xSl v fun a8 n8 c8 e8=>Zce 10 env fun v env=>Zbc v fun x10=>Zce 78 env fun v env=>xSl v fun a78 n78 c78 e78=>Zce 79 env fun v env=>Zew .i64 v fun x79=>Zce 80 env fun v env=>Zew .i64 v fun x80=>Zls env (R18 a0 x2 a8 n8 c8 e8 x10 a78 n78 c78 e78 x79 x80 h)
theorem Ylo {R18:T18} {env:Env} {h:Zaa} (hi:E18 R18 env h):∃ a0,∃ x2,∃ a8,∃ n8,∃ c8,∃ e8,∃ x10,∃ a78,∃ n78,∃ c78,∃ e78,∃ x79,∃ x80,env=[(0,.ptr a0),(2,.int .i64 x2),(8,.slice a8 n8 c8 e8),(10,.str x10),(78,.slice a78 n78 c78 e78),(79,.int .i64 x79),(80,.int .i64 x80)]∧R18 a0 x2 a8 n8 c8 e8 x10 a78 n78 c78 e78 x79 x80 h:=by
 unfold E18 at hi
 repeat ((first | (have k:=Zan hi; clear hi; obtain ⟨_,_,e,hi⟩:=k) | (have k:=Zay hi; clear hi; obtain ⟨_,e,hi⟩:=k) | (have k:=Zbv hi; clear hi; obtain ⟨_,e,hi⟩:=k) | (have k:=Zfc hi; clear hi; obtain ⟨_,e,hi⟩:=k) | (have k:=Zcg hi; clear hi; obtain ⟨_,_,_,_,e,hi⟩:=k)); subst e)
 obtain ⟨rfl,hi⟩:=Zbw hi
 exact ⟨_,_,_,_,_,_,_,_,_,_,_,_,_,rfl,hi⟩
def K0 (Q:QT):KT:=andThen (fun env' h'=>(match kp.find 4000025 with | some ks=>Den pg fn.ntmps (C [1,1,1,1,1,1,1,1,1,1,1]) (env'.keep ks) h' (KR Q) | none=>den pg fn.ntmps kp (C [1,1,1,1,1,1,1,1,1,1,1]) env' h' (KR Q))) (KR Q)
def K1 (Q:QT):KT:=Zde 0 (K0 Q)
def K2 (Q:QT):KT:=left kp 18 (K1 Q)
def K3 (Q:QT) (R18:T18):KT:=rnd ((kp.find 1000018).getD []) (E18 R18) (K2 Q)
def L18 (Q:QT) (a0:Pt) (x2:Int) (a8:Pt) (n8 c8:Nat) (e8:Bool) (x10:List Nat) (a78:Pt) (n78 c78:Nat) (e78:Bool) (x79 x80:Int) (h:Zaa):Prop:=Zff (Den pg fn.ntmps (C [1,1,1,1,1,1,1,1,1,1,0,1,0,0])) ((kp.find 1000018).getD []) (K2 Q) [(0,.ptr a0),(2,.int .i64 x2),(8,.slice a8 n8 c8 e8),(10,.str x10),(78,.slice a78 n78 c78 e78),(79,.int .i64 x79),(80,.int .i64 x80)] h
def Yum (Q:QT) (a8:Pt) (n8 c8:Nat) (e8:Bool) (x10:List Nat) (a0:Pt) (x2:Int) (h:Zaa):Prop:=At (K1 Q) (.exit 0) [(8,.slice a8 n8 c8 e8),(10,.str x10),(0,.ptr a0),(2,.int .i64 x2),(6,.undef)] h
def J27 (Q:QT) (a0:Pt) (x2:Int) (x10:List Nat) (h:Zaa):Prop:=Den pg fn.ntmps (C [1,1,1,1,1,1,1,1,1,1,1,1]) [(0,.ptr a0),(2,.int .i64 x2),(10,.str x10)] h (KR Q)
def L18t (Q:QT) (R18:T18) (a0:Pt) (x2:Int) (a8:Pt) (n8 c8:Nat) (e8:Bool) (x10:List Nat) (a78:Pt) (n78 c78:Nat) (e78:Bool) (x79 x80:Int) (h:Zaa):Prop:=
 bcase (decide ((x80:Int) < x79)) ((0≤(x80:Int)∧(x80:Int) < (n78:Nat))∧(Zbg a78 fun A B=>Zcn (Zbj h (.ptr (A,B + (Int.toNat x80) * 2)) 2) fun A=>Zai A fun A B=>Zbc A fun A=>Zai B fun B C=>Zbc B fun B=>Zbu C (Zch (h ++ [.cells Zab [.str [],.str []] false]) fun C=>Zbn (Zaz C (.ptr (h.length,0)) [.str A,.str B]) fun A=>Zcn (Zbj A (.ptr (h.length,0)) 2) fun B=>Zai B fun B C=>Zbc B fun B=>Zai C fun C D=>Zbc C fun C=>Zbu D (Zaj pg Zfq [.ptr a0,.agg [.str B,.str C],.int .i64 (IntKind.wrap .i64 (x2 + 1))] A fun A B=>
 Zbc A fun A=>Zbg a0 fun C D=>Zbc (Zae B (.ptr (C,D + 5))) fun C=>bcase (!(decide (C=[]))) (Q (.str []) B) ((0≤(x80:Int)∧(x80:Int)≤IntKind.wrap .i64 (x80 + 1)∧(IntKind.wrap .i64 (x80 + 1):Int)≤(List.length ([40,44,44]):Nat))∧(List.length x10 + List.length (sub ([40,44,44]) x80 (IntKind.wrap .i64 (x80 + 1)))≤9223372036854775807∧(List.length (x10 ++ (sub ([40,44,44]) x80 (IntKind.wrap .i64 (x80 + 1)))) + List.length A≤9223372036854775807∧(R18 a0 x2 a8 n8 c8 e8 ((x10 ++ (sub ([40,44,44]) x80 (IntKind.wrap .i64 (x80 + 1)))) ++ A) a78 n78 c78 e78 x79 (IntKind.wrap .i64 (x80 + 1)) B)))))))) (Yum Q a8 n8 c8 e8 x10 a0 x2 h)
theorem Yur (Q:QT) (R18:T18) (a0:Pt) (x2:Int) (a8:Pt) (n8 c8:Nat) (e8:Bool) (x10:List Nat) (a78:Pt) (n78 c78:Nat) (e78:Bool) (x79 x80:Int) (h:Zaa) (ht:L18t Q R18 a0 x2 a8 n8 c8 e8 x10 a78 n78 c78 e78 x79 x80 h):Den pg fn.ntmps (C [1,1,1,1,1,1,1,1,1,1,0,1,0,0]) [(0,.ptr a0),(2,.int .i64 x2),(8,.slice a8 n8 c8 e8),(10,.str x10),(78,.slice a78 n78 c78 e78),(79,.int .i64 x79),(80,.int .i64 x80)] h (K3 Q R18):=
 Zbf (kp:=kp) (cast (by kernel_rfl) ht)
theorem L18ind (Q:QT) (a0:Pt) (x2:Int) (a8:Pt) (n8 c8:Nat) (e8:Bool) (a78:Pt) (n78 c78:Nat) (e78:Bool) (x79:Int) {G:Type} (J:G→List Nat→Int→Zaa→Prop) (m:G→Nat)
 (hr:∀ (g:G) (x10:List Nat) (x80:Int) (h:Zaa),J g x10 x80 h→∀ (R18:T18),(∀ g' (x10:List Nat) (x80:Int) (h:Zaa),m g' < m g→J g' x10 x80 h→R18 a0 x2 a8 n8 c8 e8 x10 a78 n78 c78 e78 x79 x80 h)→L18t Q R18 a0 x2 a8 n8 c8 e8 x10 a78 n78 c78 e78 x79 x80 h)
 (g:G) (x10:List Nat) (x80:Int) (h:Zaa) (hj:J g x10 x80 h):L18 Q a0 x2 a8 n8 c8 e8 x10 a78 n78 c78 e78 x79 x80 h:=by
 let P:=fun (K:List Nat→Int→Zaa→Prop) a0' x2' a8' n8' c8' e8' x10 a78' n78' c78' e78' x79' x80 h=>a0=a0'∧x2=x2'∧a8=a8'∧n8=n8'∧c8=c8'∧e8=e8'∧a78=a78'∧n78=n78'∧c78=c78'∧e78=e78'∧x79=x79'∧K x10 x80 h
 refine Zff.inv2 (fun g=>E18 (P (J g))) (fun g=>E18 (P fun x10 x80 h=>∃ g',m g' < m g∧J g' x10 x80 h)) m ?_ ?_ g ⟨rfl,rfl,rfl,rfl,rfl,rfl,rfl,rfl,rfl,rfl,rfl,hj⟩
 ·intro g env h hi
  obtain ⟨a0',x2',a8',n8',c8',e8',x10,a78',n78',c78',e78',x79',x80,rfl,rfl,rfl,rfl,rfl,rfl,rfl,rfl,rfl,rfl,rfl,rfl,hj⟩:=Ylo hi
  exact Yur Q _ a0 x2 a8 n8 c8 e8 x10 a78 n78 c78 e78 x79 x80 h (hr g x10 x80 h hj (P fun x10 x80 h=>∃ g',m g' < m g∧J g' x10 x80 h) fun g' x10 x80 h hlt hj=>⟨rfl,rfl,rfl,rfl,rfl,rfl,rfl,rfl,rfl,rfl,rfl,g',hlt,hj⟩)
 ·intro g env h hi
  obtain ⟨a0',x2',a8',n8',c8',e8',x10,a78',n78',c78',e78',x79',x80,rfl,rfl,rfl,rfl,rfl,rfl,rfl,rfl,rfl,rfl,rfl,rfl,g',hlt,hj⟩:=Ylo hi
  exact ⟨g',hlt,rfl,rfl,rfl,rfl,rfl,rfl,rfl,rfl,rfl,rfl,rfl,hj⟩
theorem A18x0i (Q:QT) (a8:Pt) (n8 c8:Nat) (e8:Bool) (x10:List Nat) (a0:Pt) (x2:Int) (h:Zaa) (ht :
 bcase (decide (((((n8:Nat):Int)):Int) > 0)) (List.length x10 + List.length [41]≤9223372036854775807∧(J27 Q a0 x2 (x10 ++ [41]) h)) (J27 Q a0 x2 x10 h)):Yum Q a8 n8 c8 e8 x10 a0 x2 h:=
 At.mk (cast (by kernel_rfl) ht)
theorem J27i (Q:QT) (a0:Pt) (x2:Int) (x10:List Nat) (h:Zaa) (ht :
 Zbg a0 fun A B=>xSl (Zae h (.ptr (A,B + 4))) fun A B C D=>Zhu A B C D 2 none (some (.int .i64 (IntKind.wrap .i64 (x2 + 1)))) none fun A=>xSl A fun A B C D=>Zbg a0 fun E F=>Zbn (Zaz h (.ptr (E,F + 4)) [.slice A B C D]) fun A=>Q (.str x10) A):J27 Q a0 x2 x10 h:=
 Zbf (kp:=kp) (cast (by kernel_rfl) ht)
theorem call (a0:Pt) (x1x0 x1x1:List Nat) (x2:Int) (h:Zaa) (Q:QT) (ht :
 Zch (h ++ [.cells Zab [.str x1x0,.str x1x1] false]) fun A=>Zbg a0 fun B C=>xSl (Zae A (.ptr (B,C + 4))) fun D E F G=>Zhu D E F G 2 none (some (.int .i64 x2)) none fun D=>xSl D fun D E F G=>Zcn (Zbj A (.ptr (h.length,0)) 2) fun H=>Zai H fun H I=>Zbc H fun H=>Zai I fun I J=>Zbc I fun I=>Zbu J ((Zch (A ++ [.cells Zab [] false]) fun J=>(Zbj J (.ptr (h.length,0)) 2=Zbj A (.ptr (h.length,0)) 2)∧(Zae J (.ptr (B,C + 4))=Zae A (.ptr (B,C + 4)))∧(Zcf pg Zbm J (.slice (A.length,0) 0 0 true) (.slice D E F G) fun K L=>xSl K fun K M N O=>(Zbj L (.ptr (h.length,0)) 2=Zbj J (.ptr (h.length,0)) 2)∧(Zae L (.ptr (B,C + 4))=Zae J (.ptr (B,C + 4)))∧Zch (L ++ [.cells Zab [.str H,.str I] false]) fun P=>(Zae P (.ptr (B,C + 4))=Zae L (.ptr (B,C + 4)))∧Zcf pg Zbm P (.slice K M N O) (.slice (L.length,0) 1 1 true) fun K L=>xSl K fun K M N O=>(Zbj L (.ptr (h.length,0)) 2=Zbj P (.ptr (h.length,0)) 2)∧(Zae L (.ptr (B,C + 4))=Zae P (.ptr (B,C + 4)))∧Zbg a0 fun P R=>Zbn (Zaz L (.ptr (P,R + 4)) [.slice K M N O]) fun K=>Zbg a0 fun L M=>xSl (Zae K (.ptr (L,M + 3))) fun L L M M=>bcase (decide (((((L:Nat):Int)):Int) ≥ 300)) (Zbg a0 fun L M=>Zbn (Zaz K (.ptr (L,M + 5)) [.str ([108,111,110,103])]) fun L=>Q (.str []) L) (Zbg a0 fun L M=>xSl (Zae K (.ptr (L,M + 3))) fun N O P R=>Zcn (Zbj K (.ptr (h.length,0)) 2) fun S=>Zai S fun S T=>Zbc S fun S=>Zai T fun T U=>Zbc T fun T=>Zbu U ((Zae K (.ptr (L,M + 3))=Zae K (.ptr (L,M + 3)))∧Zch (K ++ [.cells Zab [.str S,.str T] false]) fun S=>(Zae S (.ptr (L,M + 3))=Zae K (.ptr (L,M + 3)))∧Zcf pg Zbm S (.slice N O P R) (.slice (K.length,0) 1 1 true) fun K L=>xSl K fun K M N O=>Zbg a0 fun P R=>Zbn (Zaz L (.ptr (P,R + 3)) [.slice K M N O]) fun K=>bcase (decide ((x2:Int) > 30)) (Zbg a0 fun L M=>Zbn (Zaz K (.ptr (L,M + 5)) [.str ([100,101,101,112])]) fun L=>Q (.str []) L) (Zcn (Zbj K (.ptr (h.length,0)) 2) fun L=>Zai L fun L M=>Zbc L fun L=>Zai M fun M N=>Zbc M fun M=>Zbu N (Zaj pg Zey [.ptr a0,.agg [.str L,.str M]] K fun K L=>
 Zdt .i64 K fun K=>bcase (decide ((K:Int) < 0)) (Q (.str []) L) (Zbg a0 fun M N=>xSl (Zae L (.ptr (M,N + 0 + 1))) fun O P R R=>(0≤(K:Int)∧(K:Int) < (P:Nat))∧(Zbg O fun O P=>Zcn (Zbj L (.ptr (O,P + (Int.toNat K) * 3)) 3) fun R=>Zai R fun R S=>Zbc R fun R=>Zai S fun S T=>Zbc S fun S=>Zai T fun T U=>xSl T fun T V W X=>Zbu U (Zbc (Zae L (.ptr (h.length,0 + 1))) fun U=>(Zbj L (.ptr (O,P + (Int.toNat K) * 3)) 3=Zbj L (.ptr (O,P + (Int.toNat K) * 3)) 3)∧(Zae L (.ptr (M,N + 0 + 1))=Zae L (.ptr (M,N + 0 + 1)))∧Zaj pg Zhm [.agg [.str R,.str S,.slice T V W X],.str U] L fun O P=>
 Zjx O fun O=>Zai O fun O R=>xSl O fun O S T U=>Zai R fun R V=>Zck R fun R=>Zbu V ((Zae P (.ptr (M,N + 0 + 1))=Zae L (.ptr (M,N + 0 + 1)))∧bcase (!R) (Zbg a0 fun L M=>Zbn (Zaz P (.ptr (L,M + 5)) [.str ([98,105,103])]) fun L=>Q (.str []) L) (Zaj pg Zgg [.int .i64 K] P fun K L=>
 Zbc K fun K=>L18 Q a0 x2 O S T U K O S T U (((S:Nat):Int)) 0 L))))))))))∧(Zch (J ++ [.cells Zab [.str H,.str I] false]) fun K=>(Zae K (.ptr (B,C + 4))=Zae J (.ptr (B,C + 4)))∧Zcf pg Zbm K (.slice (A.length,0) 0 0 true) (.slice D E F G) fun L M=>xSl L fun L N O P=>(Zbj M (.ptr (h.length,0)) 2=Zbj K (.ptr (h.length,0)) 2)∧(Zae M (.ptr (B,C + 4))=Zae K (.ptr (B,C + 4)))∧Zcf pg Zbm M (.slice L N O P) (.slice (J.length,0) 1 1 true) fun J K=>xSl J fun J L N O=>(Zbj K (.ptr (h.length,0)) 2=Zbj M (.ptr (h.length,0)) 2)∧(Zae K (.ptr (B,C + 4))=Zae M (.ptr (B,C + 4)))∧Zbg a0 fun M P=>Zbn (Zaz K (.ptr (M,P + 4)) [.slice J L N O]) fun J=>Zbg a0 fun K L=>xSl (Zae J (.ptr (K,L + 3))) fun K K L L=>bcase (decide (((((K:Nat):Int)):Int) ≥ 300)) (Zbg a0 fun K L=>Zbn (Zaz J (.ptr (K,L + 5)) [.str ([108,111,110,103])]) fun K=>Q (.str []) K) (Zbg a0 fun K L=>xSl (Zae J (.ptr (K,L + 3))) fun M N O P=>Zcn (Zbj J (.ptr (h.length,0)) 2) fun R=>Zai R fun R S=>Zbc R fun R=>Zai S fun S T=>Zbc S fun S=>Zbu T ((Zae J (.ptr (K,L + 3))=Zae J (.ptr (K,L + 3)))∧Zch (J ++ [.cells Zab [.str R,.str S] false]) fun R=>(Zae R (.ptr (K,L + 3))=Zae J (.ptr (K,L + 3)))∧Zcf pg Zbm R (.slice M N O P) (.slice (J.length,0) 1 1 true) fun J K=>xSl J fun J L M N=>Zbg a0 fun O P=>Zbn (Zaz K (.ptr (O,P + 3)) [.slice J L M N]) fun J=>bcase (decide ((x2:Int) > 30)) (Zbg a0 fun K L=>Zbn (Zaz J (.ptr (K,L + 5)) [.str ([100,101,101,112])]) fun K=>Q (.str []) K) (Zcn (Zbj J (.ptr (h.length,0)) 2) fun K=>Zai K fun K L=>Zbc K fun K=>Zai L fun L M=>Zbc L fun L=>Zbu M (Zaj pg Zey [.ptr a0,.agg [.str K,.str L]] J fun J K=>
 Zdt .i64 J fun J=>bcase (decide ((J:Int) < 0)) (Q (.str []) K) (Zbg a0 fun L M=>xSl (Zae K (.ptr (L,M + 0 + 1))) fun N O P P=>(0≤(J:Int)∧(J:Int) < (O:Nat))∧(Zbg N fun N O=>Zcn (Zbj K (.ptr (N,O + (Int.toNat J) * 3)) 3) fun P=>Zai P fun P R=>Zbc P fun P=>Zai R fun R S=>Zbc R fun R=>Zai S fun S T=>xSl S fun S U V W=>Zbu T (Zbc (Zae K (.ptr (h.length,0 + 1))) fun T=>(Zbj K (.ptr (N,O + (Int.toNat J) * 3)) 3=Zbj K (.ptr (N,O + (Int.toNat J) * 3)) 3)∧(Zae K (.ptr (L,M + 0 + 1))=Zae K (.ptr (L,M + 0 + 1)))∧Zaj pg Zhm [.agg [.str P,.str R,.slice S U V W],.str T] K fun N O=>
 Zjx N fun N=>Zai N fun N P=>xSl N fun N R S T=>Zai P fun P U=>Zck P fun P=>Zbu U ((Zae O (.ptr (L,M + 0 + 1))=Zae K (.ptr (L,M + 0 + 1)))∧bcase (!P) (Zbg a0 fun K L=>Zbn (Zaz O (.ptr (K,L + 5)) [.str ([98,105,103])]) fun K=>Q (.str []) K) (Zaj pg Zgg [.int .i64 J] O fun J K=>
 Zbc J fun J=>L18 Q a0 x2 N R S T J N R S T (((R:Nat):Int)) 0 K)))))))))))∧(Zch (A ++ [.cells Zab [.str H,.str I] false]) fun H=>(Zae H (.ptr (B,C + 4))=Zae A (.ptr (B,C + 4)))∧Zch (H ++ [.cells Zab [] false]) fun I=>(Zbj I (.ptr (h.length,0)) 2=Zbj H (.ptr (h.length,0)) 2)∧(Zae I (.ptr (B,C + 4))=Zae H (.ptr (B,C + 4)))∧Zcf pg Zbm I (.slice (H.length,0) 0 0 true) (.slice D E F G) fun D E=>xSl D fun D F G H=>(Zbj E (.ptr (h.length,0)) 2=Zbj I (.ptr (h.length,0)) 2)∧(Zae E (.ptr (B,C + 4))=Zae I (.ptr (B,C + 4)))∧Zcf pg Zbm E (.slice D F G H) (.slice (A.length,0) 1 1 true) fun A D=>xSl A fun A F G H=>(Zbj D (.ptr (h.length,0)) 2=Zbj E (.ptr (h.length,0)) 2)∧(Zae D (.ptr (B,C + 4))=Zae E (.ptr (B,C + 4)))∧Zbg a0 fun B C=>Zbn (Zaz D (.ptr (B,C + 4)) [.slice A F G H]) fun A=>Zbg a0 fun B C=>xSl (Zae A (.ptr (B,C + 3))) fun B B C C=>bcase (decide (((((B:Nat):Int)):Int) ≥ 300)) (Zbg a0 fun B C=>Zbn (Zaz A (.ptr (B,C + 5)) [.str ([108,111,110,103])]) fun B=>Q (.str []) B) (Zbg a0 fun B C=>xSl (Zae A (.ptr (B,C + 3))) fun D E F G=>Zcn (Zbj A (.ptr (h.length,0)) 2) fun H=>Zai H fun H I=>Zbc H fun H=>Zai I fun I J=>Zbc I fun I=>Zbu J ((Zae A (.ptr (B,C + 3))=Zae A (.ptr (B,C + 3)))∧Zch (A ++ [.cells Zab [.str H,.str I] false]) fun H=>(Zae H (.ptr (B,C + 3))=Zae A (.ptr (B,C + 3)))∧Zcf pg Zbm H (.slice D E F G) (.slice (A.length,0) 1 1 true) fun A B=>xSl A fun A C D E=>Zbg a0 fun F G=>Zbn (Zaz B (.ptr (F,G + 3)) [.slice A C D E]) fun A=>bcase (decide ((x2:Int) > 30)) (Zbg a0 fun B C=>Zbn (Zaz A (.ptr (B,C + 5)) [.str ([100,101,101,112])]) fun B=>Q (.str []) B) (Zcn (Zbj A (.ptr (h.length,0)) 2) fun B=>Zai B fun B C=>Zbc B fun B=>Zai C fun C D=>Zbc C fun C=>Zbu D (Zaj pg Zey [.ptr a0,.agg [.str B,.str C]] A fun A B=>
 Zdt .i64 A fun A=>bcase (decide ((A:Int) < 0)) (Q (.str []) B) (Zbg a0 fun C D=>xSl (Zae B (.ptr (C,D + 0 + 1))) fun E F G G=>(0≤(A:Int)∧(A:Int) < (F:Nat))∧(Zbg E fun E F=>Zcn (Zbj B (.ptr (E,F + (Int.toNat A) * 3)) 3) fun G=>Zai G fun G H=>Zbc G fun G=>Zai H fun H I=>Zbc H fun H=>Zai I fun I J=>xSl I fun I K L M=>Zbu J (Zbc (Zae B (.ptr (h.length,0 + 1))) fun J=>(Zbj B (.ptr (E,F + (Int.toNat A) * 3)) 3=Zbj B (.ptr (E,F + (Int.toNat A) * 3)) 3)∧(Zae B (.ptr (C,D + 0 + 1))=Zae B (.ptr (C,D + 0 + 1)))∧Zaj pg Zhm [.agg [.str G,.str H,.slice I K L M],.str J] B fun E F=>
 Zjx E fun E=>Zai E fun E G=>xSl E fun E H I J=>Zai G fun G K=>Zck G fun G=>Zbu K ((Zae F (.ptr (C,D + 0 + 1))=Zae B (.ptr (C,D + 0 + 1)))∧bcase (!G) (Zbg a0 fun B C=>Zbn (Zaz F (.ptr (B,C + 5)) [.str ([98,105,103])]) fun B=>Q (.str []) B) (Zaj pg Zgg [.int .i64 A] F fun A B=>
 Zbc A fun A=>L18 Q a0 x2 E H I J A E H I J (((H:Nat):Int)) 0 B)))))))))))):Zaj pg Zfq [.ptr a0,.agg [.str x1x0,.str x1x1],.int .i64 x2] h Q:=
 Zaj.of_body kp (c:=cod fn) (fn:=fn) Go.Proofs.Tryz.func75 (by kernel_rfl) (by kernel_rfl) (Nat.le_of_ble_eq_true (by kernel_rfl))
  (cast (by kernel_rfl) ht)
end Zeb
end Go.Sim
