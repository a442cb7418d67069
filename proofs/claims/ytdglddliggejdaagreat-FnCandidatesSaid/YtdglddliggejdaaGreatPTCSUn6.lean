/- A part of the proof of a statement of this seat: see the text that holds the theorem. No condition. -/
import Derived.Test.YtdglddliggejdaaGreatNm
set_option linter.unusedVariables false
set_option linter.unusedSimpArgs false
set_option linter.all false
set_option maxRecDepth 100000
set_option maxHeartbeats 0
set_option linter.unusedVariables false
namespace Go.Sim
open Go Go.RowKit
namespace Zjt
noncomputable abbrev fn:Func:=Go.Proofs.Tryz.f21
def kp:Zcu:=[]
noncomputable def C (p:List Nat):Code:=(cod fn).sub p
def KR (Q:QT):KT:=Zfi pg fn.results.toList Q
theorem call (a0:Pt) (n0 c0:Nat) (e0:Bool) (h:Zaa) (Q:QT) (ht :
 Zco (h ++ [.cells Zad [.slice none 0 0 true,.slice none 0 0 true] false]) fun A=>Zco (A ++ [.cells Zae [.str [],.str []] false]) fun B=>Zah pg Zkw [.slice a0 n0 c0 e0] B fun B C=>
 Zfc B fun B=>Zah pg Zly [.ptr B] C fun B C=>
 Zru B fun B=>Zag B fun B D=>Zmv B fun B=>Zag B fun B E=>xSl B fun B F G H=>Zag E fun E I=>xSl E fun E J K L=>Zbu I (Zag D fun D I=>Zmv D fun D=>Zag D fun D M=>Zbn D fun D=>Zag M fun M N=>Zbn M fun M=>Zbu N (Zbu I (Zbx (Zbb C (.ptr (h.length,0)) [.slice B F G H,.slice E J K L]) fun B=>Zbx (Zbb B (.ptr (A.length,0)) [.str D,.str M]) fun B=>Zcb (Zan B (.ptr (h.length,0)) 2) fun C=>Zag C fun C D=>xSl C fun C E F G=>Zag D fun D H=>xSl D fun D I J K=>Zbu H (Zcb (Zan B (.ptr (A.length,0)) 2) fun A=>Zag A fun A H=>Zbn A fun A=>Zag H fun H L=>Zbn H fun H=>Zbu L (Q (.tup [.agg [.slice C E F G,.slice D I J K],.agg [.str A,.str H]]) B)))))):Zah pg Zgo [.slice a0 n0 c0 e0] h Q:=
 Zah.of_body kp (c:=cod fn) (fn:=fn) Go.Proofs.Tryz.func21 (by kernel_rfl) (by kernel_rfl) (Nat.le_of_ble_eq_true (by kernel_rfl))
  (cast (by kernel_rfl) ht)
end Zjt
namespace Zbq
noncomputable abbrev fn:Func:=Go.Proofs.Tryz.f5
def kp:Zcu:=[(2000008,[90,5,9,6,10,7,11,8,3,4]),(2000009,[2]),(4000010,[3,4,5,7]),(3000012,[4,5,7,2]),(1000012,[4,5,7,13,14,126,127,128]),(4000015,[16,4,17,13,5,15,14,7,128,127,126]),(4000016,[17,13,5,15,18,14,7,128,127,126,4]),(4000018,[17,13,18,14,128,127,126,4,5,7]),(4000020,[18,14,128,127,126,4,13,5,7]),(4000022,[128,127,126,4,13,5,14,7])]
noncomputable def C (p:List Nat):Code:=(cod fn).sub p
def KR (Q:QT):KT:=Zfi pg fn.results.toList Q
abbrev T12:=Nat→Nat→Pt→Nat→Nat→Bool→Pt→Nat→Nat→Bool→Int→Int→Pt→Nat→Nat→Bool→Int→Int→Zaa→Prop
def E12 (R12:T12) (env:Env) (h:Zaa):Prop:=Zci 4 env fun v env=>Zfc v fun a=>Zbi a fun i4 o4=>Zci 5 env fun v env=>xSl v fun a5 n5 c5 e5=>Zci 7 env fun v env=>xSl v fun a7 n7 c7 e7=>Zci 13 env fun v env=>Zez .i64 v fun x13=>Zci 14 env fun v env=>Zez .i64 v fun x14=>Zci 126 env fun v env=>xSl v fun a126 n126 c126 e126=>Zci 127 env fun v env=>Zez .i64 v fun x127=>Zci 128 env fun v env=>Zez .i64 v fun x128=>Zky env (R12 i4 o4 a5 n5 c5 e5 a7 n7 c7 e7 x13 x14 a126 n126 c126 e126 x127 x128 h)
theorem Zqu {R12:T12} {env:Env} {h:Zaa} (hi:E12 R12 env h):∃ i4,∃ o4,∃ a5,∃ n5,∃ c5,∃ e5,∃ a7,∃ n7,∃ c7,∃ e7,∃ x13,∃ x14,∃ a126,∃ n126,∃ c126,∃ e126,∃ x127,∃ x128,env=[(4,.ptr (i4,o4)),(5,.slice a5 n5 c5 e5),(7,.slice a7 n7 c7 e7),(13,.int .i64 x13),(14,.int .i64 x14),(126,.slice a126 n126 c126 e126),(127,.int .i64 x127),(128,.int .i64 x128)]∧R12 i4 o4 a5 n5 c5 e5 a7 n7 c7 e7 x13 x14 a126 n126 c126 e126 x127 x128 h:=by
 unfold E12 at hi
 have hi0:=hi
 clear hi
 obtain ⟨_,_,rfl,hi1⟩:=Zal hi0
 obtain ⟨a,rfl,hi2⟩:=Zbo hi1
 obtain ⟨i4,o4,rfl,hi3⟩:=Zbp hi2
 obtain ⟨_,_,rfl,hi4⟩:=Zal hi3
 obtain ⟨a5,n5,c5,e5,rfl,hi5⟩:=Zcp hi4
 obtain ⟨_,_,rfl,hi6⟩:=Zal hi5
 obtain ⟨a7,n7,c7,e7,rfl,hi7⟩:=Zcp hi6
 obtain ⟨_,_,rfl,hi8⟩:=Zal hi7
 obtain ⟨x13,rfl,hi9⟩:=Zaz hi8
 obtain ⟨_,_,rfl,hi10⟩:=Zal hi9
 obtain ⟨x14,rfl,hi11⟩:=Zaz hi10
 obtain ⟨_,_,rfl,hi12⟩:=Zal hi11
 obtain ⟨a126,n126,c126,e126,rfl,hi13⟩:=Zcp hi12
 obtain ⟨_,_,rfl,hi14⟩:=Zal hi13
 obtain ⟨x127,rfl,hi15⟩:=Zaz hi14
 obtain ⟨_,_,rfl,hi16⟩:=Zal hi15
 obtain ⟨x128,rfl,hi17⟩:=Zaz hi16
 obtain ⟨rfl,hi18⟩:=Zca hi17
 have hi:=hi18
 exact ⟨i4,o4,a5,n5,c5,e5,a7,n7,c7,e7,x13,x14,a126,n126,c126,e126,x127,x128,rfl,hi⟩
def K0 (Q:QT):KT:=andThen (fun env' h'=>(match kp.find 4000023 with | some ks=>Den pg fn.ntmps (C [1,1,1,1,1,1,1,1,1,1]) (env'.keep ks) h' (KR Q) | none=>den pg fn.ntmps kp (C [1,1,1,1,1,1,1,1,1,1]) env' h' (KR Q))) (KR Q)
def K1 (Q:QT):KT:=Zdg 0 (K0 Q)
def K2 (Q:QT):KT:=left kp 12 (K1 Q)
def K3 (Q:QT) (R12:T12):KT:=rnd ((kp.find 1000012).getD []) (E12 R12) (K2 Q)
def K4 (Q:QT) (R12:T12):KT:=andThen (fun env' h'=>(match kp.find 4000022 with | some ks=>Den pg fn.ntmps (C [1,1,1,1,1,1,1,1,1,0,1,0,0,1,1,1]) (env'.keep ks) h' (K3 Q R12) | none=>den pg fn.ntmps kp (C [1,1,1,1,1,1,1,1,1,0,1,0,0,1,1,1]) env' h' (K3 Q R12))) (K3 Q R12)
def K5 (Q:QT) (R12:T12):KT:=Zdg 1 (K4 Q R12)
def J10 (Q:QT) (i3 o3 i4 o4:Nat) (a5:Pt) (n5 c5:Nat) (e5:Bool) (a7:Pt) (n7 c7:Nat) (e7:Bool) (h:Zaa):Prop:=Den pg fn.ntmps (C [1,1,1,1,1,1,1,1]) [(3,.ptr (i3,o3)),(4,.ptr (i4,o4)),(5,.slice a5 n5 c5 e5),(7,.slice a7 n7 c7 e7)] h (KR Q)
def L12 (Q:QT) (i4 o4:Nat) (a5:Pt) (n5 c5:Nat) (e5:Bool) (a7:Pt) (n7 c7:Nat) (e7:Bool) (x13 x14:Int) (a126:Pt) (n126 c126:Nat) (e126:Bool) (x127 x128:Int) (h:Zaa):Prop:=Zfb (Den pg fn.ntmps (C [1,1,1,1,1,1,1,1,1,0,1,0,0])) ((kp.find 1000012).getD []) (K2 Q) [(4,.ptr (i4,o4)),(5,.slice a5 n5 c5 e5),(7,.slice a7 n7 c7 e7),(13,.int .i64 x13),(14,.int .i64 x14),(126,.slice a126 n126 c126 e126),(127,.int .i64 x127),(128,.int .i64 x128)] h
def J15 (Q:QT) (R12:T12) (i16 o16 i4 o4:Nat) (x17:Bool) (x13:Int) (a5:Pt) (n5 c5:Nat) (e5:Bool) (x15 x14:Int) (a7:Pt) (n7 c7:Nat) (e7:Bool) (x128 x127:Int) (a126:Pt) (n126 c126:Nat) (e126:Bool) (h:Zaa):Prop:=Den pg fn.ntmps (C [1,1,1,1,1,1,1,1,1,0,1,0,0,1,1,0,0,1,1]) [(16,.ptr (i16,o16)),(4,.ptr (i4,o4)),(17,.bool x17),(13,.int .i64 x13),(5,.slice a5 n5 c5 e5),(15,.int .i64 x15),(14,.int .i64 x14),(7,.slice a7 n7 c7 e7),(128,.int .i64 x128),(127,.int .i64 x127),(126,.slice a126 n126 c126 e126)] h (K5 Q R12)
def Yte (Q:QT) (i4 o4:Nat) (a5:Pt) (n5 c5:Nat) (e5:Bool) (a7:Pt) (n7 c7:Nat) (e7:Bool) (h:Zaa):Prop:=At (K1 Q) (.exit 0) [(4,.ptr (i4,o4)),(5,.slice a5 n5 c5 e5),(7,.slice a7 n7 c7 e7),(2,.undef)] h
def J16 (Q:QT) (R12:T12) (x17:Bool) (x13:Int) (a5:Pt) (n5 c5:Nat) (e5:Bool) (x15:Int) (x18:Bool) (x14:Int) (a7:Pt) (n7 c7:Nat) (e7:Bool) (x128 x127:Int) (a126:Pt) (n126 c126:Nat) (e126:Bool) (i4 o4:Nat) (h:Zaa):Prop:=Den pg fn.ntmps (C [1,1,1,1,1,1,1,1,1,0,1,0,0,1,1,0,0,1,1,1]) [(17,.bool x17),(13,.int .i64 x13),(5,.slice a5 n5 c5 e5),(15,.int .i64 x15),(18,.bool x18),(14,.int .i64 x14),(7,.slice a7 n7 c7 e7),(128,.int .i64 x128),(127,.int .i64 x127),(126,.slice a126 n126 c126 e126),(4,.ptr (i4,o4))] h (K5 Q R12)
def J18 (Q:QT) (R12:T12) (x17:Bool) (x13:Int) (x18:Bool) (x14 x128 x127:Int) (a126:Pt) (n126 c126:Nat) (e126:Bool) (i4 o4:Nat) (a5:Pt) (n5 c5:Nat) (e5:Bool) (a7:Pt) (n7 c7:Nat) (e7:Bool) (h:Zaa):Prop:=Den pg fn.ntmps (C [1,1,1,1,1,1,1,1,1,0,1,0,0,1,1,0,0,1,1,1,1]) [(17,.bool x17),(13,.int .i64 x13),(18,.bool x18),(14,.int .i64 x14),(128,.int .i64 x128),(127,.int .i64 x127),(126,.slice a126 n126 c126 e126),(4,.ptr (i4,o4)),(5,.slice a5 n5 c5 e5),(7,.slice a7 n7 c7 e7)] h (K5 Q R12)
def J20 (Q:QT) (R12:T12) (x18:Bool) (x14 x128 x127:Int) (a126:Pt) (n126 c126:Nat) (e126:Bool) (i4 o4:Nat) (x13:Int) (a5:Pt) (n5 c5:Nat) (e5:Bool) (a7:Pt) (n7 c7:Nat) (e7:Bool) (h:Zaa):Prop:=Den pg fn.ntmps (C [1,1,1,1,1,1,1,1,1,0,1,0,0,1,1,0,0,1,1,1,1,1]) [(18,.bool x18),(14,.int .i64 x14),(128,.int .i64 x128),(127,.int .i64 x127),(126,.slice a126 n126 c126 e126),(4,.ptr (i4,o4)),(13,.int .i64 x13),(5,.slice a5 n5 c5 e5),(7,.slice a7 n7 c7 e7)] h (K5 Q R12)
def J22 (Q:QT) (R12:T12) (x128 x127:Int) (a126:Pt) (n126 c126:Nat) (e126:Bool) (i4 o4:Nat) (x13:Int) (a5:Pt) (n5 c5:Nat) (e5:Bool) (x14:Int) (a7:Pt) (n7 c7:Nat) (e7:Bool) (h:Zaa):Prop:=Den pg fn.ntmps (C [1,1,1,1,1,1,1,1,1,0,1,0,0,1,1,1]) [(128,.int .i64 x128),(127,.int .i64 x127),(126,.slice a126 n126 c126 e126),(4,.ptr (i4,o4)),(13,.int .i64 x13),(5,.slice a5 n5 c5 e5),(14,.int .i64 x14),(7,.slice a7 n7 c7 e7)] h (K3 Q R12)
theorem J10i (Q:QT) (i3 o3 i4 o4:Nat) (a5:Pt) (n5 c5:Nat) (e5:Bool) (a7:Pt) (n7 c7:Nat) (e7:Bool) (h:Zaa) (ht :
 xSl (Zai h (.ptr (i3,o3 + 1))) fun A B C D=>L12 Q i4 o4 a5 n5 c5 e5 a7 n7 c7 e7 0 0 A B C D (((B:Nat):Int)) 0 h):J10 Q i3 o3 i4 o4 a5 n5 c5 e5 a7 n7 c7 e7 h:=
 Zbf (kp:=kp) (cast (by kernel_rfl) ht)
def L12t (Q:QT) (R12:T12) (i4 o4:Nat) (a5:Pt) (n5 c5:Nat) (e5:Bool) (a7:Pt) (n7 c7:Nat) (e7:Bool) (x13 x14:Int) (a126:Pt) (n126 c126:Nat) (e126:Bool) (x127 x128:Int) (h:Zaa):Prop:=
 bcase (decide ((x128:Int) < x127)) ((0≤(x128:Int)∧(x128:Int) < (n126:Nat))∧(Zbi a126 fun A B=>Zcb (Zan h (.ptr (A,B + (Int.toNat x128) * 3)) 3) fun A=>Zag A fun A B=>Zbn A fun A=>Zag B fun B C=>Zbn B fun B=>Zag C fun C D=>xSl C fun C E F G=>Zbu D (Zco (h ++ [.cells Zac [.str [],.str [],.slice none 0 0 true] false]) fun D=>Zbx (Zbb D (.ptr (h.length,0)) [.str A,.str B,.slice C E F G]) fun A=>Zbn (Zai A (.ptr (h.length,0 + 0 + 0))) fun B=>Zbn (Zai A (.ptr (i4,o4 + 0))) fun C=>bcase (decide (B=C)) (Zbn (Zai A (.ptr (h.length,0 + 0 + 1))) fun B=>Zbn (Zai A (.ptr (i4,o4 + 1))) fun C=>Zah pg Zhy [.str B,.str C] A fun B C=>
 Zbr B fun B=>J15 Q R12 h.length 0 i4 o4 B x13 a5 n5 c5 e5 x128 x14 a7 n7 c7 e7 x128 x127 a126 n126 c126 e126 C) (J15 Q R12 h.length 0 i4 o4 false x13 a5 n5 c5 e5 x128 x14 a7 n7 c7 e7 x128 x127 a126 n126 c126 e126 A)))) (Yte Q i4 o4 a5 n5 c5 e5 a7 n7 c7 e7 h)
theorem Ydd (Q:QT) (R12:T12) (i4 o4:Nat) (a5:Pt) (n5 c5:Nat) (e5:Bool) (a7:Pt) (n7 c7:Nat) (e7:Bool) (x13 x14:Int) (a126:Pt) (n126 c126:Nat) (e126:Bool) (x127 x128:Int) (h:Zaa) (ht:L12t Q R12 i4 o4 a5 n5 c5 e5 a7 n7 c7 e7 x13 x14 a126 n126 c126 e126 x127 x128 h):Den pg fn.ntmps (C [1,1,1,1,1,1,1,1,1,0,1,0,0]) [(4,.ptr (i4,o4)),(5,.slice a5 n5 c5 e5),(7,.slice a7 n7 c7 e7),(13,.int .i64 x13),(14,.int .i64 x14),(126,.slice a126 n126 c126 e126),(127,.int .i64 x127),(128,.int .i64 x128)] h (K3 Q R12):=
 Zbf (kp:=kp) (cast (by kernel_rfl) ht)
theorem L12ind (Q:QT) (i4 o4:Nat) (a5:Pt) (n5 c5:Nat) (e5:Bool) (a7:Pt) (n7 c7:Nat) (e7:Bool) (a126:Pt) (n126 c126:Nat) (e126:Bool) (x127:Int) {G:Type} (J:G→Int→Int→Int→Zaa→Prop) (m:G→Nat)
 (hr:∀ (g:G) (x13 x14 x128:Int) (h:Zaa),J g x13 x14 x128 h→∀ (R12:T12),(∀ g' (x13 x14 x128:Int) (h:Zaa),m g' < m g→J g' x13 x14 x128 h→R12 i4 o4 a5 n5 c5 e5 a7 n7 c7 e7 x13 x14 a126 n126 c126 e126 x127 x128 h)→L12t Q R12 i4 o4 a5 n5 c5 e5 a7 n7 c7 e7 x13 x14 a126 n126 c126 e126 x127 x128 h)
 (g:G) (x13 x14 x128:Int) (h:Zaa) (hj:J g x13 x14 x128 h):L12 Q i4 o4 a5 n5 c5 e5 a7 n7 c7 e7 x13 x14 a126 n126 c126 e126 x127 x128 h:=by
 let P:=fun (K:Int→Int→Int→Zaa→Prop) i4' o4' a5' n5' c5' e5' a7' n7' c7' e7' x13 x14 a126' n126' c126' e126' x127' x128 h=>i4=i4'∧o4=o4'∧a5=a5'∧n5=n5'∧c5=c5'∧e5=e5'∧a7=a7'∧n7=n7'∧c7=c7'∧e7=e7'∧a126=a126'∧n126=n126'∧c126=c126'∧e126=e126'∧x127=x127'∧K x13 x14 x128 h
 refine Zfb.inv2 (fun g=>E12 (P (J g))) (fun g=>E12 (P fun x13 x14 x128 h=>∃ g',m g' < m g∧J g' x13 x14 x128 h)) m ?_ ?_ g ⟨rfl,rfl,rfl,rfl,rfl,rfl,rfl,rfl,rfl,rfl,rfl,rfl,rfl,rfl,rfl,hj⟩
 ·intro g env h hi
  obtain ⟨i4',o4',a5',n5',c5',e5',a7',n7',c7',e7',x13,x14,a126',n126',c126',e126',x127',x128,rfl,rfl,rfl,rfl,rfl,rfl,rfl,rfl,rfl,rfl,rfl,rfl,rfl,rfl,rfl,rfl,hj⟩:=Zqu hi
  exact Ydd Q _ i4 o4 a5 n5 c5 e5 a7 n7 c7 e7 x13 x14 a126 n126 c126 e126 x127 x128 h (hr g x13 x14 x128 h hj (P fun x13 x14 x128 h=>∃ g',m g' < m g∧J g' x13 x14 x128 h) fun g' x13 x14 x128 h hlt hj=>⟨rfl,rfl,rfl,rfl,rfl,rfl,rfl,rfl,rfl,rfl,rfl,rfl,rfl,rfl,rfl,g',hlt,hj⟩)
 ·intro g env h hi
  obtain ⟨i4',o4',a5',n5',c5',e5',a7',n7',c7',e7',x13,x14,a126',n126',c126',e126',x127',x128,rfl,rfl,rfl,rfl,rfl,rfl,rfl,rfl,rfl,rfl,rfl,rfl,rfl,rfl,rfl,rfl,g',hlt,hj⟩:=Zqu hi
  exact ⟨g',hlt,rfl,rfl,rfl,rfl,rfl,rfl,rfl,rfl,rfl,rfl,rfl,rfl,rfl,rfl,rfl,hj⟩
theorem J15i (Q:QT) (R12:T12) (i16 o16 i4 o4:Nat) (x17:Bool) (x13:Int) (a5:Pt) (n5 c5:Nat) (e5:Bool) (x15 x14:Int) (a7:Pt) (n7 c7:Nat) (e7:Bool) (x128 x127:Int) (a126:Pt) (n126 c126:Nat) (e126:Bool) (h:Zaa) (ht :
 Zbn (Zai h (.ptr (i16,o16 + 0 + 0))) fun A=>Zbn (Zai h (.ptr (i4,o4 + 0))) fun B=>bcase (decide (A=B)) (Zbn (Zai h (.ptr (i16,o16 + 0 + 1))) fun A=>Zbn (Zai h (.ptr (i4,o4 + 1))) fun B=>Zah pg Zjo [.str A,.str B] h fun A B=>
 Zbr A fun A=>J16 Q R12 x17 x13 a5 n5 c5 e5 x15 (!A) x14 a7 n7 c7 e7 x128 x127 a126 n126 c126 e126 i4 o4 B) (J16 Q R12 x17 x13 a5 n5 c5 e5 x15 false x14 a7 n7 c7 e7 x128 x127 a126 n126 c126 e126 i4 o4 h)):J15 Q R12 i16 o16 i4 o4 x17 x13 a5 n5 c5 e5 x15 x14 a7 n7 c7 e7 x128 x127 a126 n126 c126 e126 h:=
 Zbf (kp:=kp) (cast (by kernel_rfl) ht)
theorem A12x0i (Q:QT) (i4 o4:Nat) (a5:Pt) (n5 c5:Nat) (e5:Bool) (a7:Pt) (n7 c7:Nat) (e7:Bool) (h:Zaa) (ht :
 Zbn (Zai h (.ptr (i4,o4 + 1))) fun A=>Zah pg Zmr [.str A] h fun A B=>
 Zbr A fun A=>bcase (!A) (Q (.bool true) B) (Q (.bool ((((n5:Nat):Int):Int) == (((n7:Nat):Int)))) B)):Yte Q i4 o4 a5 n5 c5 e5 a7 n7 c7 e7 h:=
 At.mk (cast (by kernel_rfl) ht)
theorem J16i (Q:QT) (R12:T12) (x17:Bool) (x13:Int) (a5:Pt) (n5 c5:Nat) (e5:Bool) (x15:Int) (x18:Bool) (x14:Int) (a7:Pt) (n7 c7:Nat) (e7:Bool) (x128 x127:Int) (a126:Pt) (n126 c126:Nat) (e126:Bool) (i4 o4:Nat) (h:Zaa) (ht :
 bcase (decide ((x13:Int) < (((n5:Nat):Int)))) ((0≤(x13:Int)∧(x13:Int) < (n5:Nat))∧(Zbi a5 fun A B=>Zck .i64 (Zai h (.ptr (A,B + (Int.toNat x13) * 1))) fun A=>bcase (!(x17 == ((A:Int) == x15))) (Q (.bool false) h) (bcase (decide ((x14:Int) < (((n7:Nat):Int)))) ((0≤(x14:Int)∧(x14:Int) < (n7:Nat))∧(Zbi a7 fun A B=>Zck .i64 (Zai h (.ptr (A,B + (Int.toNat x14) * 1))) fun A=>bcase (!(x18 == ((A:Int) == x15))) (Q (.bool false) h) (bcase x17 (bcase (!x18) (Q (.bool false) h) (J18 Q R12 x17 x13 x18 x14 x128 x127 a126 n126 c126 e126 i4 o4 a5 n5 c5 e5 a7 n7 c7 e7 h)) (J18 Q R12 x17 x13 x18 x14 x128 x127 a126 n126 c126 e126 i4 o4 a5 n5 c5 e5 a7 n7 c7 e7 h)))) (bcase (!(x18 == false)) (Q (.bool false) h) (bcase x17 (bcase (!x18) (Q (.bool false) h) (J18 Q R12 x17 x13 x18 x14 x128 x127 a126 n126 c126 e126 i4 o4 a5 n5 c5 e5 a7 n7 c7 e7 h)) (J18 Q R12 x17 x13 x18 x14 x128 x127 a126 n126 c126 e126 i4 o4 a5 n5 c5 e5 a7 n7 c7 e7 h)))))) (bcase (!(x17 == false)) (Q (.bool false) h) (bcase (decide ((x14:Int) < (((n7:Nat):Int)))) ((0≤(x14:Int)∧(x14:Int) < (n7:Nat))∧(Zbi a7 fun A B=>Zck .i64 (Zai h (.ptr (A,B + (Int.toNat x14) * 1))) fun A=>bcase (!(x18 == ((A:Int) == x15))) (Q (.bool false) h) (bcase x17 (bcase (!x18) (Q (.bool false) h) (J18 Q R12 x17 x13 x18 x14 x128 x127 a126 n126 c126 e126 i4 o4 a5 n5 c5 e5 a7 n7 c7 e7 h)) (J18 Q R12 x17 x13 x18 x14 x128 x127 a126 n126 c126 e126 i4 o4 a5 n5 c5 e5 a7 n7 c7 e7 h)))) (bcase (!(x18 == false)) (Q (.bool false) h) (bcase x17 (bcase (!x18) (Q (.bool false) h) (J18 Q R12 x17 x13 x18 x14 x128 x127 a126 n126 c126 e126 i4 o4 a5 n5 c5 e5 a7 n7 c7 e7 h)) (J18 Q R12 x17 x13 x18 x14 x128 x127 a126 n126 c126 e126 i4 o4 a5 n5 c5 e5 a7 n7 c7 e7 h)))))):J16 Q R12 x17 x13 a5 n5 c5 e5 x15 x18 x14 a7 n7 c7 e7 x128 x127 a126 n126 c126 e126 i4 o4 h:=
 Zbf (kp:=kp) (cast (by kernel_rfl) ht)
theorem J18i (Q:QT) (R12:T12) (x17:Bool) (x13:Int) (x18:Bool) (x14 x128 x127:Int) (a126:Pt) (n126 c126:Nat) (e126:Bool) (i4 o4:Nat) (a5:Pt) (n5 c5:Nat) (e5:Bool) (a7:Pt) (n7 c7:Nat) (e7:Bool) (h:Zaa) (ht :
 bcase x17 (J20 Q R12 x18 x14 x128 x127 a126 n126 c126 e126 i4 o4 (IntKind.wrap .i64 (x13 + 1)) a5 n5 c5 e5 a7 n7 c7 e7 h) (J20 Q R12 x18 x14 x128 x127 a126 n126 c126 e126 i4 o4 x13 a5 n5 c5 e5 a7 n7 c7 e7 h)):J18 Q R12 x17 x13 x18 x14 x128 x127 a126 n126 c126 e126 i4 o4 a5 n5 c5 e5 a7 n7 c7 e7 h:=
 Zbf (kp:=kp) (cast (by kernel_rfl) ht)
theorem J20i (Q:QT) (R12:T12) (x18:Bool) (x14 x128 x127:Int) (a126:Pt) (n126 c126:Nat) (e126:Bool) (i4 o4:Nat) (x13:Int) (a5:Pt) (n5 c5:Nat) (e5:Bool) (a7:Pt) (n7 c7:Nat) (e7:Bool) (h:Zaa) (ht :
 bcase x18 (J22 Q R12 x128 x127 a126 n126 c126 e126 i4 o4 x13 a5 n5 c5 e5 (IntKind.wrap .i64 (x14 + 1)) a7 n7 c7 e7 h) (J22 Q R12 x128 x127 a126 n126 c126 e126 i4 o4 x13 a5 n5 c5 e5 x14 a7 n7 c7 e7 h)):J20 Q R12 x18 x14 x128 x127 a126 n126 c126 e126 i4 o4 x13 a5 n5 c5 e5 a7 n7 c7 e7 h:=
 Zbf (kp:=kp) (cast (by kernel_rfl) ht)
theorem J22i (Q:QT) (R12:T12) (x128 x127:Int) (a126:Pt) (n126 c126:Nat) (e126:Bool) (i4 o4:Nat) (x13:Int) (a5:Pt) (n5 c5:Nat) (e5:Bool) (x14:Int) (a7:Pt) (n7 c7:Nat) (e7:Bool) (h:Zaa) (ht :
 R12 i4 o4 a5 n5 c5 e5 a7 n7 c7 e7 x13 x14 a126 n126 c126 e126 x127 (IntKind.wrap .i64 (x128 + 1)) h):J22 Q R12 x128 x127 a126 n126 c126 e126 i4 o4 x13 a5 n5 c5 e5 x14 a7 n7 c7 e7 h:=
 Zbf (kp:=kp) (cast (by kernel_rfl) ht)
theorem call (a0:Pt) (n0 c0:Nat) (e0:Bool) (h:Zaa) (Q:QT) (ht :
 bcase (decide (((((n0:Nat):Int)):Int) > 1048576)) (Q (.bool true) h) (Zah pg Zgo [.slice a0 n0 c0 e0] h fun A B=>
 Zru A fun A=>Zag A fun A C=>Zmv A fun A=>Zag A fun A D=>xSl A fun A E F G=>Zag D fun D H=>xSl D fun D I J K=>Zbu H (Zag C fun C H=>Zmv C fun C=>Zag C fun C L=>Zbn C fun C=>Zag L fun L M=>Zbn L fun L=>Zbu M (Zbu H (Zco (B ++ [.cells Zad [.slice none 0 0 true,.slice none 0 0 true] false]) fun H=>Zco (H ++ [.cells Zae [.str [],.str []] false]) fun M=>Zbx (Zbb M (.ptr (B.length,0)) [.slice A E F G,.slice D I J K]) fun A=>Zbx (Zbb A (.ptr (H.length,0)) [.str C,.str L]) fun A=>Zcb (Zan A (.ptr (B.length,0)) 2) fun C=>Zag C fun C D=>xSl C fun C E F G=>Zag D fun D I=>xSl D fun D J K L=>Zbu I (Zcb (Zan A (.ptr (H.length,0)) 2) fun I=>Zag I fun I M=>Zbn I fun I=>Zag M fun M N=>Zbn M fun M=>Zbu N (Zah pg Ziy [.agg [.slice C E F G,.slice D J K L],.agg [.str I,.str M]] A fun A C=>
 Zru A fun A=>Zag A fun A D=>xSl A fun A E F G=>Zag D fun D I=>Zbr D fun D=>Zbu I (Zcb (Zan C (.ptr (B.length,0)) 2) fun I=>Zag I fun I J=>xSl I fun I K L M=>Zag J fun J N=>xSl J fun J O P R=>Zbu N (Zcb (Zan C (.ptr (H.length,0)) 2) fun N=>Zag N fun N S=>Zbn N fun N=>Zag S fun S T=>Zbn S fun S=>Zbu T (Zah pg Zml [.agg [.slice I K L M,.slice J O P R],.agg [.str N,.str S]] C fun C I=>
 Zru C fun C=>Zag C fun C J=>xSl C fun C K L M=>Zag J fun J N=>Zbr J fun J=>Zbu N (Zcb (Zan I (.ptr (B.length,0)) 2) fun N=>Zag N fun N O=>xSl N fun N P R S=>Zag O fun O T=>xSl O fun O U V W=>Zbu T (Zcb (Zan I (.ptr (H.length,0)) 2) fun T=>Zag T fun T X=>Zbn T fun T=>Zag X fun X Y=>Zbn X fun X=>Zbu Y (Zah pg Ziz [.agg [.slice N P R S,.slice O U V W],.agg [.str T,.str X]] I fun I N=>
 Zru I fun I=>Zag I fun I O=>xSl I fun I P R S=>Zag O fun O T=>Zbr O fun O=>Zbu T (Zcb (Zan N (.ptr (B.length,0)) 2) fun T=>Zag T fun T U=>xSl T fun T V W X=>Zag U fun U Y=>xSl U fun U Z a b=>Zbu Y (Zcb (Zan N (.ptr (H.length,0)) 2) fun Y=>Zag Y fun Y d=>Zbn Y fun Y=>Zag d fun d e=>Zbn d fun d=>Zbu e (Zah pg Zmo [.agg [.slice T V W X,.slice U Z a b],.agg [.str Y,.str d]] N fun N T=>
 Zru N fun N=>Zag N fun N U=>xSl N fun N V W X=>Zag U fun U Y=>Zbr U fun U=>Zbu Y (Zah pg Zdf [.slice A E F G,.slice I P R S] T fun T U=>
 Zbr T fun T=>bcase (!T) ((Zan U (.ptr (B.length,0)) 2=Zan U (.ptr (B.length,0)) 2)∧(Zan U (.ptr (H.length,0)) 2=Zan U (.ptr (H.length,0)) 2)∧(Zan U (.ptr (B.length,0)) 2=Zan U (.ptr (B.length,0)) 2)∧(Zan U (.ptr (B.length,0)) 2=Zan U (.ptr (B.length,0)) 2)∧(Zan U (.ptr (H.length,0)) 2=Zan U (.ptr (H.length,0)) 2)∧(Zan U (.ptr (B.length,0)) 2=Zan U (.ptr (B.length,0)) 2)∧(Zan U (.ptr (B.length,0)) 2=Zan U (.ptr (B.length,0)) 2)∧Zah pg Zdf [.slice A E F G,.slice I P R S] U fun T Y=>
 Zbr T fun T=>bcase T (bcase (D == O) (Zah pg Zdf [.slice C K L M,.slice N V W X] Y fun T Z=>
 Zbr T fun T=>bcase T (bcase (J == D) (Zcb (Zan Z (.ptr (B.length,0)) 2) fun T=>Zag T fun T a=>xSl T fun T b d e=>Zag a fun a f=>xSl a fun a g i j=>Zbu f (Zcb (Zan Z (.ptr (H.length,0)) 2) fun f=>Zag f fun f k=>Zbn f fun f=>Zag k fun k l=>Zbn k fun k=>Zbu l ((Zan Z (.ptr (B.length,0)) 2=Zan Z (.ptr (B.length,0)) 2)∧Zah pg Zcg [.agg [.slice T b d e,.slice a g i j],.agg [.str f,.str k]] Z fun T a=>
 Zbr T fun T=>bcase (D == T) (Zcb (Zan a (.ptr (B.length,0)) 2) fun T=>Zag T fun T b=>xSl T fun T d e f=>Zag b fun b g=>xSl b fun b i j k=>Zbu g (Zcb (Zan a (.ptr (H.length,0)) 2) fun g=>Zag g fun g l=>Zbn g fun g=>Zag l fun l m=>Zbn l fun l=>Zbu m (Zcb (Zan a (.ptr (B.length,0)) 2) fun m=>Zag m fun m n=>xSl m fun m o p q=>Zag n fun n r=>xSl n fun n s t u=>Zbu r (Zcb (Zan a (.ptr (H.length,0)) 2) fun r=>Zag r fun r v=>Zbn r fun r=>Zag v fun v w=>Zbn v fun v=>Zbu w (Zah pg Zcg [.agg [.slice T d e f,.slice b i j k],.agg [.str g,.str l]] a fun T b=>
 Zbr T fun T=>(Zan b (.ptr (H.length,0)) 2=Zan a (.ptr (H.length,0)) 2)∧(Zan b (.ptr (B.length,0)) 2=Zan a (.ptr (B.length,0)) 2)∧(Zan b (.ptr (B.length,0)) 2=Zan a (.ptr (B.length,0)) 2)∧Zah pg Zdo [.agg [.slice m o p q,.slice n s t u],.agg [.str r,.str v]] b fun d e=>
 Zbr d fun d=>(Zan e (.ptr (H.length,0)) 2=Zan b (.ptr (H.length,0)) 2)∧(Zan e (.ptr (B.length,0)) 2=Zan b (.ptr (B.length,0)) 2)∧(Zan e (.ptr (B.length,0)) 2=Zan b (.ptr (B.length,0)) 2)∧Q (.bool (T == d)) e))))) ((Zan a (.ptr (H.length,0)) 2=Zan a (.ptr (H.length,0)) 2)∧(Zan a (.ptr (B.length,0)) 2=Zan a (.ptr (B.length,0)) 2)∧(Zan a (.ptr (B.length,0)) 2=Zan a (.ptr (B.length,0)) 2)∧(Zan a (.ptr (H.length,0)) 2=Zan a (.ptr (H.length,0)) 2)∧(Zan a (.ptr (B.length,0)) 2=Zan a (.ptr (B.length,0)) 2)∧(Zan a (.ptr (B.length,0)) 2=Zan a (.ptr (B.length,0)) 2)∧Q (.bool false) a)))) ((Zan Z (.ptr (B.length,0)) 2=Zan Z (.ptr (B.length,0)) 2)∧(Zan Z (.ptr (H.length,0)) 2=Zan Z (.ptr (H.length,0)) 2)∧(Zan Z (.ptr (B.length,0)) 2=Zan Z (.ptr (B.length,0)) 2)∧(Zan Z (.ptr (B.length,0)) 2=Zan Z (.ptr (B.length,0)) 2)∧(Zan Z (.ptr (H.length,0)) 2=Zan Z (.ptr (H.length,0)) 2)∧(Zan Z (.ptr (B.length,0)) 2=Zan Z (.ptr (B.length,0)) 2)∧(Zan Z (.ptr (B.length,0)) 2=Zan Z (.ptr (B.length,0)) 2)∧Q (.bool false) Z)) ((Zan Z (.ptr (B.length,0)) 2=Zan Z (.ptr (B.length,0)) 2)∧(Zan Z (.ptr (H.length,0)) 2=Zan Z (.ptr (H.length,0)) 2)∧(Zan Z (.ptr (B.length,0)) 2=Zan Z (.ptr (B.length,0)) 2)∧(Zan Z (.ptr (B.length,0)) 2=Zan Z (.ptr (B.length,0)) 2)∧(Zan Z (.ptr (H.length,0)) 2=Zan Z (.ptr (H.length,0)) 2)∧(Zan Z (.ptr (B.length,0)) 2=Zan Z (.ptr (B.length,0)) 2)∧(Zan Z (.ptr (B.length,0)) 2=Zan Z (.ptr (B.length,0)) 2)∧Q (.bool false) Z)) ((Zan Y (.ptr (B.length,0)) 2=Zan Y (.ptr (B.length,0)) 2)∧(Zan Y (.ptr (H.length,0)) 2=Zan Y (.ptr (H.length,0)) 2)∧(Zan Y (.ptr (B.length,0)) 2=Zan Y (.ptr (B.length,0)) 2)∧(Zan Y (.ptr (B.length,0)) 2=Zan Y (.ptr (B.length,0)) 2)∧(Zan Y (.ptr (H.length,0)) 2=Zan Y (.ptr (H.length,0)) 2)∧(Zan Y (.ptr (B.length,0)) 2=Zan Y (.ptr (B.length,0)) 2)∧(Zan Y (.ptr (B.length,0)) 2=Zan Y (.ptr (B.length,0)) 2)∧Q (.bool false) Y)) ((Zan Y (.ptr (B.length,0)) 2=Zan Y (.ptr (B.length,0)) 2)∧(Zan Y (.ptr (H.length,0)) 2=Zan Y (.ptr (H.length,0)) 2)∧(Zan Y (.ptr (B.length,0)) 2=Zan Y (.ptr (B.length,0)) 2)∧(Zan Y (.ptr (B.length,0)) 2=Zan Y (.ptr (B.length,0)) 2)∧(Zan Y (.ptr (H.length,0)) 2=Zan Y (.ptr (H.length,0)) 2)∧(Zan Y (.ptr (B.length,0)) 2=Zan Y (.ptr (B.length,0)) 2)∧(Zan Y (.ptr (B.length,0)) 2=Zan Y (.ptr (B.length,0)) 2)∧Q (.bool false) Y)) (bcase (!(D == O)) ((Zan U (.ptr (B.length,0)) 2=Zan U (.ptr (B.length,0)) 2)∧(Zan U (.ptr (H.length,0)) 2=Zan U (.ptr (H.length,0)) 2)∧(Zan U (.ptr (B.length,0)) 2=Zan U (.ptr (B.length,0)) 2)∧(Zan U (.ptr (B.length,0)) 2=Zan U (.ptr (B.length,0)) 2)∧(Zan U (.ptr (H.length,0)) 2=Zan U (.ptr (H.length,0)) 2)∧(Zan U (.ptr (B.length,0)) 2=Zan U (.ptr (B.length,0)) 2)∧(Zan U (.ptr (B.length,0)) 2=Zan U (.ptr (B.length,0)) 2)∧Zah pg Zdf [.slice A E F G,.slice I P R S] U fun T Y=>
 Zbr T fun T=>bcase T (bcase (D == O) (Zah pg Zdf [.slice C K L M,.slice N V W X] Y fun T Z=>
 Zbr T fun T=>bcase T (bcase (J == D) (Zcb (Zan Z (.ptr (B.length,0)) 2) fun T=>Zag T fun T a=>xSl T fun T b d e=>Zag a fun a f=>xSl a fun a g i j=>Zbu f (Zcb (Zan Z (.ptr (H.length,0)) 2) fun f=>Zag f fun f k=>Zbn f fun f=>Zag k fun k l=>Zbn k fun k=>Zbu l ((Zan Z (.ptr (B.length,0)) 2=Zan Z (.ptr (B.length,0)) 2)∧Zah pg Zcg [.agg [.slice T b d e,.slice a g i j],.agg [.str f,.str k]] Z fun T a=>
 Zbr T fun T=>bcase (D == T) (Zcb (Zan a (.ptr (B.length,0)) 2) fun T=>Zag T fun T b=>xSl T fun T d e f=>Zag b fun b g=>xSl b fun b i j k=>Zbu g (Zcb (Zan a (.ptr (H.length,0)) 2) fun g=>Zag g fun g l=>Zbn g fun g=>Zag l fun l m=>Zbn l fun l=>Zbu m (Zcb (Zan a (.ptr (B.length,0)) 2) fun m=>Zag m fun m n=>xSl m fun m o p q=>Zag n fun n r=>xSl n fun n s t u=>Zbu r (Zcb (Zan a (.ptr (H.length,0)) 2) fun r=>Zag r fun r v=>Zbn r fun r=>Zag v fun v w=>Zbn v fun v=>Zbu w (Zah pg Zcg [.agg [.slice T d e f,.slice b i j k],.agg [.str g,.str l]] a fun T b=>
 Zbr T fun T=>(Zan b (.ptr (H.length,0)) 2=Zan a (.ptr (H.length,0)) 2)∧(Zan b (.ptr (B.length,0)) 2=Zan a (.ptr (B.length,0)) 2)∧(Zan b (.ptr (B.length,0)) 2=Zan a (.ptr (B.length,0)) 2)∧Zah pg Zdo [.agg [.slice m o p q,.slice n s t u],.agg [.str r,.str v]] b fun d e=>
 Zbr d fun d=>(Zan e (.ptr (H.length,0)) 2=Zan b (.ptr (H.length,0)) 2)∧(Zan e (.ptr (B.length,0)) 2=Zan b (.ptr (B.length,0)) 2)∧(Zan e (.ptr (B.length,0)) 2=Zan b (.ptr (B.length,0)) 2)∧Q (.bool (T == d)) e))))) ((Zan a (.ptr (H.length,0)) 2=Zan a (.ptr (H.length,0)) 2)∧(Zan a (.ptr (B.length,0)) 2=Zan a (.ptr (B.length,0)) 2)∧(Zan a (.ptr (B.length,0)) 2=Zan a (.ptr (B.length,0)) 2)∧(Zan a (.ptr (H.length,0)) 2=Zan a (.ptr (H.length,0)) 2)∧(Zan a (.ptr (B.length,0)) 2=Zan a (.ptr (B.length,0)) 2)∧(Zan a (.ptr (B.length,0)) 2=Zan a (.ptr (B.length,0)) 2)∧Q (.bool false) a)))) ((Zan Z (.ptr (B.length,0)) 2=Zan Z (.ptr (B.length,0)) 2)∧(Zan Z (.ptr (H.length,0)) 2=Zan Z (.ptr (H.length,0)) 2)∧(Zan Z (.ptr (B.length,0)) 2=Zan Z (.ptr (B.length,0)) 2)∧(Zan Z (.ptr (B.length,0)) 2=Zan Z (.ptr (B.length,0)) 2)∧(Zan Z (.ptr (H.length,0)) 2=Zan Z (.ptr (H.length,0)) 2)∧(Zan Z (.ptr (B.length,0)) 2=Zan Z (.ptr (B.length,0)) 2)∧(Zan Z (.ptr (B.length,0)) 2=Zan Z (.ptr (B.length,0)) 2)∧Q (.bool false) Z)) ((Zan Z (.ptr (B.length,0)) 2=Zan Z (.ptr (B.length,0)) 2)∧(Zan Z (.ptr (H.length,0)) 2=Zan Z (.ptr (H.length,0)) 2)∧(Zan Z (.ptr (B.length,0)) 2=Zan Z (.ptr (B.length,0)) 2)∧(Zan Z (.ptr (B.length,0)) 2=Zan Z (.ptr (B.length,0)) 2)∧(Zan Z (.ptr (H.length,0)) 2=Zan Z (.ptr (H.length,0)) 2)∧(Zan Z (.ptr (B.length,0)) 2=Zan Z (.ptr (B.length,0)) 2)∧(Zan Z (.ptr (B.length,0)) 2=Zan Z (.ptr (B.length,0)) 2)∧Q (.bool false) Z)) ((Zan Y (.ptr (B.length,0)) 2=Zan Y (.ptr (B.length,0)) 2)∧(Zan Y (.ptr (H.length,0)) 2=Zan Y (.ptr (H.length,0)) 2)∧(Zan Y (.ptr (B.length,0)) 2=Zan Y (.ptr (B.length,0)) 2)∧(Zan Y (.ptr (B.length,0)) 2=Zan Y (.ptr (B.length,0)) 2)∧(Zan Y (.ptr (H.length,0)) 2=Zan Y (.ptr (H.length,0)) 2)∧(Zan Y (.ptr (B.length,0)) 2=Zan Y (.ptr (B.length,0)) 2)∧(Zan Y (.ptr (B.length,0)) 2=Zan Y (.ptr (B.length,0)) 2)∧Q (.bool false) Y)) ((Zan Y (.ptr (B.length,0)) 2=Zan Y (.ptr (B.length,0)) 2)∧(Zan Y (.ptr (H.length,0)) 2=Zan Y (.ptr (H.length,0)) 2)∧(Zan Y (.ptr (B.length,0)) 2=Zan Y (.ptr (B.length,0)) 2)∧(Zan Y (.ptr (B.length,0)) 2=Zan Y (.ptr (B.length,0)) 2)∧(Zan Y (.ptr (H.length,0)) 2=Zan Y (.ptr (H.length,0)) 2)∧(Zan Y (.ptr (B.length,0)) 2=Zan Y (.ptr (B.length,0)) 2)∧(Zan Y (.ptr (B.length,0)) 2=Zan Y (.ptr (B.length,0)) 2)∧Q (.bool false) Y)) (Zah pg Zdf [.slice C K L M,.slice N V W X] U fun T U=>
 Zbr T fun T=>bcase (!T) ((Zan U (.ptr (B.length,0)) 2=Zan U (.ptr (B.length,0)) 2)∧(Zan U (.ptr (H.length,0)) 2=Zan U (.ptr (H.length,0)) 2)∧(Zan U (.ptr (B.length,0)) 2=Zan U (.ptr (B.length,0)) 2)∧(Zan U (.ptr (B.length,0)) 2=Zan U (.ptr (B.length,0)) 2)∧(Zan U (.ptr (H.length,0)) 2=Zan U (.ptr (H.length,0)) 2)∧(Zan U (.ptr (B.length,0)) 2=Zan U (.ptr (B.length,0)) 2)∧(Zan U (.ptr (B.length,0)) 2=Zan U (.ptr (B.length,0)) 2)∧Zah pg Zdf [.slice A E F G,.slice I P R S] U fun T Y=>
 Zbr T fun T=>bcase T (bcase (D == O) (Zah pg Zdf [.slice C K L M,.slice N V W X] Y fun T Z=>
 Zbr T fun T=>bcase T (bcase (J == D) (Zcb (Zan Z (.ptr (B.length,0)) 2) fun T=>Zag T fun T a=>xSl T fun T b d e=>Zag a fun a f=>xSl a fun a g i j=>Zbu f (Zcb (Zan Z (.ptr (H.length,0)) 2) fun f=>Zag f fun f k=>Zbn f fun f=>Zag k fun k l=>Zbn k fun k=>Zbu l ((Zan Z (.ptr (B.length,0)) 2=Zan Z (.ptr (B.length,0)) 2)∧Zah pg Zcg [.agg [.slice T b d e,.slice a g i j],.agg [.str f,.str k]] Z fun T a=>
 Zbr T fun T=>bcase (D == T) (Zcb (Zan a (.ptr (B.length,0)) 2) fun T=>Zag T fun T b=>xSl T fun T d e f=>Zag b fun b g=>xSl b fun b i j k=>Zbu g (Zcb (Zan a (.ptr (H.length,0)) 2) fun g=>Zag g fun g l=>Zbn g fun g=>Zag l fun l m=>Zbn l fun l=>Zbu m (Zcb (Zan a (.ptr (B.length,0)) 2) fun m=>Zag m fun m n=>xSl m fun m o p q=>Zag n fun n r=>xSl n fun n s t u=>Zbu r (Zcb (Zan a (.ptr (H.length,0)) 2) fun r=>Zag r fun r v=>Zbn r fun r=>Zag v fun v w=>Zbn v fun v=>Zbu w (Zah pg Zcg [.agg [.slice T d e f,.slice b i j k],.agg [.str g,.str l]] a fun T b=>
 Zbr T fun T=>(Zan b (.ptr (H.length,0)) 2=Zan a (.ptr (H.length,0)) 2)∧(Zan b (.ptr (B.length,0)) 2=Zan a (.ptr (B.length,0)) 2)∧(Zan b (.ptr (B.length,0)) 2=Zan a (.ptr (B.length,0)) 2)∧Zah pg Zdo [.agg [.slice m o p q,.slice n s t u],.agg [.str r,.str v]] b fun d e=>
 Zbr d fun d=>(Zan e (.ptr (H.length,0)) 2=Zan b (.ptr (H.length,0)) 2)∧(Zan e (.ptr (B.length,0)) 2=Zan b (.ptr (B.length,0)) 2)∧(Zan e (.ptr (B.length,0)) 2=Zan b (.ptr (B.length,0)) 2)∧Q (.bool (T == d)) e))))) ((Zan a (.ptr (H.length,0)) 2=Zan a (.ptr (H.length,0)) 2)∧(Zan a (.ptr (B.length,0)) 2=Zan a (.ptr (B.length,0)) 2)∧(Zan a (.ptr (B.length,0)) 2=Zan a (.ptr (B.length,0)) 2)∧(Zan a (.ptr (H.length,0)) 2=Zan a (.ptr (H.length,0)) 2)∧(Zan a (.ptr (B.length,0)) 2=Zan a (.ptr (B.length,0)) 2)∧(Zan a (.ptr (B.length,0)) 2=Zan a (.ptr (B.length,0)) 2)∧Q (.bool false) a)))) ((Zan Z (.ptr (B.length,0)) 2=Zan Z (.ptr (B.length,0)) 2)∧(Zan Z (.ptr (H.length,0)) 2=Zan Z (.ptr (H.length,0)) 2)∧(Zan Z (.ptr (B.length,0)) 2=Zan Z (.ptr (B.length,0)) 2)∧(Zan Z (.ptr (B.length,0)) 2=Zan Z (.ptr (B.length,0)) 2)∧(Zan Z (.ptr (H.length,0)) 2=Zan Z (.ptr (H.length,0)) 2)∧(Zan Z (.ptr (B.length,0)) 2=Zan Z (.ptr (B.length,0)) 2)∧(Zan Z (.ptr (B.length,0)) 2=Zan Z (.ptr (B.length,0)) 2)∧Q (.bool false) Z)) ((Zan Z (.ptr (B.length,0)) 2=Zan Z (.ptr (B.length,0)) 2)∧(Zan Z (.ptr (H.length,0)) 2=Zan Z (.ptr (H.length,0)) 2)∧(Zan Z (.ptr (B.length,0)) 2=Zan Z (.ptr (B.length,0)) 2)∧(Zan Z (.ptr (B.length,0)) 2=Zan Z (.ptr (B.length,0)) 2)∧(Zan Z (.ptr (H.length,0)) 2=Zan Z (.ptr (H.length,0)) 2)∧(Zan Z (.ptr (B.length,0)) 2=Zan Z (.ptr (B.length,0)) 2)∧(Zan Z (.ptr (B.length,0)) 2=Zan Z (.ptr (B.length,0)) 2)∧Q (.bool false) Z)) ((Zan Y (.ptr (B.length,0)) 2=Zan Y (.ptr (B.length,0)) 2)∧(Zan Y (.ptr (H.length,0)) 2=Zan Y (.ptr (H.length,0)) 2)∧(Zan Y (.ptr (B.length,0)) 2=Zan Y (.ptr (B.length,0)) 2)∧(Zan Y (.ptr (B.length,0)) 2=Zan Y (.ptr (B.length,0)) 2)∧(Zan Y (.ptr (H.length,0)) 2=Zan Y (.ptr (H.length,0)) 2)∧(Zan Y (.ptr (B.length,0)) 2=Zan Y (.ptr (B.length,0)) 2)∧(Zan Y (.ptr (B.length,0)) 2=Zan Y (.ptr (B.length,0)) 2)∧Q (.bool false) Y)) ((Zan Y (.ptr (B.length,0)) 2=Zan Y (.ptr (B.length,0)) 2)∧(Zan Y (.ptr (H.length,0)) 2=Zan Y (.ptr (H.length,0)) 2)∧(Zan Y (.ptr (B.length,0)) 2=Zan Y (.ptr (B.length,0)) 2)∧(Zan Y (.ptr (B.length,0)) 2=Zan Y (.ptr (B.length,0)) 2)∧(Zan Y (.ptr (H.length,0)) 2=Zan Y (.ptr (H.length,0)) 2)∧(Zan Y (.ptr (B.length,0)) 2=Zan Y (.ptr (B.length,0)) 2)∧(Zan Y (.ptr (B.length,0)) 2=Zan Y (.ptr (B.length,0)) 2)∧Q (.bool false) Y)) (bcase (!(J == D)) ((Zan U (.ptr (B.length,0)) 2=Zan U (.ptr (B.length,0)) 2)∧(Zan U (.ptr (H.length,0)) 2=Zan U (.ptr (H.length,0)) 2)∧(Zan U (.ptr (B.length,0)) 2=Zan U (.ptr (B.length,0)) 2)∧(Zan U (.ptr (B.length,0)) 2=Zan U (.ptr (B.length,0)) 2)∧(Zan U (.ptr (H.length,0)) 2=Zan U (.ptr (H.length,0)) 2)∧(Zan U (.ptr (B.length,0)) 2=Zan U (.ptr (B.length,0)) 2)∧(Zan U (.ptr (B.length,0)) 2=Zan U (.ptr (B.length,0)) 2)∧Zah pg Zdf [.slice A E F G,.slice I P R S] U fun T Y=>
 Zbr T fun T=>bcase T (bcase (D == O) (Zah pg Zdf [.slice C K L M,.slice N V W X] Y fun T Z=>
 Zbr T fun T=>bcase T (bcase (J == D) (Zcb (Zan Z (.ptr (B.length,0)) 2) fun T=>Zag T fun T a=>xSl T fun T b d e=>Zag a fun a f=>xSl a fun a g i j=>Zbu f (Zcb (Zan Z (.ptr (H.length,0)) 2) fun f=>Zag f fun f k=>Zbn f fun f=>Zag k fun k l=>Zbn k fun k=>Zbu l ((Zan Z (.ptr (B.length,0)) 2=Zan Z (.ptr (B.length,0)) 2)∧Zah pg Zcg [.agg [.slice T b d e,.slice a g i j],.agg [.str f,.str k]] Z fun T a=>
 Zbr T fun T=>bcase (D == T) (Zcb (Zan a (.ptr (B.length,0)) 2) fun T=>Zag T fun T b=>xSl T fun T d e f=>Zag b fun b g=>xSl b fun b i j k=>Zbu g (Zcb (Zan a (.ptr (H.length,0)) 2) fun g=>Zag g fun g l=>Zbn g fun g=>Zag l fun l m=>Zbn l fun l=>Zbu m (Zcb (Zan a (.ptr (B.length,0)) 2) fun m=>Zag m fun m n=>xSl m fun m o p q=>Zag n fun n r=>xSl n fun n s t u=>Zbu r (Zcb (Zan a (.ptr (H.length,0)) 2) fun r=>Zag r fun r v=>Zbn r fun r=>Zag v fun v w=>Zbn v fun v=>Zbu w (Zah pg Zcg [.agg [.slice T d e f,.slice b i j k],.agg [.str g,.str l]] a fun T b=>
 Zbr T fun T=>(Zan b (.ptr (H.length,0)) 2=Zan a (.ptr (H.length,0)) 2)∧(Zan b (.ptr (B.length,0)) 2=Zan a (.ptr (B.length,0)) 2)∧(Zan b (.ptr (B.length,0)) 2=Zan a (.ptr (B.length,0)) 2)∧Zah pg Zdo [.agg [.slice m o p q,.slice n s t u],.agg [.str r,.str v]] b fun d e=>
 Zbr d fun d=>(Zan e (.ptr (H.length,0)) 2=Zan b (.ptr (H.length,0)) 2)∧(Zan e (.ptr (B.length,0)) 2=Zan b (.ptr (B.length,0)) 2)∧(Zan e (.ptr (B.length,0)) 2=Zan b (.ptr (B.length,0)) 2)∧Q (.bool (T == d)) e))))) ((Zan a (.ptr (H.length,0)) 2=Zan a (.ptr (H.length,0)) 2)∧(Zan a (.ptr (B.length,0)) 2=Zan a (.ptr (B.length,0)) 2)∧(Zan a (.ptr (B.length,0)) 2=Zan a (.ptr (B.length,0)) 2)∧(Zan a (.ptr (H.length,0)) 2=Zan a (.ptr (H.length,0)) 2)∧(Zan a (.ptr (B.length,0)) 2=Zan a (.ptr (B.length,0)) 2)∧(Zan a (.ptr (B.length,0)) 2=Zan a (.ptr (B.length,0)) 2)∧Q (.bool false) a)))) ((Zan Z (.ptr (B.length,0)) 2=Zan Z (.ptr (B.length,0)) 2)∧(Zan Z (.ptr (H.length,0)) 2=Zan Z (.ptr (H.length,0)) 2)∧(Zan Z (.ptr (B.length,0)) 2=Zan Z (.ptr (B.length,0)) 2)∧(Zan Z (.ptr (B.length,0)) 2=Zan Z (.ptr (B.length,0)) 2)∧(Zan Z (.ptr (H.length,0)) 2=Zan Z (.ptr (H.length,0)) 2)∧(Zan Z (.ptr (B.length,0)) 2=Zan Z (.ptr (B.length,0)) 2)∧(Zan Z (.ptr (B.length,0)) 2=Zan Z (.ptr (B.length,0)) 2)∧Q (.bool false) Z)) ((Zan Z (.ptr (B.length,0)) 2=Zan Z (.ptr (B.length,0)) 2)∧(Zan Z (.ptr (H.length,0)) 2=Zan Z (.ptr (H.length,0)) 2)∧(Zan Z (.ptr (B.length,0)) 2=Zan Z (.ptr (B.length,0)) 2)∧(Zan Z (.ptr (B.length,0)) 2=Zan Z (.ptr (B.length,0)) 2)∧(Zan Z (.ptr (H.length,0)) 2=Zan Z (.ptr (H.length,0)) 2)∧(Zan Z (.ptr (B.length,0)) 2=Zan Z (.ptr (B.length,0)) 2)∧(Zan Z (.ptr (B.length,0)) 2=Zan Z (.ptr (B.length,0)) 2)∧Q (.bool false) Z)) ((Zan Y (.ptr (B.length,0)) 2=Zan Y (.ptr (B.length,0)) 2)∧(Zan Y (.ptr (H.length,0)) 2=Zan Y (.ptr (H.length,0)) 2)∧(Zan Y (.ptr (B.length,0)) 2=Zan Y (.ptr (B.length,0)) 2)∧(Zan Y (.ptr (B.length,0)) 2=Zan Y (.ptr (B.length,0)) 2)∧(Zan Y (.ptr (H.length,0)) 2=Zan Y (.ptr (H.length,0)) 2)∧(Zan Y (.ptr (B.length,0)) 2=Zan Y (.ptr (B.length,0)) 2)∧(Zan Y (.ptr (B.length,0)) 2=Zan Y (.ptr (B.length,0)) 2)∧Q (.bool false) Y)) ((Zan Y (.ptr (B.length,0)) 2=Zan Y (.ptr (B.length,0)) 2)∧(Zan Y (.ptr (H.length,0)) 2=Zan Y (.ptr (H.length,0)) 2)∧(Zan Y (.ptr (B.length,0)) 2=Zan Y (.ptr (B.length,0)) 2)∧(Zan Y (.ptr (B.length,0)) 2=Zan Y (.ptr (B.length,0)) 2)∧(Zan Y (.ptr (H.length,0)) 2=Zan Y (.ptr (H.length,0)) 2)∧(Zan Y (.ptr (B.length,0)) 2=Zan Y (.ptr (B.length,0)) 2)∧(Zan Y (.ptr (B.length,0)) 2=Zan Y (.ptr (B.length,0)) 2)∧Q (.bool false) Y)) (Zcb (Zan U (.ptr (B.length,0)) 2) fun T=>Zag T fun T Y=>xSl T fun T Z a b=>Zag Y fun Y d=>xSl Y fun Y e f g=>Zbu d (Zcb (Zan U (.ptr (H.length,0)) 2) fun d=>Zag d fun d i=>Zbn d fun d=>Zag i fun i j=>Zbn i fun i=>Zbu j ((Zan U (.ptr (B.length,0)) 2=Zan U (.ptr (B.length,0)) 2)∧Zah pg Zcg [.agg [.slice T Z a b,.slice Y e f g],.agg [.str d,.str i]] U fun T U=>
 Zbr T fun T=>bcase (!(D == T)) ((Zan U (.ptr (H.length,0)) 2=Zan U (.ptr (H.length,0)) 2)∧(Zan U (.ptr (B.length,0)) 2=Zan U (.ptr (B.length,0)) 2)∧(Zan U (.ptr (B.length,0)) 2=Zan U (.ptr (B.length,0)) 2)∧(Zan U (.ptr (H.length,0)) 2=Zan U (.ptr (H.length,0)) 2)∧(Zan U (.ptr (B.length,0)) 2=Zan U (.ptr (B.length,0)) 2)∧(Zan U (.ptr (B.length,0)) 2=Zan U (.ptr (B.length,0)) 2)∧Zah pg Zdf [.slice A E F G,.slice I P R S] U fun T Y=>
 Zbr T fun T=>bcase T (bcase (D == O) (Zah pg Zdf [.slice C K L M,.slice N V W X] Y fun T Z=>
 Zbr T fun T=>bcase T (bcase (J == D) (Zcb (Zan Z (.ptr (B.length,0)) 2) fun T=>Zag T fun T a=>xSl T fun T b d e=>Zag a fun a f=>xSl a fun a g i j=>Zbu f (Zcb (Zan Z (.ptr (H.length,0)) 2) fun f=>Zag f fun f k=>Zbn f fun f=>Zag k fun k l=>Zbn k fun k=>Zbu l ((Zan Z (.ptr (B.length,0)) 2=Zan Z (.ptr (B.length,0)) 2)∧Zah pg Zcg [.agg [.slice T b d e,.slice a g i j],.agg [.str f,.str k]] Z fun T a=>
 Zbr T fun T=>bcase (D == T) (Zcb (Zan a (.ptr (B.length,0)) 2) fun T=>Zag T fun T b=>xSl T fun T d e f=>Zag b fun b g=>xSl b fun b i j k=>Zbu g (Zcb (Zan a (.ptr (H.length,0)) 2) fun g=>Zag g fun g l=>Zbn g fun g=>Zag l fun l m=>Zbn l fun l=>Zbu m (Zcb (Zan a (.ptr (B.length,0)) 2) fun m=>Zag m fun m n=>xSl m fun m o p q=>Zag n fun n r=>xSl n fun n s t u=>Zbu r (Zcb (Zan a (.ptr (H.length,0)) 2) fun r=>Zag r fun r v=>Zbn r fun r=>Zag v fun v w=>Zbn v fun v=>Zbu w (Zah pg Zcg [.agg [.slice T d e f,.slice b i j k],.agg [.str g,.str l]] a fun T b=>
 Zbr T fun T=>(Zan b (.ptr (H.length,0)) 2=Zan a (.ptr (H.length,0)) 2)∧(Zan b (.ptr (B.length,0)) 2=Zan a (.ptr (B.length,0)) 2)∧(Zan b (.ptr (B.length,0)) 2=Zan a (.ptr (B.length,0)) 2)∧Zah pg Zdo [.agg [.slice m o p q,.slice n s t u],.agg [.str r,.str v]] b fun d e=>
 Zbr d fun d=>(Zan e (.ptr (H.length,0)) 2=Zan b (.ptr (H.length,0)) 2)∧(Zan e (.ptr (B.length,0)) 2=Zan b (.ptr (B.length,0)) 2)∧(Zan e (.ptr (B.length,0)) 2=Zan b (.ptr (B.length,0)) 2)∧Q (.bool (T == d)) e))))) ((Zan a (.ptr (H.length,0)) 2=Zan a (.ptr (H.length,0)) 2)∧(Zan a (.ptr (B.length,0)) 2=Zan a (.ptr (B.length,0)) 2)∧(Zan a (.ptr (B.length,0)) 2=Zan a (.ptr (B.length,0)) 2)∧(Zan a (.ptr (H.length,0)) 2=Zan a (.ptr (H.length,0)) 2)∧(Zan a (.ptr (B.length,0)) 2=Zan a (.ptr (B.length,0)) 2)∧(Zan a (.ptr (B.length,0)) 2=Zan a (.ptr (B.length,0)) 2)∧Q (.bool false) a)))) ((Zan Z (.ptr (B.length,0)) 2=Zan Z (.ptr (B.length,0)) 2)∧(Zan Z (.ptr (H.length,0)) 2=Zan Z (.ptr (H.length,0)) 2)∧(Zan Z (.ptr (B.length,0)) 2=Zan Z (.ptr (B.length,0)) 2)∧(Zan Z (.ptr (B.length,0)) 2=Zan Z (.ptr (B.length,0)) 2)∧(Zan Z (.ptr (H.length,0)) 2=Zan Z (.ptr (H.length,0)) 2)∧(Zan Z (.ptr (B.length,0)) 2=Zan Z (.ptr (B.length,0)) 2)∧(Zan Z (.ptr (B.length,0)) 2=Zan Z (.ptr (B.length,0)) 2)∧Q (.bool false) Z)) ((Zan Z (.ptr (B.length,0)) 2=Zan Z (.ptr (B.length,0)) 2)∧(Zan Z (.ptr (H.length,0)) 2=Zan Z (.ptr (H.length,0)) 2)∧(Zan Z (.ptr (B.length,0)) 2=Zan Z (.ptr (B.length,0)) 2)∧(Zan Z (.ptr (B.length,0)) 2=Zan Z (.ptr (B.length,0)) 2)∧(Zan Z (.ptr (H.length,0)) 2=Zan Z (.ptr (H.length,0)) 2)∧(Zan Z (.ptr (B.length,0)) 2=Zan Z (.ptr (B.length,0)) 2)∧(Zan Z (.ptr (B.length,0)) 2=Zan Z (.ptr (B.length,0)) 2)∧Q (.bool false) Z)) ((Zan Y (.ptr (B.length,0)) 2=Zan Y (.ptr (B.length,0)) 2)∧(Zan Y (.ptr (H.length,0)) 2=Zan Y (.ptr (H.length,0)) 2)∧(Zan Y (.ptr (B.length,0)) 2=Zan Y (.ptr (B.length,0)) 2)∧(Zan Y (.ptr (B.length,0)) 2=Zan Y (.ptr (B.length,0)) 2)∧(Zan Y (.ptr (H.length,0)) 2=Zan Y (.ptr (H.length,0)) 2)∧(Zan Y (.ptr (B.length,0)) 2=Zan Y (.ptr (B.length,0)) 2)∧(Zan Y (.ptr (B.length,0)) 2=Zan Y (.ptr (B.length,0)) 2)∧Q (.bool false) Y)) ((Zan Y (.ptr (B.length,0)) 2=Zan Y (.ptr (B.length,0)) 2)∧(Zan Y (.ptr (H.length,0)) 2=Zan Y (.ptr (H.length,0)) 2)∧(Zan Y (.ptr (B.length,0)) 2=Zan Y (.ptr (B.length,0)) 2)∧(Zan Y (.ptr (B.length,0)) 2=Zan Y (.ptr (B.length,0)) 2)∧(Zan Y (.ptr (H.length,0)) 2=Zan Y (.ptr (H.length,0)) 2)∧(Zan Y (.ptr (B.length,0)) 2=Zan Y (.ptr (B.length,0)) 2)∧(Zan Y (.ptr (B.length,0)) 2=Zan Y (.ptr (B.length,0)) 2)∧Q (.bool false) Y)) (Zcb (Zan U (.ptr (B.length,0)) 2) fun T=>Zag T fun T Y=>xSl T fun T Z a b=>Zag Y fun Y d=>xSl Y fun Y e f g=>Zbu d (Zcb (Zan U (.ptr (H.length,0)) 2) fun d=>Zag d fun d i=>Zbn d fun d=>Zag i fun i j=>Zbn i fun i=>Zbu j (Zcb (Zan U (.ptr (B.length,0)) 2) fun j=>Zag j fun j k=>xSl j fun j l m n=>Zag k fun k o=>xSl k fun k p q r=>Zbu o (Zcb (Zan U (.ptr (H.length,0)) 2) fun o=>Zag o fun o s=>Zbn o fun o=>Zag s fun s t=>Zbn s fun s=>Zbu t (Zah pg Zcg [.agg [.slice T Z a b,.slice Y e f g],.agg [.str d,.str i]] U fun T Y=>
 Zbr T fun T=>(Zan Y (.ptr (H.length,0)) 2=Zan U (.ptr (H.length,0)) 2)∧(Zan Y (.ptr (B.length,0)) 2=Zan U (.ptr (B.length,0)) 2)∧(Zan Y (.ptr (B.length,0)) 2=Zan U (.ptr (B.length,0)) 2)∧Zah pg Zdo [.agg [.slice j l m n,.slice k p q r],.agg [.str o,.str s]] Y fun U Z=>
 Zbr U fun U=>(Zan Z (.ptr (H.length,0)) 2=Zan Y (.ptr (H.length,0)) 2)∧(Zan Z (.ptr (B.length,0)) 2=Zan Y (.ptr (B.length,0)) 2)∧(Zan Z (.ptr (B.length,0)) 2=Zan Y (.ptr (B.length,0)) 2)∧bcase (!(T == U)) (Zah pg Zdf [.slice A E F G,.slice I P R S] Z fun T U=>
 Zbr T fun T=>bcase T (bcase (D == O) (Zah pg Zdf [.slice C K L M,.slice N V W X] U fun T Y=>
 Zbr T fun T=>bcase T (bcase (J == D) (Zcb (Zan Y (.ptr (B.length,0)) 2) fun T=>Zag T fun T a=>xSl T fun T b d e=>Zag a fun a f=>xSl a fun a g i j=>Zbu f (Zcb (Zan Y (.ptr (H.length,0)) 2) fun f=>Zag f fun f k=>Zbn f fun f=>Zag k fun k l=>Zbn k fun k=>Zbu l ((Zan Y (.ptr (B.length,0)) 2=Zan Y (.ptr (B.length,0)) 2)∧Zah pg Zcg [.agg [.slice T b d e,.slice a g i j],.agg [.str f,.str k]] Y fun T a=>
 Zbr T fun T=>bcase (D == T) (Zcb (Zan a (.ptr (B.length,0)) 2) fun T=>Zag T fun T b=>xSl T fun T d e f=>Zag b fun b g=>xSl b fun b i j k=>Zbu g (Zcb (Zan a (.ptr (H.length,0)) 2) fun g=>Zag g fun g l=>Zbn g fun g=>Zag l fun l m=>Zbn l fun l=>Zbu m (Zcb (Zan a (.ptr (B.length,0)) 2) fun m=>Zag m fun m n=>xSl m fun m o p q=>Zag n fun n r=>xSl n fun n s t u=>Zbu r (Zcb (Zan a (.ptr (H.length,0)) 2) fun r=>Zag r fun r v=>Zbn r fun r=>Zag v fun v w=>Zbn v fun v=>Zbu w (Zah pg Zcg [.agg [.slice T d e f,.slice b i j k],.agg [.str g,.str l]] a fun T b=>
 Zbr T fun T=>(Zan b (.ptr (H.length,0)) 2=Zan a (.ptr (H.length,0)) 2)∧(Zan b (.ptr (B.length,0)) 2=Zan a (.ptr (B.length,0)) 2)∧(Zan b (.ptr (B.length,0)) 2=Zan a (.ptr (B.length,0)) 2)∧Zah pg Zdo [.agg [.slice m o p q,.slice n s t u],.agg [.str r,.str v]] b fun d e=>
 Zbr d fun d=>(Zan e (.ptr (H.length,0)) 2=Zan b (.ptr (H.length,0)) 2)∧(Zan e (.ptr (B.length,0)) 2=Zan b (.ptr (B.length,0)) 2)∧(Zan e (.ptr (B.length,0)) 2=Zan b (.ptr (B.length,0)) 2)∧Q (.bool (T == d)) e))))) ((Zan a (.ptr (H.length,0)) 2=Zan a (.ptr (H.length,0)) 2)∧(Zan a (.ptr (B.length,0)) 2=Zan a (.ptr (B.length,0)) 2)∧(Zan a (.ptr (B.length,0)) 2=Zan a (.ptr (B.length,0)) 2)∧(Zan a (.ptr (H.length,0)) 2=Zan a (.ptr (H.length,0)) 2)∧(Zan a (.ptr (B.length,0)) 2=Zan a (.ptr (B.length,0)) 2)∧(Zan a (.ptr (B.length,0)) 2=Zan a (.ptr (B.length,0)) 2)∧Q (.bool false) a)))) ((Zan Y (.ptr (B.length,0)) 2=Zan Y (.ptr (B.length,0)) 2)∧(Zan Y (.ptr (H.length,0)) 2=Zan Y (.ptr (H.length,0)) 2)∧(Zan Y (.ptr (B.length,0)) 2=Zan Y (.ptr (B.length,0)) 2)∧(Zan Y (.ptr (B.length,0)) 2=Zan Y (.ptr (B.length,0)) 2)∧(Zan Y (.ptr (H.length,0)) 2=Zan Y (.ptr (H.length,0)) 2)∧(Zan Y (.ptr (B.length,0)) 2=Zan Y (.ptr (B.length,0)) 2)∧(Zan Y (.ptr (B.length,0)) 2=Zan Y (.ptr (B.length,0)) 2)∧Q (.bool false) Y)) ((Zan Y (.ptr (B.length,0)) 2=Zan Y (.ptr (B.length,0)) 2)∧(Zan Y (.ptr (H.length,0)) 2=Zan Y (.ptr (H.length,0)) 2)∧(Zan Y (.ptr (B.length,0)) 2=Zan Y (.ptr (B.length,0)) 2)∧(Zan Y (.ptr (B.length,0)) 2=Zan Y (.ptr (B.length,0)) 2)∧(Zan Y (.ptr (H.length,0)) 2=Zan Y (.ptr (H.length,0)) 2)∧(Zan Y (.ptr (B.length,0)) 2=Zan Y (.ptr (B.length,0)) 2)∧(Zan Y (.ptr (B.length,0)) 2=Zan Y (.ptr (B.length,0)) 2)∧Q (.bool false) Y)) ((Zan U (.ptr (B.length,0)) 2=Zan U (.ptr (B.length,0)) 2)∧(Zan U (.ptr (H.length,0)) 2=Zan U (.ptr (H.length,0)) 2)∧(Zan U (.ptr (B.length,0)) 2=Zan U (.ptr (B.length,0)) 2)∧(Zan U (.ptr (B.length,0)) 2=Zan U (.ptr (B.length,0)) 2)∧(Zan U (.ptr (H.length,0)) 2=Zan U (.ptr (H.length,0)) 2)∧(Zan U (.ptr (B.length,0)) 2=Zan U (.ptr (B.length,0)) 2)∧(Zan U (.ptr (B.length,0)) 2=Zan U (.ptr (B.length,0)) 2)∧Q (.bool false) U)) ((Zan U (.ptr (B.length,0)) 2=Zan U (.ptr (B.length,0)) 2)∧(Zan U (.ptr (H.length,0)) 2=Zan U (.ptr (H.length,0)) 2)∧(Zan U (.ptr (B.length,0)) 2=Zan U (.ptr (B.length,0)) 2)∧(Zan U (.ptr (B.length,0)) 2=Zan U (.ptr (B.length,0)) 2)∧(Zan U (.ptr (H.length,0)) 2=Zan U (.ptr (H.length,0)) 2)∧(Zan U (.ptr (B.length,0)) 2=Zan U (.ptr (B.length,0)) 2)∧(Zan U (.ptr (B.length,0)) 2=Zan U (.ptr (B.length,0)) 2)∧Q (.bool false) U)) (bcase (!D) (Zah pg Zdf [.slice A E F G,.slice I P R S] Z fun I P=>
 Zbr I fun I=>bcase I (bcase (D == O) (Zah pg Zdf [.slice C K L M,.slice N V W X] P fun I N=>
 Zbr I fun I=>bcase I (bcase (J == D) (Zcb (Zan N (.ptr (B.length,0)) 2) fun I=>Zag I fun I J=>xSl I fun I O R S=>Zag J fun J T=>xSl J fun J U V W=>Zbu T (Zcb (Zan N (.ptr (H.length,0)) 2) fun T=>Zag T fun T X=>Zbn T fun T=>Zag X fun X Y=>Zbn X fun X=>Zbu Y ((Zan N (.ptr (B.length,0)) 2=Zan N (.ptr (B.length,0)) 2)∧Zah pg Zcg [.agg [.slice I O R S,.slice J U V W],.agg [.str T,.str X]] N fun I J=>
 Zbr I fun I=>bcase (D == I) (Zcb (Zan J (.ptr (B.length,0)) 2) fun D=>Zag D fun D I=>xSl D fun D O R S=>Zag I fun I T=>xSl I fun I U V W=>Zbu T (Zcb (Zan J (.ptr (H.length,0)) 2) fun T=>Zag T fun T X=>Zbn T fun T=>Zag X fun X Y=>Zbn X fun X=>Zbu Y (Zcb (Zan J (.ptr (B.length,0)) 2) fun Y=>Zag Y fun Y a=>xSl Y fun Y b d e=>Zag a fun a f=>xSl a fun a g i j=>Zbu f (Zcb (Zan J (.ptr (H.length,0)) 2) fun f=>Zag f fun f k=>Zbn f fun f=>Zag k fun k l=>Zbn k fun k=>Zbu l (Zah pg Zcg [.agg [.slice D O R S,.slice I U V W],.agg [.str T,.str X]] J fun D I=>
 Zbr D fun D=>(Zan I (.ptr (H.length,0)) 2=Zan J (.ptr (H.length,0)) 2)∧(Zan I (.ptr (B.length,0)) 2=Zan J (.ptr (B.length,0)) 2)∧(Zan I (.ptr (B.length,0)) 2=Zan J (.ptr (B.length,0)) 2)∧Zah pg Zdo [.agg [.slice Y b d e,.slice a g i j],.agg [.str f,.str k]] I fun O R=>
 Zbr O fun O=>(Zan R (.ptr (H.length,0)) 2=Zan I (.ptr (H.length,0)) 2)∧(Zan R (.ptr (B.length,0)) 2=Zan I (.ptr (B.length,0)) 2)∧(Zan R (.ptr (B.length,0)) 2=Zan I (.ptr (B.length,0)) 2)∧Q (.bool (D == O)) R))))) ((Zan J (.ptr (H.length,0)) 2=Zan J (.ptr (H.length,0)) 2)∧(Zan J (.ptr (B.length,0)) 2=Zan J (.ptr (B.length,0)) 2)∧(Zan J (.ptr (B.length,0)) 2=Zan J (.ptr (B.length,0)) 2)∧(Zan J (.ptr (H.length,0)) 2=Zan J (.ptr (H.length,0)) 2)∧(Zan J (.ptr (B.length,0)) 2=Zan J (.ptr (B.length,0)) 2)∧(Zan J (.ptr (B.length,0)) 2=Zan J (.ptr (B.length,0)) 2)∧Q (.bool false) J)))) ((Zan N (.ptr (B.length,0)) 2=Zan N (.ptr (B.length,0)) 2)∧(Zan N (.ptr (H.length,0)) 2=Zan N (.ptr (H.length,0)) 2)∧(Zan N (.ptr (B.length,0)) 2=Zan N (.ptr (B.length,0)) 2)∧(Zan N (.ptr (B.length,0)) 2=Zan N (.ptr (B.length,0)) 2)∧(Zan N (.ptr (H.length,0)) 2=Zan N (.ptr (H.length,0)) 2)∧(Zan N (.ptr (B.length,0)) 2=Zan N (.ptr (B.length,0)) 2)∧(Zan N (.ptr (B.length,0)) 2=Zan N (.ptr (B.length,0)) 2)∧Q (.bool false) N)) ((Zan N (.ptr (B.length,0)) 2=Zan N (.ptr (B.length,0)) 2)∧(Zan N (.ptr (H.length,0)) 2=Zan N (.ptr (H.length,0)) 2)∧(Zan N (.ptr (B.length,0)) 2=Zan N (.ptr (B.length,0)) 2)∧(Zan N (.ptr (B.length,0)) 2=Zan N (.ptr (B.length,0)) 2)∧(Zan N (.ptr (H.length,0)) 2=Zan N (.ptr (H.length,0)) 2)∧(Zan N (.ptr (B.length,0)) 2=Zan N (.ptr (B.length,0)) 2)∧(Zan N (.ptr (B.length,0)) 2=Zan N (.ptr (B.length,0)) 2)∧Q (.bool false) N)) ((Zan P (.ptr (B.length,0)) 2=Zan P (.ptr (B.length,0)) 2)∧(Zan P (.ptr (H.length,0)) 2=Zan P (.ptr (H.length,0)) 2)∧(Zan P (.ptr (B.length,0)) 2=Zan P (.ptr (B.length,0)) 2)∧(Zan P (.ptr (B.length,0)) 2=Zan P (.ptr (B.length,0)) 2)∧(Zan P (.ptr (H.length,0)) 2=Zan P (.ptr (H.length,0)) 2)∧(Zan P (.ptr (B.length,0)) 2=Zan P (.ptr (B.length,0)) 2)∧(Zan P (.ptr (B.length,0)) 2=Zan P (.ptr (B.length,0)) 2)∧Q (.bool false) P)) ((Zan P (.ptr (B.length,0)) 2=Zan P (.ptr (B.length,0)) 2)∧(Zan P (.ptr (H.length,0)) 2=Zan P (.ptr (H.length,0)) 2)∧(Zan P (.ptr (B.length,0)) 2=Zan P (.ptr (B.length,0)) 2)∧(Zan P (.ptr (B.length,0)) 2=Zan P (.ptr (B.length,0)) 2)∧(Zan P (.ptr (H.length,0)) 2=Zan P (.ptr (H.length,0)) 2)∧(Zan P (.ptr (B.length,0)) 2=Zan P (.ptr (B.length,0)) 2)∧(Zan P (.ptr (B.length,0)) 2=Zan P (.ptr (B.length,0)) 2)∧Q (.bool false) P)) (J10 Q B.length 0 H.length 0 A E F G C K L M Z)))))))))))))))))))))))))))))):Zah pg Zmu [.slice a0 n0 c0 e0] h Q:=
 Zah.of_body kp (c:=cod fn) (fn:=fn) Go.Proofs.Tryz.func5 (by kernel_rfl) (by kernel_rfl) (Nat.le_of_ble_eq_true (by kernel_rfl))
  (cast (by kernel_rfl) ht)
end Zbq
end Go.Sim

set_option maxRecDepth 100000
set_option maxHeartbeats 0
set_option linter.unusedVariables false
namespace Go.Sim
open Go Go.RowKit
namespace Zls
noncomputable abbrev fn:Func:=Go.Proofs.Tryz.f61
def kp:Zcu:=[]
noncomputable def C (p:List Nat):Code:=(cod fn).sub p
def KR (Q:QT):KT:=Zfi pg fn.results.toList Q
theorem call (x0x0 x0x1:List Nat) (a0x2:Pt) (n0x2 c0x2:Nat) (e0x2:Bool) (v1:Zas) (h:Zaa) (Q:QT) (ht :
 Zco (h ++ [.cells Zac [.str x0x0,.str x0x1,.slice a0x2 n0x2 c0x2 e0x2] false]) fun A=>Zbn (Zai A (.ptr (h.length,0 + 0 + 1))) fun B=>Zje pg Zae v1 1 fun C=>Zbn (Zai A (C)) fun C=>Zah pg Zjo [.str B,.str C] A fun A B=>
 Zbr A fun A=>Q (.bool (!A)) B):Zah pg Zcy [.agg [.str x0x0,.str x0x1,.slice a0x2 n0x2 c0x2 e0x2],v1] h Q:=
 Zah.of_body kp (c:=cod fn) (fn:=fn) Go.Proofs.Tryz.func61 (by kernel_rfl) (by kernel_rfl) (Nat.le_of_ble_eq_true (by kernel_rfl))
  (cast (by kernel_rfl) ht)
end Zls
namespace Zch
noncomputable abbrev fn:Func:=Go.Proofs.Tryz.f60
def kp:Zcu:=[(3000003,[7]),(1000003,[1,2,7,12,13,14]),(4000007,[14,13,12,1,2,7])]
noncomputable def C (p:List Nat):Code:=(cod fn).sub p
def KR (Q:QT):KT:=Zfi pg fn.results.toList Q
abbrev T3:=List Nat→Zas→Pt→Nat→Nat→Bool→Pt→Nat→Nat→Bool→Int→Int→Zaa→Prop
def E3 (R3:T3) (env:Env) (h:Zaa):Prop:=Zci 1 env fun v env=>Zbn v fun x1=>Zci 2 env fun v env=>eFn Zcy v fun cs=>Zag cs fun c cs'=>Zzf c fun v2x0=>Zbu cs' (Zci 7 env fun v env=>xSl v fun a7 n7 c7 e7=>Zci 12 env fun v env=>xSl v fun a12 n12 c12 e12=>Zci 13 env fun v env=>Zez .i64 v fun x13=>Zci 14 env fun v env=>Zez .i64 v fun x14=>Zky env (R3 x1 v2x0 a7 n7 c7 e7 a12 n12 c12 e12 x13 x14 h))
theorem Zfy {R3:T3} {env:Env} {h:Zaa} (hi:E3 R3 env h):∃ x1,∃ v2x0,∃ a7,∃ n7,∃ c7,∃ e7,∃ a12,∃ n12,∃ c12,∃ e12,∃ x13,∃ x14,env=[(1,.str x1),(2,.fn Zcy [v2x0]),(7,.slice a7 n7 c7 e7),(12,.slice a12 n12 c12 e12),(13,.int .i64 x13),(14,.int .i64 x14)]∧R3 x1 v2x0 a7 n7 c7 e7 a12 n12 c12 e12 x13 x14 h:=by
 unfold E3 at hi
 have hi0:=hi
 clear hi
 obtain ⟨_,_,rfl,hi1⟩:=Zal hi0
 obtain ⟨x1,rfl,hi2⟩:=Zhb hi1
 obtain ⟨_,_,rfl,hi3⟩:=Zal hi2
 obtain ⟨cs,rfl,hi4⟩:=Zwn hi3
 obtain ⟨c,cs',rfl,hi5⟩:=Zrf hi4
 obtain ⟨v2x0,hx,hi6⟩:=Zla hi5
 replace hx:=(Option.some.inj hx).symm
 subst hx
 obtain ⟨rfl,hi7⟩:=Zsy hi6
 obtain ⟨_,_,rfl,hi8⟩:=Zal hi7
 obtain ⟨a7,n7,c7,e7,rfl,hi9⟩:=Zcp hi8
 obtain ⟨_,_,rfl,hi10⟩:=Zal hi9
 obtain ⟨a12,n12,c12,e12,rfl,hi11⟩:=Zcp hi10
 obtain ⟨_,_,rfl,hi12⟩:=Zal hi11
 obtain ⟨x13,rfl,hi13⟩:=Zaz hi12
 obtain ⟨_,_,rfl,hi14⟩:=Zal hi13
 obtain ⟨x14,rfl,hi15⟩:=Zaz hi14
 obtain ⟨rfl,hi16⟩:=Zca hi15
 have hi:=hi16
 exact ⟨x1,v2x0,a7,n7,c7,e7,a12,n12,c12,e12,x13,x14,rfl,hi⟩
def K0 (Q:QT):KT:=andThen (fun env' h'=>(match kp.find 4000008 with | some ks=>Den pg fn.ntmps (C [1,1,1]) (env'.keep ks) h' (KR Q) | none=>den pg fn.ntmps kp (C [1,1,1]) env' h' (KR Q))) (KR Q)
def K1 (Q:QT):KT:=Zdg 0 (K0 Q)
def K2 (Q:QT):KT:=left kp 3 (K1 Q)
def K3 (Q:QT) (R3:T3):KT:=rnd ((kp.find 1000003).getD []) (E3 R3) (K2 Q)
def L3 (Q:QT) (x1:List Nat) (v2x0:Zas) (a7:Pt) (n7 c7:Nat) (e7:Bool) (a12:Pt) (n12 c12:Nat) (e12:Bool) (x13 x14:Int) (h:Zaa):Prop:=Zfb (Den pg fn.ntmps (C [1,1,0,1,0,0])) ((kp.find 1000003).getD []) (K2 Q) [(1,.str x1),(2,.fn Zcy [v2x0]),(7,.slice a7 n7 c7 e7),(12,.slice a12 n12 c12 e12),(13,.int .i64 x13),(14,.int .i64 x14)] h
def J7 (Q:QT) (R3:T3) (x14 x13:Int) (a12:Pt) (n12 c12:Nat) (e12:Bool) (x1:List Nat) (v2x0:Zas) (a7:Pt) (n7 c7:Nat) (e7:Bool) (h:Zaa):Prop:=Den pg fn.ntmps (C [1,1,0,1,0,0,1,1,1]) [(14,.int .i64 x14),(13,.int .i64 x13),(12,.slice a12 n12 c12 e12),(1,.str x1),(2,.fn Zcy [v2x0]),(7,.slice a7 n7 c7 e7)] h (K3 Q R3)
def Zsz (Q:QT) (a7:Pt) (n7 c7:Nat) (e7:Bool) (h:Zaa):Prop:=At (K1 Q) (.exit 0) [(7,.slice a7 n7 c7 e7)] h
def L3t (Q:QT) (R3:T3) (x1:List Nat) (v2x0:Zas) (a7:Pt) (n7 c7:Nat) (e7:Bool) (a12:Pt) (n12 c12:Nat) (e12:Bool) (x13 x14:Int) (h:Zaa):Prop:=
 bcase (decide ((x14:Int) < x13)) ((0≤(x14:Int)∧(x14:Int) < (n12:Nat))∧(Zbi a12 fun A B=>Zcb (Zan h (.ptr (A,B + (Int.toNat x14) * 3)) 3) fun A=>Zag A fun A B=>Zbn A fun A=>Zag B fun B C=>Zbn B fun B=>Zag C fun C D=>xSl C fun C E F G=>Zbu D (Zco (h ++ [.cells Zac [.str [],.str [],.slice none 0 0 true] false]) fun D=>Zbx (Zbb D (.ptr (h.length,0)) [.str A,.str B,.slice C E F G]) fun A=>Zbn (Zai A (.ptr (h.length,0 + 0 + 0))) fun B=>bcase (decide (B=x1)) (Zcb (Zan A (.ptr (h.length,0)) 3) fun B=>Zag B fun B C=>Zbn B fun B=>Zag C fun C D=>Zbn C fun C=>Zag D fun D E=>xSl D fun D F G H=>Zbu E (Zah pg Zcy [.agg [.str B,.str C,.slice D F G H],v2x0] A fun B C=>
 Zbr B fun B=>bcase B (Zco (C ++ [.cells Zgj [.int .i64 x14] false]) fun B=>Zcz pg Zyr B (.slice a7 n7 c7 e7) (.slice (C.length,0) 1 1 true) fun B D=>xSl B fun B E F G=>J7 Q R3 x14 x13 a12 n12 c12 e12 x1 v2x0 B E F G D) (J7 Q R3 x14 x13 a12 n12 c12 e12 x1 v2x0 a7 n7 c7 e7 C))) (J7 Q R3 x14 x13 a12 n12 c12 e12 x1 v2x0 a7 n7 c7 e7 A)))) (Zsz Q a7 n7 c7 e7 h)
theorem Zoo (Q:QT) (R3:T3) (x1:List Nat) (v2x0:Zas) (a7:Pt) (n7 c7:Nat) (e7:Bool) (a12:Pt) (n12 c12:Nat) (e12:Bool) (x13 x14:Int) (h:Zaa) (ht:L3t Q R3 x1 v2x0 a7 n7 c7 e7 a12 n12 c12 e12 x13 x14 h):Den pg fn.ntmps (C [1,1,0,1,0,0]) [(1,.str x1),(2,.fn Zcy [v2x0]),(7,.slice a7 n7 c7 e7),(12,.slice a12 n12 c12 e12),(13,.int .i64 x13),(14,.int .i64 x14)] h (K3 Q R3):=
 Zbf (kp:=kp) (cast (by kernel_rfl) ht)
theorem L3ind (Q:QT) (x1:List Nat) (v2x0:Zas) (a12:Pt) (n12 c12:Nat) (e12:Bool) (x13:Int) {G:Type} (J:G→Pt→Nat→Nat→Bool→Int→Zaa→Prop) (m:G→Nat)
 (hr:∀ (g:G) (a7:Pt) (n7 c7:Nat) (e7:Bool) (x14:Int) (h:Zaa),J g a7 n7 c7 e7 x14 h→∀ (R3:T3),(∀ g' (a7:Pt) (n7 c7:Nat) (e7:Bool) (x14:Int) (h:Zaa),m g' < m g→J g' a7 n7 c7 e7 x14 h→R3 x1 v2x0 a7 n7 c7 e7 a12 n12 c12 e12 x13 x14 h)→L3t Q R3 x1 v2x0 a7 n7 c7 e7 a12 n12 c12 e12 x13 x14 h)
 (g:G) (a7:Pt) (n7 c7:Nat) (e7:Bool) (x14:Int) (h:Zaa) (hj:J g a7 n7 c7 e7 x14 h):L3 Q x1 v2x0 a7 n7 c7 e7 a12 n12 c12 e12 x13 x14 h:=by
 let P:=fun (K:Pt→Nat→Nat→Bool→Int→Zaa→Prop) x1' v2x0' a7 n7 c7 e7 a12' n12' c12' e12' x13' x14 h=>x1=x1'∧v2x0=v2x0'∧a12=a12'∧n12=n12'∧c12=c12'∧e12=e12'∧x13=x13'∧K a7 n7 c7 e7 x14 h
 refine Zfb.inv2 (fun g=>E3 (P (J g))) (fun g=>E3 (P fun a7 n7 c7 e7 x14 h=>∃ g',m g' < m g∧J g' a7 n7 c7 e7 x14 h)) m ?_ ?_ g ⟨rfl,rfl,rfl,rfl,rfl,rfl,rfl,hj⟩
 ·intro g env h hi
  obtain ⟨x1',v2x0',a7,n7,c7,e7,a12',n12',c12',e12',x13',x14,rfl,rfl,rfl,rfl,rfl,rfl,rfl,rfl,hj⟩:=Zfy hi
  exact Zoo Q _ x1 v2x0 a7 n7 c7 e7 a12 n12 c12 e12 x13 x14 h (hr g a7 n7 c7 e7 x14 h hj (P fun a7 n7 c7 e7 x14 h=>∃ g',m g' < m g∧J g' a7 n7 c7 e7 x14 h) fun g' a7 n7 c7 e7 x14 h hlt hj=>⟨rfl,rfl,rfl,rfl,rfl,rfl,rfl,g',hlt,hj⟩)
 ·intro g env h hi
  obtain ⟨x1',v2x0',a7,n7,c7,e7,a12',n12',c12',e12',x13',x14,rfl,rfl,rfl,rfl,rfl,rfl,rfl,rfl,g',hlt,hj⟩:=Zfy hi
  exact ⟨g',hlt,rfl,rfl,rfl,rfl,rfl,rfl,rfl,hj⟩
theorem J7i (Q:QT) (R3:T3) (x14 x13:Int) (a12:Pt) (n12 c12:Nat) (e12:Bool) (x1:List Nat) (v2x0:Zas) (a7:Pt) (n7 c7:Nat) (e7:Bool) (h:Zaa) (ht :
 R3 x1 v2x0 a7 n7 c7 e7 a12 n12 c12 e12 x13 (IntKind.wrap .i64 (x14 + 1)) h):J7 Q R3 x14 x13 a12 n12 c12 e12 x1 v2x0 a7 n7 c7 e7 h:=
 Zbf (kp:=kp) (cast (by kernel_rfl) ht)
theorem A3x0i (Q:QT) (a7:Pt) (n7 c7:Nat) (e7:Bool) (h:Zaa) (ht :
 Q (.slice a7 n7 c7 e7) h):Zsz Q a7 n7 c7 e7 h:=
 At.mk (cast (by kernel_rfl) ht)
theorem call (a0x0:Pt) (n0x0 c0x0:Nat) (e0x0:Bool) (a0x1:Pt) (n0x1 c0x1:Nat) (e0x1:Bool) (x1:List Nat) (v2x0:Zas) (h:Zaa) (Q:QT) (ht :
 Zco (h ++ [.cells Zad [.slice a0x0 n0x0 c0x0 e0x0,.slice a0x1 n0x1 c0x1 e0x1] false]) fun A=>Zco (A ++ [.cells Zgj [] false]) fun B=>xSl (Zai B (.ptr (h.length,0 + 1))) fun C D E F=>L3 Q x1 v2x0 (A.length,0) 0 0 true C D E F (((D:Nat):Int)) 0 B):Zah pg Zjf [.agg [.slice a0x0 n0x0 c0x0 e0x0,.slice a0x1 n0x1 c0x1 e0x1],.str x1,.fn Zcy [v2x0]] h Q:=
 Zah.of_body kp (c:=cod fn) (fn:=fn) Go.Proofs.Tryz.func60 (by kernel_rfl) (by kernel_rfl) (Nat.le_of_ble_eq_true (by kernel_rfl))
  (cast (by kernel_rfl) ht)
end Zch
namespace Zql
noncomputable abbrev fn:Func:=Go.Proofs.Tryz.f23
def kp:Zcu:=[]
noncomputable def C (p:List Nat):Code:=(cod fn).sub p
def KR (Q:QT):KT:=Zfi pg fn.results.toList Q
theorem call (a0x0:Pt) (n0x0 c0x0:Nat) (e0x0:Bool) (a0x1:Pt) (n0x1 c0x1:Nat) (e0x1:Bool) (x1x0 x1x1:List Nat) (h:Zaa) (Q:QT) (ht :
 Zco (h ++ [.cells Zad [.slice a0x0 n0x0 c0x0 e0x0,.slice a0x1 n0x1 c0x1 e0x1] false]) fun A=>Zco (A ++ [.cells Zae [.str x1x0,.str x1x1] false]) fun B=>Zcb (Zan B (.ptr (h.length,0)) 2) fun C=>Zag C fun C D=>xSl C fun C E F G=>Zag D fun D H=>xSl D fun D I J K=>Zbu H (Zcb (Zan B (.ptr (A.length,0)) 2) fun H=>Zag H fun H L=>Zbn H fun H=>Zag L fun L M=>Zbn L fun L=>Zbu M (Zah pg Zcg [.agg [.slice C E F G,.slice D I J K],.agg [.str H,.str L]] B fun B C=>
 Zbr B fun B=>bcase (!B) (Q (.tup [.slice none 0 0 true,.bool false]) C) (Zcb (Zan C (.ptr (h.length,0)) 2) fun B=>Zag B fun B D=>xSl B fun B E F G=>Zag D fun D H=>xSl D fun D I J K=>Zbu H (Zbn (Zai C (.ptr (A.length,0 + 0))) fun H=>Zah pg Zjf [.agg [.slice B E F G,.slice D I J K],.str H,.fn Zcy [.ptr (A.length,0)]] C fun A B=>
 xSl A fun A C D E=>Q (.tup [.slice A C D E,.bool true]) B))))):Zah pg Zml [.agg [.slice a0x0 n0x0 c0x0 e0x0,.slice a0x1 n0x1 c0x1 e0x1],.agg [.str x1x0,.str x1x1]] h Q:=
 Zah.of_body kp (c:=cod fn) (fn:=fn) Go.Proofs.Tryz.func23 (by kernel_rfl) (by kernel_rfl) (Nat.le_of_ble_eq_true (by kernel_rfl))
  (cast (by kernel_rfl) ht)
end Zql
namespace Zfg
noncomputable abbrev fn:Func:=Go.Proofs.Tryz.f25
def kp:Zcu:=[(3000005,[6]),(1000005,[3,6,16,17,18]),(4000009,[18,17,16,3,6])]
noncomputable def C (p:List Nat):Code:=(cod fn).sub p
def KR (Q:QT):KT:=Zfi pg fn.results.toList Q
abbrev T5:=Nat→Nat→Pt→Nat→Nat→Bool→Pt→Nat→Nat→Bool→Int→Int→Zaa→Prop
def E5 (R5:T5) (env:Env) (h:Zaa):Prop:=Zci 3 env fun v env=>Zfc v fun a=>Zbi a fun i3 o3=>Zci 6 env fun v env=>xSl v fun a6 n6 c6 e6=>Zci 16 env fun v env=>xSl v fun a16 n16 c16 e16=>Zci 17 env fun v env=>Zez .i64 v fun x17=>Zci 18 env fun v env=>Zez .i64 v fun x18=>Zky env (R5 i3 o3 a6 n6 c6 e6 a16 n16 c16 e16 x17 x18 h)
theorem Zli {R5:T5} {env:Env} {h:Zaa} (hi:E5 R5 env h):∃ i3,∃ o3,∃ a6,∃ n6,∃ c6,∃ e6,∃ a16,∃ n16,∃ c16,∃ e16,∃ x17,∃ x18,env=[(3,.ptr (i3,o3)),(6,.slice a6 n6 c6 e6),(16,.slice a16 n16 c16 e16),(17,.int .i64 x17),(18,.int .i64 x18)]∧R5 i3 o3 a6 n6 c6 e6 a16 n16 c16 e16 x17 x18 h:=by
 unfold E5 at hi
 have hi0:=hi
 clear hi
 obtain ⟨_,_,rfl,hi1⟩:=Zal hi0
 obtain ⟨a,rfl,hi2⟩:=Zbo hi1
 obtain ⟨i3,o3,rfl,hi3⟩:=Zbp hi2
 obtain ⟨_,_,rfl,hi4⟩:=Zal hi3
 obtain ⟨a6,n6,c6,e6,rfl,hi5⟩:=Zcp hi4
 obtain ⟨_,_,rfl,hi6⟩:=Zal hi5
 obtain ⟨a16,n16,c16,e16,rfl,hi7⟩:=Zcp hi6
 obtain ⟨_,_,rfl,hi8⟩:=Zal hi7
 obtain ⟨x17,rfl,hi9⟩:=Zaz hi8
 obtain ⟨_,_,rfl,hi10⟩:=Zal hi9
 obtain ⟨x18,rfl,hi11⟩:=Zaz hi10
 obtain ⟨rfl,hi12⟩:=Zca hi11
 have hi:=hi12
 exact ⟨i3,o3,a6,n6,c6,e6,a16,n16,c16,e16,x17,x18,rfl,hi⟩
def K0 (Q:QT):KT:=andThen (fun env' h'=>(match kp.find 4000010 with | some ks=>Den pg fn.ntmps (C [1,1,1,1]) (env'.keep ks) h' (KR Q) | none=>den pg fn.ntmps kp (C [1,1,1,1]) env' h' (KR Q))) (KR Q)
def K1 (Q:QT):KT:=Zdg 0 (K0 Q)
def K2 (Q:QT):KT:=left kp 5 (K1 Q)
def K3 (Q:QT) (R5:T5):KT:=rnd ((kp.find 1000005).getD []) (E5 R5) (K2 Q)
def L5 (Q:QT) (i3 o3:Nat) (a6:Pt) (n6 c6:Nat) (e6:Bool) (a16:Pt) (n16 c16:Nat) (e16:Bool) (x17 x18:Int) (h:Zaa):Prop:=Zfb (Den pg fn.ntmps (C [1,1,1,0,1,0,0])) ((kp.find 1000005).getD []) (K2 Q) [(3,.ptr (i3,o3)),(6,.slice a6 n6 c6 e6),(16,.slice a16 n16 c16 e16),(17,.int .i64 x17),(18,.int .i64 x18)] h
def J9 (Q:QT) (R5:T5) (x18 x17:Int) (a16:Pt) (n16 c16:Nat) (e16:Bool) (i3 o3:Nat) (a6:Pt) (n6 c6:Nat) (e6:Bool) (h:Zaa):Prop:=Den pg fn.ntmps (C [1,1,1,0,1,0,0,1,1,1]) [(18,.int .i64 x18),(17,.int .i64 x17),(16,.slice a16 n16 c16 e16),(3,.ptr (i3,o3)),(6,.slice a6 n6 c6 e6)] h (K3 Q R5)
def A5x0 (Q:QT) (a6:Pt) (n6 c6:Nat) (e6:Bool) (h:Zaa):Prop:=At (K1 Q) (.exit 0) [(6,.slice a6 n6 c6 e6)] h
def L5t (Q:QT) (R5:T5) (i3 o3:Nat) (a6:Pt) (n6 c6:Nat) (e6:Bool) (a16:Pt) (n16 c16:Nat) (e16:Bool) (x17 x18:Int) (h:Zaa):Prop:=
 bcase (decide ((x18:Int) < x17)) ((0≤(x18:Int)∧(x18:Int) < (n16:Nat))∧(Zbi a16 fun A B=>Zcb (Zan h (.ptr (A,B + (Int.toNat x18) * 3)) 3) fun A=>Zag A fun A B=>Zbn A fun A=>Zag B fun B C=>Zbn B fun B=>Zag C fun C D=>xSl C fun C E F G=>Zbu D (Zco (h ++ [.cells Zac [.str [],.str [],.slice none 0 0 true] false]) fun D=>Zbx (Zbb D (.ptr (h.length,0)) [.str A,.str B,.slice C E F G]) fun A=>Zbn (Zai A (.ptr (h.length,0 + 0 + 0))) fun B=>Zbn (Zai A (.ptr (i3,o3 + 0))) fun C=>bcase (decide (B=C)) (Zbn (Zai A (.ptr (h.length,0 + 0 + 1))) fun B=>Zbn (Zai A (.ptr (i3,o3 + 1))) fun C=>Zah pg Zmm [.str B,.str C] A fun B C=>
 Zbr B fun B=>bcase (!B) (Zco (C ++ [.cells Zgj [.int .i64 x18] false]) fun B=>Zcz pg Zyr B (.slice a6 n6 c6 e6) (.slice (C.length,0) 1 1 true) fun B D=>xSl B fun B E F G=>J9 Q R5 x18 x17 a16 n16 c16 e16 i3 o3 B E F G D) (J9 Q R5 x18 x17 a16 n16 c16 e16 i3 o3 a6 n6 c6 e6 C)) (J9 Q R5 x18 x17 a16 n16 c16 e16 i3 o3 a6 n6 c6 e6 A)))) (A5x0 Q a6 n6 c6 e6 h)
theorem Zxf (Q:QT) (R5:T5) (i3 o3:Nat) (a6:Pt) (n6 c6:Nat) (e6:Bool) (a16:Pt) (n16 c16:Nat) (e16:Bool) (x17 x18:Int) (h:Zaa) (ht:L5t Q R5 i3 o3 a6 n6 c6 e6 a16 n16 c16 e16 x17 x18 h):Den pg fn.ntmps (C [1,1,1,0,1,0,0]) [(3,.ptr (i3,o3)),(6,.slice a6 n6 c6 e6),(16,.slice a16 n16 c16 e16),(17,.int .i64 x17),(18,.int .i64 x18)] h (K3 Q R5):=
 Zbf (kp:=kp) (cast (by kernel_rfl) ht)
theorem L5ind (Q:QT) (i3 o3:Nat) (a16:Pt) (n16 c16:Nat) (e16:Bool) (x17:Int) {G:Type} (J:G→Pt→Nat→Nat→Bool→Int→Zaa→Prop) (m:G→Nat)
 (hr:∀ (g:G) (a6:Pt) (n6 c6:Nat) (e6:Bool) (x18:Int) (h:Zaa),J g a6 n6 c6 e6 x18 h→∀ (R5:T5),(∀ g' (a6:Pt) (n6 c6:Nat) (e6:Bool) (x18:Int) (h:Zaa),m g' < m g→J g' a6 n6 c6 e6 x18 h→R5 i3 o3 a6 n6 c6 e6 a16 n16 c16 e16 x17 x18 h)→L5t Q R5 i3 o3 a6 n6 c6 e6 a16 n16 c16 e16 x17 x18 h)
 (g:G) (a6:Pt) (n6 c6:Nat) (e6:Bool) (x18:Int) (h:Zaa) (hj:J g a6 n6 c6 e6 x18 h):L5 Q i3 o3 a6 n6 c6 e6 a16 n16 c16 e16 x17 x18 h:=by
 let P:=fun (K:Pt→Nat→Nat→Bool→Int→Zaa→Prop) i3' o3' a6 n6 c6 e6 a16' n16' c16' e16' x17' x18 h=>i3=i3'∧o3=o3'∧a16=a16'∧n16=n16'∧c16=c16'∧e16=e16'∧x17=x17'∧K a6 n6 c6 e6 x18 h
 refine Zfb.inv2 (fun g=>E5 (P (J g))) (fun g=>E5 (P fun a6 n6 c6 e6 x18 h=>∃ g',m g' < m g∧J g' a6 n6 c6 e6 x18 h)) m ?_ ?_ g ⟨rfl,rfl,rfl,rfl,rfl,rfl,rfl,hj⟩
 ·intro g env h hi
  obtain ⟨i3',o3',a6,n6,c6,e6,a16',n16',c16',e16',x17',x18,rfl,rfl,rfl,rfl,rfl,rfl,rfl,rfl,hj⟩:=Zli hi
  exact Zxf Q _ i3 o3 a6 n6 c6 e6 a16 n16 c16 e16 x17 x18 h (hr g a6 n6 c6 e6 x18 h hj (P fun a6 n6 c6 e6 x18 h=>∃ g',m g' < m g∧J g' a6 n6 c6 e6 x18 h) fun g' a6 n6 c6 e6 x18 h hlt hj=>⟨rfl,rfl,rfl,rfl,rfl,rfl,rfl,g',hlt,hj⟩)
 ·intro g env h hi
  obtain ⟨i3',o3',a6,n6,c6,e6,a16',n16',c16',e16',x17',x18,rfl,rfl,rfl,rfl,rfl,rfl,rfl,rfl,g',hlt,hj⟩:=Zli hi
  exact ⟨g',hlt,rfl,rfl,rfl,rfl,rfl,rfl,rfl,hj⟩
theorem J9i (Q:QT) (R5:T5) (x18 x17:Int) (a16:Pt) (n16 c16:Nat) (e16:Bool) (i3 o3:Nat) (a6:Pt) (n6 c6:Nat) (e6:Bool) (h:Zaa) (ht :
 R5 i3 o3 a6 n6 c6 e6 a16 n16 c16 e16 x17 (IntKind.wrap .i64 (x18 + 1)) h):J9 Q R5 x18 x17 a16 n16 c16 e16 i3 o3 a6 n6 c6 e6 h:=
 Zbf (kp:=kp) (cast (by kernel_rfl) ht)
theorem A5x0i (Q:QT) (a6:Pt) (n6 c6:Nat) (e6:Bool) (h:Zaa) (ht :
 Q (.tup [.slice a6 n6 c6 e6,.bool true]) h):A5x0 Q a6 n6 c6 e6 h:=
 At.mk (cast (by kernel_rfl) ht)
theorem call (a0x0:Pt) (n0x0 c0x0:Nat) (e0x0:Bool) (a0x1:Pt) (n0x1 c0x1:Nat) (e0x1:Bool) (x1x0 x1x1:List Nat) (h:Zaa) (Q:QT) (ht :
 Zco (h ++ [.cells Zad [.slice a0x0 n0x0 c0x0 e0x0,.slice a0x1 n0x1 c0x1 e0x1] false]) fun A=>Zco (A ++ [.cells Zae [.str x1x0,.str x1x1] false]) fun B=>Zco (B ++ [.cells Zgj [] false]) fun C=>Zcb (Zan C (.ptr (h.length,0)) 2) fun D=>Zag D fun D E=>xSl D fun D F G H=>Zag E fun E I=>xSl E fun E J K L=>Zbu I (Zcb (Zan C (.ptr (A.length,0)) 2) fun I=>Zag I fun I M=>Zbn I fun I=>Zag M fun M N=>Zbn M fun M=>Zbu N (Zah pg Zdo [.agg [.slice D F G H,.slice E J K L],.agg [.str I,.str M]] C fun C D=>
 Zbr C fun C=>bcase (!C) (Q (.tup [.slice (B.length,0) 0 0 true,.bool false]) D) (xSl (Zai D (.ptr (h.length,0 + 1))) fun C E F G=>L5 Q A.length 0 (B.length,0) 0 0 true C E F G (((E:Nat):Int)) 0 D)))):Zah pg Zmo [.agg [.slice a0x0 n0x0 c0x0 e0x0,.slice a0x1 n0x1 c0x1 e0x1],.agg [.str x1x0,.str x1x1]] h Q:=
 Zah.of_body kp (c:=cod fn) (fn:=fn) Go.Proofs.Tryz.func25 (by kernel_rfl) (by kernel_rfl) (Nat.le_of_ble_eq_true (by kernel_rfl))
  (cast (by kernel_rfl) ht)
end Zfg
end Go.Sim

set_option maxRecDepth 100000
set_option maxHeartbeats 0
set_option linter.unusedVariables false
namespace Go.Sim
open Go Go.RowKit
end Go.Sim

set_option maxRecDepth 100000
set_option maxHeartbeats 0
set_option linter.unusedVariables false
namespace Go.Sim
open Go Go.RowKit
namespace Zga
noncomputable abbrev fn:Func:=Go.Proofs.Tryz.f42
def kp:Zcu:=[(3000006,[7]),(1000006,[6,7,19]),(2000009,[19,6,7]),(4000010,[19,6,7])]
noncomputable def C (p:List Nat):Code:=(cod fn).sub p
def KR (Q:QT):KT:=Zfi pg fn.results.toList Q
abbrev T6:=Nat→Nat→Nat→Nat→Int→Zaa→Prop
def E6 (R6:T6) (env:Env) (h:Zaa):Prop:=Zci 6 env fun v env=>Zfc v fun a=>Zbi a fun i6 o6=>Zci 7 env fun v env=>Zfc v fun a=>Zbi a fun i7 o7=>Zci 19 env fun v env=>Zez .i64 v fun x19=>Zky env (R6 i6 o6 i7 o7 x19 h)
theorem Znc {R6:T6} {env:Env} {h:Zaa} (hi:E6 R6 env h):∃ i6,∃ o6,∃ i7,∃ o7,∃ x19,env=[(6,.ptr (i6,o6)),(7,.ptr (i7,o7)),(19,.int .i64 x19)]∧R6 i6 o6 i7 o7 x19 h:=by
 unfold E6 at hi
 have hi0:=hi
 clear hi
 obtain ⟨_,_,rfl,hi1⟩:=Zal hi0
 obtain ⟨a,rfl,hi2⟩:=Zbo hi1
 obtain ⟨i6,o6,rfl,hi3⟩:=Zbp hi2
 obtain ⟨_,_,rfl,hi4⟩:=Zal hi3
 obtain ⟨a,rfl,hi5⟩:=Zbo hi4
 obtain ⟨i7,o7,rfl,hi6⟩:=Zbp hi5
 obtain ⟨_,_,rfl,hi7⟩:=Zal hi6
 obtain ⟨x19,rfl,hi8⟩:=Zaz hi7
 obtain ⟨rfl,hi9⟩:=Zca hi8
 have hi:=hi9
 exact ⟨i6,o6,i7,o7,x19,rfl,hi⟩
def K0 (Q:QT):KT:=andThen (fun env' h'=>(match kp.find 4000011 with | some ks=>Den pg fn.ntmps (C [1,1,1,1,1]) (env'.keep ks) h' (KR Q) | none=>den pg fn.ntmps kp (C [1,1,1,1,1]) env' h' (KR Q))) (KR Q)
def K1 (Q:QT):KT:=Zdg 0 (K0 Q)
def K2 (Q:QT):KT:=left kp 6 (K1 Q)
def K3 (Q:QT) (R6:T6):KT:=rnd ((kp.find 1000006).getD []) (E6 R6) (K2 Q)
def L6 (Q:QT) (i6 o6 i7 o7:Nat) (x19:Int) (h:Zaa):Prop:=Zfb (Den pg fn.ntmps (C [1,1,1,1,0,1,0,0])) ((kp.find 1000006).getD []) (K2 Q) [(6,.ptr (i6,o6)),(7,.ptr (i7,o7)),(19,.int .i64 x19)] h
def J10 (Q:QT) (R6:T6) (x19:Int) (i6 o6 i7 o7:Nat) (h:Zaa):Prop:=Den pg fn.ntmps (C [1,1,1,1,0,1,0,0,1,1,1]) [(19,.int .i64 x19),(6,.ptr (i6,o6)),(7,.ptr (i7,o7))] h (K3 Q R6)
def Ygl (Q:QT) (i7 o7:Nat) (h:Zaa):Prop:=At (K1 Q) (.exit 0) [(7,.ptr (i7,o7))] h
def L6t (Q:QT) (R6:T6) (i6 o6 i7 o7:Nat) (x19:Int) (h:Zaa):Prop:=
 bcase (decide ((x19:Int) < 12)) ((0≤(x19:Int)∧(x19:Int) < (12:Nat))∧(Zck .u8 (Zai h (.ptr (i6,o6 + (Int.toNat x19) * 2 + 0))) fun A=>bcase (!((A:Int) == 0)) ((0≤(x19:Int)∧(x19:Int) < (12:Nat))∧(Zcb (Zan h (.ptr (i6,o6 + (Int.toNat x19) * 2)) 2) fun A=>Zag A fun A B=>Zck .u8 A fun A=>Zag B fun B C=>xSl B fun B D E F=>Zbu C (Zah pg Zma [.ptr (i6,o6),.agg [.int .u8 A,.slice B D E F]] h fun A B=>
 Zmv A fun A=>Zag A fun A C=>Zck .u8 A fun A=>Zag C fun C D=>xSl C fun C E F G=>Zbu D ((0≤(x19:Int)∧(x19:Int) < (12:Nat))∧(Zbx (Zbb B (.ptr (i7,o7 + (Int.toNat x19) * 2)) [.int .u8 A,.slice C E F G]) fun A=>J10 Q R6 x19 i6 o6 i7 o7 A))))) (J10 Q R6 x19 i6 o6 i7 o7 h))) (Ygl Q i7 o7 h)
theorem Ybc (Q:QT) (R6:T6) (i6 o6 i7 o7:Nat) (x19:Int) (h:Zaa) (ht:L6t Q R6 i6 o6 i7 o7 x19 h):Den pg fn.ntmps (C [1,1,1,1,0,1,0,0]) [(6,.ptr (i6,o6)),(7,.ptr (i7,o7)),(19,.int .i64 x19)] h (K3 Q R6):=
 Zbf (kp:=kp) (cast (by kernel_rfl) ht)
theorem L6ind (Q:QT) (i6 o6 i7 o7:Nat) {G:Type} (J:G→Int→Zaa→Prop) (m:G→Nat)
 (hr:∀ (g:G) (x19:Int) (h:Zaa),J g x19 h→∀ (R6:T6),(∀ g' (x19:Int) (h:Zaa),m g' < m g→J g' x19 h→R6 i6 o6 i7 o7 x19 h)→L6t Q R6 i6 o6 i7 o7 x19 h)
 (g:G) (x19:Int) (h:Zaa) (hj:J g x19 h):L6 Q i6 o6 i7 o7 x19 h:=by
 let P:=fun (K:Int→Zaa→Prop) i6' o6' i7' o7' x19 h=>i6=i6'∧o6=o6'∧i7=i7'∧o7=o7'∧K x19 h
 refine Zfb.inv2 (fun g=>E6 (P (J g))) (fun g=>E6 (P fun x19 h=>∃ g',m g' < m g∧J g' x19 h)) m ?_ ?_ g ⟨rfl,rfl,rfl,rfl,hj⟩
 ·intro g env h hi
  obtain ⟨i6',o6',i7',o7',x19,rfl,rfl,rfl,rfl,rfl,hj⟩:=Znc hi
  exact Ybc Q _ i6 o6 i7 o7 x19 h (hr g x19 h hj (P fun x19 h=>∃ g',m g' < m g∧J g' x19 h) fun g' x19 h hlt hj=>⟨rfl,rfl,rfl,rfl,g',hlt,hj⟩)
 ·intro g env h hi
  obtain ⟨i6',o6',i7',o7',x19,rfl,rfl,rfl,rfl,rfl,g',hlt,hj⟩:=Znc hi
  exact ⟨g',hlt,rfl,rfl,rfl,rfl,hj⟩
theorem J10i (Q:QT) (R6:T6) (x19:Int) (i6 o6 i7 o7:Nat) (h:Zaa) (ht :
 R6 i6 o6 i7 o7 (IntKind.wrap .i64 (x19 + 1)) h):J10 Q R6 x19 i6 o6 i7 o7 h:=
 Zbf (kp:=kp) (cast (by kernel_rfl) ht)
theorem A6x0i (Q:QT) (i7 o7:Nat) (h:Zaa) (ht :
 Q (.tup [.ptr (i7,o7),.bool true]) h):Ygl Q i7 o7 h:=
 At.mk (cast (by kernel_rfl) ht)
theorem call (x0x0:Int) (a0x1:Pt) (n0x1 c0x1:Nat) (e0x1:Bool) (x1x0:Int) (a1x1:Pt) (n1x1 c1x1:Nat) (e1x1:Bool) (h:Zaa) (Q:QT) (ht :
 Zco (h ++ [.cells Zab [.int .u8 x0x0,.slice a0x1 n0x1 c0x1 e0x1] false]) fun A=>Zco (A ++ [.cells Zab [.int .u8 x1x0,.slice a1x1 n1x1 c1x1 e1x1] false]) fun B=>Zco (B ++ [.cells Zcj [.int .u8 0,.slice none 0 0 true,.int .u8 0,.slice none 0 0 true,.int .u8 0,.slice none 0 0 true,.int .u8 0,.slice none 0 0 true,.int .u8 0,.slice none 0 0 true,.int .u8 0,.slice none 0 0 true,.int .u8 0,.slice none 0 0 true,.int .u8 0,.slice none 0 0 true,.int .u8 0,.slice none 0 0 true,.int .u8 0,.slice none 0 0 true,.int .u8 0,.slice none 0 0 true,.int .u8 0,.slice none 0 0 true] false]) fun C=>Zcb (Zan C (.ptr (h.length,0)) 2) fun D=>Zag D fun D E=>Zck .u8 D fun D=>Zag E fun E F=>xSl E fun E G H I=>Zbu F (Zcb (Zan C (.ptr (A.length,0)) 2) fun A=>Zag A fun A F=>Zck .u8 A fun A=>Zag F fun F J=>xSl F fun F K L M=>Zbu J (Zah pg Zdn [.ptr (B.length,0),.agg [.int .u8 D,.slice E G H I],.agg [.int .u8 A,.slice F K L M]] C fun A C=>
 Zbr A fun A=>bcase (!A) (Q (.tup [.ptr (B.length,0),.bool false]) C) (Zco (C ++ [.cells Zcj [.int .u8 0,.slice none 0 0 true,.int .u8 0,.slice none 0 0 true,.int .u8 0,.slice none 0 0 true,.int .u8 0,.slice none 0 0 true,.int .u8 0,.slice none 0 0 true,.int .u8 0,.slice none 0 0 true,.int .u8 0,.slice none 0 0 true,.int .u8 0,.slice none 0 0 true,.int .u8 0,.slice none 0 0 true,.int .u8 0,.slice none 0 0 true,.int .u8 0,.slice none 0 0 true,.int .u8 0,.slice none 0 0 true] false]) fun A=>L6 Q B.length 0 C.length 0 0 A)))):Zah pg Znr [.agg [.int .u8 x0x0,.slice a0x1 n0x1 c0x1 e0x1],.agg [.int .u8 x1x0,.slice a1x1 n1x1 c1x1 e1x1]] h Q:=
 Zah.of_body kp (c:=cod fn) (fn:=fn) Go.Proofs.Tryz.func42 (by kernel_rfl) (by kernel_rfl) (Nat.le_of_ble_eq_true (by kernel_rfl))
  (cast (by kernel_rfl) ht)
end Zga
namespace Zms
noncomputable abbrev fn:Func:=Go.Proofs.Tryz.f63
def kp:Zcu:=[(4000005,[5,7]),(2000005,[10])]
noncomputable def C (p:List Nat):Code:=(cod fn).sub p
def KR (Q:QT):KT:=Zfi pg fn.results.toList Q
def J5 (Q:QT) (i5 o5 i7 o7:Nat) (h:Zaa):Prop:=Den pg fn.ntmps (C [1,1,1,1]) [(5,.ptr (i5,o5)),(7,.ptr (i7,o7))] h (KR Q)
theorem J5i (Q:QT) (i5 o5 i7 o7:Nat) (h:Zaa) (ht :
 Zcb (Zan h (.ptr (i5,o5)) 2) fun A=>Zag A fun A B=>Zck .u8 A fun A=>Zag B fun B C=>xSl B fun B D E F=>Zbu C (Zcb (Zan h (.ptr (i7,o7)) 2) fun C=>Zag C fun C G=>Zck .u8 C fun C=>Zag G fun G H=>xSl G fun G I J K=>Zbu H ((Zan h (.ptr (i5,o5)) 2=Zan h (.ptr (i5,o5)) 2)∧Zah pg Zjn [.agg [.int .u8 C,.slice G I J K]] h fun C G=>
 Zmv C fun C=>Zag C fun C H=>Zck .u8 C fun C=>Zag H fun H I=>xSl H fun H J K L=>Zbu I ((Zan G (.ptr (i5,o5)) 2=Zan h (.ptr (i5,o5)) 2)∧Zah pg Znr [.agg [.int .u8 A,.slice B D E F],.agg [.int .u8 C,.slice H J K L]] G fun A B=>
 Zru A fun A=>Zag A fun A C=>Zfc A fun A=>Zag C fun A C=>Zbr A fun A=>Zbu C (Q (.bool (!A)) B))))):J5 Q i5 o5 i7 o7 h:=
 Zbf (kp:=kp) (cast (by kernel_rfl) ht)
theorem call (x0 x1:List Nat) (h:Zaa) (Q:QT) (ht :
 Zah pg Zfn [.str x0] h fun A B=>
 Zru A fun A=>Zag A fun A C=>Zmv A fun A=>Zag A fun A D=>Zck .u8 A fun A=>Zag D fun D E=>xSl D fun D F G H=>Zbu E (Zag C fun C E=>Zbr C fun C=>Zbu E (Zco (B ++ [.cells Zab [.int .u8 0,.slice none 0 0 true] false]) fun E=>Zbx (Zbb E (.ptr (B.length,0)) [.int .u8 A,.slice D F G H]) fun A=>Zah pg Zfn [.str x1] A fun A D=>
 Zru A fun A=>Zag A fun A E=>Zmv A fun A=>Zag A fun A F=>Zck .u8 A fun A=>Zag F fun F G=>xSl F fun F H I J=>Zbu G (Zag E fun E G=>Zbr E fun E=>Zbu G (Zco (D ++ [.cells Zab [.int .u8 0,.slice none 0 0 true] false]) fun G=>Zbx (Zbb G (.ptr (D.length,0)) [.int .u8 A,.slice F H I J]) fun A=>bcase (!C) (Q (.bool false) A) (bcase (!E) (Q (.bool false) A) (J5 Q B.length 0 D.length 0 A))))))):Zah pg Zmm [.str x0,.str x1] h Q:=
 Zah.of_body kp (c:=cod fn) (fn:=fn) Go.Proofs.Tryz.func63 (by kernel_rfl) (by kernel_rfl) (Nat.le_of_ble_eq_true (by kernel_rfl))
  (cast (by kernel_rfl) ht)
end Zms
end Go.Sim
