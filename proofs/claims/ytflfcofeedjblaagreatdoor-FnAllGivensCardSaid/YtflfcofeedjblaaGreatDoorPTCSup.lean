/- A part of the proof of a statement of this seat: see the text that holds the theorem. No condition. -/
import Derived.Test.YtflfcofeedjblaaGreatDoorNm
set_option linter.unusedVariables false
set_option linter.unusedSimpArgs false
set_option linter.all false
set_option maxRecDepth 100000
set_option maxHeartbeats 0
set_option linter.unusedVariables false
namespace Go.Sim
open Go Go.RowKit
namespace Znw
noncomputable abbrev fn:Func:=Go.Proofs.Tryz.f117
def kp:Zch:=[]
noncomputable def C (p:List Nat):Code:=(cod fn).sub p
def KR (Q:QT):KT:=Zfd pg fn.results.toList Q
theorem call (x0x0 x0x1:List Nat) (a0x2:Pt) (n0x2 c0x2:Nat) (e0x2:Bool) (h:Zaa) (Q:QT) (ht :
 Zcf (h ++ [.cells Zad [.str x0x0,.str x0x1,.slice a0x2 n0x2 c0x2 e0x2] false]) fun A=>Zcf (A ++ [.cells Zad [.str [],.str [],.slice none 0 0 true] false]) fun B=>Zcf (B ++ [.cells Zab [] false]) fun C=>xSl (Zag C (.ptr (h.length,0 + 2))) fun D E F G=>Zci pg Zbo C (.slice (B.length,0) 0 0 true) (.slice D E F G) fun B C=>xSl B fun B D E F=>Zbt (Zbb C (.ptr (h.length,0 + 2)) [.slice B D E F]) fun B=>Zcd (Zbe B (.ptr (h.length,0)) 3) fun C=>Zai C fun C D=>Zbd C fun C=>Zai D fun D E=>Zbd D fun D=>Zai E fun E F=>xSl E fun E G H I=>Zbq F (Zbt (Zbb B (.ptr (A.length,0)) [.str C,.str D,.slice E G H I]) fun B=>Zcd (Zbe B (.ptr (A.length,0)) 3) fun A=>Zai A fun A C=>Zbd A fun A=>Zai C fun C D=>Zbd C fun C=>Zai D fun D E=>xSl D fun D F G H=>Zbq E (Q (.agg [.str A,.str C,.slice D F G H]) B))):Zak pg Zjj [.agg [.str x0x0,.str x0x1,.slice a0x2 n0x2 c0x2 e0x2]] h Q:=
 Zak.of_body kp (c:=cod fn) (fn:=fn) Go.Proofs.Tryz.func117 (by kernel_rfl) (by kernel_rfl) (Nat.le_of_ble_eq_true (by kernel_rfl))
  (cast (by kernel_rfl) ht)
end Znw
namespace Zfk
noncomputable abbrev fn:Func:=Go.Proofs.Tryz.f81
def kp:Zch:=[(3000003,[3]),(1000003,[3,7,8,9])]
noncomputable def C (p:List Nat):Code:=(cod fn).sub p
def KR (Q:QT):KT:=Zfd pg fn.results.toList Q
abbrev T3:=Pt→Nat→Nat→Bool→Pt→Nat→Nat→Bool→Int→Int→Zaa→Prop
def E3 (R3:T3) (env:Env) (h:Zaa):Prop:=Zbu 3 env fun v env=>xSl v fun a3 n3 c3 e3=>Zbu 7 env fun v env=>xSl v fun a7 n7 c7 e7=>Zbu 8 env fun v env=>Zdz .i64 v fun x8=>Zbu 9 env fun v env=>Zdz .i64 v fun x9=>Zil env (R3 a3 n3 c3 e3 a7 n7 c7 e7 x8 x9 h)
theorem Zgd {R3:T3} {env:Env} {h:Zaa} (hi:E3 R3 env h):∃ a3,∃ n3,∃ c3,∃ e3,∃ a7,∃ n7,∃ c7,∃ e7,∃ x8,∃ x9,env=[(3,.slice a3 n3 c3 e3),(7,.slice a7 n7 c7 e7),(8,.int .i64 x8),(9,.int .i64 x9)]∧R3 a3 n3 c3 e3 a7 n7 c7 e7 x8 x9 h:=by
 unfold E3 at hi
 repeat ((first | (have k:=Zaf hi; clear hi; obtain ⟨_,_,e,hi⟩:=k) | (have k:=Zav hi; clear hi; obtain ⟨_,e,hi⟩:=k) | (have k:=Zbp hi; clear hi; obtain ⟨_,_,_,_,e,hi⟩:=k)); subst e)
 obtain ⟨rfl,hi⟩:=Zbl hi
 exact ⟨_,_,_,_,_,_,_,_,_,_,rfl,hi⟩
def K0 (Q:QT):KT:=andThen (fun env' h'=>(match kp.find 4000007 with | some ks=>Den pg fn.ntmps (C [1,1,1]) (env'.keep ks) h' (KR Q) | none=>den pg fn.ntmps kp (C [1,1,1]) env' h' (KR Q))) (KR Q)
def K1 (Q:QT):KT:=Zcj 0 (K0 Q)
def K2 (Q:QT):KT:=left kp 3 (K1 Q)
def K3 (Q:QT) (R3:T3):KT:=rnd ((kp.find 1000003).getD []) (E3 R3) (K2 Q)
def L3 (Q:QT) (a3:Pt) (n3 c3:Nat) (e3:Bool) (a7:Pt) (n7 c7:Nat) (e7:Bool) (x8 x9:Int) (h:Zaa):Prop:=Zej (Den pg fn.ntmps (C [1,1,0,1,0,0])) ((kp.find 1000003).getD []) (K2 Q) [(3,.slice a3 n3 c3 e3),(7,.slice a7 n7 c7 e7),(8,.int .i64 x8),(9,.int .i64 x9)] h
def Ztf (Q:QT) (a3:Pt) (n3 c3:Nat) (e3:Bool) (h:Zaa):Prop:=At (K1 Q) (.exit 0) [(3,.slice a3 n3 c3 e3)] h
def L3t (Q:QT) (R3:T3) (a3:Pt) (n3 c3:Nat) (e3:Bool) (a7:Pt) (n7 c7:Nat) (e7:Bool) (x8 x9:Int) (h:Zaa):Prop:=
 bcase (decide ((x9:Int) < x8)) ((0≤(x9:Int)∧(x9:Int) < (n7:Nat))∧(Zbf a7 fun A B=>Zcd (Zbe h (.ptr (A,B + (Int.toNat x9) * 3)) 3) fun A=>Zai A fun A B=>Zbd A fun A=>Zai B fun B C=>Zbd B fun B=>Zai C fun C D=>xSl C fun C E F G=>Zbq D (Zcf (h ++ [.cells Zad [.str [],.str [],.slice none 0 0 true] false]) fun D=>Zbt (Zbb D (.ptr (h.length,0)) [.str A,.str B,.slice C E F G]) fun A=>Zcd (Zbe A (.ptr (h.length,0)) 3) fun B=>Zai B fun B C=>Zbd B fun B=>Zai C fun C D=>Zbd C fun C=>Zai D fun D E=>xSl D fun D F G H=>Zbq E (Zak pg Zjj [.agg [.str B,.str C,.slice D F G H]] A fun A B=>
 Zqi A fun A=>Zai A fun A C=>Zbd A fun A=>Zai C fun C D=>Zbd C fun C=>Zai D fun D E=>xSl D fun D F G H=>Zbq E (Zcf (B ++ [.cells Zad [.str A,.str C,.slice D F G H] false]) fun A=>Zci pg Zfq A (.slice a3 n3 c3 e3) (.slice (B.length,0) 1 1 true) fun A B=>xSl A fun A C D E=>R3 A C D E a7 n7 c7 e7 x8 (IntKind.wrap .i64 (x9 + 1)) B))))) (Ztf Q a3 n3 c3 e3 h)
theorem Zoe (Q:QT) (R3:T3) (a3:Pt) (n3 c3:Nat) (e3:Bool) (a7:Pt) (n7 c7:Nat) (e7:Bool) (x8 x9:Int) (h:Zaa) (ht:L3t Q R3 a3 n3 c3 e3 a7 n7 c7 e7 x8 x9 h):Den pg fn.ntmps (C [1,1,0,1,0,0]) [(3,.slice a3 n3 c3 e3),(7,.slice a7 n7 c7 e7),(8,.int .i64 x8),(9,.int .i64 x9)] h (K3 Q R3):=
 Zba (kp:=kp) (cast (by kernel_rfl) ht)
theorem L3ind (Q:QT) (a7:Pt) (n7 c7:Nat) (e7:Bool) (x8:Int) {G:Type} (J:G→Pt→Nat→Nat→Bool→Int→Zaa→Prop) (m:G→Nat)
 (hr:∀ (g:G) (a3:Pt) (n3 c3:Nat) (e3:Bool) (x9:Int) (h:Zaa),J g a3 n3 c3 e3 x9 h→∀ (R3:T3),(∀ g' (a3:Pt) (n3 c3:Nat) (e3:Bool) (x9:Int) (h:Zaa),m g' < m g→J g' a3 n3 c3 e3 x9 h→R3 a3 n3 c3 e3 a7 n7 c7 e7 x8 x9 h)→L3t Q R3 a3 n3 c3 e3 a7 n7 c7 e7 x8 x9 h)
 (g:G) (a3:Pt) (n3 c3:Nat) (e3:Bool) (x9:Int) (h:Zaa) (hj:J g a3 n3 c3 e3 x9 h):L3 Q a3 n3 c3 e3 a7 n7 c7 e7 x8 x9 h:=by
 let P:=fun (K:Pt→Nat→Nat→Bool→Int→Zaa→Prop) a3 n3 c3 e3 a7' n7' c7' e7' x8' x9 h=>a7=a7'∧n7=n7'∧c7=c7'∧e7=e7'∧x8=x8'∧K a3 n3 c3 e3 x9 h
 refine Zej.inv2 (fun g=>E3 (P (J g))) (fun g=>E3 (P fun a3 n3 c3 e3 x9 h=>∃ g',m g' < m g∧J g' a3 n3 c3 e3 x9 h)) m ?_ ?_ g ⟨rfl,rfl,rfl,rfl,rfl,hj⟩
 ·intro g env h hi
  obtain ⟨a3,n3,c3,e3,a7',n7',c7',e7',x8',x9,rfl,rfl,rfl,rfl,rfl,rfl,hj⟩:=Zgd hi
  exact Zoe Q _ a3 n3 c3 e3 a7 n7 c7 e7 x8 x9 h (hr g a3 n3 c3 e3 x9 h hj (P fun a3 n3 c3 e3 x9 h=>∃ g',m g' < m g∧J g' a3 n3 c3 e3 x9 h) fun g' a3 n3 c3 e3 x9 h hlt hj=>⟨rfl,rfl,rfl,rfl,rfl,g',hlt,hj⟩)
 ·intro g env h hi
  obtain ⟨a3,n3,c3,e3,a7',n7',c7',e7',x8',x9,rfl,rfl,rfl,rfl,rfl,rfl,g',hlt,hj⟩:=Zgd hi
  exact ⟨g',hlt,rfl,rfl,rfl,rfl,rfl,hj⟩
theorem A3x0i (Q:QT) (a3:Pt) (n3 c3:Nat) (e3:Bool) (h:Zaa) (ht :
 Q (.slice a3 n3 c3 e3) h):Ztf Q a3 n3 c3 e3 h:=
 At.mk (cast (by kernel_rfl) ht)
theorem call (a0:Pt) (n0 c0:Nat) (e0:Bool) (h:Zaa) (Q:QT) (ht :
 Zcf (h ++ [.cells Zad [] false]) fun A=>L3 Q (h.length,0) 0 0 true a0 n0 c0 e0 (((n0:Nat):Int)) 0 A):Zak pg Zhw [.slice a0 n0 c0 e0] h Q:=
 Zak.of_body kp (c:=cod fn) (fn:=fn) Go.Proofs.Tryz.func81 (by kernel_rfl) (by kernel_rfl) (Nat.le_of_ble_eq_true (by kernel_rfl))
  (cast (by kernel_rfl) ht)
end Zfk
namespace Zqn
noncomputable abbrev fn:Func:=Go.Proofs.Tryz.f48
def kp:Zch:=[]
noncomputable def C (p:List Nat):Code:=(cod fn).sub p
def KR (Q:QT):KT:=Zfd pg fn.results.toList Q
theorem call (a0x0:Pt) (n0x0 c0x0:Nat) (e0x0:Bool) (a0x1:Pt) (n0x1 c0x1:Nat) (e0x1:Bool) (h:Zaa) (Q:QT) (ht :
 Zcf (h ++ [.cells Zac [.slice a0x0 n0x0 c0x0 e0x0,.slice a0x1 n0x1 c0x1 e0x1] false]) fun A=>Zcf (A ++ [.cells Zac [.slice none 0 0 true,.slice none 0 0 true] false]) fun B=>Zcf (B ++ [.cells Zbj [] false]) fun C=>xSl (Zag C (.ptr (h.length,0 + 0))) fun D E F G=>Zci pg Zkx C (.slice (B.length,0) 0 0 true) (.slice D E F G) fun B C=>xSl B fun B D E F=>Zbt (Zbb C (.ptr (h.length,0 + 0)) [.slice B D E F]) fun B=>xSl (Zag B (.ptr (h.length,0 + 1))) fun C D E F=>Zak pg Zhw [.slice C D E F] B fun B C=>
 xSl B fun B D E F=>Zbt (Zbb C (.ptr (h.length,0 + 1)) [.slice B D E F]) fun B=>Zcd (Zbe B (.ptr (h.length,0)) 2) fun C=>Zai C fun C D=>xSl C fun C E F G=>Zai D fun D H=>xSl D fun D I J K=>Zbq H (Zbt (Zbb B (.ptr (A.length,0)) [.slice C E F G,.slice D I J K]) fun B=>Zcd (Zbe B (.ptr (A.length,0)) 2) fun A=>Zai A fun A C=>xSl A fun A D E F=>Zai C fun C G=>xSl C fun C H I J=>Zbq G (Q (.agg [.slice A D E F,.slice C H I J]) B))):Zak pg Zjh [.agg [.slice a0x0 n0x0 c0x0 e0x0,.slice a0x1 n0x1 c0x1 e0x1]] h Q:=
 Zak.of_body kp (c:=cod fn) (fn:=fn) Go.Proofs.Tryz.func48 (by kernel_rfl) (by kernel_rfl) (Nat.le_of_ble_eq_true (by kernel_rfl))
  (cast (by kernel_rfl) ht)
end Zqn
end Go.Sim

set_option maxRecDepth 100000
set_option maxHeartbeats 0
set_option linter.unusedVariables false
namespace Go.Sim
open Go Go.RowKit
namespace Zhe
noncomputable abbrev fn:Func:=Go.Proofs.Tryz.f104
def kp:Zch:=[]
noncomputable def C (p:List Nat):Code:=(cod fn).sub p
def KR (Q:QT):KT:=Zfd pg fn.results.toList Q
theorem call (a0:Pt) (n0 c0:Nat) (e0:Bool) (h:Zaa) (Q:QT) (ht :
 (a0=none→e0=true)∧(bcase (Option.isNone a0) (Q (.slice none 0 0 true) h) (Zcf (h ++ [.cells Zab [] false]) fun A=>Zci pg Zbo A (.slice (h.length,0) 0 0 true) (.slice a0 n0 c0 e0) fun A B=>xSl A fun A C D E=>Q (.slice A C D E) B))):Zak pg Zdl [.slice a0 n0 c0 e0] h Q:=
 Zak.of_body kp (c:=cod fn) (fn:=fn) Go.Proofs.Tryz.func104 (by kernel_rfl) (by kernel_rfl) (Nat.le_of_ble_eq_true (by kernel_rfl))
  (cast (by kernel_rfl) ht)
end Zhe
namespace Znb
noncomputable abbrev fn:Func:=Go.Proofs.Tryz.f103
def kp:Zch:=[(2000001,[0])]
noncomputable def C (p:List Nat):Code:=(cod fn).sub p
def KR (Q:QT):KT:=Zfd pg fn.results.toList Q
theorem call (x0:List Nat) (v1 v2 v3:Zay) (h:Zaa) (Q:QT) (ht :
 Zgn (Zag h (v3)) fun A=>Zgn (Zag h (v3)) fun B=>Zcd (Zbe h (v1) 2) fun C=>Zai C fun C D=>Zbd C fun C=>Zai D fun D E=>Zbd D fun D=>Zbq E (xSl (Zag h (v2)) fun E F G H=>(Zbe h (v1) 2=Zbe h (v1) 2)∧(Zag h (v3)=Zag h (v3))∧(Zag h (v3)=Zag h (v3))∧Zak pg Zdl [.slice E F G H] h fun E F=>
 xSl E fun E G H I=>(Zbe F (v1) 2=Zbe h (v1) 2)∧(Zag F (v3)=Zag h (v3))∧(Zag F (v3)=Zag h (v3))∧Zbf A fun A J=>Zbt (Zbb F (.ptr (A,J + 5)) [.str C,.str D]) fun A=>(Zag A (v3)=Zag F (v3))∧Zbf B fun B C=>Zbt (Zbb A (.ptr (B,C + 7)) [.slice E G H I]) fun A=>Q (.tup [.str [],.str x0]) A)):Zak pg Zde [.str x0,v1,v2,v3] h Q:=
 Zak.of_body kp (c:=cod fn) (fn:=fn) Go.Proofs.Tryz.func103 (by kernel_rfl) (by kernel_rfl) (Nat.le_of_ble_eq_true (by kernel_rfl))
  (cast (by kernel_rfl) ht)
end Znb
namespace Zcz
noncomputable abbrev fn:Func:=Go.Proofs.Tryz.f68
def kp:Zch:=[(2000001,[9,8,4,5,3]),(2000007,[5,10,3,4]),(2000010,[11,10,3,4,5]),(4000018,[3,12,4,10,5]),(2000018,[14,10,12,5,4,13,3]),(2000022,[13,3,15,16]),(3000024,[13,15,6,7]),(1000024,[3,13,15,16,126,127,128]),(4000032,[15,21,19,128,127,126,3,16,13]),(4000033,[128,127,126,3,16,15,13]),(4000036,[15])]
noncomputable def C (p:List Nat):Code:=(cod fn).sub p
def KR (Q:QT):KT:=Zfd pg fn.results.toList Q
abbrev T24:=Nat→Nat→Pt→Nat→Nat→Bool→List Nat→Pt→Nat→Nat→Bool→Pt→Nat→Nat→Bool→Int→Int→Zaa→Prop
def E24 (R24:T24) (env:Env) (h:Zaa):Prop:=Zbu 3 env fun v env=>Zgn v fun a=>Zbf a fun i3 o3=>Zbu 13 env fun v env=>xSl v fun a13 n13 c13 e13=>Zbu 15 env fun v env=>Zbd v fun x15=>Zbu 16 env fun v env=>xSl v fun a16 n16 c16 e16=>Zbu 126 env fun v env=>xSl v fun a126 n126 c126 e126=>Zbu 127 env fun v env=>Zdz .i64 v fun x127=>Zbu 128 env fun v env=>Zdz .i64 v fun x128=>Zil env (R24 i3 o3 a13 n13 c13 e13 x15 a16 n16 c16 e16 a126 n126 c126 e126 x127 x128 h)
theorem Ysq {R24:T24} {env:Env} {h:Zaa} (hi:E24 R24 env h):∃ i3,∃ o3,∃ a13,∃ n13,∃ c13,∃ e13,∃ x15,∃ a16,∃ n16,∃ c16,∃ e16,∃ a126,∃ n126,∃ c126,∃ e126,∃ x127,∃ x128,env=[(3,.ptr (i3,o3)),(13,.slice a13 n13 c13 e13),(15,.str x15),(16,.slice a16 n16 c16 e16),(126,.slice a126 n126 c126 e126),(127,.int .i64 x127),(128,.int .i64 x128)]∧R24 i3 o3 a13 n13 c13 e13 x15 a16 n16 c16 e16 a126 n126 c126 e126 x127 x128 h:=by
 unfold E24 at hi
 have hi0:=hi
 clear hi
 obtain ⟨_,_,rfl,hi1⟩:=Zaf hi0
 obtain ⟨a,rfl,hi2⟩:=Zbn hi1
 obtain ⟨i3,o3,rfl,hi3⟩:=Zbk hi2
 obtain ⟨_,_,rfl,hi4⟩:=Zaf hi3
 obtain ⟨a13,n13,c13,e13,rfl,hi5⟩:=Zbp hi4
 obtain ⟨_,_,rfl,hi6⟩:=Zaf hi5
 obtain ⟨x15,rfl,hi7⟩:=Zed hi6
 obtain ⟨_,_,rfl,hi8⟩:=Zaf hi7
 obtain ⟨a16,n16,c16,e16,rfl,hi9⟩:=Zbp hi8
 obtain ⟨_,_,rfl,hi10⟩:=Zaf hi9
 obtain ⟨a126,n126,c126,e126,rfl,hi11⟩:=Zbp hi10
 obtain ⟨_,_,rfl,hi12⟩:=Zaf hi11
 obtain ⟨x127,rfl,hi13⟩:=Zav hi12
 obtain ⟨_,_,rfl,hi14⟩:=Zaf hi13
 obtain ⟨x128,rfl,hi15⟩:=Zav hi14
 obtain ⟨rfl,hi16⟩:=Zbl hi15
 have hi:=hi16
 exact ⟨i3,o3,a13,n13,c13,e13,x15,a16,n16,c16,e16,a126,n126,c126,e126,x127,x128,rfl,hi⟩
def K0 (Q:QT):KT:=andThen (fun env' h'=>(match kp.find 4000034 with | some ks=>Den pg fn.ntmps (C [1,1,1,1,1,1,1,1,1,1,1,1,1,1,1]) (env'.keep ks) h' (KR Q) | none=>den pg fn.ntmps kp (C [1,1,1,1,1,1,1,1,1,1,1,1,1,1,1]) env' h' (KR Q))) (KR Q)
def K1 (Q:QT):KT:=Zcj 0 (K0 Q)
def K2 (Q:QT):KT:=left kp 24 (K1 Q)
def K3 (Q:QT) (R24:T24):KT:=rnd ((kp.find 1000024).getD []) (E24 R24) (K2 Q)
def K4 (Q:QT) (R24:T24):KT:=andThen (fun env' h'=>(match kp.find 4000033 with | some ks=>Den pg fn.ntmps (C [1,1,1,1,1,1,1,1,1,1,1,1,1,1,0,1,0,0,1,1,1]) (env'.keep ks) h' (K3 Q R24) | none=>den pg fn.ntmps kp (C [1,1,1,1,1,1,1,1,1,1,1,1,1,1,0,1,0,0,1,1,1]) env' h' (K3 Q R24))) (K3 Q R24)
def K5 (Q:QT) (R24:T24):KT:=Zcj 1 (K4 Q R24)
def J18 (Q:QT) (i3 o3:Nat) (x12:Int) (i4 o4 i10x0 o10x0 i10x1 o10x1 i10x2 o10x2 i5 o5:Nat) (h:Zaa):Prop:=Den pg fn.ntmps (C [1,1,1,1,1,1,1,1,1,1]) [(3,.ptr (i3,o3)),(12,.int .i64 x12),(4,.ptr (i4,o4)),(10,.fn Zde [.ptr (i10x0,o10x0),.ptr (i10x1,o10x1),.ptr (i10x2,o10x2)]),(5,.ptr (i5,o5))] h (KR Q)
def L24 (Q:QT) (i3 o3:Nat) (a13:Pt) (n13 c13:Nat) (e13:Bool) (x15:List Nat) (a16:Pt) (n16 c16:Nat) (e16:Bool) (a126:Pt) (n126 c126:Nat) (e126:Bool) (x127 x128:Int) (h:Zaa):Prop:=Zej (Den pg fn.ntmps (C [1,1,1,1,1,1,1,1,1,1,1,1,1,1,0,1,0,0])) ((kp.find 1000024).getD []) (K2 Q) [(3,.ptr (i3,o3)),(13,.slice a13 n13 c13 e13),(15,.str x15),(16,.slice a16 n16 c16 e16),(126,.slice a126 n126 c126 e126),(127,.int .i64 x127),(128,.int .i64 x128)] h
def J32 (Q:QT) (R24:T24) (x15 x21 x19:List Nat) (x128 x127:Int) (a126:Pt) (n126 c126:Nat) (e126:Bool) (i3 o3:Nat) (a16:Pt) (n16 c16:Nat) (e16:Bool) (a13:Pt) (n13 c13:Nat) (e13:Bool) (h:Zaa):Prop:=Den pg fn.ntmps (C [1,1,1,1,1,1,1,1,1,1,1,1,1,1,0,1,0,0,1,1,0,0,1,1,1,1,1]) [(15,.str x15),(21,.str x21),(19,.str x19),(128,.int .i64 x128),(127,.int .i64 x127),(126,.slice a126 n126 c126 e126),(3,.ptr (i3,o3)),(16,.slice a16 n16 c16 e16),(13,.slice a13 n13 c13 e13)] h (K5 Q R24)
def Yzs (Q:QT) (a13:Pt) (n13 c13:Nat) (e13:Bool) (x15:List Nat) (h:Zaa):Prop:=At (K1 Q) (.exit 0) [(13,.slice a13 n13 c13 e13),(15,.str x15),(6,.undef),(7,.undef)] h
def J33 (Q:QT) (R24:T24) (x128 x127:Int) (a126:Pt) (n126 c126:Nat) (e126:Bool) (i3 o3:Nat) (a16:Pt) (n16 c16:Nat) (e16:Bool) (x15:List Nat) (a13:Pt) (n13 c13:Nat) (e13:Bool) (h:Zaa):Prop:=Den pg fn.ntmps (C [1,1,1,1,1,1,1,1,1,1,1,1,1,1,0,1,0,0,1,1,1]) [(128,.int .i64 x128),(127,.int .i64 x127),(126,.slice a126 n126 c126 e126),(3,.ptr (i3,o3)),(16,.slice a16 n16 c16 e16),(15,.str x15),(13,.slice a13 n13 c13 e13)] h (K3 Q R24)
def J36 (Q:QT) (x15:List Nat) (h:Zaa):Prop:=Den pg fn.ntmps (C [1,1,1,1,1,1,1,1,1,1,1,1,1,1,1,1]) [(15,.str x15)] h (KR Q)
theorem J18i (Q:QT) (i3 o3:Nat) (x12:Int) (i4 o4 i10x0 o10x0 i10x1 o10x1 i10x2 o10x2 i5 o5:Nat) (h:Zaa) (ht :
 Zgn (Zag h (.ptr (i3,o3))) fun A=>Zbf A fun A B=>xSl (Zag h (.ptr (A,B + 0 + 1))) fun C D E E=>(0≤(x12:Int)∧(x12:Int) < (D:Nat))∧(Zbf C fun C D=>Zcd (Zbe h (.ptr (C,D + (Int.toNat x12) * 3)) 3) fun E=>Zai E fun E F=>Zbd E fun E=>Zai F fun F G=>Zbd F fun F=>Zai G fun G H=>xSl G fun G I J K=>Zbq H (Zbd (Zag h (.ptr (i4,o4 + 1))) fun H=>(Zbe h (.ptr (C,D + (Int.toNat x12) * 3)) 3=Zbe h (.ptr (C,D + (Int.toNat x12) * 3)) 3)∧(Zag h (.ptr (A,B + 0 + 1))=Zag h (.ptr (A,B + 0 + 1)))∧(Zag h (.ptr (i3,o3))=Zag h (.ptr (i3,o3)))∧Zak pg Zjr [.agg [.str E,.str F,.slice G I J K],.str H] h fun C D=>
 Zlf C fun C=>Zai C fun C E=>xSl C fun C F G H=>Zai E fun E I=>Zca E fun E=>Zbq I ((Zag D (.ptr (A,B + 0 + 1))=Zag h (.ptr (A,B + 0 + 1)))∧(Zag D (.ptr (i3,o3))=Zag h (.ptr (i3,o3)))∧bcase (!E) (Zak pg Zde [.str ([98,105,103]),.ptr (i10x0,o10x0),.ptr (i10x1,o10x1),.ptr (i10x2,o10x2)] D fun A B=>
 Zlf A fun A=>Zai A fun A E=>Zbd A fun A=>Zai E fun E I=>Zbd E fun E=>Zbq I (Q (.tup [.str A,.str E]) B)) (Zak pg Zvt [.int .i64 x12] D fun A B=>
 Zbd A fun A=>xSl (Zag B (.ptr (i5,o5))) fun D E I J=>Zcd (Zbe B (.ptr (i4,o4)) 2) fun K=>Zai K fun K L=>Zbd K fun K=>Zai L fun L M=>Zbd L fun L=>Zbq M ((Zak pg Zdl [.slice D E I J] B fun M N=>
 xSl M fun M O P R=>(Zbe N (.ptr (i4,o4)) 2=Zbe B (.ptr (i4,o4)) 2)∧Zcf (N ++ [.cells Zab [.str K,.str L] false]) fun S=>(Zag S (.ptr (i5,o5))=Zag N (.ptr (i5,o5)))∧Zci pg Zbo S (.slice M O P R) (.slice (N.length,0) 1 1 true) fun M N=>xSl M fun M O P R=>(Zbe N (.ptr (i4,o4)) 2=Zbe S (.ptr (i4,o4)) 2)∧(Zag N (.ptr (i5,o5))=Zag S (.ptr (i5,o5)))∧L24 Q i3 o3 C F G H A M O P R C F G H (((F:Nat):Int)) 0 N)∧(Zcf (B ++ [.cells Zab [.str K,.str L] false]) fun K=>(Zag K (.ptr (i5,o5))=Zag B (.ptr (i5,o5)))∧Zak pg Zdl [.slice D E I J] K fun D E=>
 xSl D fun D I J L=>(Zbe E (.ptr (i4,o4)) 2=Zbe K (.ptr (i4,o4)) 2)∧Zci pg Zbo E (.slice D I J L) (.slice (B.length,0) 1 1 true) fun B D=>xSl B fun B I J K=>(Zbe D (.ptr (i4,o4)) 2=Zbe E (.ptr (i4,o4)) 2)∧(Zag D (.ptr (i5,o5))=Zag E (.ptr (i5,o5)))∧L24 Q i3 o3 C F G H A B I J K C F G H (((F:Nat):Int)) 0 D))))))):J18 Q i3 o3 x12 i4 o4 i10x0 o10x0 i10x1 o10x1 i10x2 o10x2 i5 o5 h:=
 Zba (kp:=kp) (cast (by kernel_rfl) ht)
def L24t (Q:QT) (R24:T24) (i3 o3:Nat) (a13:Pt) (n13 c13:Nat) (e13:Bool) (x15:List Nat) (a16:Pt) (n16 c16:Nat) (e16:Bool) (a126:Pt) (n126 c126:Nat) (e126:Bool) (x127 x128:Int) (h:Zaa):Prop:=
 bcase (decide ((x128:Int) < x127)) ((0≤(x128:Int)∧(x128:Int) < (n126:Nat))∧(Zbf a126 fun A B=>Zcd (Zbe h (.ptr (A,B + (Int.toNat x128) * 2)) 2) fun A=>Zai A fun A B=>Zbd A fun A=>Zai B fun B C=>Zbd B fun B=>Zbq C (Zcf (h ++ [.cells Zab [.str [],.str []] false]) fun C=>Zbt (Zbb C (.ptr (h.length,0)) [.str A,.str B]) fun A=>Zgn (Zag A (.ptr (i3,o3))) fun B=>Zcd (Zbe A (.ptr (h.length,0)) 2) fun C=>Zai C fun C D=>Zbd C fun C=>Zai D fun D E=>Zbd D fun D=>Zbq E (Zak pg Zid [.ptr B,.agg [.str C,.str D],.slice a16 n16 c16 e16] A fun A B=>
 Zlf A fun A=>Zai A fun A C=>Zbd A fun A=>Zai C fun C D=>Zbd C fun C=>Zbq D (bcase (!(decide (C=[]))) (Q (.tup [.str [],.str C]) B) (bcase ((x128:Int) == 0) (J32 Q R24 x15 [40] A x128 x127 a126 n126 c126 e126 i3 o3 a16 n16 c16 e16 a13 n13 c13 e13 B) (J32 Q R24 x15 [44] A x128 x127 a126 n126 c126 e126 i3 o3 a16 n16 c16 e16 a13 n13 c13 e13 B))))))) (Yzs Q a13 n13 c13 e13 x15 h)
theorem Yzq (Q:QT) (R24:T24) (i3 o3:Nat) (a13:Pt) (n13 c13:Nat) (e13:Bool) (x15:List Nat) (a16:Pt) (n16 c16:Nat) (e16:Bool) (a126:Pt) (n126 c126:Nat) (e126:Bool) (x127 x128:Int) (h:Zaa) (ht:L24t Q R24 i3 o3 a13 n13 c13 e13 x15 a16 n16 c16 e16 a126 n126 c126 e126 x127 x128 h):Den pg fn.ntmps (C [1,1,1,1,1,1,1,1,1,1,1,1,1,1,0,1,0,0]) [(3,.ptr (i3,o3)),(13,.slice a13 n13 c13 e13),(15,.str x15),(16,.slice a16 n16 c16 e16),(126,.slice a126 n126 c126 e126),(127,.int .i64 x127),(128,.int .i64 x128)] h (K3 Q R24):=
 Zba (kp:=kp) (cast (by kernel_rfl) ht)
theorem L24ind (Q:QT) (i3 o3:Nat) (a13:Pt) (n13 c13:Nat) (e13:Bool) (a16:Pt) (n16 c16:Nat) (e16:Bool) (a126:Pt) (n126 c126:Nat) (e126:Bool) (x127:Int) {G:Type} (J:G→List Nat→Int→Zaa→Prop) (m:G→Nat)
 (hr:∀ (g:G) (x15:List Nat) (x128:Int) (h:Zaa),J g x15 x128 h→∀ (R24:T24),(∀ g' (x15:List Nat) (x128:Int) (h:Zaa),m g' < m g→J g' x15 x128 h→R24 i3 o3 a13 n13 c13 e13 x15 a16 n16 c16 e16 a126 n126 c126 e126 x127 x128 h)→L24t Q R24 i3 o3 a13 n13 c13 e13 x15 a16 n16 c16 e16 a126 n126 c126 e126 x127 x128 h)
 (g:G) (x15:List Nat) (x128:Int) (h:Zaa) (hj:J g x15 x128 h):L24 Q i3 o3 a13 n13 c13 e13 x15 a16 n16 c16 e16 a126 n126 c126 e126 x127 x128 h:=by
 let P:=fun (K:List Nat→Int→Zaa→Prop) i3' o3' a13' n13' c13' e13' x15 a16' n16' c16' e16' a126' n126' c126' e126' x127' x128 h=>i3=i3'∧o3=o3'∧a13=a13'∧n13=n13'∧c13=c13'∧e13=e13'∧a16=a16'∧n16=n16'∧c16=c16'∧e16=e16'∧a126=a126'∧n126=n126'∧c126=c126'∧e126=e126'∧x127=x127'∧K x15 x128 h
 refine Zej.inv2 (fun g=>E24 (P (J g))) (fun g=>E24 (P fun x15 x128 h=>∃ g',m g' < m g∧J g' x15 x128 h)) m ?_ ?_ g ⟨rfl,rfl,rfl,rfl,rfl,rfl,rfl,rfl,rfl,rfl,rfl,rfl,rfl,rfl,rfl,hj⟩
 ·intro g env h hi
  obtain ⟨i3',o3',a13',n13',c13',e13',x15,a16',n16',c16',e16',a126',n126',c126',e126',x127',x128,rfl,rfl,rfl,rfl,rfl,rfl,rfl,rfl,rfl,rfl,rfl,rfl,rfl,rfl,rfl,rfl,hj⟩:=Ysq hi
  exact Yzq Q _ i3 o3 a13 n13 c13 e13 x15 a16 n16 c16 e16 a126 n126 c126 e126 x127 x128 h (hr g x15 x128 h hj (P fun x15 x128 h=>∃ g',m g' < m g∧J g' x15 x128 h) fun g' x15 x128 h hlt hj=>⟨rfl,rfl,rfl,rfl,rfl,rfl,rfl,rfl,rfl,rfl,rfl,rfl,rfl,rfl,rfl,g',hlt,hj⟩)
 ·intro g env h hi
  obtain ⟨i3',o3',a13',n13',c13',e13',x15,a16',n16',c16',e16',a126',n126',c126',e126',x127',x128,rfl,rfl,rfl,rfl,rfl,rfl,rfl,rfl,rfl,rfl,rfl,rfl,rfl,rfl,rfl,rfl,g',hlt,hj⟩:=Ysq hi
  exact ⟨g',hlt,rfl,rfl,rfl,rfl,rfl,rfl,rfl,rfl,rfl,rfl,rfl,rfl,rfl,rfl,rfl,hj⟩
theorem J32i (Q:QT) (R24:T24) (x15 x21 x19:List Nat) (x128 x127:Int) (a126:Pt) (n126 c126:Nat) (e126:Bool) (i3 o3:Nat) (a16:Pt) (n16 c16:Nat) (e16:Bool) (a13:Pt) (n13 c13:Nat) (e13:Bool) (h:Zaa) (ht :
 List.length x21 + List.length x19≤9223372036854775807∧(List.length x15 + List.length (x21 ++ x19)≤9223372036854775807∧(J33 Q R24 x128 x127 a126 n126 c126 e126 i3 o3 a16 n16 c16 e16 (x15 ++ (x21 ++ x19)) a13 n13 c13 e13 h))):J32 Q R24 x15 x21 x19 x128 x127 a126 n126 c126 e126 i3 o3 a16 n16 c16 e16 a13 n13 c13 e13 h:=
 Zba (kp:=kp) (cast (by kernel_rfl) ht)
theorem A24x0i (Q:QT) (a13:Pt) (n13 c13:Nat) (e13:Bool) (x15:List Nat) (h:Zaa) (ht :
 bcase (decide (((((n13:Nat):Int)):Int) > 0)) (List.length x15 + List.length [41]≤9223372036854775807∧(J36 Q (x15 ++ [41]) h)) (J36 Q x15 h)):Yzs Q a13 n13 c13 e13 x15 h:=
 At.mk (cast (by kernel_rfl) ht)
theorem J33i (Q:QT) (R24:T24) (x128 x127:Int) (a126:Pt) (n126 c126:Nat) (e126:Bool) (i3 o3:Nat) (a16:Pt) (n16 c16:Nat) (e16:Bool) (x15:List Nat) (a13:Pt) (n13 c13:Nat) (e13:Bool) (h:Zaa) (ht :
 R24 i3 o3 a13 n13 c13 e13 x15 a16 n16 c16 e16 a126 n126 c126 e126 x127 (IntKind.wrap .i64 (x128 + 1)) h):J33 Q R24 x128 x127 a126 n126 c126 e126 i3 o3 a16 n16 c16 e16 x15 a13 n13 c13 e13 h:=
 Zba (kp:=kp) (cast (by kernel_rfl) ht)
theorem J36i (Q:QT) (x15:List Nat) (h:Zaa) (ht :
 Q (.tup [.str x15,.str []]) h):J36 Q x15 h:=
 Zba (kp:=kp) (cast (by kernel_rfl) ht)
theorem call (a0:Pt) (x1x0 x1x1:List Nat) (a2:Pt) (n2 c2:Nat) (e2:Bool) (h:Zaa) (Q:QT) (ht :
 Zcf (h ++ [.cells Zfv [.ptr a0] false]) fun A=>Zcf (A ++ [.cells Zab [.str x1x0,.str x1x1] false]) fun B=>Zcf (B ++ [.cells Zbo [.slice a2 n2 c2 e2] false]) fun C=>Zgn (Zag C (.ptr (h.length,0))) fun D=>Zbf D fun D E=>Ycx (Zag C (.ptr (D,E + 3))) fun F=>Zcd (Zbe C (.ptr (A.length,0)) 2) fun G=>Zai G fun G H=>Zbd G fun G=>Zai H fun H I=>Zbd H fun H=>Zbq I ((Zag C (.ptr (D,E + 3))=Zag C (.ptr (D,E + 3)))∧(Zag C (.ptr (h.length,0))=Zag C (.ptr (h.length,0)))∧Yyx F fun D E=>Zak pg D ([.agg [.str G,.str H]] ++ E) C fun D E=>
 Zlf D fun D=>Zai D fun D F=>Zbd D fun D=>Zai F fun F G=>Zca F fun F=>Zbq G ((Zag E (.ptr (h.length,0))=Zag C (.ptr (h.length,0)))∧bcase F (Q (.tup [.str D,.str []]) E) (Zgn (Zag E (.ptr (h.length,0))) fun C=>Zbf C fun C D=>xSl (Zag E (.ptr (C,D + 4))) fun C C D D=>bcase (decide (((((C:Nat):Int)):Int) ≥ 300)) (Zak pg Zde [.str ([108,111,110,103]),.ptr (A.length,0),.ptr (B.length,0),.ptr (h.length,0)] E fun C D=>
 Zlf C fun C=>Zai C fun C F=>Zbd C fun C=>Zai F fun F G=>Zbd F fun F=>Zbq G (Q (.tup [.str C,.str F]) D)) (Zgn (Zag E (.ptr (h.length,0))) fun C=>Zgn (Zag E (.ptr (h.length,0))) fun D=>Zbf D fun D F=>xSl (Zag E (.ptr (D,F + 4))) fun G H I J=>Zcd (Zbe E (.ptr (A.length,0)) 2) fun K=>Zai K fun K L=>Zbd K fun K=>Zai L fun L M=>Zbd L fun L=>Zbq M ((Zag E (.ptr (D,F + 4))=Zag E (.ptr (D,F + 4)))∧(Zag E (.ptr (h.length,0))=Zag E (.ptr (h.length,0)))∧(Zag E (.ptr (h.length,0))=Zag E (.ptr (h.length,0)))∧Zcf (E ++ [.cells Zab [.str K,.str L] false]) fun K=>(Zag K (.ptr (D,F + 4))=Zag E (.ptr (D,F + 4)))∧(Zag K (.ptr (h.length,0))=Zag E (.ptr (h.length,0)))∧(Zag K (.ptr (h.length,0))=Zag E (.ptr (h.length,0)))∧Zci pg Zbo K (.slice G H I J) (.slice (E.length,0) 1 1 true) fun D E=>xSl D fun D F G H=>(Zag E (.ptr (h.length,0))=Zag K (.ptr (h.length,0)))∧(Zag E (.ptr (h.length,0))=Zag K (.ptr (h.length,0)))∧Zbf C fun C I=>Zbt (Zbb E (.ptr (C,I + 4)) [.slice D F G H]) fun C=>xSl (Zag C (.ptr (B.length,0))) fun D D E E=>bcase (decide (((((D:Nat):Int)):Int) > 30)) (Zak pg Zde [.str ([100,101,101,112]),.ptr (A.length,0),.ptr (B.length,0),.ptr (h.length,0)] C fun D E=>
 Zlf D fun D=>Zai D fun D F=>Zbd D fun D=>Zai F fun F G=>Zbd F fun F=>Zbq G (Q (.tup [.str D,.str F]) E)) (Zgn (Zag C (.ptr (h.length,0))) fun D=>Zbf D fun D E=>Zcd (Zbe C (.ptr (D,E + 0)) 2) fun F=>Zai F fun F G=>xSl F fun F H I J=>Zai G fun G K=>xSl G fun G L M N=>Zbq K (Zcd (Zbe C (.ptr (A.length,0)) 2) fun K=>Zai K fun K O=>Zbd K fun K=>Zai O fun O P=>Zbd O fun O=>Zbq P ((Zbe C (.ptr (D,E + 0)) 2=Zbe C (.ptr (D,E + 0)) 2)∧(Zag C (.ptr (h.length,0))=Zag C (.ptr (h.length,0)))∧Zak pg Znl [.agg [.slice F H I J,.slice G L M N],.agg [.str K,.str O]] C fun D E=>
 xSl D fun D F G H=>(Zag E (.ptr (h.length,0))=Zag C (.ptr (h.length,0)))∧bcase ((((F:Nat):Int):Int) == 0) (Zak pg Zde [.str ([110,111,110,101]),.ptr (A.length,0),.ptr (B.length,0),.ptr (h.length,0)] E fun C I=>
 Zlf C fun C=>Zai C fun C J=>Zbd C fun C=>Zai J fun J K=>Zbd J fun J=>Zbq K (Q (.tup [.str C,.str J]) I)) ((0≤(0:Int)∧(0:Int) < (F:Nat))∧(Zbf D fun C I=>Zec .i64 (Zag E (.ptr (C,I + (Int.toNat 0) * 1))) fun C=>bcase (decide (((((F:Nat):Int)):Int) > 1)) (Zgn (Zag E (.ptr (h.length,0))) fun I=>Zbf I fun I J=>Zcd (Zbe E (.ptr (I,J + 0)) 2) fun I=>Zai I fun I J=>xSl I fun I K L M=>Zai J fun J N=>xSl J fun J O P R=>Zbq N (Zak pg Zms [.agg [.slice I K L M,.slice J O P R],.slice D F G H] E fun D F=>
 Zec .i64 D fun D=>Zgn (Zag F (.ptr (h.length,0))) fun G=>Zbf G fun G H=>Zca (Zag F (.ptr (G,H + 2))) fun G=>bcase (!G) (Zak pg Zde [.str ([109,97,110,121]),.ptr (A.length,0),.ptr (B.length,0),.ptr (h.length,0)] F fun G H=>
 Zlf G fun G=>Zai G fun G I=>Zbd G fun G=>Zai I fun I J=>Zbd I fun I=>Zbq J (Q (.tup [.str G,.str I]) H)) (bcase (decide ((D:Int) < 0)) (Zak pg Zde [.str ([109,97,110,121]),.ptr (A.length,0),.ptr (B.length,0),.ptr (h.length,0)] F fun G H=>
 Zlf G fun G=>Zai G fun G I=>Zbd G fun G=>Zai I fun I J=>Zbd I fun I=>Zbq J (Q (.tup [.str G,.str I]) H)) (J18 Q h.length 0 D A.length 0 A.length 0 B.length 0 h.length 0 B.length 0 F)))) (J18 Q h.length 0 C A.length 0 A.length 0 B.length 0 h.length 0 B.length 0 E)))))))))))):Zak pg Zid [.ptr a0,.agg [.str x1x0,.str x1x1],.slice a2 n2 c2 e2] h Q:=
 Zak.of_body kp (c:=cod fn) (fn:=fn) Go.Proofs.Tryz.func68 (by kernel_rfl) (by kernel_rfl) (Nat.le_of_ble_eq_true (by kernel_rfl))
  (cast (by kernel_rfl) ht)
end Zcz
namespace Zos
noncomputable abbrev fn:Func:=Go.Proofs.Tryz.f74
def kp:Zch:=[]
noncomputable def C (p:List Nat):Code:=(cod fn).sub p
def KR (Q:QT):KT:=Zfd pg fn.results.toList Q
theorem call (x0x0 x0x1:List Nat) (h:Zaa) (Q:QT) (ht :
 Zcf (h ++ [.cells Zab [.str x0x0,.str x0x1] false]) fun A=>Q (.tup [.str [],.bool false]) A):Zak pg Zdh [.agg [.str x0x0,.str x0x1]] h Q:=
 Zak.of_body kp (c:=cod fn) (fn:=fn) Go.Proofs.Tryz.func74 (by kernel_rfl) (by kernel_rfl) (Nat.le_of_ble_eq_true (by kernel_rfl))
  (cast (by kernel_rfl) ht)
end Zos
end Go.Sim

set_option maxRecDepth 100000
set_option maxHeartbeats 0
set_option linter.unusedVariables false
namespace Go.Sim
open Go Go.RowKit
namespace Zdk
noncomputable abbrev fn:Func:=Go.Proofs.Tryz.f85
def kp:Zch:=[(3000002,[4]),(1000002,[0,3,7,8]),(2000004,[16,5,8,7,3,0])]
noncomputable def C (p:List Nat):Code:=(cod fn).sub p
def KR (Q:QT):KT:=Zfd pg fn.results.toList Q
abbrev T2:=Pt→Nat→Nat→Bool→Nat→Nat→Int→Int→Zaa→Prop
def E2 (R2:T2) (env:Env) (h:Zaa):Prop:=Zbu 0 env fun v env=>xSl v fun a0 n0 c0 e0=>Zbu 3 env fun v env=>Zgn v fun a=>Zbf a fun i3 o3=>Zbu 7 env fun v env=>Zdz .i64 v fun x7=>Zbu 8 env fun v env=>Zdz .i64 v fun x8=>Zil env (R2 a0 n0 c0 e0 i3 o3 x7 x8 h)
theorem Zea {R2:T2} {env:Env} {h:Zaa} (hi:E2 R2 env h):∃ a0,∃ n0,∃ c0,∃ e0,∃ i3,∃ o3,∃ x7,∃ x8,env=[(0,.slice a0 n0 c0 e0),(3,.ptr (i3,o3)),(7,.int .i64 x7),(8,.int .i64 x8)]∧R2 a0 n0 c0 e0 i3 o3 x7 x8 h:=by
 unfold E2 at hi
 have hi0:=hi
 clear hi
 obtain ⟨_,_,rfl,hi1⟩:=Zaf hi0
 obtain ⟨a0,n0,c0,e0,rfl,hi2⟩:=Zbp hi1
 obtain ⟨_,_,rfl,hi3⟩:=Zaf hi2
 obtain ⟨a,rfl,hi4⟩:=Zbn hi3
 obtain ⟨i3,o3,rfl,hi5⟩:=Zbk hi4
 obtain ⟨_,_,rfl,hi6⟩:=Zaf hi5
 obtain ⟨x7,rfl,hi7⟩:=Zav hi6
 obtain ⟨_,_,rfl,hi8⟩:=Zaf hi7
 obtain ⟨x8,rfl,hi9⟩:=Zav hi8
 obtain ⟨rfl,hi10⟩:=Zbl hi9
 have hi:=hi10
 exact ⟨a0,n0,c0,e0,i3,o3,x7,x8,rfl,hi⟩
def K0 (Q:QT):KT:=andThen (fun env' h'=>(match kp.find 4000007 with | some ks=>Den pg fn.ntmps (C [1,1]) (env'.keep ks) h' (KR Q) | none=>den pg fn.ntmps kp (C [1,1]) env' h' (KR Q))) (KR Q)
def K1 (Q:QT):KT:=Zcj 0 (K0 Q)
def K2 (Q:QT):KT:=left kp 2 (K1 Q)
def K3 (Q:QT) (R2:T2):KT:=rnd ((kp.find 1000002).getD []) (E2 R2) (K2 Q)
def L2 (Q:QT) (a0:Pt) (n0 c0:Nat) (e0:Bool) (i3 o3:Nat) (x7 x8:Int) (h:Zaa):Prop:=Zej (Den pg fn.ntmps (C [1,0,1,0,0])) ((kp.find 1000002).getD []) (K2 Q) [(0,.slice a0 n0 c0 e0),(3,.ptr (i3,o3)),(7,.int .i64 x7),(8,.int .i64 x8)] h
def Zmz (Q:QT) (h:Zaa):Prop:=At (K1 Q) (.exit 0) [(4,.undef)] h
def L2t (Q:QT) (R2:T2) (a0:Pt) (n0 c0:Nat) (e0:Bool) (i3 o3:Nat) (x7 x8:Int) (h:Zaa):Prop:=
 bcase (decide ((x8:Int) < x7)) ((0≤(x8:Int)∧(x8:Int) < (n0:Nat))∧(Zbf a0 fun A B=>Zcd (Zbe h (.ptr (i3,o3)) 2) fun C=>Zai C fun C D=>Zbd C fun C=>Zai D fun D E=>Zbd D fun D=>Zbq E (Zcd (Zbe h (.ptr (A,B + (Int.toNat x8) * 2)) 2) fun A=>Zai A fun A B=>Zbd A fun A=>Zai B fun B E=>Zbd B fun B=>Zbq E ((Zbe h (.ptr (i3,o3)) 2=Zbe h (.ptr (i3,o3)) 2)∧bcase ((decide (C=A)) && (decide (D=B))) (Q (.int .i64 x8) h) (R2 a0 n0 c0 e0 i3 o3 x7 (IntKind.wrap .i64 (x8 + 1)) h))))) (Zmz Q h)
theorem Zjc (Q:QT) (R2:T2) (a0:Pt) (n0 c0:Nat) (e0:Bool) (i3 o3:Nat) (x7 x8:Int) (h:Zaa) (ht:L2t Q R2 a0 n0 c0 e0 i3 o3 x7 x8 h):Den pg fn.ntmps (C [1,0,1,0,0]) [(0,.slice a0 n0 c0 e0),(3,.ptr (i3,o3)),(7,.int .i64 x7),(8,.int .i64 x8)] h (K3 Q R2):=
 Zba (kp:=kp) (cast (by kernel_rfl) ht)
theorem L2ind (Q:QT) (a0:Pt) (n0 c0:Nat) (e0:Bool) (i3 o3:Nat) (x7:Int) {G:Type} (J:G→Int→Zaa→Prop) (m:G→Nat)
 (hr:∀ (g:G) (x8:Int) (h:Zaa),J g x8 h→∀ (R2:T2),(∀ g' (x8:Int) (h:Zaa),m g' < m g→J g' x8 h→R2 a0 n0 c0 e0 i3 o3 x7 x8 h)→L2t Q R2 a0 n0 c0 e0 i3 o3 x7 x8 h)
 (g:G) (x8:Int) (h:Zaa) (hj:J g x8 h):L2 Q a0 n0 c0 e0 i3 o3 x7 x8 h:=by
 let P:=fun (K:Int→Zaa→Prop) a0' n0' c0' e0' i3' o3' x7' x8 h=>a0=a0'∧n0=n0'∧c0=c0'∧e0=e0'∧i3=i3'∧o3=o3'∧x7=x7'∧K x8 h
 refine Zej.inv2 (fun g=>E2 (P (J g))) (fun g=>E2 (P fun x8 h=>∃ g',m g' < m g∧J g' x8 h)) m ?_ ?_ g ⟨rfl,rfl,rfl,rfl,rfl,rfl,rfl,hj⟩
 ·intro g env h hi
  obtain ⟨a0',n0',c0',e0',i3',o3',x7',x8,rfl,rfl,rfl,rfl,rfl,rfl,rfl,rfl,hj⟩:=Zea hi
  exact Zjc Q _ a0 n0 c0 e0 i3 o3 x7 x8 h (hr g x8 h hj (P fun x8 h=>∃ g',m g' < m g∧J g' x8 h) fun g' x8 h hlt hj=>⟨rfl,rfl,rfl,rfl,rfl,rfl,rfl,g',hlt,hj⟩)
 ·intro g env h hi
  obtain ⟨a0',n0',c0',e0',i3',o3',x7',x8,rfl,rfl,rfl,rfl,rfl,rfl,rfl,rfl,g',hlt,hj⟩:=Zea hi
  exact ⟨g',hlt,rfl,rfl,rfl,rfl,rfl,rfl,rfl,hj⟩
theorem A2x0i (Q:QT) (h:Zaa) (ht :
 Q (.int .i64 (-1)) h):Zmz Q h:=
 At.mk (cast (by kernel_rfl) ht)
theorem call (a0:Pt) (n0 c0:Nat) (e0:Bool) (x1x0 x1x1:List Nat) (h:Zaa) (Q:QT) (ht :
 Zcf (h ++ [.cells Zab [.str x1x0,.str x1x1] false]) fun A=>L2 Q a0 n0 c0 e0 h.length 0 (((n0:Nat):Int)) 0 A):Zak pg Zeg [.slice a0 n0 c0 e0,.agg [.str x1x0,.str x1x1]] h Q:=
 Zak.of_body kp (c:=cod fn) (fn:=fn) Go.Proofs.Tryz.func85 (by kernel_rfl) (by kernel_rfl) (Nat.le_of_ble_eq_true (by kernel_rfl))
  (cast (by kernel_rfl) ht)
end Zdk
namespace Zgs
noncomputable abbrev fn:Func:=Go.Proofs.Tryz.f51
def kp:Zch:=[]
noncomputable def C (p:List Nat):Code:=(cod fn).sub p
def KR (Q:QT):KT:=Zfd pg fn.results.toList Q
theorem call (a0:Pt) (n0 c0:Nat) (e0:Bool) (x1x0 x1x1:List Nat) (h:Zaa) (Q:QT) (ht :
 Zcf (h ++ [.cells Zab [.str x1x0,.str x1x1] false]) fun A=>Zcd (Zbe A (.ptr (h.length,0)) 2) fun B=>Zai B fun B C=>Zbd B fun B=>Zai C fun C D=>Zbd C fun C=>Zbq D (Zak pg Zeg [.slice a0 n0 c0 e0,.agg [.str B,.str C]] A fun A B=>
 Zec .i64 A fun A=>Q (.bool (decide ((A:Int) ≥ 0))) B)):Zak pg Zev [.slice a0 n0 c0 e0,.agg [.str x1x0,.str x1x1]] h Q:=
 Zak.of_body kp (c:=cod fn) (fn:=fn) Go.Proofs.Tryz.func51 (by kernel_rfl) (by kernel_rfl) (Nat.le_of_ble_eq_true (by kernel_rfl))
  (cast (by kernel_rfl) ht)
end Zgs
namespace Zps
noncomputable abbrev fn:Func:=Go.Proofs.Tryz.f32
def kp:Zch:=[(3000002,[4]),(1000002,[3,7,8,9])]
noncomputable def C (p:List Nat):Code:=(cod fn).sub p
def KR (Q:QT):KT:=Zfd pg fn.results.toList Q
abbrev T2:=Nat→Nat→Pt→Nat→Nat→Bool→Int→Int→Zaa→Prop
def E2 (R2:T2) (env:Env) (h:Zaa):Prop:=Zbu 3 env fun v env=>Zgn v fun a=>Zbf a fun i3 o3=>Zbu 7 env fun v env=>xSl v fun a7 n7 c7 e7=>Zbu 8 env fun v env=>Zdz .i64 v fun x8=>Zbu 9 env fun v env=>Zdz .i64 v fun x9=>Zil env (R2 i3 o3 a7 n7 c7 e7 x8 x9 h)
theorem Zea {R2:T2} {env:Env} {h:Zaa} (hi:E2 R2 env h):∃ i3,∃ o3,∃ a7,∃ n7,∃ c7,∃ e7,∃ x8,∃ x9,env=[(3,.ptr (i3,o3)),(7,.slice a7 n7 c7 e7),(8,.int .i64 x8),(9,.int .i64 x9)]∧R2 i3 o3 a7 n7 c7 e7 x8 x9 h:=by
 unfold E2 at hi
 have hi0:=hi
 clear hi
 obtain ⟨_,_,rfl,hi1⟩:=Zaf hi0
 obtain ⟨a,rfl,hi2⟩:=Zbn hi1
 obtain ⟨i3,o3,rfl,hi3⟩:=Zbk hi2
 obtain ⟨_,_,rfl,hi4⟩:=Zaf hi3
 obtain ⟨a7,n7,c7,e7,rfl,hi5⟩:=Zbp hi4
 obtain ⟨_,_,rfl,hi6⟩:=Zaf hi5
 obtain ⟨x8,rfl,hi7⟩:=Zav hi6
 obtain ⟨_,_,rfl,hi8⟩:=Zaf hi7
 obtain ⟨x9,rfl,hi9⟩:=Zav hi8
 obtain ⟨rfl,hi10⟩:=Zbl hi9
 have hi:=hi10
 exact ⟨i3,o3,a7,n7,c7,e7,x8,x9,rfl,hi⟩
def K0 (Q:QT):KT:=andThen (fun env' h'=>(match kp.find 4000007 with | some ks=>Den pg fn.ntmps (C [1,1]) (env'.keep ks) h' (KR Q) | none=>den pg fn.ntmps kp (C [1,1]) env' h' (KR Q))) (KR Q)
def K1 (Q:QT):KT:=Zcj 0 (K0 Q)
def K2 (Q:QT):KT:=left kp 2 (K1 Q)
def K3 (Q:QT) (R2:T2):KT:=rnd ((kp.find 1000002).getD []) (E2 R2) (K2 Q)
def L2 (Q:QT) (i3 o3:Nat) (a7:Pt) (n7 c7:Nat) (e7:Bool) (x8 x9:Int) (h:Zaa):Prop:=Zej (Den pg fn.ntmps (C [1,0,1,0,0])) ((kp.find 1000002).getD []) (K2 Q) [(3,.ptr (i3,o3)),(7,.slice a7 n7 c7 e7),(8,.int .i64 x8),(9,.int .i64 x9)] h
def Zmz (Q:QT) (h:Zaa):Prop:=At (K1 Q) (.exit 0) [(4,.undef)] h
def L2t (Q:QT) (R2:T2) (i3 o3:Nat) (a7:Pt) (n7 c7:Nat) (e7:Bool) (x8 x9:Int) (h:Zaa):Prop:=
 bcase (decide ((x9:Int) < x8)) ((0≤(x9:Int)∧(x9:Int) < (n7:Nat))∧(Zbf a7 fun A B=>Zcd (Zbe h (.ptr (A,B + (Int.toNat x9) * 2)) 2) fun A=>Zai A fun A B=>Zbd A fun A=>Zai B fun B C=>Zbd B fun B=>Zbq C (Zcf (h ++ [.cells Zab [.str [],.str []] false]) fun C=>Zbt (Zbb C (.ptr (h.length,0)) [.str A,.str B]) fun A=>Zcd (Zbe A (.ptr (h.length,0)) 2) fun B=>Zai B fun B C=>Zbd B fun B=>Zai C fun C D=>Zbd C fun C=>Zbq D (Zcd (Zbe A (.ptr (i3,o3)) 2) fun D=>Zai D fun D E=>Zbd D fun D=>Zai E fun E F=>Zbd E fun E=>Zbq F (bcase ((decide (B=D)) && (decide (C=E))) (Q (.bool true) A) (R2 i3 o3 a7 n7 c7 e7 x8 (IntKind.wrap .i64 (x9 + 1)) A)))))) (Zmz Q h)
theorem Zjc (Q:QT) (R2:T2) (i3 o3:Nat) (a7:Pt) (n7 c7:Nat) (e7:Bool) (x8 x9:Int) (h:Zaa) (ht:L2t Q R2 i3 o3 a7 n7 c7 e7 x8 x9 h):Den pg fn.ntmps (C [1,0,1,0,0]) [(3,.ptr (i3,o3)),(7,.slice a7 n7 c7 e7),(8,.int .i64 x8),(9,.int .i64 x9)] h (K3 Q R2):=
 Zba (kp:=kp) (cast (by kernel_rfl) ht)
theorem L2ind (Q:QT) (i3 o3:Nat) (a7:Pt) (n7 c7:Nat) (e7:Bool) (x8:Int) {G:Type} (J:G→Int→Zaa→Prop) (m:G→Nat)
 (hr:∀ (g:G) (x9:Int) (h:Zaa),J g x9 h→∀ (R2:T2),(∀ g' (x9:Int) (h:Zaa),m g' < m g→J g' x9 h→R2 i3 o3 a7 n7 c7 e7 x8 x9 h)→L2t Q R2 i3 o3 a7 n7 c7 e7 x8 x9 h)
 (g:G) (x9:Int) (h:Zaa) (hj:J g x9 h):L2 Q i3 o3 a7 n7 c7 e7 x8 x9 h:=by
 let P:=fun (K:Int→Zaa→Prop) i3' o3' a7' n7' c7' e7' x8' x9 h=>i3=i3'∧o3=o3'∧a7=a7'∧n7=n7'∧c7=c7'∧e7=e7'∧x8=x8'∧K x9 h
 refine Zej.inv2 (fun g=>E2 (P (J g))) (fun g=>E2 (P fun x9 h=>∃ g',m g' < m g∧J g' x9 h)) m ?_ ?_ g ⟨rfl,rfl,rfl,rfl,rfl,rfl,rfl,hj⟩
 ·intro g env h hi
  obtain ⟨i3',o3',a7',n7',c7',e7',x8',x9,rfl,rfl,rfl,rfl,rfl,rfl,rfl,rfl,hj⟩:=Zea hi
  exact Zjc Q _ i3 o3 a7 n7 c7 e7 x8 x9 h (hr g x9 h hj (P fun x9 h=>∃ g',m g' < m g∧J g' x9 h) fun g' x9 h hlt hj=>⟨rfl,rfl,rfl,rfl,rfl,rfl,rfl,g',hlt,hj⟩)
 ·intro g env h hi
  obtain ⟨i3',o3',a7',n7',c7',e7',x8',x9,rfl,rfl,rfl,rfl,rfl,rfl,rfl,rfl,g',hlt,hj⟩:=Zea hi
  exact ⟨g',hlt,rfl,rfl,rfl,rfl,rfl,rfl,rfl,hj⟩
theorem A2x0i (Q:QT) (h:Zaa) (ht :
 Q (.bool false) h):Zmz Q h:=
 At.mk (cast (by kernel_rfl) ht)
theorem call (a0:Pt) (n0 c0:Nat) (e0:Bool) (x1x0 x1x1:List Nat) (h:Zaa) (Q:QT) (ht :
 Zcf (h ++ [.cells Zab [.str x1x0,.str x1x1] false]) fun A=>L2 Q h.length 0 a0 n0 c0 e0 (((n0:Nat):Int)) 0 A):Zak pg Zwe [.slice a0 n0 c0 e0,.agg [.str x1x0,.str x1x1]] h Q:=
 Zak.of_body kp (c:=cod fn) (fn:=fn) Go.Proofs.Tryz.func32 (by kernel_rfl) (by kernel_rfl) (Nat.le_of_ble_eq_true (by kernel_rfl))
  (cast (by kernel_rfl) ht)
end Zps
namespace Zls
noncomputable abbrev fn:Func:=Go.Proofs.Tryz.f29
def kp:Zch:=[(3000002,[0]),(1000002,[0,7,8,9]),(4000006,[9,8,7,0])]
noncomputable def C (p:List Nat):Code:=(cod fn).sub p
def KR (Q:QT):KT:=Zfd pg fn.results.toList Q
abbrev T2:=Pt→Nat→Nat→Bool→Pt→Nat→Nat→Bool→Int→Int→Zaa→Prop
def E2 (R2:T2) (env:Env) (h:Zaa):Prop:=Zbu 0 env fun v env=>xSl v fun a0 n0 c0 e0=>Zbu 7 env fun v env=>xSl v fun a7 n7 c7 e7=>Zbu 8 env fun v env=>Zdz .i64 v fun x8=>Zbu 9 env fun v env=>Zdz .i64 v fun x9=>Zil env (R2 a0 n0 c0 e0 a7 n7 c7 e7 x8 x9 h)
theorem Zea {R2:T2} {env:Env} {h:Zaa} (hi:E2 R2 env h):∃ a0,∃ n0,∃ c0,∃ e0,∃ a7,∃ n7,∃ c7,∃ e7,∃ x8,∃ x9,env=[(0,.slice a0 n0 c0 e0),(7,.slice a7 n7 c7 e7),(8,.int .i64 x8),(9,.int .i64 x9)]∧R2 a0 n0 c0 e0 a7 n7 c7 e7 x8 x9 h:=by
 unfold E2 at hi
 repeat ((first | (have k:=Zaf hi; clear hi; obtain ⟨_,_,e,hi⟩:=k) | (have k:=Zav hi; clear hi; obtain ⟨_,e,hi⟩:=k) | (have k:=Zbp hi; clear hi; obtain ⟨_,_,_,_,e,hi⟩:=k)); subst e)
 obtain ⟨rfl,hi⟩:=Zbl hi
 exact ⟨_,_,_,_,_,_,_,_,_,_,rfl,hi⟩
def K0 (Q:QT):KT:=andThen (fun env' h'=>(match kp.find 4000007 with | some ks=>Den pg fn.ntmps (C [1,1]) (env'.keep ks) h' (KR Q) | none=>den pg fn.ntmps kp (C [1,1]) env' h' (KR Q))) (KR Q)
def K1 (Q:QT):KT:=Zcj 0 (K0 Q)
def K2 (Q:QT):KT:=left kp 2 (K1 Q)
def K3 (Q:QT) (R2:T2):KT:=rnd ((kp.find 1000002).getD []) (E2 R2) (K2 Q)
def L2 (Q:QT) (a0:Pt) (n0 c0:Nat) (e0:Bool) (a7:Pt) (n7 c7:Nat) (e7:Bool) (x8 x9:Int) (h:Zaa):Prop:=Zej (Den pg fn.ntmps (C [1,0,1,0,0])) ((kp.find 1000002).getD []) (K2 Q) [(0,.slice a0 n0 c0 e0),(7,.slice a7 n7 c7 e7),(8,.int .i64 x8),(9,.int .i64 x9)] h
def J6 (Q:QT) (R2:T2) (x9 x8:Int) (a7:Pt) (n7 c7:Nat) (e7:Bool) (a0:Pt) (n0 c0:Nat) (e0:Bool) (h:Zaa):Prop:=Den pg fn.ntmps (C [1,0,1,0,0,1,1,1]) [(9,.int .i64 x9),(8,.int .i64 x8),(7,.slice a7 n7 c7 e7),(0,.slice a0 n0 c0 e0)] h (K3 Q R2)
def Zmz (Q:QT) (a0:Pt) (n0 c0:Nat) (e0:Bool) (h:Zaa):Prop:=At (K1 Q) (.exit 0) [(0,.slice a0 n0 c0 e0)] h
def L2t (Q:QT) (R2:T2) (a0:Pt) (n0 c0:Nat) (e0:Bool) (a7:Pt) (n7 c7:Nat) (e7:Bool) (x8 x9:Int) (h:Zaa):Prop:=
 bcase (decide ((x9:Int) < x8)) ((0≤(x9:Int)∧(x9:Int) < (n7:Nat))∧(Zbf a7 fun A B=>Zcd (Zbe h (.ptr (A,B + (Int.toNat x9) * 2)) 2) fun A=>Zai A fun A B=>Zbd A fun A=>Zai B fun B C=>Zbd B fun B=>Zbq C (Zcf (h ++ [.cells Zab [.str [],.str []] false]) fun C=>Zbt (Zbb C (.ptr (h.length,0)) [.str A,.str B]) fun A=>Zcd (Zbe A (.ptr (h.length,0)) 2) fun B=>Zai B fun B C=>Zbd B fun B=>Zai C fun C D=>Zbd C fun C=>Zbq D (Zak pg Zev [.slice a0 n0 c0 e0,.agg [.str B,.str C]] A fun A B=>
 Zca A fun A=>bcase (!A) (Zcd (Zbe B (.ptr (h.length,0)) 2) fun A=>Zai A fun A C=>Zbd A fun A=>Zai C fun C D=>Zbd C fun C=>Zbq D (Zcf (B ++ [.cells Zab [.str A,.str C] false]) fun A=>Zci pg Zbo A (.slice a0 n0 c0 e0) (.slice (B.length,0) 1 1 true) fun A C=>xSl A fun A D E F=>J6 Q R2 x9 x8 a7 n7 c7 e7 A D E F C)) (J6 Q R2 x9 x8 a7 n7 c7 e7 a0 n0 c0 e0 B))))) (Zmz Q a0 n0 c0 e0 h)
theorem Zjc (Q:QT) (R2:T2) (a0:Pt) (n0 c0:Nat) (e0:Bool) (a7:Pt) (n7 c7:Nat) (e7:Bool) (x8 x9:Int) (h:Zaa) (ht:L2t Q R2 a0 n0 c0 e0 a7 n7 c7 e7 x8 x9 h):Den pg fn.ntmps (C [1,0,1,0,0]) [(0,.slice a0 n0 c0 e0),(7,.slice a7 n7 c7 e7),(8,.int .i64 x8),(9,.int .i64 x9)] h (K3 Q R2):=
 Zba (kp:=kp) (cast (by kernel_rfl) ht)
theorem L2ind (Q:QT) (a7:Pt) (n7 c7:Nat) (e7:Bool) (x8:Int) {G:Type} (J:G→Pt→Nat→Nat→Bool→Int→Zaa→Prop) (m:G→Nat)
 (hr:∀ (g:G) (a0:Pt) (n0 c0:Nat) (e0:Bool) (x9:Int) (h:Zaa),J g a0 n0 c0 e0 x9 h→∀ (R2:T2),(∀ g' (a0:Pt) (n0 c0:Nat) (e0:Bool) (x9:Int) (h:Zaa),m g' < m g→J g' a0 n0 c0 e0 x9 h→R2 a0 n0 c0 e0 a7 n7 c7 e7 x8 x9 h)→L2t Q R2 a0 n0 c0 e0 a7 n7 c7 e7 x8 x9 h)
 (g:G) (a0:Pt) (n0 c0:Nat) (e0:Bool) (x9:Int) (h:Zaa) (hj:J g a0 n0 c0 e0 x9 h):L2 Q a0 n0 c0 e0 a7 n7 c7 e7 x8 x9 h:=by
 let P:=fun (K:Pt→Nat→Nat→Bool→Int→Zaa→Prop) a0 n0 c0 e0 a7' n7' c7' e7' x8' x9 h=>a7=a7'∧n7=n7'∧c7=c7'∧e7=e7'∧x8=x8'∧K a0 n0 c0 e0 x9 h
 refine Zej.inv2 (fun g=>E2 (P (J g))) (fun g=>E2 (P fun a0 n0 c0 e0 x9 h=>∃ g',m g' < m g∧J g' a0 n0 c0 e0 x9 h)) m ?_ ?_ g ⟨rfl,rfl,rfl,rfl,rfl,hj⟩
 ·intro g env h hi
  obtain ⟨a0,n0,c0,e0,a7',n7',c7',e7',x8',x9,rfl,rfl,rfl,rfl,rfl,rfl,hj⟩:=Zea hi
  exact Zjc Q _ a0 n0 c0 e0 a7 n7 c7 e7 x8 x9 h (hr g a0 n0 c0 e0 x9 h hj (P fun a0 n0 c0 e0 x9 h=>∃ g',m g' < m g∧J g' a0 n0 c0 e0 x9 h) fun g' a0 n0 c0 e0 x9 h hlt hj=>⟨rfl,rfl,rfl,rfl,rfl,g',hlt,hj⟩)
 ·intro g env h hi
  obtain ⟨a0,n0,c0,e0,a7',n7',c7',e7',x8',x9,rfl,rfl,rfl,rfl,rfl,rfl,g',hlt,hj⟩:=Zea hi
  exact ⟨g',hlt,rfl,rfl,rfl,rfl,rfl,hj⟩
theorem J6i (Q:QT) (R2:T2) (x9 x8:Int) (a7:Pt) (n7 c7:Nat) (e7:Bool) (a0:Pt) (n0 c0:Nat) (e0:Bool) (h:Zaa) (ht :
 R2 a0 n0 c0 e0 a7 n7 c7 e7 x8 (IntKind.wrap .i64 (x9 + 1)) h):J6 Q R2 x9 x8 a7 n7 c7 e7 a0 n0 c0 e0 h:=
 Zba (kp:=kp) (cast (by kernel_rfl) ht)
theorem A2x0i (Q:QT) (a0:Pt) (n0 c0:Nat) (e0:Bool) (h:Zaa) (ht :
 Q (.slice a0 n0 c0 e0) h):Zmz Q a0 n0 c0 e0 h:=
 At.mk (cast (by kernel_rfl) ht)
theorem call (a0:Pt) (n0 c0:Nat) (e0:Bool) (a1:Pt) (n1 c1:Nat) (e1:Bool) (h:Zaa) (Q:QT) (ht :
 L2 Q a0 n0 c0 e0 a1 n1 c1 e1 (((n1:Nat):Int)) 0 h):Zak pg Zsa [.slice a0 n0 c0 e0,.slice a1 n1 c1 e1] h Q:=
 Zak.of_body kp (c:=cod fn) (fn:=fn) Go.Proofs.Tryz.func29 (by kernel_rfl) (by kernel_rfl) (Nat.le_of_ble_eq_true (by kernel_rfl))
  (cast (by kernel_rfl) ht)
end Zls
end Go.Sim

set_option maxRecDepth 100000
set_option maxHeartbeats 0
set_option linter.unusedVariables false
namespace Go.Sim
open Go Go.RowKit
namespace Zhg
noncomputable abbrev fn:Func:=Go.Proofs.Tryz.f55
def kp:Zch:=[(3000003,[3]),(1000003,[0,3,4]),(4000004,[4,0,3])]
noncomputable def C (p:List Nat):Code:=(cod fn).sub p
def KR (Q:QT):KT:=Zfd pg fn.results.toList Q
abbrev T3:=List Nat→List Nat→Int→Zaa→Prop
def E3 (R3:T3) (env:Env) (h:Zaa):Prop:=Zbu 0 env fun v env=>Zbd v fun x0=>Zbu 3 env fun v env=>Zbd v fun x3=>Zbu 4 env fun v env=>Zdz .i32 v fun x4=>Zil env (R3 x0 x3 x4 h)
theorem Zgd {R3:T3} {env:Env} {h:Zaa} (hi:E3 R3 env h):∃ x0,∃ x3,∃ x4,env=[(0,.str x0),(3,.str x3),(4,.int .i32 x4)]∧R3 x0 x3 x4 h:=by
 unfold E3 at hi
 repeat ((first | (have k:=Zaf hi; clear hi; obtain ⟨_,_,e,hi⟩:=k) | (have k:=Zav hi; clear hi; obtain ⟨_,e,hi⟩:=k) | (have k:=Zed hi; clear hi; obtain ⟨_,e,hi⟩:=k)); subst e)
 obtain ⟨rfl,hi⟩:=Zbl hi
 exact ⟨_,_,_,rfl,hi⟩
def K0 (Q:QT):KT:=andThen (fun env' h'=>(match kp.find 4000007 with | some ks=>Den pg fn.ntmps (C [1,1,1]) (env'.keep ks) h' (KR Q) | none=>den pg fn.ntmps kp (C [1,1,1]) env' h' (KR Q))) (KR Q)
def K1 (Q:QT):KT:=Zcj 0 (K0 Q)
def K2 (Q:QT):KT:=left kp 3 (K1 Q)
def K3 (Q:QT) (R3:T3):KT:=rnd ((kp.find 1000003).getD []) (E3 R3) (K2 Q)
def L3 (Q:QT) (x0 x3:List Nat) (x4:Int) (h:Zaa):Prop:=Zej (Den pg fn.ntmps (C [1,1,0,1,0,0])) ((kp.find 1000003).getD []) (K2 Q) [(0,.str x0),(3,.str x3),(4,.int .i32 x4)] h
def J4 (Q:QT) (R3:T3) (x4:Int) (x0 x3:List Nat) (h:Zaa):Prop:=Den pg fn.ntmps (C [1,1,0,1,0,0,1,1]) [(4,.int .i32 x4),(0,.str x0),(3,.str x3)] h (K3 Q R3)
def Ztf (Q:QT) (x3:List Nat) (h:Zaa):Prop:=At (K1 Q) (.exit 0) [(3,.str x3)] h
def L3t (Q:QT) (R3:T3) (x0 x3:List Nat) (x4:Int) (h:Zaa):Prop:=
 bcase (decide ((x4:Int)≤84)) (Zak pg Zhv [.str x0,.int .u8 (IntKind.wrap .u8 (x4))] h fun A B=>
 Zec .i64 A fun A=>bcase (decide ((A:Int) ≥ 0)) (Zcf (B ++ [.cells Ycl [.int .u8 (IntKind.wrap .u8 (x4))] false]) fun A=>Zcd (rowOf A (B.length,0) 1) fun C=>Znz C fun C=>List.length x3 + List.length C≤9223372036854775807∧(J4 Q R3 x4 x0 (x3 ++ C) A)) (J4 Q R3 x4 x0 x3 B)) (Ztf Q x3 h)
theorem Zoe (Q:QT) (R3:T3) (x0 x3:List Nat) (x4:Int) (h:Zaa) (ht:L3t Q R3 x0 x3 x4 h):Den pg fn.ntmps (C [1,1,0,1,0,0]) [(0,.str x0),(3,.str x3),(4,.int .i32 x4)] h (K3 Q R3):=
 Zba (kp:=kp) (cast (by kernel_rfl) ht)
theorem L3ind (Q:QT) (x0:List Nat) {G:Type} (J:G→List Nat→Int→Zaa→Prop) (m:G→Nat)
 (hr:∀ (g:G) (x3:List Nat) (x4:Int) (h:Zaa),J g x3 x4 h→∀ (R3:T3),(∀ g' (x3:List Nat) (x4:Int) (h:Zaa),m g' < m g→J g' x3 x4 h→R3 x0 x3 x4 h)→L3t Q R3 x0 x3 x4 h)
 (g:G) (x3:List Nat) (x4:Int) (h:Zaa) (hj:J g x3 x4 h):L3 Q x0 x3 x4 h:=by
 let P:=fun (K:List Nat→Int→Zaa→Prop) x0' x3 x4 h=>x0=x0'∧K x3 x4 h
 refine Zej.inv2 (fun g=>E3 (P (J g))) (fun g=>E3 (P fun x3 x4 h=>∃ g',m g' < m g∧J g' x3 x4 h)) m ?_ ?_ g ⟨rfl,hj⟩
 ·intro g env h hi
  obtain ⟨x0',x3,x4,rfl,rfl,hj⟩:=Zgd hi
  exact Zoe Q _ x0 x3 x4 h (hr g x3 x4 h hj (P fun x3 x4 h=>∃ g',m g' < m g∧J g' x3 x4 h) fun g' x3 x4 h hlt hj=>⟨rfl,g',hlt,hj⟩)
 ·intro g env h hi
  obtain ⟨x0',x3,x4,rfl,rfl,g',hlt,hj⟩:=Zgd hi
  exact ⟨g',hlt,rfl,hj⟩
theorem J4i (Q:QT) (R3:T3) (x4:Int) (x0 x3:List Nat) (h:Zaa) (ht :
 R3 x0 x3 (IntKind.wrap .i32 (x4 + 1)) h):J4 Q R3 x4 x0 x3 h:=
 Zba (kp:=kp) (cast (by kernel_rfl) ht)
theorem A3x0i (Q:QT) (x3:List Nat) (h:Zaa) (ht :
 Q (.str x3) h):Ztf Q x3 h:=
 At.mk (cast (by kernel_rfl) ht)
theorem call (x0:List Nat) (h:Zaa) (Q:QT) (ht :
 L3 Q x0 [] 65 h):Zak pg Zqc [.str x0] h Q:=
 Zak.of_body kp (c:=cod fn) (fn:=fn) Go.Proofs.Tryz.func55 (by kernel_rfl) (by kernel_rfl) (Nat.le_of_ble_eq_true (by kernel_rfl))
  (cast (by kernel_rfl) ht)
end Zhg
namespace Zeu
noncomputable abbrev fn:Func:=Go.Proofs.Tryz.f31
def kp:Zch:=[(2000004,[2,5,6]),(3000006,[6,5]),(1000006,[2,5,6,23,24]),(3000008,[6,24,23,2,5]),(1000008,[2,5,6,23,24,27,28]),(2000010,[28,27,6,2,24,23,5]),(3000015,[5]),(1000015,[5,6,50,51])]
noncomputable def C (p:List Nat):Code:=(cod fn).sub p
def KR (Q:QT):KT:=Zfd pg fn.results.toList Q
abbrev T6:=Nat→Nat→List Nat→List Nat→Int→Int→Zaa→Prop
def E6 (R6:T6) (env:Env) (h:Zaa):Prop:=Zbu 2 env fun v env=>Zgn v fun a=>Zbf a fun i2 o2=>Zbu 5 env fun v env=>Zbd v fun x5=>Zbu 6 env fun v env=>Zbd v fun x6=>Zbu 23 env fun v env=>Zdz .i64 v fun x23=>Zbu 24 env fun v env=>Zdz .i64 v fun x24=>Zil env (R6 i2 o2 x5 x6 x23 x24 h)
theorem Zlv {R6:T6} {env:Env} {h:Zaa} (hi:E6 R6 env h):∃ i2,∃ o2,∃ x5,∃ x6,∃ x23,∃ x24,env=[(2,.ptr (i2,o2)),(5,.str x5),(6,.str x6),(23,.int .i64 x23),(24,.int .i64 x24)]∧R6 i2 o2 x5 x6 x23 x24 h:=by
 unfold E6 at hi
 have hi0:=hi
 clear hi
 obtain ⟨_,_,rfl,hi1⟩:=Zaf hi0
 obtain ⟨a,rfl,hi2⟩:=Zbn hi1
 obtain ⟨i2,o2,rfl,hi3⟩:=Zbk hi2
 obtain ⟨_,_,rfl,hi4⟩:=Zaf hi3
 obtain ⟨x5,rfl,hi5⟩:=Zed hi4
 obtain ⟨_,_,rfl,hi6⟩:=Zaf hi5
 obtain ⟨x6,rfl,hi7⟩:=Zed hi6
 obtain ⟨_,_,rfl,hi8⟩:=Zaf hi7
 obtain ⟨x23,rfl,hi9⟩:=Zav hi8
 obtain ⟨_,_,rfl,hi10⟩:=Zaf hi9
 obtain ⟨x24,rfl,hi11⟩:=Zav hi10
 obtain ⟨rfl,hi12⟩:=Zbl hi11
 have hi:=hi12
 exact ⟨i2,o2,x5,x6,x23,x24,rfl,hi⟩
abbrev T8:=Nat→Nat→List Nat→List Nat→Int→Int→Int→Int→Zaa→Prop
def E8 (R8:T8) (env:Env) (h:Zaa):Prop:=Zbu 2 env fun v env=>Zgn v fun a=>Zbf a fun i2 o2=>Zbu 5 env fun v env=>Zbd v fun x5=>Zbu 6 env fun v env=>Zbd v fun x6=>Zbu 23 env fun v env=>Zdz .i64 v fun x23=>Zbu 24 env fun v env=>Zdz .i64 v fun x24=>Zbu 27 env fun v env=>Zdz .i64 v fun x27=>Zbu 28 env fun v env=>Zdz .i64 v fun x28=>Zil env (R8 i2 o2 x5 x6 x23 x24 x27 x28 h)
theorem Zzd {R8:T8} {env:Env} {h:Zaa} (hi:E8 R8 env h):∃ i2,∃ o2,∃ x5,∃ x6,∃ x23,∃ x24,∃ x27,∃ x28,env=[(2,.ptr (i2,o2)),(5,.str x5),(6,.str x6),(23,.int .i64 x23),(24,.int .i64 x24),(27,.int .i64 x27),(28,.int .i64 x28)]∧R8 i2 o2 x5 x6 x23 x24 x27 x28 h:=by
 unfold E8 at hi
 have hi0:=hi
 clear hi
 obtain ⟨_,_,rfl,hi1⟩:=Zaf hi0
 obtain ⟨a,rfl,hi2⟩:=Zbn hi1
 obtain ⟨i2,o2,rfl,hi3⟩:=Zbk hi2
 obtain ⟨_,_,rfl,hi4⟩:=Zaf hi3
 obtain ⟨x5,rfl,hi5⟩:=Zed hi4
 obtain ⟨_,_,rfl,hi6⟩:=Zaf hi5
 obtain ⟨x6,rfl,hi7⟩:=Zed hi6
 obtain ⟨_,_,rfl,hi8⟩:=Zaf hi7
 obtain ⟨x23,rfl,hi9⟩:=Zav hi8
 obtain ⟨_,_,rfl,hi10⟩:=Zaf hi9
 obtain ⟨x24,rfl,hi11⟩:=Zav hi10
 obtain ⟨_,_,rfl,hi12⟩:=Zaf hi11
 obtain ⟨x27,rfl,hi13⟩:=Zav hi12
 obtain ⟨_,_,rfl,hi14⟩:=Zaf hi13
 obtain ⟨x28,rfl,hi15⟩:=Zav hi14
 obtain ⟨rfl,hi16⟩:=Zbl hi15
 have hi:=hi16
 exact ⟨i2,o2,x5,x6,x23,x24,x27,x28,rfl,hi⟩
abbrev T15:=List Nat→List Nat→Int→Int→Zaa→Prop
def E15 (R15:T15) (env:Env) (h:Zaa):Prop:=Zbu 5 env fun v env=>Zbd v fun x5=>Zbu 6 env fun v env=>Zbd v fun x6=>Zbu 50 env fun v env=>Zdz .i64 v fun x50=>Zbu 51 env fun v env=>Zdz .i64 v fun x51=>Zil env (R15 x5 x6 x50 x51 h)
theorem Ybw {R15:T15} {env:Env} {h:Zaa} (hi:E15 R15 env h):∃ x5,∃ x6,∃ x50,∃ x51,env=[(5,.str x5),(6,.str x6),(50,.int .i64 x50),(51,.int .i64 x51)]∧R15 x5 x6 x50 x51 h:=by
 unfold E15 at hi
 repeat ((first | (have k:=Zaf hi; clear hi; obtain ⟨_,_,e,hi⟩:=k) | (have k:=Zav hi; clear hi; obtain ⟨_,e,hi⟩:=k) | (have k:=Zed hi; clear hi; obtain ⟨_,e,hi⟩:=k)); subst e)
 obtain ⟨rfl,hi⟩:=Zbl hi
 exact ⟨_,_,_,_,rfl,hi⟩
def K0 (Q:QT):KT:=andThen (fun env' h'=>(match kp.find 4000014 with | some ks=>Den pg fn.ntmps (C [1,1,1,1,1]) (env'.keep ks) h' (KR Q) | none=>den pg fn.ntmps kp (C [1,1,1,1,1]) env' h' (KR Q))) (KR Q)
def K1 (Q:QT):KT:=Zcj 0 (K0 Q)
def K2 (Q:QT):KT:=left kp 6 (K1 Q)
def K3 (Q:QT) (R6:T6):KT:=rnd ((kp.find 1000006).getD []) (E6 R6) (K2 Q)
def K4 (Q:QT) (R6:T6):KT:=andThen (fun env' h'=>(match kp.find 4000013 with | some ks=>Den pg fn.ntmps (C [1,1,1,1,0,1,0,0,1,1,1]) (env'.keep ks) h' (K3 Q R6) | none=>den pg fn.ntmps kp (C [1,1,1,1,0,1,0,0,1,1,1]) env' h' (K3 Q R6))) (K3 Q R6)
def K5 (Q:QT) (R6:T6):KT:=Zcj 1 (K4 Q R6)
def K6 (Q:QT) (R6:T6):KT:=andThen (fun env' h'=>(match kp.find 4000012 with | some ks=>Den pg fn.ntmps (C [1,1,1,1,0,1,0,0,1,1,0,0,1]) (env'.keep ks) h' (K5 Q R6) | none=>den pg fn.ntmps kp (C [1,1,1,1,0,1,0,0,1,1,0,0,1]) env' h' (K5 Q R6))) (K5 Q R6)
def K7 (Q:QT) (R6:T6):KT:=Zcj 2 (K6 Q R6)
def K8 (Q:QT) (R6:T6):KT:=left kp 8 (K7 Q R6)
def K9 (Q:QT) (R6:T6) (R8:T8):KT:=rnd ((kp.find 1000008).getD []) (E8 R8) (K8 Q R6)
def K10 (Q:QT):KT:=andThen (fun env' h'=>(match kp.find 4000019 with | some ks=>Den pg fn.ntmps (C [1,1,1,1,1,1]) (env'.keep ks) h' (KR Q) | none=>den pg fn.ntmps kp (C [1,1,1,1,1,1]) env' h' (KR Q))) (KR Q)
def K11 (Q:QT):KT:=Zcj 4 (K10 Q)
def K12 (Q:QT):KT:=left kp 15 (K11 Q)
def K13 (Q:QT) (R15:T15):KT:=rnd ((kp.find 1000015).getD []) (E15 R15) (K12 Q)
def L6 (Q:QT) (i2 o2:Nat) (x5 x6:List Nat) (x23 x24:Int) (h:Zaa):Prop:=Zej (Den pg fn.ntmps (C [1,1,1,1,0,1,0,0])) ((kp.find 1000006).getD []) (K2 Q) [(2,.ptr (i2,o2)),(5,.str x5),(6,.str x6),(23,.int .i64 x23),(24,.int .i64 x24)] h
def L8 (Q:QT) (R6:T6) (i2 o2:Nat) (x5 x6:List Nat) (x23 x24 x27 x28:Int) (h:Zaa):Prop:=Zej (Den pg fn.ntmps (C [1,1,1,1,0,1,0,0,1,1,0,0,0,1,0,0])) ((kp.find 1000008).getD []) (K8 Q R6) [(2,.ptr (i2,o2)),(5,.str x5),(6,.str x6),(23,.int .i64 x23),(24,.int .i64 x24),(27,.int .i64 x27),(28,.int .i64 x28)] h
def Ydq (Q:QT) (x6 x5:List Nat) (h:Zaa):Prop:=At (K1 Q) (.exit 0) [(6,.str x6),(5,.str x5)] h
def Xai (Q:QT) (R6:T6) (x6:List Nat) (x24 x23:Int) (i2 o2:Nat) (x5:List Nat) (h:Zaa):Prop:=At (K7 Q R6) (.exit 2) [(6,.str x6),(24,.int .i64 x24),(23,.int .i64 x23),(2,.ptr (i2,o2)),(5,.str x5)] h
def L15 (Q:QT) (x5 x6:List Nat) (x50 x51:Int) (h:Zaa):Prop:=Zej (Den pg fn.ntmps (C [1,1,1,1,1,0,1,0,0])) ((kp.find 1000015).getD []) (K12 Q) [(5,.str x5),(6,.str x6),(50,.int .i64 x50),(51,.int .i64 x51)] h
def Yzn (Q:QT) (x5:List Nat) (h:Zaa):Prop:=At (K11 Q) (.exit 4) [(5,.str x5)] h
def L6t (Q:QT) (R6:T6) (i2 o2:Nat) (x5 x6:List Nat) (x23 x24:Int) (h:Zaa):Prop:=
 bcase (decide ((x24:Int) < x23)) (L8 Q R6 i2 o2 x5 x6 x23 x24 (((List.length x6:Nat):Int)) 0 h) (Ydq Q x6 x5 h)
theorem Zya (Q:QT) (R6:T6) (i2 o2:Nat) (x5 x6:List Nat) (x23 x24:Int) (h:Zaa) (ht:L6t Q R6 i2 o2 x5 x6 x23 x24 h):Den pg fn.ntmps (C [1,1,1,1,0,1,0,0]) [(2,.ptr (i2,o2)),(5,.str x5),(6,.str x6),(23,.int .i64 x23),(24,.int .i64 x24)] h (K3 Q R6):=
 Zba (kp:=kp) (cast (by kernel_rfl) ht)
theorem L6ind (Q:QT) (i2 o2:Nat) (x5:List Nat) (x23:Int) {G:Type} (J:G→List Nat→Int→Zaa→Prop) (m:G→Nat)
 (hr:∀ (g:G) (x6:List Nat) (x24:Int) (h:Zaa),J g x6 x24 h→∀ (R6:T6),(∀ g' (x6:List Nat) (x24:Int) (h:Zaa),m g' < m g→J g' x6 x24 h→R6 i2 o2 x5 x6 x23 x24 h)→L6t Q R6 i2 o2 x5 x6 x23 x24 h)
 (g:G) (x6:List Nat) (x24:Int) (h:Zaa) (hj:J g x6 x24 h):L6 Q i2 o2 x5 x6 x23 x24 h:=by
 let P:=fun (K:List Nat→Int→Zaa→Prop) i2' o2' x5' x6 x23' x24 h=>i2=i2'∧o2=o2'∧x5=x5'∧x23=x23'∧K x6 x24 h
 refine Zej.inv2 (fun g=>E6 (P (J g))) (fun g=>E6 (P fun x6 x24 h=>∃ g',m g' < m g∧J g' x6 x24 h)) m ?_ ?_ g ⟨rfl,rfl,rfl,rfl,hj⟩
 ·intro g env h hi
  obtain ⟨i2',o2',x5',x6,x23',x24,rfl,rfl,rfl,rfl,rfl,hj⟩:=Zlv hi
  exact Zya Q _ i2 o2 x5 x6 x23 x24 h (hr g x6 x24 h hj (P fun x6 x24 h=>∃ g',m g' < m g∧J g' x6 x24 h) fun g' x6 x24 h hlt hj=>⟨rfl,rfl,rfl,rfl,g',hlt,hj⟩)
 ·intro g env h hi
  obtain ⟨i2',o2',x5',x6,x23',x24,rfl,rfl,rfl,rfl,rfl,g',hlt,hj⟩:=Zlv hi
  exact ⟨g',hlt,rfl,rfl,rfl,rfl,hj⟩
def L8t (Q:QT) (R6:T6) (R8:T8) (i2 o2:Nat) (x5 x6:List Nat) (x23 x24 x27 x28:Int) (h:Zaa):Prop:=
 bcase (decide ((x28:Int) < x27)) ((0≤(x28:Int)∧(x28:Int)≤IntKind.wrap .i64 (x28 + 1)∧(IntKind.wrap .i64 (x28 + 1):Int)≤(List.length x6:Nat))∧(xSl (Zag h (.ptr (i2,o2 + 0))) fun A B C C=>Zcd (Zbe h (.ptr (i2,o2)) 2) fun C=>Zai C fun C D=>xSl C fun C E F G=>Zai D fun D H=>xSl D fun D I J K=>Zbq H ((Zag h (.ptr (i2,o2 + 0))=Zag h (.ptr (i2,o2 + 0)))∧Zak pg Zgp [.agg [.slice C E F G,.slice D I J K],.str (sub x6 x28 (IntKind.wrap .i64 (x28 + 1)))] h fun C D=>
 Zec .i64 C fun C=>(Zag D (.ptr (i2,o2 + 0))=Zag h (.ptr (i2,o2 + 0)))∧(0≤(C:Int)∧(C:Int) < (B:Nat))∧(Zbf A fun A B=>Zbd (Zag D (.ptr (A,B + (Int.toNat C) * 2 + 1))) fun A=>(Zag D (.ptr (i2,o2 + 0))=Zag D (.ptr (i2,o2 + 0)))∧List.length x6 + List.length A≤9223372036854775807∧(R8 i2 o2 x5 (x6 ++ A) x23 x24 x27 (IntKind.wrap .i64 (x28 + 1)) D))))) (Xai Q R6 x6 x24 x23 i2 o2 x5 h)
theorem Yts (Q:QT) (R6:T6) (R8:T8) (i2 o2:Nat) (x5 x6:List Nat) (x23 x24 x27 x28:Int) (h:Zaa) (ht:L8t Q R6 R8 i2 o2 x5 x6 x23 x24 x27 x28 h):Den pg fn.ntmps (C [1,1,1,1,0,1,0,0,1,1,0,0,0,1,0,0]) [(2,.ptr (i2,o2)),(5,.str x5),(6,.str x6),(23,.int .i64 x23),(24,.int .i64 x24),(27,.int .i64 x27),(28,.int .i64 x28)] h (K9 Q R6 R8):=
 Zba (kp:=kp) (cast (by kernel_rfl) ht)
theorem L8ind (Q:QT) (R6:T6) (i2 o2:Nat) (x5:List Nat) (x23 x24 x27:Int) {G:Type} (J:G→List Nat→Int→Zaa→Prop) (m:G→Nat)
 (hr:∀ (g:G) (x6:List Nat) (x28:Int) (h:Zaa),J g x6 x28 h→∀ (R8:T8),(∀ g' (x6:List Nat) (x28:Int) (h:Zaa),m g' < m g→J g' x6 x28 h→R8 i2 o2 x5 x6 x23 x24 x27 x28 h)→L8t Q R6 R8 i2 o2 x5 x6 x23 x24 x27 x28 h)
 (g:G) (x6:List Nat) (x28:Int) (h:Zaa) (hj:J g x6 x28 h):L8 Q R6 i2 o2 x5 x6 x23 x24 x27 x28 h:=by
 let P:=fun (K:List Nat→Int→Zaa→Prop) i2' o2' x5' x6 x23' x24' x27' x28 h=>i2=i2'∧o2=o2'∧x5=x5'∧x23=x23'∧x24=x24'∧x27=x27'∧K x6 x28 h
 refine Zej.inv2 (fun g=>E8 (P (J g))) (fun g=>E8 (P fun x6 x28 h=>∃ g',m g' < m g∧J g' x6 x28 h)) m ?_ ?_ g ⟨rfl,rfl,rfl,rfl,rfl,rfl,hj⟩
 ·intro g env h hi
  obtain ⟨i2',o2',x5',x6,x23',x24',x27',x28,rfl,rfl,rfl,rfl,rfl,rfl,rfl,hj⟩:=Zzd hi
  exact Yts Q R6 (P fun x6 x28 h=>∃ g',m g' < m g∧J g' x6 x28 h) i2 o2 x5 x6 x23 x24 x27 x28 h (hr g x6 x28 h hj (P fun x6 x28 h=>∃ g',m g' < m g∧J g' x6 x28 h) fun g' x6 x28 h hlt hj=>⟨rfl,rfl,rfl,rfl,rfl,rfl,g',hlt,hj⟩)
 ·intro g env h hi
  obtain ⟨i2',o2',x5',x6,x23',x24',x27',x28,rfl,rfl,rfl,rfl,rfl,rfl,rfl,g',hlt,hj⟩:=Zzd hi
  exact ⟨g',hlt,rfl,rfl,rfl,rfl,rfl,rfl,hj⟩
theorem A6x0i (Q:QT) (x6 x5:List Nat) (h:Zaa) (ht :
 L15 Q x5 x6 (((List.length x6:Nat):Int)) 0 h):Ydq Q x6 x5 h:=
 At.mk (cast (by kernel_rfl) ht)
theorem A8x2i (Q:QT) (R6:T6) (x6:List Nat) (x24 x23:Int) (i2 o2:Nat) (x5:List Nat) (h:Zaa) (ht :
 Zak pg Zqc [.str x6] h fun A B=>
 Zbd A fun A=>R6 i2 o2 x5 A x23 (IntKind.wrap .i64 (x24 + 1)) B):Xai Q R6 x6 x24 x23 i2 o2 x5 h:=
 At.mk (cast (by kernel_rfl) ht)
def L15t (Q:QT) (R15:T15) (x5 x6:List Nat) (x50 x51:Int) (h:Zaa):Prop:=
 bcase (decide ((x51:Int) < x50)) ((0≤(x51:Int)∧(x51:Int)≤IntKind.wrap .i64 (x51 + 1)∧(IntKind.wrap .i64 (x51 + 1):Int)≤(List.length x6:Nat))∧(List.length x5 + List.length (sub x6 x51 (IntKind.wrap .i64 (x51 + 1)))≤9223372036854775807∧(R15 (x5 ++ (sub x6 x51 (IntKind.wrap .i64 (x51 + 1)))) x6 x50 (IntKind.wrap .i64 (x51 + 1)) h))) (Yzn Q x5 h)
theorem Ypt (Q:QT) (R15:T15) (x5 x6:List Nat) (x50 x51:Int) (h:Zaa) (ht:L15t Q R15 x5 x6 x50 x51 h):Den pg fn.ntmps (C [1,1,1,1,1,0,1,0,0]) [(5,.str x5),(6,.str x6),(50,.int .i64 x50),(51,.int .i64 x51)] h (K13 Q R15):=
 Zba (kp:=kp) (cast (by kernel_rfl) ht)
theorem L15ind (Q:QT) (x6:List Nat) (x50:Int) {G:Type} (J:G→List Nat→Int→Zaa→Prop) (m:G→Nat)
 (hr:∀ (g:G) (x5:List Nat) (x51:Int) (h:Zaa),J g x5 x51 h→∀ (R15:T15),(∀ g' (x5:List Nat) (x51:Int) (h:Zaa),m g' < m g→J g' x5 x51 h→R15 x5 x6 x50 x51 h)→L15t Q R15 x5 x6 x50 x51 h)
 (g:G) (x5:List Nat) (x51:Int) (h:Zaa) (hj:J g x5 x51 h):L15 Q x5 x6 x50 x51 h:=by
 let P:=fun (K:List Nat→Int→Zaa→Prop) x5 x6' x50' x51 h=>x6=x6'∧x50=x50'∧K x5 x51 h
 refine Zej.inv2 (fun g=>E15 (P (J g))) (fun g=>E15 (P fun x5 x51 h=>∃ g',m g' < m g∧J g' x5 x51 h)) m ?_ ?_ g ⟨rfl,rfl,hj⟩
 ·intro g env h hi
  obtain ⟨x5,x6',x50',x51,rfl,rfl,rfl,hj⟩:=Ybw hi
  exact Ypt Q _ x5 x6 x50 x51 h (hr g x5 x51 h hj (P fun x5 x51 h=>∃ g',m g' < m g∧J g' x5 x51 h) fun g' x5 x51 h hlt hj=>⟨rfl,rfl,g',hlt,hj⟩)
 ·intro g env h hi
  obtain ⟨x5,x6',x50',x51,rfl,rfl,rfl,g',hlt,hj⟩:=Ybw hi
  exact ⟨g',hlt,rfl,rfl,hj⟩
theorem A15x4i (Q:QT) (x5:List Nat) (h:Zaa) (ht :
 Q (.str x5) h):Yzn Q x5 h:=
 At.mk (cast (by kernel_rfl) ht)
theorem call (a0x0:Pt) (n0x0 c0x0:Nat) (e0x0:Bool) (a0x1:Pt) (n0x1 c0x1:Nat) (e0x1:Bool) (x1:List Nat) (h:Zaa) (Q:QT) (ht :
 Zcf (h ++ [.cells Zac [.slice a0x0 n0x0 c0x0 e0x0,.slice a0x1 n0x1 c0x1 e0x1] false]) fun A=>Zcd (Zbe A (.ptr (h.length,0)) 2) fun B=>Zai B fun B C=>xSl B fun B D E F=>Zai C fun C G=>xSl C fun C H I J=>Zbq G (Zak pg Zpp [.agg [.slice B D E F,.slice C H I J],.str x1] A fun A B=>
 Zca A fun A=>bcase (!A) (Q (.str []) B) (xSl (Zag B (.ptr (h.length,0 + 0))) fun A C D D=>Zcd (Zbe B (.ptr (h.length,0)) 2) fun D=>Zai D fun D E=>xSl D fun D F G H=>Zai E fun E I=>xSl E fun E J K L=>Zbq I ((Zag B (.ptr (h.length,0 + 0))=Zag B (.ptr (h.length,0 + 0)))∧Zak pg Zgp [.agg [.slice D F G H,.slice E J K L],.str x1] B fun D E=>
 Zec .i64 D fun D=>(Zag E (.ptr (h.length,0 + 0))=Zag B (.ptr (h.length,0 + 0)))∧(0≤(D:Int)∧(D:Int) < (C:Nat))∧(Zbf A fun A B=>Zbd (Zag E (.ptr (A,B + (Int.toNat D) * 2 + 1))) fun A=>(Zag E (.ptr (h.length,0 + 0))=Zag E (.ptr (h.length,0 + 0)))∧xSl (Zag E (.ptr (h.length,0 + 0))) fun B B C C=>L6 Q h.length 0 [] A (((B:Nat):Int)) 0 E))))):Zak pg Zpu [.agg [.slice a0x0 n0x0 c0x0 e0x0,.slice a0x1 n0x1 c0x1 e0x1],.str x1] h Q:=
 Zak.of_body kp (c:=cod fn) (fn:=fn) Go.Proofs.Tryz.func31 (by kernel_rfl) (by kernel_rfl) (Nat.le_of_ble_eq_true (by kernel_rfl))
  (cast (by kernel_rfl) ht)
end Zeu
end Go.Sim

set_option maxRecDepth 100000
set_option maxHeartbeats 0
set_option linter.unusedVariables false
namespace Go.Sim
open Go Go.RowKit
namespace Zud
noncomputable abbrev fn:Func:=Go.Proofs.Tryz.f86
def kp:Zch:=[]
noncomputable def C (p:List Nat):Code:=(cod fn).sub p
def KR (Q:QT):KT:=Zfd pg fn.results.toList Q
theorem call (a0x0:Pt) (n0x0 c0x0:Nat) (e0x0:Bool) (a0x1:Pt) (n0x1 c0x1:Nat) (e0x1:Bool) (x1:List Nat) (h:Zaa) (Q:QT) (ht :
 Zcf (h ++ [.cells Zac [.slice a0x0 n0x0 c0x0 e0x0,.slice a0x1 n0x1 c0x1 e0x1] false]) fun A=>Zcd (Zbe A (.ptr (h.length,0)) 2) fun B=>Zai B fun B C=>xSl B fun B D E F=>Zai C fun C G=>xSl C fun C H I J=>Zbq G (Zak pg Zic [.agg [.slice B D E F,.slice C H I J]] A fun A B=>
 Zca A fun A=>bcase A (xSl (Zag B (.ptr (h.length,0 + 0))) fun A C D E=>Zak pg Zjt [.slice A C D E,.str x1] B fun A C=>
 Zca A fun A=>Q (.bool A) C) (Q (.bool false) B))):Zak pg Zqe [.agg [.slice a0x0 n0x0 c0x0 e0x0,.slice a0x1 n0x1 c0x1 e0x1],.str x1] h Q:=
 Zak.of_body kp (c:=cod fn) (fn:=fn) Go.Proofs.Tryz.func86 (by kernel_rfl) (by kernel_rfl) (Nat.le_of_ble_eq_true (by kernel_rfl))
  (cast (by kernel_rfl) ht)
end Zud
namespace Ztp
noncomputable abbrev fn:Func:=Go.Proofs.Tryz.f53
def kp:Zch:=[]
noncomputable def C (p:List Nat):Code:=(cod fn).sub p
def KR (Q:QT):KT:=Zfd pg fn.results.toList Q
theorem call (a0x0:Pt) (n0x0 c0x0:Nat) (e0x0:Bool) (a0x1:Pt) (n0x1 c0x1:Nat) (e0x1:Bool) (x1:List Nat) (h:Zaa) (Q:QT) (ht :
 Zcf (h ++ [.cells Zac [.slice a0x0 n0x0 c0x0 e0x0,.slice a0x1 n0x1 c0x1 e0x1] false]) fun A=>Zcd (Zbe A (.ptr (h.length,0)) 2) fun B=>Zai B fun B C=>xSl B fun B D E F=>Zai C fun C G=>xSl C fun C H I J=>Zbq G (Zak pg Zgm [.agg [.slice B D E F,.slice C H I J]] A fun A B=>
 Zca A fun A=>bcase A (Zcd (Zbe B (.ptr (h.length,0)) 2) fun A=>Zai A fun A C=>xSl A fun A D E F=>Zai C fun C G=>xSl C fun C H I J=>Zbq G (Zak pg Zgp [.agg [.slice A D E F,.slice C H I J],.str x1] B fun A C=>
 Zec .i64 A fun A=>Q (.bool (decide ((A:Int) ≥ 0))) C)) (Q (.bool false) B))):Zak pg Zpp [.agg [.slice a0x0 n0x0 c0x0 e0x0,.slice a0x1 n0x1 c0x1 e0x1],.str x1] h Q:=
 Zak.of_body kp (c:=cod fn) (fn:=fn) Go.Proofs.Tryz.func53 (by kernel_rfl) (by kernel_rfl) (Nat.le_of_ble_eq_true (by kernel_rfl))
  (cast (by kernel_rfl) ht)
end Ztp
namespace Zel
noncomputable abbrev fn:Func:=Go.Proofs.Tryz.f52
def kp:Zch:=[(3000005,[2,5]),(1000005,[1,2,5,6]),(4000006,[6,2,1,5]),(3000012,[8]),(1000012,[5,8,43,44,45]),(4000016,[45,44,43,5,8])]
noncomputable def C (p:List Nat):Code:=(cod fn).sub p
def KR (Q:QT):KT:=Zfd pg fn.results.toList Q
abbrev T5:=List Nat→Nat→Nat→List Nat→Int→Zaa→Prop
def E5 (R5:T5) (env:Env) (h:Zaa):Prop:=Zbu 1 env fun v env=>Zbd v fun x1=>Zbu 2 env fun v env=>Zgn v fun a=>Zbf a fun i2 o2=>Zbu 5 env fun v env=>Zbd v fun x5=>Zbu 6 env fun v env=>Zdz .i64 v fun x6=>Zil env (R5 x1 i2 o2 x5 x6 h)
theorem Zik {R5:T5} {env:Env} {h:Zaa} (hi:E5 R5 env h):∃ x1,∃ i2,∃ o2,∃ x5,∃ x6,env=[(1,.str x1),(2,.ptr (i2,o2)),(5,.str x5),(6,.int .i64 x6)]∧R5 x1 i2 o2 x5 x6 h:=by
 unfold E5 at hi
 have hi0:=hi
 clear hi
 obtain ⟨_,_,rfl,hi1⟩:=Zaf hi0
 obtain ⟨x1,rfl,hi2⟩:=Zed hi1
 obtain ⟨_,_,rfl,hi3⟩:=Zaf hi2
 obtain ⟨a,rfl,hi4⟩:=Zbn hi3
 obtain ⟨i2,o2,rfl,hi5⟩:=Zbk hi4
 obtain ⟨_,_,rfl,hi6⟩:=Zaf hi5
 obtain ⟨x5,rfl,hi7⟩:=Zed hi6
 obtain ⟨_,_,rfl,hi8⟩:=Zaf hi7
 obtain ⟨x6,rfl,hi9⟩:=Zav hi8
 obtain ⟨rfl,hi10⟩:=Zbl hi9
 have hi:=hi10
 exact ⟨x1,i2,o2,x5,x6,rfl,hi⟩
abbrev T12:=List Nat→List Nat→Pt→Nat→Nat→Bool→Int→Int→Zaa→Prop
def E12 (R12:T12) (env:Env) (h:Zaa):Prop:=Zbu 5 env fun v env=>Zbd v fun x5=>Zbu 8 env fun v env=>Zbd v fun x8=>Zbu 43 env fun v env=>xSl v fun a43 n43 c43 e43=>Zbu 44 env fun v env=>Zdz .i64 v fun x44=>Zbu 45 env fun v env=>Zdz .i64 v fun x45=>Zil env (R12 x5 x8 a43 n43 c43 e43 x44 x45 h)
theorem Ycn {R12:T12} {env:Env} {h:Zaa} (hi:E12 R12 env h):∃ x5,∃ x8,∃ a43,∃ n43,∃ c43,∃ e43,∃ x44,∃ x45,env=[(5,.str x5),(8,.str x8),(43,.slice a43 n43 c43 e43),(44,.int .i64 x44),(45,.int .i64 x45)]∧R12 x5 x8 a43 n43 c43 e43 x44 x45 h:=by
 unfold E12 at hi
 repeat ((first | (have k:=Zaf hi; clear hi; obtain ⟨_,_,e,hi⟩:=k) | (have k:=Zbp hi; clear hi; obtain ⟨_,_,_,_,e,hi⟩:=k) | (have k:=Zav hi; clear hi; obtain ⟨_,e,hi⟩:=k) | (have k:=Zed hi; clear hi; obtain ⟨_,e,hi⟩:=k)); subst e)
 obtain ⟨rfl,hi⟩:=Zbl hi
 exact ⟨_,_,_,_,_,_,_,_,rfl,hi⟩
def K0 (Q:QT):KT:=andThen (fun env' h'=>(match kp.find 4000010 with | some ks=>Den pg fn.ntmps (C [1,1,1,1]) (env'.keep ks) h' (KR Q) | none=>den pg fn.ntmps kp (C [1,1,1,1]) env' h' (KR Q))) (KR Q)
def K1 (Q:QT):KT:=Zcj 0 (K0 Q)
def K2 (Q:QT):KT:=left kp 5 (K1 Q)
def K3 (Q:QT) (R5:T5):KT:=rnd ((kp.find 1000005).getD []) (E5 R5) (K2 Q)
def K4 (Q:QT):KT:=andThen (fun env' h'=>(match kp.find 4000017 with | some ks=>Den pg fn.ntmps (C [1,1,1,1,1,1]) (env'.keep ks) h' (KR Q) | none=>den pg fn.ntmps kp (C [1,1,1,1,1,1]) env' h' (KR Q))) (KR Q)
def K5 (Q:QT):KT:=Zcj 2 (K4 Q)
def K6 (Q:QT):KT:=left kp 12 (K5 Q)
def K7 (Q:QT) (R12:T12):KT:=rnd ((kp.find 1000012).getD []) (E12 R12) (K6 Q)
def L5 (Q:QT) (x1:List Nat) (i2 o2:Nat) (x5:List Nat) (x6:Int) (h:Zaa):Prop:=Zej (Den pg fn.ntmps (C [1,1,1,0,1,0,0])) ((kp.find 1000005).getD []) (K2 Q) [(1,.str x1),(2,.ptr (i2,o2)),(5,.str x5),(6,.int .i64 x6)] h
def J6 (Q:QT) (R5:T5) (x6:Int) (i2 o2:Nat) (x1 x5:List Nat) (h:Zaa):Prop:=Den pg fn.ntmps (C [1,1,1,0,1,0,0,1,1]) [(6,.int .i64 x6),(2,.ptr (i2,o2)),(1,.str x1),(5,.str x5)] h (K3 Q R5)
def A5x0 (Q:QT) (i2 o2:Nat) (x5:List Nat) (h:Zaa):Prop:=At (K1 Q) (.exit 0) [(2,.ptr (i2,o2)),(5,.str x5)] h
def L12 (Q:QT) (x5 x8:List Nat) (a43:Pt) (n43 c43:Nat) (e43:Bool) (x44 x45:Int) (h:Zaa):Prop:=Zej (Den pg fn.ntmps (C [1,1,1,1,1,0,1,0,0])) ((kp.find 1000012).getD []) (K6 Q) [(5,.str x5),(8,.str x8),(43,.slice a43 n43 c43 e43),(44,.int .i64 x44),(45,.int .i64 x45)] h
def J16 (Q:QT) (R12:T12) (x45 x44:Int) (a43:Pt) (n43 c43:Nat) (e43:Bool) (x5 x8:List Nat) (h:Zaa):Prop:=Den pg fn.ntmps (C [1,1,1,1,1,0,1,0,0,1,1,1]) [(45,.int .i64 x45),(44,.int .i64 x44),(43,.slice a43 n43 c43 e43),(5,.str x5),(8,.str x8)] h (K7 Q R12)
def Ypw (Q:QT) (x8:List Nat) (h:Zaa):Prop:=At (K5 Q) (.exit 2) [(8,.str x8)] h
def L5t (Q:QT) (R5:T5) (x1:List Nat) (i2 o2:Nat) (x5:List Nat) (x6:Int) (h:Zaa):Prop:=
 bcase (decide ((x6:Int) ≥ 0)) (xSl (Zag h (.ptr (i2,o2 + 0))) fun A B C C=>(0≤(x6:Int)∧(x6:Int) < (B:Nat))∧(Zbf A fun A B=>Zcd (Zbe h (.ptr (A,B + (Int.toNat x6) * 2)) 2) fun A=>Zai A fun A B=>Zbd A fun A=>Zai B fun B C=>Zbd B fun B=>Zbq C (Zcf (h ++ [.cells Zbj [.str [],.str []] false]) fun C=>Zbt (Zbb C (.ptr (h.length,0)) [.str A,.str B]) fun A=>Zbd (Zag A (.ptr (h.length,0 + 0))) fun B=>bcase (decide (B=x1)) (Zbd (Zag A (.ptr (h.length,0 + 1))) fun B=>List.length x5 + List.length B≤9223372036854775807∧(J6 Q R5 x6 i2 o2 x1 (x5 ++ B) A)) (Zbd (Zag A (.ptr (h.length,0 + 0))) fun B=>Zak pg Zfu [.str x5,.str B] A fun A B=>
 Zca A fun A=>bcase A (Zbd (Zag B (.ptr (h.length,0 + 1))) fun A=>List.length x5 + List.length A≤9223372036854775807∧(J6 Q R5 x6 i2 o2 x1 (x5 ++ A) B)) (J6 Q R5 x6 i2 o2 x1 x5 B))))) (A5x0 Q i2 o2 x5 h)
theorem Ztv (Q:QT) (R5:T5) (x1:List Nat) (i2 o2:Nat) (x5:List Nat) (x6:Int) (h:Zaa) (ht:L5t Q R5 x1 i2 o2 x5 x6 h):Den pg fn.ntmps (C [1,1,1,0,1,0,0]) [(1,.str x1),(2,.ptr (i2,o2)),(5,.str x5),(6,.int .i64 x6)] h (K3 Q R5):=
 Zba (kp:=kp) (cast (by kernel_rfl) ht)
theorem L5ind (Q:QT) (x1:List Nat) (i2 o2:Nat) {G:Type} (J:G→List Nat→Int→Zaa→Prop) (m:G→Nat)
 (hr:∀ (g:G) (x5:List Nat) (x6:Int) (h:Zaa),J g x5 x6 h→∀ (R5:T5),(∀ g' (x5:List Nat) (x6:Int) (h:Zaa),m g' < m g→J g' x5 x6 h→R5 x1 i2 o2 x5 x6 h)→L5t Q R5 x1 i2 o2 x5 x6 h)
 (g:G) (x5:List Nat) (x6:Int) (h:Zaa) (hj:J g x5 x6 h):L5 Q x1 i2 o2 x5 x6 h:=by
 let P:=fun (K:List Nat→Int→Zaa→Prop) x1' i2' o2' x5 x6 h=>x1=x1'∧i2=i2'∧o2=o2'∧K x5 x6 h
 refine Zej.inv2 (fun g=>E5 (P (J g))) (fun g=>E5 (P fun x5 x6 h=>∃ g',m g' < m g∧J g' x5 x6 h)) m ?_ ?_ g ⟨rfl,rfl,rfl,hj⟩
 ·intro g env h hi
  obtain ⟨x1',i2',o2',x5,x6,rfl,rfl,rfl,rfl,hj⟩:=Zik hi
  exact Ztv Q _ x1 i2 o2 x5 x6 h (hr g x5 x6 h hj (P fun x5 x6 h=>∃ g',m g' < m g∧J g' x5 x6 h) fun g' x5 x6 h hlt hj=>⟨rfl,rfl,rfl,g',hlt,hj⟩)
 ·intro g env h hi
  obtain ⟨x1',i2',o2',x5,x6,rfl,rfl,rfl,rfl,g',hlt,hj⟩:=Zik hi
  exact ⟨g',hlt,rfl,rfl,rfl,hj⟩
theorem J6i (Q:QT) (R5:T5) (x6:Int) (i2 o2:Nat) (x1 x5:List Nat) (h:Zaa) (ht :
 R5 x1 i2 o2 x5 (IntKind.wrap .i64 (x6 - 1)) h):J6 Q R5 x6 i2 o2 x1 x5 h:=
 Zba (kp:=kp) (cast (by kernel_rfl) ht)
theorem A5x0i (Q:QT) (i2 o2:Nat) (x5:List Nat) (h:Zaa) (ht :
 xSl (Zag h (.ptr (i2,o2 + 0))) fun A B C D=>L12 Q x5 [] A B C D (((B:Nat):Int)) 0 h):A5x0 Q i2 o2 x5 h:=
 At.mk (cast (by kernel_rfl) ht)
def L12t (Q:QT) (R12:T12) (x5 x8:List Nat) (a43:Pt) (n43 c43:Nat) (e43:Bool) (x44 x45:Int) (h:Zaa):Prop:=
 bcase (decide ((x45:Int) < x44)) ((0≤(x45:Int)∧(x45:Int) < (n43:Nat))∧(Zbf a43 fun A B=>Zcd (Zbe h (.ptr (A,B + (Int.toNat x45) * 2)) 2) fun A=>Zai A fun A B=>Zbd A fun A=>Zai B fun B C=>Zbd B fun B=>Zbq C (Zcf (h ++ [.cells Zbj [.str [],.str []] false]) fun C=>Zbt (Zbb C (.ptr (h.length,0)) [.str A,.str B]) fun A=>Zbd (Zag A (.ptr (h.length,0 + 0))) fun B=>Zak pg Zfu [.str x5,.str B] A fun A B=>
 Zca A fun A=>bcase A (Zbd (Zag B (.ptr (h.length,0 + 0))) fun A=>List.length x8 + List.length A≤9223372036854775807∧(J16 Q R12 x45 x44 a43 n43 c43 e43 x5 (x8 ++ A) B)) (J16 Q R12 x45 x44 a43 n43 c43 e43 x5 x8 B)))) (Ypw Q x8 h)
theorem Yqp (Q:QT) (R12:T12) (x5 x8:List Nat) (a43:Pt) (n43 c43:Nat) (e43:Bool) (x44 x45:Int) (h:Zaa) (ht:L12t Q R12 x5 x8 a43 n43 c43 e43 x44 x45 h):Den pg fn.ntmps (C [1,1,1,1,1,0,1,0,0]) [(5,.str x5),(8,.str x8),(43,.slice a43 n43 c43 e43),(44,.int .i64 x44),(45,.int .i64 x45)] h (K7 Q R12):=
 Zba (kp:=kp) (cast (by kernel_rfl) ht)
theorem L12ind (Q:QT) (x5:List Nat) (a43:Pt) (n43 c43:Nat) (e43:Bool) (x44:Int) {G:Type} (J:G→List Nat→Int→Zaa→Prop) (m:G→Nat)
 (hr:∀ (g:G) (x8:List Nat) (x45:Int) (h:Zaa),J g x8 x45 h→∀ (R12:T12),(∀ g' (x8:List Nat) (x45:Int) (h:Zaa),m g' < m g→J g' x8 x45 h→R12 x5 x8 a43 n43 c43 e43 x44 x45 h)→L12t Q R12 x5 x8 a43 n43 c43 e43 x44 x45 h)
 (g:G) (x8:List Nat) (x45:Int) (h:Zaa) (hj:J g x8 x45 h):L12 Q x5 x8 a43 n43 c43 e43 x44 x45 h:=by
 let P:=fun (K:List Nat→Int→Zaa→Prop) x5' x8 a43' n43' c43' e43' x44' x45 h=>x5=x5'∧a43=a43'∧n43=n43'∧c43=c43'∧e43=e43'∧x44=x44'∧K x8 x45 h
 refine Zej.inv2 (fun g=>E12 (P (J g))) (fun g=>E12 (P fun x8 x45 h=>∃ g',m g' < m g∧J g' x8 x45 h)) m ?_ ?_ g ⟨rfl,rfl,rfl,rfl,rfl,rfl,hj⟩
 ·intro g env h hi
  obtain ⟨x5',x8,a43',n43',c43',e43',x44',x45,rfl,rfl,rfl,rfl,rfl,rfl,rfl,hj⟩:=Ycn hi
  exact Yqp Q _ x5 x8 a43 n43 c43 e43 x44 x45 h (hr g x8 x45 h hj (P fun x8 x45 h=>∃ g',m g' < m g∧J g' x8 x45 h) fun g' x8 x45 h hlt hj=>⟨rfl,rfl,rfl,rfl,rfl,rfl,g',hlt,hj⟩)
 ·intro g env h hi
  obtain ⟨x5',x8,a43',n43',c43',e43',x44',x45,rfl,rfl,rfl,rfl,rfl,rfl,rfl,g',hlt,hj⟩:=Ycn hi
  exact ⟨g',hlt,rfl,rfl,rfl,rfl,rfl,rfl,hj⟩
theorem J16i (Q:QT) (R12:T12) (x45 x44:Int) (a43:Pt) (n43 c43:Nat) (e43:Bool) (x5 x8:List Nat) (h:Zaa) (ht :
 R12 x5 x8 a43 n43 c43 e43 x44 (IntKind.wrap .i64 (x45 + 1)) h):J16 Q R12 x45 x44 a43 n43 c43 e43 x5 x8 h:=
 Zba (kp:=kp) (cast (by kernel_rfl) ht)
theorem A12x2i (Q:QT) (x8:List Nat) (h:Zaa) (ht :
 Q (.str x8) h):Ypw Q x8 h:=
 At.mk (cast (by kernel_rfl) ht)
theorem call (a0x0:Pt) (n0x0 c0x0:Nat) (e0x0:Bool) (a0x1:Pt) (n0x1 c0x1:Nat) (e0x1:Bool) (x1:List Nat) (h:Zaa) (Q:QT) (ht :
 Zcf (h ++ [.cells Zac [.slice a0x0 n0x0 c0x0 e0x0,.slice a0x1 n0x1 c0x1 e0x1] false]) fun A=>Zcd (Zbe A (.ptr (h.length,0)) 2) fun B=>Zai B fun B C=>xSl B fun B D E F=>Zai C fun C G=>xSl C fun C H I J=>Zbq G (Zak pg Zqe [.agg [.slice B D E F,.slice C H I J],.str x1] A fun A B=>
 Zca A fun A=>bcase (!A) (Q (.str []) B) (xSl (Zag B (.ptr (h.length,0 + 0))) fun A A C C=>L5 Q x1 h.length 0 [] (IntKind.wrap .i64 ((((A:Nat):Int)) - 1)) B))):Zak pg Zpj [.agg [.slice a0x0 n0x0 c0x0 e0x0,.slice a0x1 n0x1 c0x1 e0x1],.str x1] h Q:=
 Zak.of_body kp (c:=cod fn) (fn:=fn) Go.Proofs.Tryz.func52 (by kernel_rfl) (by kernel_rfl) (Nat.le_of_ble_eq_true (by kernel_rfl))
  (cast (by kernel_rfl) ht)
end Zel
end Go.Sim
