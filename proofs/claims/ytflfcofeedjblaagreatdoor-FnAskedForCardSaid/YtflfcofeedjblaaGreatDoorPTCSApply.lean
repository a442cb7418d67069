/- A part of the proof of a statement of this seat: see the text that holds the theorem. No condition. -/
import Derived.Test.YtflfcofeedjblaaGreatDoorNm
set_option linter.unusedVariables false
set_option linter.unusedSimpArgs false
set_option linter.all false
set_option maxRecDepth 100000
set_option maxHeartbeats 0
set_option linter.unusedVariables false
namespace Go.Sim
open Go Go.RowKit
namespace Zgl
noncomputable abbrev fn:Func:=Go.Proofs.Tryz.f6
def kp:Zch:=[(4000008,[3,4,5]),(2000010,[88,10,5,3,11]),(4000012,[10,5,3,11]),(3000014,[2]),(1000014,[3,91,92,93]),(2000020,[2])]
noncomputable def C (p:List Nat):Code:=(cod fn).sub p
def KR (Q:QT):KT:=Zfd pg fn.results.toList Q
abbrev T14:=Nat→Nat→Pt→Nat→Nat→Bool→Int→Int→Zaa→Prop
def E14 (R14:T14) (env:Env) (h:Zaa):Prop:=Zbu 3 env fun v env=>Zgn v fun a=>Zbf a fun i3 o3=>Zbu 91 env fun v env=>xSl v fun a91 n91 c91 e91=>Zbu 92 env fun v env=>Zdz .i64 v fun x92=>Zbu 93 env fun v env=>Zdz .i64 v fun x93=>Zin env (R14 i3 o3 a91 n91 c91 e91 x92 x93 h)
theorem Yqq {R14:T14} {env:Env} {h:Zaa} (hi:E14 R14 env h):∃ i3,∃ o3,∃ a91,∃ n91,∃ c91,∃ e91,∃ x92,∃ x93,env=[(3,.ptr (i3,o3)),(91,.slice a91 n91 c91 e91),(92,.int .i64 x92),(93,.int .i64 x93)]∧R14 i3 o3 a91 n91 c91 e91 x92 x93 h:=by
 unfold E14 at hi
 have hi0:=hi
 clear hi
 obtain ⟨_,_,rfl,hi1⟩:=Zaf hi0
 obtain ⟨a,rfl,hi2⟩:=Zbn hi1
 obtain ⟨i3,o3,rfl,hi3⟩:=Zbk hi2
 obtain ⟨_,_,rfl,hi4⟩:=Zaf hi3
 obtain ⟨a91,n91,c91,e91,rfl,hi5⟩:=Zbp hi4
 obtain ⟨_,_,rfl,hi6⟩:=Zaf hi5
 obtain ⟨x92,rfl,hi7⟩:=Zav hi6
 obtain ⟨_,_,rfl,hi8⟩:=Zaf hi7
 obtain ⟨x93,rfl,hi9⟩:=Zav hi8
 obtain ⟨rfl,hi10⟩:=Zbl hi9
 have hi:=hi10
 exact ⟨i3,o3,a91,n91,c91,e91,x92,x93,rfl,hi⟩
def K0 (Q:QT):KT:=andThen (fun env' h'=>(match kp.find 4000020 with | some ks=>Den pg fn.ntmps (C [1,1,1,1,1,1,1,1,1,1]) (env'.keep ks) h' (KR Q) | none=>den pg fn.ntmps kp (C [1,1,1,1,1,1,1,1,1,1]) env' h' (KR Q))) (KR Q)
def K1 (Q:QT):KT:=andThen (fun env' h'=>(match kp.find 4000019 with | some ks=>Den pg fn.ntmps (C [1,1,1,1,1,1,1,1,1,0,1,0,1]) (env'.keep ks) h' (K0 Q) | none=>den pg fn.ntmps kp (C [1,1,1,1,1,1,1,1,1,0,1,0,1]) env' h' (K0 Q))) (K0 Q)
def K2 (Q:QT):KT:=Zcj 0 (K1 Q)
def K3 (Q:QT):KT:=left kp 14 (K2 Q)
def K4 (Q:QT) (R14:T14):KT:=rnd ((kp.find 1000014).getD []) (E14 R14) (K3 Q)
def J8 (Q:QT) (i3 o3 i4 o4:Nat) (a5:Pt) (n5 c5:Nat) (e5:Bool) (h:Zaa):Prop:=Den pg fn.ntmps (C [1,1,1,1,1,1]) [(3,.ptr (i3,o3)),(4,.ptr (i4,o4)),(5,.slice a5 n5 c5 e5)] h (KR Q)
def J12 (Q:QT) (x10:List Nat) (a5:Pt) (n5 c5:Nat) (e5:Bool) (i3 o3 i11 o11:Nat) (h:Zaa):Prop:=Den pg fn.ntmps (C [1,1,1,1,1,1,1,1,1]) [(10,.str x10),(5,.slice a5 n5 c5 e5),(3,.ptr (i3,o3)),(11,.ptr (i11,o11))] h (KR Q)
def L14 (Q:QT) (i3 o3:Nat) (a91:Pt) (n91 c91:Nat) (e91:Bool) (x92 x93:Int) (h:Zaa):Prop:=Zej (Den pg fn.ntmps (C [1,1,1,1,1,1,1,1,1,0,1,0,0,1,0,0])) ((kp.find 1000014).getD []) (K3 Q) [(3,.ptr (i3,o3)),(91,.slice a91 n91 c91 e91),(92,.int .i64 x92),(93,.int .i64 x93)] h
def Xae (Q:QT) (h:Zaa):Prop:=At (K2 Q) (.exit 0) [(2,.undef)] h
theorem J8i (Q:QT) (i3 o3 i4 o4:Nat) (a5:Pt) (n5 c5:Nat) (e5:Bool) (h:Zaa) (ht :
 Zcd (Zbe h (.ptr (i3,o3)) 2) fun A=>Zai A fun A B=>xSl A fun A C D E=>Zai B fun B F=>xSl B fun B G H I=>Zbq F (Zcd (Zbe h (.ptr (i4,o4)) 2) fun F=>Zai F fun F J=>Zbd F fun F=>Zai J fun J K=>Zbd J fun J=>Zbq K (Zak pg Zmk [.agg [.slice A C D E,.slice B G H I],.agg [.str F,.str J]] h fun A B=>
 Zle A fun A=>Zai A fun A C=>Zbd A fun A=>Zai C fun A C=>Zbd A fun A=>Zbq C (Zcd (Zbe B (.ptr (i3,o3)) 2) fun C=>Zai C fun C D=>xSl C fun C E F G=>Zai D fun D H=>xSl D fun D I J K=>Zbq H (Zcd (Zbe B (.ptr (i4,o4)) 2) fun H=>Zai H fun H L=>Zbd H fun H=>Zai L fun L M=>Zbd L fun L=>Zbq M (Zak pg Zmw [.agg [.slice C E F G,.slice D I J K],.agg [.str H,.str L]] B fun B C=>
 Zle B fun B=>Zai B fun B D=>Zqh B fun B=>Zai B fun B E=>Zbd B fun B=>Zai E fun E F=>Zbd E fun E=>Zbq F (Zai D fun D F=>Zbz D fun D=>Zbq F (Zcf (C ++ [.cells Zab [.str [],.str []] false]) fun F=>Zbt (Zbb F (.ptr (C.length,0)) [.str B,.str E]) fun B=>bcase (!(D == (!(decide (A=[]))))) ((Zbe B (.tup []) 2=Zbe B (.tup []) 2)∧Q (.bool false) B) (bcase ((((n5:Nat):Int):Int) == 0) ((Zbe B (.tup []) 2=Zbe B (.tup []) 2)∧Q (.bool false) B) ((0≤(0:Int)∧(0:Int) < (n5:Nat))∧(Zbf a5 fun D E=>Zcd (Zbe B (.ptr (D,E + (Int.toNat 0) * 2)) 2) fun F=>Zai F fun F G=>Zbd F fun F=>Zai G fun G H=>Zbd G fun G=>Zbq H (Zcd (Zbe B (.ptr (i4,o4)) 2) fun H=>Zai H fun H I=>Zbd H fun H=>Zai I fun I J=>Zbd I fun I=>Zbq J ((Zbe B (.ptr (D,E + (Int.toNat 0) * 2)) 2=Zbe B (.ptr (D,E + (Int.toNat 0) * 2)) 2)∧bcase (!((decide (F=H)) && (decide (G=I)))) (Q (.bool false) B) (bcase (decide (((((n5:Nat):Int)):Int) > 300)) (Q (.bool false) B) (J12 Q A a5 n5 c5 e5 i3 o3 C.length 0 B))))))))))))))):J8 Q i3 o3 i4 o4 a5 n5 c5 e5 h:=
 Zba (kp:=kp) (cast (by kernel_rfl) ht)
theorem J12i (Q:QT) (x10:List Nat) (a5:Pt) (n5 c5:Nat) (e5:Bool) (i3 o3 i11 o11:Nat) (h:Zaa) (ht :
 bcase (decide (x10=[])) (L14 Q i3 o3 a5 n5 c5 e5 (((n5:Nat):Int)) 0 h) (bcase (decide (x10=[108,111,110,103])) ((Zbe h (.tup []) 2=Zbe h (.tup []) 2)∧Q (.bool true) h) ((0≤(IntKind.wrap .i64 ((((n5:Nat):Int)) - 1):Int)∧(IntKind.wrap .i64 ((((n5:Nat):Int)) - 1):Int) < (n5:Nat))∧(Zbf a5 fun A B=>Zcd (Zbe h (.ptr (A,B + (Int.toNat (IntKind.wrap .i64 ((((n5:Nat):Int)) - 1))) * 2)) 2) fun C=>Zai C fun C D=>Zbd C fun C=>Zai D fun D E=>Zbd D fun D=>Zbq E (Zcd (Zbe h (.ptr (i11,o11)) 2) fun E=>Zai E fun E F=>Zbd E fun E=>Zai F fun F G=>Zbd F fun F=>Zbq G ((Zbe h (.ptr (A,B + (Int.toNat (IntKind.wrap .i64 ((((n5:Nat):Int)) - 1))) * 2)) 2=Zbe h (.ptr (A,B + (Int.toNat (IntKind.wrap .i64 ((((n5:Nat):Int)) - 1))) * 2)) 2)∧Q (.bool ((decide (C=E)) && (decide (D=F)))) h)))))):J12 Q x10 a5 n5 c5 e5 i3 o3 i11 o11 h:=
 Zba (kp:=kp) (cast (by kernel_rfl) ht)
def L14t (Q:QT) (R14:T14) (i3 o3:Nat) (a91:Pt) (n91 c91:Nat) (e91:Bool) (x92 x93:Int) (h:Zaa):Prop:=
 bcase (decide ((x93:Int) < x92)) ((0≤(x93:Int)∧(x93:Int) < (n91:Nat))∧(Zbf a91 fun A B=>Zcd (Zbe h (.ptr (A,B + (Int.toNat x93) * 2)) 2) fun A=>Zai A fun A B=>Zbd A fun A=>Zai B fun B C=>Zbd B fun B=>Zbq C (Zcf (h ++ [.cells Zab [.str [],.str []] false]) fun C=>Zbt (Zbb C (.ptr (h.length,0)) [.str A,.str B]) fun A=>Zcd (Zbe A (.ptr (i3,o3)) 2) fun B=>Zai B fun B C=>xSl B fun B D E F=>Zai C fun C G=>xSl C fun C H I J=>Zbq G (Zcd (Zbe A (.ptr (h.length,0)) 2) fun G=>Zai G fun G K=>Zbd G fun G=>Zai K fun K L=>Zbd K fun K=>Zbq L (Zak pg Zma [.agg [.slice B D E F,.slice C H I J],.agg [.str G,.str K]] A fun A B=>
 Zbz A fun A=>bcase (!A) (Q (.bool false) B) (R14 i3 o3 a91 n91 c91 e91 x92 (IntKind.wrap .i64 (x93 + 1)) B)))))) (Xae Q h)
theorem Xag (Q:QT) (R14:T14) (i3 o3:Nat) (a91:Pt) (n91 c91:Nat) (e91:Bool) (x92 x93:Int) (h:Zaa) (ht:L14t Q R14 i3 o3 a91 n91 c91 e91 x92 x93 h):Den pg fn.ntmps (C [1,1,1,1,1,1,1,1,1,0,1,0,0,1,0,0]) [(3,.ptr (i3,o3)),(91,.slice a91 n91 c91 e91),(92,.int .i64 x92),(93,.int .i64 x93)] h (K4 Q R14):=
 Zba (kp:=kp) (cast (by kernel_rfl) ht)
theorem L14ind (Q:QT) (i3 o3:Nat) (a91:Pt) (n91 c91:Nat) (e91:Bool) (x92:Int) {G:Type} (J:G→Int→Zaa→Prop) (m:G→Nat)
 (hr:∀ (g:G) (x93:Int) (h:Zaa),J g x93 h→∀ (R14:T14),(∀ g' (x93:Int) (h:Zaa),m g' < m g→J g' x93 h→R14 i3 o3 a91 n91 c91 e91 x92 x93 h)→L14t Q R14 i3 o3 a91 n91 c91 e91 x92 x93 h)
 (g:G) (x93:Int) (h:Zaa) (hj:J g x93 h):L14 Q i3 o3 a91 n91 c91 e91 x92 x93 h:=by
 let P:=fun (K:Int→Zaa→Prop) i3' o3' a91' n91' c91' e91' x92' x93 h=>i3=i3'∧o3=o3'∧a91=a91'∧n91=n91'∧c91=c91'∧e91=e91'∧x92=x92'∧K x93 h
 refine Zej.inv2 (fun g=>E14 (P (J g))) (fun g=>E14 (P fun x93 h=>∃ g',m g' < m g∧J g' x93 h)) m ?_ ?_ g ⟨rfl,rfl,rfl,rfl,rfl,rfl,rfl,hj⟩
 ·intro g env h hi
  obtain ⟨i3',o3',a91',n91',c91',e91',x92',x93,rfl,rfl,rfl,rfl,rfl,rfl,rfl,rfl,hj⟩:=Yqq hi
  exact Xag Q _ i3 o3 a91 n91 c91 e91 x92 x93 h (hr g x93 h hj (P fun x93 h=>∃ g',m g' < m g∧J g' x93 h) fun g' x93 h hlt hj=>⟨rfl,rfl,rfl,rfl,rfl,rfl,rfl,g',hlt,hj⟩)
 ·intro g env h hi
  obtain ⟨i3',o3',a91',n91',c91',e91',x92',x93,rfl,rfl,rfl,rfl,rfl,rfl,rfl,rfl,g',hlt,hj⟩:=Yqq hi
  exact ⟨g',hlt,rfl,rfl,rfl,rfl,rfl,rfl,rfl,hj⟩
theorem A14x0i (Q:QT) (h:Zaa) (ht :
 Q (.bool true) h):Xae Q h:=
 At.mk (cast (by kernel_rfl) ht)
theorem call (a0:Pt) (n0 c0:Nat) (e0:Bool) (h:Zaa) (Q:QT) (ht :
 bcase (decide (((((n0:Nat):Int)):Int) > 1048576)) (Q (.bool true) h) (Zak pg Zlp [.slice a0 n0 c0 e0] h fun A B=>
 Zle A fun A=>Zai A fun A C=>Zqh A fun A=>Zai A fun A D=>xSl A fun A E F G=>Zai D fun D H=>xSl D fun D I J K=>Zbq H (Zai C fun C H=>Zqh C fun C=>Zai C fun C L=>Zbd C fun C=>Zai L fun L M=>Zbd L fun L=>Zbq M (Zbq H (Zcf (B ++ [.cells Zac [.slice none 0 0 true,.slice none 0 0 true] false]) fun H=>Zcf (H ++ [.cells Zab [.str [],.str []] false]) fun M=>Zbt (Zbb M (.ptr (B.length,0)) [.slice A E F G,.slice D I J K]) fun A=>Zbt (Zbb A (.ptr (H.length,0)) [.str C,.str L]) fun A=>Zcd (Zbe A (.ptr (B.length,0)) 2) fun C=>Zai C fun C D=>xSl C fun C E F G=>Zai D fun D I=>xSl D fun D J K L=>Zbq I (Zcd (Zbe A (.ptr (H.length,0)) 2) fun I=>Zai I fun I M=>Zbd I fun I=>Zai M fun M N=>Zbd M fun M=>Zbq N (Zak pg Zpm [.agg [.slice C E F G,.slice D J K L],.agg [.str I,.str M]] A fun A C=>
 Zle A fun A=>Zai A fun A D=>xSl A fun A E F G=>Zai D fun D I=>Zbz D fun D=>Zbq I (Zcd (Zbe C (.ptr (B.length,0)) 2) fun I=>Zai I fun I J=>xSl I fun I K L M=>Zai J fun J N=>xSl J fun J O P R=>Zbq N (Zcd (Zbe C (.ptr (H.length,0)) 2) fun N=>Zai N fun N S=>Zbd N fun N=>Zai S fun S T=>Zbd S fun S=>Zbq T (Zak pg Zpi [.agg [.slice I K L M,.slice J O P R],.agg [.str N,.str S]] C fun C I=>
 Zle C fun C=>Zai C fun C J=>xSl C fun C K L M=>Zai J fun J N=>Zbz J fun J=>Zbq N (Zak pg Zez [.slice A E F G,.slice C K L M] I fun I N=>
 Zbz I fun I=>bcase (!I) (Zak pg Zez [.slice A E F G,.slice C K L M] N fun I O=>
 Zbz I fun I=>bcase I (Q (.bool (D == J)) O) (Q (.bool false) O)) (bcase (!(D == J)) (Zak pg Zez [.slice A E F G,.slice C K L M] N fun I O=>
 Zbz I fun I=>bcase I (Q (.bool (D == J)) O) (Q (.bool false) O)) (bcase (!D) (Zak pg Zez [.slice A E F G,.slice C K L M] N fun C I=>
 Zbz C fun C=>bcase C (Q (.bool (D == J)) I) (Q (.bool false) I)) (J8 Q B.length 0 H.length 0 A E F G N)))))))))))))):Zak pg Zrh [.slice a0 n0 c0 e0] h Q:=
 Zak.of_body kp (c:=cod fn) (fn:=fn) Go.Proofs.Tryz.func6 (by kernel_rfl) (by kernel_rfl) (Nat.le_of_ble_eq_true (by kernel_rfl))
  (cast (by kernel_rfl) ht)
end Zgl
end Go.Sim

set_option maxRecDepth 100000
set_option maxHeartbeats 0
set_option linter.unusedVariables false
namespace Go.Sim
open Go Go.RowKit
namespace Zhg
noncomputable abbrev fn:Func:=Go.Proofs.Tryz.f47
def kp:Zch:=[]
noncomputable def C (p:List Nat):Code:=(cod fn).sub p
def KR (Q:QT):KT:=Zfd pg fn.results.toList Q
theorem call (a0:Pt) (n0 c0:Nat) (e0:Bool) (h:Zaa) (Q:QT) (ht :
 Zhw a0 n0 c0 e0 2 none (some (.int .i64 (((n0:Nat):Int)))) (some (.int .i64 (((n0:Nat):Int)))) fun A=>xSl A fun A B C D=>Q (.slice A B C D) h):Zak pg Zfn [.slice a0 n0 c0 e0] h Q:=
 Zak.of_body kp (c:=cod fn) (fn:=fn) Go.Proofs.Tryz.func47 (by kernel_rfl) (by kernel_rfl) (Nat.le_of_ble_eq_true (by kernel_rfl))
  (cast (by kernel_rfl) ht)
end Zhg
namespace Ztw
noncomputable abbrev fn:Func:=Go.Proofs.Tryz.f25
def kp:Zch:=[]
noncomputable def C (p:List Nat):Code:=(cod fn).sub p
def KR (Q:QT):KT:=Zfd pg fn.results.toList Q
theorem call (a0x0:Pt) (n0x0 c0x0:Nat) (e0x0:Bool) (a0x1:Pt) (n0x1 c0x1:Nat) (e0x1:Bool) (x1x0 x1x1:List Nat) (h:Zaa) (Q:QT) (ht :
 Zcf (h ++ [.cells Zac [.slice a0x0 n0x0 c0x0 e0x0,.slice a0x1 n0x1 c0x1 e0x1] false]) fun A=>Zcf (A ++ [.cells Zab [.str x1x0,.str x1x1] false]) fun B=>Zcd (Zbe B (.ptr (h.length,0)) 2) fun C=>Zai C fun C D=>xSl C fun C E F G=>Zai D fun D H=>xSl D fun D I J K=>Zbq H (Zcd (Zbe B (.ptr (A.length,0)) 2) fun A=>Zai A fun A H=>Zbd A fun A=>Zai H fun H L=>Zbd H fun H=>Zbq L (Zak pg Zjq [.agg [.slice C E F G,.slice D I J K],.agg [.str A,.str H],.bool false] B fun A B=>
 Zle A fun A=>Zai A fun A C=>Zgn A fun A=>Zai C fun C D=>Zbd C fun C=>Zai D fun C D=>Zbd C fun C=>Zbq D (bcase (decide (C=[119,114,111,110,103])) (Q (.tup [.slice none 0 0 true,.bool false]) B) (Zbf A fun A C=>xSl (Zag B (.ptr (A,C + 4))) fun A C D E=>Zak pg Zfn [.slice A C D E] B fun A B=>
 xSl A fun A C D E=>Q (.tup [.slice A C D E,.bool true]) B))))):Zak pg Zpm [.agg [.slice a0x0 n0x0 c0x0 e0x0,.slice a0x1 n0x1 c0x1 e0x1],.agg [.str x1x0,.str x1x1]] h Q:=
 Zak.of_body kp (c:=cod fn) (fn:=fn) Go.Proofs.Tryz.func25 (by kernel_rfl) (by kernel_rfl) (Nat.le_of_ble_eq_true (by kernel_rfl))
  (cast (by kernel_rfl) ht)
end Ztw
namespace Ztr
noncomputable abbrev fn:Func:=Go.Proofs.Tryz.f26
def kp:Zch:=[]
noncomputable def C (p:List Nat):Code:=(cod fn).sub p
def KR (Q:QT):KT:=Zfd pg fn.results.toList Q
theorem call (a0x0:Pt) (n0x0 c0x0:Nat) (e0x0:Bool) (a0x1:Pt) (n0x1 c0x1:Nat) (e0x1:Bool) (x1x0 x1x1:List Nat) (h:Zaa) (Q:QT) (ht :
 Zcf (h ++ [.cells Zac [.slice a0x0 n0x0 c0x0 e0x0,.slice a0x1 n0x1 c0x1 e0x1] false]) fun A=>Zcf (A ++ [.cells Zab [.str x1x0,.str x1x1] false]) fun B=>Zcd (Zbe B (.ptr (h.length,0)) 2) fun C=>Zai C fun C D=>xSl C fun C E F G=>Zai D fun D H=>xSl D fun D I J K=>Zbq H (Zak pg Zjh [.agg [.slice C E F G,.slice D I J K]] B fun B C=>
 Zqh B fun B=>Zai B fun B D=>xSl B fun B E F G=>Zai D fun D H=>xSl D fun D I J K=>Zbq H (Zbt (Zbb C (.ptr (h.length,0)) [.slice B E F G,.slice D I J K]) fun B=>Zcd (Zbe B (.ptr (h.length,0)) 2) fun C=>Zai C fun C D=>xSl C fun C E F G=>Zai D fun D H=>xSl D fun D I J K=>Zbq H (Zcd (Zbe B (.ptr (A.length,0)) 2) fun A=>Zai A fun A H=>Zbd A fun A=>Zai H fun H L=>Zbd H fun H=>Zbq L (Zak pg Zqt [.agg [.slice C E F G,.slice D I J K],.agg [.str A,.str H],.bool false] B fun A B=>
 Zle A fun A=>Zai A fun A C=>Zgn A fun A=>Zai C fun C D=>Zbd C fun C=>Zai D fun C D=>Zbz C fun C=>Zbq D (Zbf A fun A D=>xSl (Zag B (.ptr (A,D + 3))) fun A D E F=>Q (.tup [.slice A D E F,.bool C]) B)))))):Zak pg Zpi [.agg [.slice a0x0 n0x0 c0x0 e0x0,.slice a0x1 n0x1 c0x1 e0x1],.agg [.str x1x0,.str x1x1]] h Q:=
 Zak.of_body kp (c:=cod fn) (fn:=fn) Go.Proofs.Tryz.func26 (by kernel_rfl) (by kernel_rfl) (Nat.le_of_ble_eq_true (by kernel_rfl))
  (cast (by kernel_rfl) ht)
end Ztr
end Go.Sim

set_option maxRecDepth 100000
set_option maxHeartbeats 0
set_option linter.unusedVariables false
namespace Go.Sim
open Go Go.RowKit
namespace Ztt
noncomputable abbrev fn:Func:=Go.Proofs.Tryz.f42
def kp:Zch:=[]
noncomputable def C (p:List Nat):Code:=(cod fn).sub p
def KR (Q:QT):KT:=Zfd pg fn.results.toList Q
theorem call (a0x0:Pt) (n0x0 c0x0:Nat) (e0x0:Bool) (a0x1:Pt) (n0x1 c0x1:Nat) (e0x1:Bool) (x1x0 x1x1:List Nat) (x2:Bool) (h:Zaa) (Q:QT) (ht :
 Zcf (h ++ [.cells Zac [.slice a0x0 n0x0 c0x0 e0x0,.slice a0x1 n0x1 c0x1 e0x1] false]) fun A=>Zcf (A ++ [.cells Zab [.str x1x0,.str x1x1] false]) fun B=>Zcd (Zbe B (.ptr (h.length,0)) 2) fun C=>Zai C fun C D=>xSl C fun C E F G=>Zai D fun D H=>xSl D fun D I J K=>Zbq H (Zcf (B ++ [.cells Zfc [.slice C E F G,.slice D I J K,.bool x2,.fn Zdf [],.slice none 0 0 true,.str [],.str [],.slice none 0 0 true] false]) fun C=>Zcd (Zbe C (.ptr (h.length,0)) 2) fun D=>Zai D fun D E=>xSl D fun D F G H=>Zai E fun E I=>xSl E fun E J K L=>Zbq I (Zcd (Zbe C (.ptr (A.length,0)) 2) fun I=>Zai I fun I M=>Zbd I fun I=>Zai M fun M N=>Zbd M fun M=>Zbq N (Zak pg Zod [.agg [.slice D F G H,.slice E J K L],.agg [.str I,.str M]] C fun C D=>
 Zbz C fun C=>bcase (!C) (Q (.tup [.ptr (B.length,0),.str [],.str ([119,114,111,110,103])]) D) (Zcd (Zbe D (.ptr (A.length,0)) 2) fun A=>Zai A fun A C=>Zbd A fun A=>Zai C fun C E=>Zbd C fun C=>Zbq E (Zak pg Zhz [.ptr (B.length,0),.agg [.str A,.str C],.slice none 0 0 true] D fun A C=>
 Zle A fun A=>Zai A fun A D=>Zbd A fun A=>Zai D fun D E=>Zbd D fun D=>Zbq E (Q (.tup [.ptr (B.length,0),.str A,.str D]) C))))))):Zak pg Zjq [.agg [.slice a0x0 n0x0 c0x0 e0x0,.slice a0x1 n0x1 c0x1 e0x1],.agg [.str x1x0,.str x1x1],.bool x2] h Q:=
 Zak.of_body kp (c:=cod fn) (fn:=fn) Go.Proofs.Tryz.func42 (by kernel_rfl) (by kernel_rfl) (Nat.le_of_ble_eq_true (by kernel_rfl))
  (cast (by kernel_rfl) ht)
end Ztt
namespace Ztq
noncomputable abbrev fn:Func:=Go.Proofs.Tryz.f18
def kp:Zch:=[]
noncomputable def C (p:List Nat):Code:=(cod fn).sub p
def KR (Q:QT):KT:=Zfd pg fn.results.toList Q
theorem call (a0x0:Pt) (n0x0 c0x0:Nat) (e0x0:Bool) (a0x1:Pt) (n0x1 c0x1:Nat) (e0x1:Bool) (x1x0 x1x1:List Nat) (h:Zaa) (Q:QT) (ht :
 Zcf (h ++ [.cells Zac [.slice a0x0 n0x0 c0x0 e0x0,.slice a0x1 n0x1 c0x1 e0x1] false]) fun A=>Zcf (A ++ [.cells Zab [.str x1x0,.str x1x1] false]) fun B=>Zcd (Zbe B (.ptr (h.length,0)) 2) fun C=>Zai C fun C D=>xSl C fun C E F G=>Zai D fun D H=>xSl D fun D I J K=>Zbq H (Zcd (Zbe B (.ptr (A.length,0)) 2) fun A=>Zai A fun A H=>Zbd A fun A=>Zai H fun H L=>Zbd H fun H=>Zbq L (Zak pg Zjq [.agg [.slice C E F G,.slice D I J K],.agg [.str A,.str H],.bool false] B fun A B=>
 Zle A fun A=>Zai A fun A C=>Zgn A fun A=>Zai C fun A C=>Zbd A fun A=>Zai C fun C D=>Zbd C fun C=>Zbq D (Q (.tup [.str A,.str C]) B)))):Zak pg Zmk [.agg [.slice a0x0 n0x0 c0x0 e0x0,.slice a0x1 n0x1 c0x1 e0x1],.agg [.str x1x0,.str x1x1]] h Q:=
 Zak.of_body kp (c:=cod fn) (fn:=fn) Go.Proofs.Tryz.func18 (by kernel_rfl) (by kernel_rfl) (Nat.le_of_ble_eq_true (by kernel_rfl))
  (cast (by kernel_rfl) ht)
end Ztq
namespace Zql
noncomputable abbrev fn:Func:=Go.Proofs.Tryz.f21
def kp:Zch:=[]
noncomputable def C (p:List Nat):Code:=(cod fn).sub p
def KR (Q:QT):KT:=Zfd pg fn.results.toList Q
theorem call (a0x0:Pt) (n0x0 c0x0:Nat) (e0x0:Bool) (a0x1:Pt) (n0x1 c0x1:Nat) (e0x1:Bool) (x1x0 x1x1:List Nat) (h:Zaa) (Q:QT) (ht :
 Zcf (h ++ [.cells Zac [.slice a0x0 n0x0 c0x0 e0x0,.slice a0x1 n0x1 c0x1 e0x1] false]) fun A=>Zcf (A ++ [.cells Zab [.str x1x0,.str x1x1] false]) fun B=>Zcd (Zbe B (.ptr (h.length,0)) 2) fun C=>Zai C fun C D=>xSl C fun C E F G=>Zai D fun D H=>xSl D fun D I J K=>Zbq H (Zcd (Zbe B (.ptr (A.length,0)) 2) fun A=>Zai A fun A H=>Zbd A fun A=>Zai H fun H L=>Zbd H fun H=>Zbq L (Zak pg Zmk [.agg [.slice C E F G,.slice D I J K],.agg [.str A,.str H]] B fun A B=>
 Zle A fun A=>Zai A fun A C=>Zbd A fun A=>Zai C fun A C=>Zbd A fun A=>Zbq C (Q (.bool (decide (A=[]))) B)))):Zak pg Zma [.agg [.slice a0x0 n0x0 c0x0 e0x0,.slice a0x1 n0x1 c0x1 e0x1],.agg [.str x1x0,.str x1x1]] h Q:=
 Zak.of_body kp (c:=cod fn) (fn:=fn) Go.Proofs.Tryz.func21 (by kernel_rfl) (by kernel_rfl) (Nat.le_of_ble_eq_true (by kernel_rfl))
  (cast (by kernel_rfl) ht)
end Zql
namespace Zmx
noncomputable abbrev fn:Func:=Go.Proofs.Tryz.f27
def kp:Zch:=[(4000004,[6,4])]
noncomputable def C (p:List Nat):Code:=(cod fn).sub p
def KR (Q:QT):KT:=Zfd pg fn.results.toList Q
def J4 (Q:QT) (a6:Pt) (i4 o4:Nat) (h:Zaa):Prop:=Den pg fn.ntmps (C [1,1,1]) [(6,.ptr a6),(4,.ptr (i4,o4))] h (KR Q)
theorem J4i (Q:QT) (a6:Pt) (i4 o4:Nat) (h:Zaa) (ht :
 Zbf a6 fun A B=>Zcd (Zbe h (.ptr (A,B + 5)) 2) fun A=>Zai A fun A B=>Zbd A fun A=>Zai B fun B C=>Zbd B fun B=>Zbq C (Zbt (Zbb h (.ptr (i4,o4)) [.str A,.str B]) fun A=>Zcd (Zbe A (.ptr (i4,o4)) 2) fun B=>Zai B fun B C=>Zbd B fun B=>Zai C fun C D=>Zbd C fun C=>Zbq D (Q (.tup [.agg [.str B,.str C],.bool true]) A))):J4 Q a6 i4 o4 h:=
 Zba (kp:=kp) (cast (by kernel_rfl) ht)
theorem call (a0x0:Pt) (n0x0 c0x0:Nat) (e0x0:Bool) (a0x1:Pt) (n0x1 c0x1:Nat) (e0x1:Bool) (x1x0 x1x1:List Nat) (h:Zaa) (Q:QT) (ht :
 Zcf (h ++ [.cells Zac [.slice a0x0 n0x0 c0x0 e0x0,.slice a0x1 n0x1 c0x1 e0x1] false]) fun A=>Zcf (A ++ [.cells Zab [.str x1x0,.str x1x1] false]) fun B=>Zcf (B ++ [.cells Zab [.str [],.str []] false]) fun C=>Zcd (Zbe C (.ptr (h.length,0)) 2) fun D=>Zai D fun D E=>xSl D fun D F G H=>Zai E fun E I=>xSl E fun E J K L=>Zbq I (Zcd (Zbe C (.ptr (A.length,0)) 2) fun A=>Zai A fun A I=>Zbd A fun A=>Zai I fun I M=>Zbd I fun I=>Zbq M (Zak pg Zjq [.agg [.slice D F G H,.slice E J K L],.agg [.str A,.str I],.bool false] C fun A C=>
 Zle A fun A=>Zai A fun A D=>Zgn A fun A=>Zai D fun D E=>Zbd D fun D=>Zai E fun D E=>Zbd D fun D=>Zbq E (bcase (decide (D=[])) (Zbt (Zbb C (.ptr (B.length,0)) [.str [],.str []]) fun E=>Zcd (Zbe E (.ptr (B.length,0)) 2) fun F=>Zai F fun F G=>Zbd F fun F=>Zai G fun G H=>Zbd G fun G=>Zbq H (Q (.tup [.agg [.str F,.str G],.bool false]) E)) (bcase (decide (D=[119,114,111,110,103])) (Zbt (Zbb C (.ptr (B.length,0)) [.str [],.str []]) fun D=>Zcd (Zbe D (.ptr (B.length,0)) 2) fun E=>Zai E fun E F=>Zbd E fun E=>Zai F fun F G=>Zbd F fun F=>Zbq G (Q (.tup [.agg [.str E,.str F],.bool false]) D)) (J4 Q A B.length 0 C)))))):Zak pg Zmw [.agg [.slice a0x0 n0x0 c0x0 e0x0,.slice a0x1 n0x1 c0x1 e0x1],.agg [.str x1x0,.str x1x1]] h Q:=
 Zak.of_body kp (c:=cod fn) (fn:=fn) Go.Proofs.Tryz.func27 (by kernel_rfl) (by kernel_rfl) (Nat.le_of_ble_eq_true (by kernel_rfl))
  (cast (by kernel_rfl) ht)
end Zmx
end Go.Sim

set_option maxRecDepth 100000
set_option maxHeartbeats 0
set_option linter.unusedVariables false
namespace Go.Sim
open Go Go.RowKit
namespace Zhe
noncomputable abbrev fn:Func:=Go.Proofs.Tryz.f104
def kp:Zch:=[]
noncomputable def C (p:List Nat):Code:=(cod fn).sub p
def KR (Q:QT):KT:=Zfd pg fn.results.toList Q
theorem call (a0:Pt) (n0 c0:Nat) (e0:Bool) (h:Zaa) (Q:QT) (ht :
 (a0=none→e0=true)∧(bcase (Option.isNone a0) (Q (.slice none 0 0 true) h) (Zcf (h ++ [.cells Zab [] false]) fun A=>Zci pg Zbo A (.slice (h.length,0) 0 0 true) (.slice a0 n0 c0 e0) fun A B=>xSl A fun A C D E=>Q (.slice A C D E) B))):Zak pg Zdm [.slice a0 n0 c0 e0] h Q:=
 Zak.of_body kp (c:=cod fn) (fn:=fn) Go.Proofs.Tryz.func104 (by kernel_rfl) (by kernel_rfl) (Nat.le_of_ble_eq_true (by kernel_rfl))
  (cast (by kernel_rfl) ht)
end Zhe
namespace Znb
noncomputable abbrev fn:Func:=Go.Proofs.Tryz.f103
def kp:Zch:=[(2000001,[0])]
noncomputable def C (p:List Nat):Code:=(cod fn).sub p
def KR (Q:QT):KT:=Zfd pg fn.results.toList Q
theorem call (x0:List Nat) (v1 v2 v3:Zay) (h:Zaa) (Q:QT) (ht :
 Zgn (Zag h (v3)) fun A=>Zgn (Zag h (v3)) fun B=>Zcd (Zbe h (v1) 2) fun C=>Zai C fun C D=>Zbd C fun C=>Zai D fun D E=>Zbd D fun D=>Zbq E (xSl (Zag h (v2)) fun E F G H=>(Zbe h (v1) 2=Zbe h (v1) 2)∧(Zag h (v3)=Zag h (v3))∧(Zag h (v3)=Zag h (v3))∧Zak pg Zdm [.slice E F G H] h fun E F=>
 xSl E fun E G H I=>(Zbe F (v1) 2=Zbe h (v1) 2)∧(Zag F (v3)=Zag h (v3))∧(Zag F (v3)=Zag h (v3))∧Zbf A fun A J=>Zbt (Zbb F (.ptr (A,J + 5)) [.str C,.str D]) fun A=>(Zag A (v3)=Zag F (v3))∧Zbf B fun B C=>Zbt (Zbb A (.ptr (B,C + 7)) [.slice E G H I]) fun A=>Q (.tup [.str [],.str x0]) A)):Zak pg Zde [.str x0,v1,v2,v3] h Q:=
 Zak.of_body kp (c:=cod fn) (fn:=fn) Go.Proofs.Tryz.func103 (by kernel_rfl) (by kernel_rfl) (Nat.le_of_ble_eq_true (by kernel_rfl))
  (cast (by kernel_rfl) ht)
end Znb
namespace Zda
noncomputable abbrev fn:Func:=Go.Proofs.Tryz.f68
def kp:Zch:=[(2000001,[9,8,4,5,3]),(2000007,[5,10,3,4]),(2000010,[11,10,3,4,5]),(4000018,[3,12,4,10,5]),(2000018,[14,10,12,5,4,13,3]),(2000022,[13,3,15,16]),(3000024,[13,15,6,7]),(1000024,[3,13,15,16,126,127,128]),(4000032,[15,21,19,128,127,126,3,16,13]),(4000033,[128,127,126,3,16,15,13]),(4000036,[15])]
noncomputable def C (p:List Nat):Code:=(cod fn).sub p
def KR (Q:QT):KT:=Zfd pg fn.results.toList Q
abbrev T24:=Nat→Nat→Pt→Nat→Nat→Bool→List Nat→Pt→Nat→Nat→Bool→Pt→Nat→Nat→Bool→Int→Int→Zaa→Prop
def E24 (R24:T24) (env:Env) (h:Zaa):Prop:=Zbu 3 env fun v env=>Zgn v fun a=>Zbf a fun i3 o3=>Zbu 13 env fun v env=>xSl v fun a13 n13 c13 e13=>Zbu 15 env fun v env=>Zbd v fun x15=>Zbu 16 env fun v env=>xSl v fun a16 n16 c16 e16=>Zbu 126 env fun v env=>xSl v fun a126 n126 c126 e126=>Zbu 127 env fun v env=>Zdz .i64 v fun x127=>Zbu 128 env fun v env=>Zdz .i64 v fun x128=>Zin env (R24 i3 o3 a13 n13 c13 e13 x15 a16 n16 c16 e16 a126 n126 c126 e126 x127 x128 h)
theorem Yre {R24:T24} {env:Env} {h:Zaa} (hi:E24 R24 env h):∃ i3,∃ o3,∃ a13,∃ n13,∃ c13,∃ e13,∃ x15,∃ a16,∃ n16,∃ c16,∃ e16,∃ a126,∃ n126,∃ c126,∃ e126,∃ x127,∃ x128,env=[(3,.ptr (i3,o3)),(13,.slice a13 n13 c13 e13),(15,.str x15),(16,.slice a16 n16 c16 e16),(126,.slice a126 n126 c126 e126),(127,.int .i64 x127),(128,.int .i64 x128)]∧R24 i3 o3 a13 n13 c13 e13 x15 a16 n16 c16 e16 a126 n126 c126 e126 x127 x128 h:=by
 unfold E24 at hi
 have hi0:=hi
 clear hi
 obtain ⟨_,_,rfl,hi1⟩:=Zaf hi0
 obtain ⟨a,rfl,hi2⟩:=Zbn hi1
 obtain ⟨i3,o3,rfl,hi3⟩:=Zbk hi2
 obtain ⟨_,_,rfl,hi4⟩:=Zaf hi3
 obtain ⟨a13,n13,c13,e13,rfl,hi5⟩:=Zbp hi4
 obtain ⟨_,_,rfl,hi6⟩:=Zaf hi5
 obtain ⟨x15,rfl,hi7⟩:=Zed hi6
 obtain ⟨_,_,rfl,hi8⟩:=Zaf hi7
 obtain ⟨a16,n16,c16,e16,rfl,hi9⟩:=Zbp hi8
 obtain ⟨_,_,rfl,hi10⟩:=Zaf hi9
 obtain ⟨a126,n126,c126,e126,rfl,hi11⟩:=Zbp hi10
 obtain ⟨_,_,rfl,hi12⟩:=Zaf hi11
 obtain ⟨x127,rfl,hi13⟩:=Zav hi12
 obtain ⟨_,_,rfl,hi14⟩:=Zaf hi13
 obtain ⟨x128,rfl,hi15⟩:=Zav hi14
 obtain ⟨rfl,hi16⟩:=Zbl hi15
 have hi:=hi16
 exact ⟨i3,o3,a13,n13,c13,e13,x15,a16,n16,c16,e16,a126,n126,c126,e126,x127,x128,rfl,hi⟩
def K0 (Q:QT):KT:=andThen (fun env' h'=>(match kp.find 4000034 with | some ks=>Den pg fn.ntmps (C [1,1,1,1,1,1,1,1,1,1,1,1,1,1,1]) (env'.keep ks) h' (KR Q) | none=>den pg fn.ntmps kp (C [1,1,1,1,1,1,1,1,1,1,1,1,1,1,1]) env' h' (KR Q))) (KR Q)
def K1 (Q:QT):KT:=Zcj 0 (K0 Q)
def K2 (Q:QT):KT:=left kp 24 (K1 Q)
def K3 (Q:QT) (R24:T24):KT:=rnd ((kp.find 1000024).getD []) (E24 R24) (K2 Q)
def K4 (Q:QT) (R24:T24):KT:=andThen (fun env' h'=>(match kp.find 4000033 with | some ks=>Den pg fn.ntmps (C [1,1,1,1,1,1,1,1,1,1,1,1,1,1,0,1,0,0,1,1,1]) (env'.keep ks) h' (K3 Q R24) | none=>den pg fn.ntmps kp (C [1,1,1,1,1,1,1,1,1,1,1,1,1,1,0,1,0,0,1,1,1]) env' h' (K3 Q R24))) (K3 Q R24)
def K5 (Q:QT) (R24:T24):KT:=Zcj 1 (K4 Q R24)
def J18 (Q:QT) (i3 o3:Nat) (x12:Int) (i4 o4 i10x0 o10x0 i10x1 o10x1 i10x2 o10x2 i5 o5:Nat) (h:Zaa):Prop:=Den pg fn.ntmps (C [1,1,1,1,1,1,1,1,1,1]) [(3,.ptr (i3,o3)),(12,.int .i64 x12),(4,.ptr (i4,o4)),(10,.fn Zde [.ptr (i10x0,o10x0),.ptr (i10x1,o10x1),.ptr (i10x2,o10x2)]),(5,.ptr (i5,o5))] h (KR Q)
def L24 (Q:QT) (i3 o3:Nat) (a13:Pt) (n13 c13:Nat) (e13:Bool) (x15:List Nat) (a16:Pt) (n16 c16:Nat) (e16:Bool) (a126:Pt) (n126 c126:Nat) (e126:Bool) (x127 x128:Int) (h:Zaa):Prop:=Zej (Den pg fn.ntmps (C [1,1,1,1,1,1,1,1,1,1,1,1,1,1,0,1,0,0])) ((kp.find 1000024).getD []) (K2 Q) [(3,.ptr (i3,o3)),(13,.slice a13 n13 c13 e13),(15,.str x15),(16,.slice a16 n16 c16 e16),(126,.slice a126 n126 c126 e126),(127,.int .i64 x127),(128,.int .i64 x128)] h
def J32 (Q:QT) (R24:T24) (x15 x21 x19:List Nat) (x128 x127:Int) (a126:Pt) (n126 c126:Nat) (e126:Bool) (i3 o3:Nat) (a16:Pt) (n16 c16:Nat) (e16:Bool) (a13:Pt) (n13 c13:Nat) (e13:Bool) (h:Zaa):Prop:=Den pg fn.ntmps (C [1,1,1,1,1,1,1,1,1,1,1,1,1,1,0,1,0,0,1,1,0,0,1,1,1,1,1]) [(15,.str x15),(21,.str x21),(19,.str x19),(128,.int .i64 x128),(127,.int .i64 x127),(126,.slice a126 n126 c126 e126),(3,.ptr (i3,o3)),(16,.slice a16 n16 c16 e16),(13,.slice a13 n13 c13 e13)] h (K5 Q R24)
def Xaq (Q:QT) (a13:Pt) (n13 c13:Nat) (e13:Bool) (x15:List Nat) (h:Zaa):Prop:=At (K1 Q) (.exit 0) [(13,.slice a13 n13 c13 e13),(15,.str x15),(6,.undef),(7,.undef)] h
def J33 (Q:QT) (R24:T24) (x128 x127:Int) (a126:Pt) (n126 c126:Nat) (e126:Bool) (i3 o3:Nat) (a16:Pt) (n16 c16:Nat) (e16:Bool) (x15:List Nat) (a13:Pt) (n13 c13:Nat) (e13:Bool) (h:Zaa):Prop:=Den pg fn.ntmps (C [1,1,1,1,1,1,1,1,1,1,1,1,1,1,0,1,0,0,1,1,1]) [(128,.int .i64 x128),(127,.int .i64 x127),(126,.slice a126 n126 c126 e126),(3,.ptr (i3,o3)),(16,.slice a16 n16 c16 e16),(15,.str x15),(13,.slice a13 n13 c13 e13)] h (K3 Q R24)
def J36 (Q:QT) (x15:List Nat) (h:Zaa):Prop:=Den pg fn.ntmps (C [1,1,1,1,1,1,1,1,1,1,1,1,1,1,1,1]) [(15,.str x15)] h (KR Q)
theorem J18i (Q:QT) (i3 o3:Nat) (x12:Int) (i4 o4 i10x0 o10x0 i10x1 o10x1 i10x2 o10x2 i5 o5:Nat) (h:Zaa) (ht :
 Zgn (Zag h (.ptr (i3,o3))) fun A=>Zbf A fun A B=>xSl (Zag h (.ptr (A,B + 0 + 1))) fun C D E E=>(0≤(x12:Int)∧(x12:Int) < (D:Nat))∧(Zbf C fun C D=>Zcd (Zbe h (.ptr (C,D + (Int.toNat x12) * 3)) 3) fun E=>Zai E fun E F=>Zbd E fun E=>Zai F fun F G=>Zbd F fun F=>Zai G fun G H=>xSl G fun G I J K=>Zbq H (Zbd (Zag h (.ptr (i4,o4 + 1))) fun H=>(Zbe h (.ptr (C,D + (Int.toNat x12) * 3)) 3=Zbe h (.ptr (C,D + (Int.toNat x12) * 3)) 3)∧(Zag h (.ptr (A,B + 0 + 1))=Zag h (.ptr (A,B + 0 + 1)))∧(Zag h (.ptr (i3,o3))=Zag h (.ptr (i3,o3)))∧Zak pg Zjt [.agg [.str E,.str F,.slice G I J K],.str H] h fun C D=>
 Zle C fun C=>Zai C fun C E=>xSl C fun C F G H=>Zai E fun E I=>Zbz E fun E=>Zbq I ((Zag D (.ptr (A,B + 0 + 1))=Zag h (.ptr (A,B + 0 + 1)))∧(Zag D (.ptr (i3,o3))=Zag h (.ptr (i3,o3)))∧bcase (!E) (Zak pg Zde [.str ([98,105,103]),.ptr (i10x0,o10x0),.ptr (i10x1,o10x1),.ptr (i10x2,o10x2)] D fun A B=>
 Zle A fun A=>Zai A fun A E=>Zbd A fun A=>Zai E fun E I=>Zbd E fun E=>Zbq I (Q (.tup [.str A,.str E]) B)) (Zak pg Zvk [.int .i64 x12] D fun A B=>
 Zbd A fun A=>xSl (Zag B (.ptr (i5,o5))) fun D E I J=>Zcd (Zbe B (.ptr (i4,o4)) 2) fun K=>Zai K fun K L=>Zbd K fun K=>Zai L fun L M=>Zbd L fun L=>Zbq M ((Zak pg Zdm [.slice D E I J] B fun M N=>
 xSl M fun M O P R=>(Zbe N (.ptr (i4,o4)) 2=Zbe B (.ptr (i4,o4)) 2)∧Zcf (N ++ [.cells Zab [.str K,.str L] false]) fun S=>(Zag S (.ptr (i5,o5))=Zag N (.ptr (i5,o5)))∧Zci pg Zbo S (.slice M O P R) (.slice (N.length,0) 1 1 true) fun M N=>xSl M fun M O P R=>(Zbe N (.ptr (i4,o4)) 2=Zbe S (.ptr (i4,o4)) 2)∧(Zag N (.ptr (i5,o5))=Zag S (.ptr (i5,o5)))∧L24 Q i3 o3 C F G H A M O P R C F G H (((F:Nat):Int)) 0 N)∧(Zcf (B ++ [.cells Zab [.str K,.str L] false]) fun K=>(Zag K (.ptr (i5,o5))=Zag B (.ptr (i5,o5)))∧Zak pg Zdm [.slice D E I J] K fun D E=>
 xSl D fun D I J L=>(Zbe E (.ptr (i4,o4)) 2=Zbe K (.ptr (i4,o4)) 2)∧Zci pg Zbo E (.slice D I J L) (.slice (B.length,0) 1 1 true) fun B D=>xSl B fun B I J K=>(Zbe D (.ptr (i4,o4)) 2=Zbe E (.ptr (i4,o4)) 2)∧(Zag D (.ptr (i5,o5))=Zag E (.ptr (i5,o5)))∧L24 Q i3 o3 C F G H A B I J K C F G H (((F:Nat):Int)) 0 D))))))):J18 Q i3 o3 x12 i4 o4 i10x0 o10x0 i10x1 o10x1 i10x2 o10x2 i5 o5 h:=
 Zba (kp:=kp) (cast (by kernel_rfl) ht)
def L24t (Q:QT) (R24:T24) (i3 o3:Nat) (a13:Pt) (n13 c13:Nat) (e13:Bool) (x15:List Nat) (a16:Pt) (n16 c16:Nat) (e16:Bool) (a126:Pt) (n126 c126:Nat) (e126:Bool) (x127 x128:Int) (h:Zaa):Prop:=
 bcase (decide ((x128:Int) < x127)) ((0≤(x128:Int)∧(x128:Int) < (n126:Nat))∧(Zbf a126 fun A B=>Zcd (Zbe h (.ptr (A,B + (Int.toNat x128) * 2)) 2) fun A=>Zai A fun A B=>Zbd A fun A=>Zai B fun B C=>Zbd B fun B=>Zbq C (Zcf (h ++ [.cells Zab [.str [],.str []] false]) fun C=>Zbt (Zbb C (.ptr (h.length,0)) [.str A,.str B]) fun A=>Zgn (Zag A (.ptr (i3,o3))) fun B=>Zcd (Zbe A (.ptr (h.length,0)) 2) fun C=>Zai C fun C D=>Zbd C fun C=>Zai D fun D E=>Zbd D fun D=>Zbq E (Zak pg Zhz [.ptr B,.agg [.str C,.str D],.slice a16 n16 c16 e16] A fun A B=>
 Zle A fun A=>Zai A fun A C=>Zbd A fun A=>Zai C fun C D=>Zbd C fun C=>Zbq D (bcase (!(decide (C=[]))) (Q (.tup [.str [],.str C]) B) (bcase ((x128:Int) == 0) (J32 Q R24 x15 [40] A x128 x127 a126 n126 c126 e126 i3 o3 a16 n16 c16 e16 a13 n13 c13 e13 B) (J32 Q R24 x15 [44] A x128 x127 a126 n126 c126 e126 i3 o3 a16 n16 c16 e16 a13 n13 c13 e13 B))))))) (Xaq Q a13 n13 c13 e13 x15 h)
theorem Xaa (Q:QT) (R24:T24) (i3 o3:Nat) (a13:Pt) (n13 c13:Nat) (e13:Bool) (x15:List Nat) (a16:Pt) (n16 c16:Nat) (e16:Bool) (a126:Pt) (n126 c126:Nat) (e126:Bool) (x127 x128:Int) (h:Zaa) (ht:L24t Q R24 i3 o3 a13 n13 c13 e13 x15 a16 n16 c16 e16 a126 n126 c126 e126 x127 x128 h):Den pg fn.ntmps (C [1,1,1,1,1,1,1,1,1,1,1,1,1,1,0,1,0,0]) [(3,.ptr (i3,o3)),(13,.slice a13 n13 c13 e13),(15,.str x15),(16,.slice a16 n16 c16 e16),(126,.slice a126 n126 c126 e126),(127,.int .i64 x127),(128,.int .i64 x128)] h (K3 Q R24):=
 Zba (kp:=kp) (cast (by kernel_rfl) ht)
theorem L24ind (Q:QT) (i3 o3:Nat) (a13:Pt) (n13 c13:Nat) (e13:Bool) (a16:Pt) (n16 c16:Nat) (e16:Bool) (a126:Pt) (n126 c126:Nat) (e126:Bool) (x127:Int) {G:Type} (J:G→List Nat→Int→Zaa→Prop) (m:G→Nat)
 (hr:∀ (g:G) (x15:List Nat) (x128:Int) (h:Zaa),J g x15 x128 h→∀ (R24:T24),(∀ g' (x15:List Nat) (x128:Int) (h:Zaa),m g' < m g→J g' x15 x128 h→R24 i3 o3 a13 n13 c13 e13 x15 a16 n16 c16 e16 a126 n126 c126 e126 x127 x128 h)→L24t Q R24 i3 o3 a13 n13 c13 e13 x15 a16 n16 c16 e16 a126 n126 c126 e126 x127 x128 h)
 (g:G) (x15:List Nat) (x128:Int) (h:Zaa) (hj:J g x15 x128 h):L24 Q i3 o3 a13 n13 c13 e13 x15 a16 n16 c16 e16 a126 n126 c126 e126 x127 x128 h:=by
 let P:=fun (K:List Nat→Int→Zaa→Prop) i3' o3' a13' n13' c13' e13' x15 a16' n16' c16' e16' a126' n126' c126' e126' x127' x128 h=>i3=i3'∧o3=o3'∧a13=a13'∧n13=n13'∧c13=c13'∧e13=e13'∧a16=a16'∧n16=n16'∧c16=c16'∧e16=e16'∧a126=a126'∧n126=n126'∧c126=c126'∧e126=e126'∧x127=x127'∧K x15 x128 h
 refine Zej.inv2 (fun g=>E24 (P (J g))) (fun g=>E24 (P fun x15 x128 h=>∃ g',m g' < m g∧J g' x15 x128 h)) m ?_ ?_ g ⟨rfl,rfl,rfl,rfl,rfl,rfl,rfl,rfl,rfl,rfl,rfl,rfl,rfl,rfl,rfl,hj⟩
 ·intro g env h hi
  obtain ⟨i3',o3',a13',n13',c13',e13',x15,a16',n16',c16',e16',a126',n126',c126',e126',x127',x128,rfl,rfl,rfl,rfl,rfl,rfl,rfl,rfl,rfl,rfl,rfl,rfl,rfl,rfl,rfl,rfl,hj⟩:=Yre hi
  exact Xaa Q _ i3 o3 a13 n13 c13 e13 x15 a16 n16 c16 e16 a126 n126 c126 e126 x127 x128 h (hr g x15 x128 h hj (P fun x15 x128 h=>∃ g',m g' < m g∧J g' x15 x128 h) fun g' x15 x128 h hlt hj=>⟨rfl,rfl,rfl,rfl,rfl,rfl,rfl,rfl,rfl,rfl,rfl,rfl,rfl,rfl,rfl,g',hlt,hj⟩)
 ·intro g env h hi
  obtain ⟨i3',o3',a13',n13',c13',e13',x15,a16',n16',c16',e16',a126',n126',c126',e126',x127',x128,rfl,rfl,rfl,rfl,rfl,rfl,rfl,rfl,rfl,rfl,rfl,rfl,rfl,rfl,rfl,rfl,g',hlt,hj⟩:=Yre hi
  exact ⟨g',hlt,rfl,rfl,rfl,rfl,rfl,rfl,rfl,rfl,rfl,rfl,rfl,rfl,rfl,rfl,rfl,hj⟩
theorem J32i (Q:QT) (R24:T24) (x15 x21 x19:List Nat) (x128 x127:Int) (a126:Pt) (n126 c126:Nat) (e126:Bool) (i3 o3:Nat) (a16:Pt) (n16 c16:Nat) (e16:Bool) (a13:Pt) (n13 c13:Nat) (e13:Bool) (h:Zaa) (ht :
 List.length x21 + List.length x19≤9223372036854775807∧(List.length x15 + List.length (x21 ++ x19)≤9223372036854775807∧(J33 Q R24 x128 x127 a126 n126 c126 e126 i3 o3 a16 n16 c16 e16 (x15 ++ (x21 ++ x19)) a13 n13 c13 e13 h))):J32 Q R24 x15 x21 x19 x128 x127 a126 n126 c126 e126 i3 o3 a16 n16 c16 e16 a13 n13 c13 e13 h:=
 Zba (kp:=kp) (cast (by kernel_rfl) ht)
theorem A24x0i (Q:QT) (a13:Pt) (n13 c13:Nat) (e13:Bool) (x15:List Nat) (h:Zaa) (ht :
 bcase (decide (((((n13:Nat):Int)):Int) > 0)) (List.length x15 + List.length [41]≤9223372036854775807∧(J36 Q (x15 ++ [41]) h)) (J36 Q x15 h)):Xaq Q a13 n13 c13 e13 x15 h:=
 At.mk (cast (by kernel_rfl) ht)
theorem J33i (Q:QT) (R24:T24) (x128 x127:Int) (a126:Pt) (n126 c126:Nat) (e126:Bool) (i3 o3:Nat) (a16:Pt) (n16 c16:Nat) (e16:Bool) (x15:List Nat) (a13:Pt) (n13 c13:Nat) (e13:Bool) (h:Zaa) (ht :
 R24 i3 o3 a13 n13 c13 e13 x15 a16 n16 c16 e16 a126 n126 c126 e126 x127 (IntKind.wrap .i64 (x128 + 1)) h):J33 Q R24 x128 x127 a126 n126 c126 e126 i3 o3 a16 n16 c16 e16 x15 a13 n13 c13 e13 h:=
 Zba (kp:=kp) (cast (by kernel_rfl) ht)
theorem J36i (Q:QT) (x15:List Nat) (h:Zaa) (ht :
 Q (.tup [.str x15,.str []]) h):J36 Q x15 h:=
 Zba (kp:=kp) (cast (by kernel_rfl) ht)
theorem call (a0:Pt) (x1x0 x1x1:List Nat) (a2:Pt) (n2 c2:Nat) (e2:Bool) (h:Zaa) (Q:QT) (ht :
 Zcf (h ++ [.cells Zfw [.ptr a0] false]) fun A=>Zcf (A ++ [.cells Zab [.str x1x0,.str x1x1] false]) fun B=>Zcf (B ++ [.cells Zbo [.slice a2 n2 c2 e2] false]) fun C=>Zgn (Zag C (.ptr (h.length,0))) fun D=>Zbf D fun D E=>Ycx (Zag C (.ptr (D,E + 3))) fun F=>Zcd (Zbe C (.ptr (A.length,0)) 2) fun G=>Zai G fun G H=>Zbd G fun G=>Zai H fun H I=>Zbd H fun H=>Zbq I ((Zag C (.ptr (D,E + 3))=Zag C (.ptr (D,E + 3)))∧(Zag C (.ptr (h.length,0))=Zag C (.ptr (h.length,0)))∧Yzq F fun D E=>Zak pg D ([.agg [.str G,.str H]] ++ E) C fun D E=>
 Zle D fun D=>Zai D fun D F=>Zbd D fun D=>Zai F fun F G=>Zbz F fun F=>Zbq G ((Zag E (.ptr (h.length,0))=Zag C (.ptr (h.length,0)))∧bcase F (Q (.tup [.str D,.str []]) E) (Zgn (Zag E (.ptr (h.length,0))) fun C=>Zbf C fun C D=>xSl (Zag E (.ptr (C,D + 4))) fun C C D D=>bcase (decide (((((C:Nat):Int)):Int) ≥ 300)) (Zak pg Zde [.str ([108,111,110,103]),.ptr (A.length,0),.ptr (B.length,0),.ptr (h.length,0)] E fun C D=>
 Zle C fun C=>Zai C fun C F=>Zbd C fun C=>Zai F fun F G=>Zbd F fun F=>Zbq G (Q (.tup [.str C,.str F]) D)) (Zgn (Zag E (.ptr (h.length,0))) fun C=>Zgn (Zag E (.ptr (h.length,0))) fun D=>Zbf D fun D F=>xSl (Zag E (.ptr (D,F + 4))) fun G H I J=>Zcd (Zbe E (.ptr (A.length,0)) 2) fun K=>Zai K fun K L=>Zbd K fun K=>Zai L fun L M=>Zbd L fun L=>Zbq M ((Zag E (.ptr (D,F + 4))=Zag E (.ptr (D,F + 4)))∧(Zag E (.ptr (h.length,0))=Zag E (.ptr (h.length,0)))∧(Zag E (.ptr (h.length,0))=Zag E (.ptr (h.length,0)))∧Zcf (E ++ [.cells Zab [.str K,.str L] false]) fun K=>(Zag K (.ptr (D,F + 4))=Zag E (.ptr (D,F + 4)))∧(Zag K (.ptr (h.length,0))=Zag E (.ptr (h.length,0)))∧(Zag K (.ptr (h.length,0))=Zag E (.ptr (h.length,0)))∧Zci pg Zbo K (.slice G H I J) (.slice (E.length,0) 1 1 true) fun D E=>xSl D fun D F G H=>(Zag E (.ptr (h.length,0))=Zag K (.ptr (h.length,0)))∧(Zag E (.ptr (h.length,0))=Zag K (.ptr (h.length,0)))∧Zbf C fun C I=>Zbt (Zbb E (.ptr (C,I + 4)) [.slice D F G H]) fun C=>xSl (Zag C (.ptr (B.length,0))) fun D D E E=>bcase (decide (((((D:Nat):Int)):Int) > 30)) (Zak pg Zde [.str ([100,101,101,112]),.ptr (A.length,0),.ptr (B.length,0),.ptr (h.length,0)] C fun D E=>
 Zle D fun D=>Zai D fun D F=>Zbd D fun D=>Zai F fun F G=>Zbd F fun F=>Zbq G (Q (.tup [.str D,.str F]) E)) (Zgn (Zag C (.ptr (h.length,0))) fun D=>Zbf D fun D E=>Zcd (Zbe C (.ptr (D,E + 0)) 2) fun F=>Zai F fun F G=>xSl F fun F H I J=>Zai G fun G K=>xSl G fun G L M N=>Zbq K (Zcd (Zbe C (.ptr (A.length,0)) 2) fun K=>Zai K fun K O=>Zbd K fun K=>Zai O fun O P=>Zbd O fun O=>Zbq P ((Zbe C (.ptr (D,E + 0)) 2=Zbe C (.ptr (D,E + 0)) 2)∧(Zag C (.ptr (h.length,0))=Zag C (.ptr (h.length,0)))∧Zak pg Znj [.agg [.slice F H I J,.slice G L M N],.agg [.str K,.str O]] C fun D E=>
 xSl D fun D F G H=>(Zag E (.ptr (h.length,0))=Zag C (.ptr (h.length,0)))∧bcase ((((F:Nat):Int):Int) == 0) (Zak pg Zde [.str ([110,111,110,101]),.ptr (A.length,0),.ptr (B.length,0),.ptr (h.length,0)] E fun C I=>
 Zle C fun C=>Zai C fun C J=>Zbd C fun C=>Zai J fun J K=>Zbd J fun J=>Zbq K (Q (.tup [.str C,.str J]) I)) ((0≤(0:Int)∧(0:Int) < (F:Nat))∧(Zbf D fun C I=>Zeb .i64 (Zag E (.ptr (C,I + (Int.toNat 0) * 1))) fun C=>bcase (decide (((((F:Nat):Int)):Int) > 1)) (Zgn (Zag E (.ptr (h.length,0))) fun I=>Zbf I fun I J=>Zcd (Zbe E (.ptr (I,J + 0)) 2) fun I=>Zai I fun I J=>xSl I fun I K L M=>Zai J fun J N=>xSl J fun J O P R=>Zbq N (Zak pg Zmr [.agg [.slice I K L M,.slice J O P R],.slice D F G H] E fun D F=>
 Zeb .i64 D fun D=>Zgn (Zag F (.ptr (h.length,0))) fun G=>Zbf G fun G H=>Zbz (Zag F (.ptr (G,H + 2))) fun G=>bcase (!G) (Zak pg Zde [.str ([109,97,110,121]),.ptr (A.length,0),.ptr (B.length,0),.ptr (h.length,0)] F fun G H=>
 Zle G fun G=>Zai G fun G I=>Zbd G fun G=>Zai I fun I J=>Zbd I fun I=>Zbq J (Q (.tup [.str G,.str I]) H)) (bcase (decide ((D:Int) < 0)) (Zak pg Zde [.str ([109,97,110,121]),.ptr (A.length,0),.ptr (B.length,0),.ptr (h.length,0)] F fun G H=>
 Zle G fun G=>Zai G fun G I=>Zbd G fun G=>Zai I fun I J=>Zbd I fun I=>Zbq J (Q (.tup [.str G,.str I]) H)) (J18 Q h.length 0 D A.length 0 A.length 0 B.length 0 h.length 0 B.length 0 F)))) (J18 Q h.length 0 C A.length 0 A.length 0 B.length 0 h.length 0 B.length 0 E)))))))))))):Zak pg Zhz [.ptr a0,.agg [.str x1x0,.str x1x1],.slice a2 n2 c2 e2] h Q:=
 Zak.of_body kp (c:=cod fn) (fn:=fn) Go.Proofs.Tryz.func68 (by kernel_rfl) (by kernel_rfl) (Nat.le_of_ble_eq_true (by kernel_rfl))
  (cast (by kernel_rfl) ht)
end Zda
namespace Zot
noncomputable abbrev fn:Func:=Go.Proofs.Tryz.f74
def kp:Zch:=[]
noncomputable def C (p:List Nat):Code:=(cod fn).sub p
def KR (Q:QT):KT:=Zfd pg fn.results.toList Q
theorem call (x0x0 x0x1:List Nat) (h:Zaa) (Q:QT) (ht :
 Zcf (h ++ [.cells Zab [.str x0x0,.str x0x1] false]) fun A=>Q (.tup [.str [],.bool false]) A):Zak pg Zdf [.agg [.str x0x0,.str x0x1]] h Q:=
 Zak.of_body kp (c:=cod fn) (fn:=fn) Go.Proofs.Tryz.func74 (by kernel_rfl) (by kernel_rfl) (Nat.le_of_ble_eq_true (by kernel_rfl))
  (cast (by kernel_rfl) ht)
end Zot
end Go.Sim

set_option maxRecDepth 100000
set_option maxHeartbeats 0
set_option linter.unusedVariables false
namespace Go.Sim
open Go Go.RowKit
namespace Zga
noncomputable abbrev fn:Func:=Go.Proofs.Tryz.f135
def kp:Zch:=[(4000004,[0,6]),(3000006,[8,6]),(1000006,[6,8,26,27,28]),(2000008,[28,27,26,8,6])]
noncomputable def C (p:List Nat):Code:=(cod fn).sub p
def KR (Q:QT):KT:=Zfd pg fn.results.toList Q
abbrev T6:=Nat→Nat→Nat→Nat→Pt→Nat→Nat→Bool→Int→Int→Zaa→Prop
def E6 (R6:T6) (env:Env) (h:Zaa):Prop:=Zbu 6 env fun v env=>Zgn v fun a=>Zbf a fun i6 o6=>Zbu 8 env fun v env=>Zgn v fun a=>Zbf a fun i8 o8=>Zbu 26 env fun v env=>xSl v fun a26 n26 c26 e26=>Zbu 27 env fun v env=>Zdz .i64 v fun x27=>Zbu 28 env fun v env=>Zdz .i64 v fun x28=>Zin env (R6 i6 o6 i8 o8 a26 n26 c26 e26 x27 x28 h)
theorem Zlw {R6:T6} {env:Env} {h:Zaa} (hi:E6 R6 env h):∃ i6,∃ o6,∃ i8,∃ o8,∃ a26,∃ n26,∃ c26,∃ e26,∃ x27,∃ x28,env=[(6,.ptr (i6,o6)),(8,.ptr (i8,o8)),(26,.slice a26 n26 c26 e26),(27,.int .i64 x27),(28,.int .i64 x28)]∧R6 i6 o6 i8 o8 a26 n26 c26 e26 x27 x28 h:=by
 unfold E6 at hi
 have hi0:=hi
 clear hi
 obtain ⟨_,_,rfl,hi1⟩:=Zaf hi0
 obtain ⟨a,rfl,hi2⟩:=Zbn hi1
 obtain ⟨i6,o6,rfl,hi3⟩:=Zbk hi2
 obtain ⟨_,_,rfl,hi4⟩:=Zaf hi3
 obtain ⟨a,rfl,hi5⟩:=Zbn hi4
 obtain ⟨i8,o8,rfl,hi6⟩:=Zbk hi5
 obtain ⟨_,_,rfl,hi7⟩:=Zaf hi6
 obtain ⟨a26,n26,c26,e26,rfl,hi8⟩:=Zbp hi7
 obtain ⟨_,_,rfl,hi9⟩:=Zaf hi8
 obtain ⟨x27,rfl,hi10⟩:=Zav hi9
 obtain ⟨_,_,rfl,hi11⟩:=Zaf hi10
 obtain ⟨x28,rfl,hi12⟩:=Zav hi11
 obtain ⟨rfl,hi13⟩:=Zbl hi12
 have hi:=hi13
 exact ⟨i6,o6,i8,o8,a26,n26,c26,e26,x27,x28,rfl,hi⟩
def K0 (Q:QT):KT:=andThen (fun env' h'=>(match kp.find 4000010 with | some ks=>Den pg fn.ntmps (C [1,1,1,1,1]) (env'.keep ks) h' (KR Q) | none=>den pg fn.ntmps kp (C [1,1,1,1,1]) env' h' (KR Q))) (KR Q)
def K1 (Q:QT):KT:=Zcj 0 (K0 Q)
def K2 (Q:QT):KT:=left kp 6 (K1 Q)
def K3 (Q:QT) (R6:T6):KT:=rnd ((kp.find 1000006).getD []) (E6 R6) (K2 Q)
def J4 (Q:QT) (a0:Pt) (n0 c0:Nat) (e0:Bool) (i6 o6:Nat) (h:Zaa):Prop:=Den pg fn.ntmps (C [1,1,1]) [(0,.slice a0 n0 c0 e0),(6,.ptr (i6,o6))] h (KR Q)
def L6 (Q:QT) (i6 o6 i8 o8:Nat) (a26:Pt) (n26 c26:Nat) (e26:Bool) (x27 x28:Int) (h:Zaa):Prop:=Zej (Den pg fn.ntmps (C [1,1,1,1,0,1,0,0])) ((kp.find 1000006).getD []) (K2 Q) [(6,.ptr (i6,o6)),(8,.ptr (i8,o8)),(26,.slice a26 n26 c26 e26),(27,.int .i64 x27),(28,.int .i64 x28)] h
def Ydm (Q:QT) (i8 o8 i6 o6:Nat) (h:Zaa):Prop:=At (K1 Q) (.exit 0) [(8,.ptr (i8,o8)),(6,.ptr (i6,o6))] h
theorem J4i (Q:QT) (a0:Pt) (n0 c0:Nat) (e0:Bool) (i6 o6:Nat) (h:Zaa) (ht :
 Zcf (h ++ [.cells Zdo [.int .u8 0,.slice none 0 0 true,.int .u8 0,.slice none 0 0 true,.int .u8 0,.slice none 0 0 true,.int .u8 0,.slice none 0 0 true,.int .u8 0,.slice none 0 0 true,.int .u8 0,.slice none 0 0 true,.int .u8 0,.slice none 0 0 true,.int .u8 0,.slice none 0 0 true,.int .u8 0,.slice none 0 0 true,.int .u8 0,.slice none 0 0 true,.int .u8 0,.slice none 0 0 true,.int .u8 0,.slice none 0 0 true] false]) fun A=>L6 Q i6 o6 h.length 0 a0 n0 c0 e0 (((n0:Nat):Int)) 0 A):J4 Q a0 n0 c0 e0 i6 o6 h:=
 Zba (kp:=kp) (cast (by kernel_rfl) ht)
def L6t (Q:QT) (R6:T6) (i6 o6 i8 o8:Nat) (a26:Pt) (n26 c26:Nat) (e26:Bool) (x27 x28:Int) (h:Zaa):Prop:=
 bcase (decide ((x28:Int) < x27)) ((0≤(x28:Int)∧(x28:Int) < (n26:Nat))∧(Zbf a26 fun A B=>Zcd (Zbe h (.ptr (A,B + (Int.toNat x28) * 2)) 2) fun A=>Zai A fun A B=>Zbd A fun A=>Zai B fun B C=>Zbd B fun B=>Zbq C (Zcf (h ++ [.cells Zbv [.str [],.str []] false]) fun C=>Zbt (Zbb C (.ptr (h.length,0)) [.str A,.str B]) fun A=>Zbd (Zag A (.ptr (h.length,0 + 0))) fun B=>Zmo B 0 fun B=>Zbd (Zag A (.ptr (h.length,0 + 1))) fun C=>Zak pg Zlc [.int .u8 (((B:Nat):Int))] A fun B D=>
 Zeb .i64 B fun B=>(Zag D (.ptr (h.length,0 + 1))=Zag A (.ptr (h.length,0 + 1)))∧(Zag D (.ptr (h.length,0 + 0))=Zag A (.ptr (h.length,0 + 0)))∧Zak pg Zhd [.str C] D fun A C=>
 Zle A fun A=>Zai A fun A E=>Zqh A fun A=>Zai A fun A F=>Zeb .u8 A fun A=>Zai F fun F G=>xSl F fun F H I J=>Zbq G (Zai E fun E G=>Zbz E fun E=>Zbq G ((Zag C (.ptr (h.length,0 + 0))=Zag D (.ptr (h.length,0 + 0)))∧(0≤(B:Int)∧(B:Int) < (12:Nat))∧(Zbt (Zbb C (.ptr (i8,o8 + (Int.toNat B) * 2)) [.int .u8 A,.slice F H I J]) fun A=>R6 i6 o6 i8 o8 a26 n26 c26 e26 x27 (IntKind.wrap .i64 (x28 + 1)) A)))))) (Ydm Q i8 o8 i6 o6 h)
theorem Zxy (Q:QT) (R6:T6) (i6 o6 i8 o8:Nat) (a26:Pt) (n26 c26:Nat) (e26:Bool) (x27 x28:Int) (h:Zaa) (ht:L6t Q R6 i6 o6 i8 o8 a26 n26 c26 e26 x27 x28 h):Den pg fn.ntmps (C [1,1,1,1,0,1,0,0]) [(6,.ptr (i6,o6)),(8,.ptr (i8,o8)),(26,.slice a26 n26 c26 e26),(27,.int .i64 x27),(28,.int .i64 x28)] h (K3 Q R6):=
 Zba (kp:=kp) (cast (by kernel_rfl) ht)
theorem L6ind (Q:QT) (i6 o6 i8 o8:Nat) (a26:Pt) (n26 c26:Nat) (e26:Bool) (x27:Int) {G:Type} (J:G→Int→Zaa→Prop) (m:G→Nat)
 (hr:∀ (g:G) (x28:Int) (h:Zaa),J g x28 h→∀ (R6:T6),(∀ g' (x28:Int) (h:Zaa),m g' < m g→J g' x28 h→R6 i6 o6 i8 o8 a26 n26 c26 e26 x27 x28 h)→L6t Q R6 i6 o6 i8 o8 a26 n26 c26 e26 x27 x28 h)
 (g:G) (x28:Int) (h:Zaa) (hj:J g x28 h):L6 Q i6 o6 i8 o8 a26 n26 c26 e26 x27 x28 h:=by
 let P:=fun (K:Int→Zaa→Prop) i6' o6' i8' o8' a26' n26' c26' e26' x27' x28 h=>i6=i6'∧o6=o6'∧i8=i8'∧o8=o8'∧a26=a26'∧n26=n26'∧c26=c26'∧e26=e26'∧x27=x27'∧K x28 h
 refine Zej.inv2 (fun g=>E6 (P (J g))) (fun g=>E6 (P fun x28 h=>∃ g',m g' < m g∧J g' x28 h)) m ?_ ?_ g ⟨rfl,rfl,rfl,rfl,rfl,rfl,rfl,rfl,rfl,hj⟩
 ·intro g env h hi
  obtain ⟨i6',o6',i8',o8',a26',n26',c26',e26',x27',x28,rfl,rfl,rfl,rfl,rfl,rfl,rfl,rfl,rfl,rfl,hj⟩:=Zlw hi
  exact Zxy Q _ i6 o6 i8 o8 a26 n26 c26 e26 x27 x28 h (hr g x28 h hj (P fun x28 h=>∃ g',m g' < m g∧J g' x28 h) fun g' x28 h hlt hj=>⟨rfl,rfl,rfl,rfl,rfl,rfl,rfl,rfl,rfl,g',hlt,hj⟩)
 ·intro g env h hi
  obtain ⟨i6',o6',i8',o8',a26',n26',c26',e26',x27',x28,rfl,rfl,rfl,rfl,rfl,rfl,rfl,rfl,rfl,rfl,g',hlt,hj⟩:=Zlw hi
  exact ⟨g',hlt,rfl,rfl,rfl,rfl,rfl,rfl,rfl,rfl,rfl,hj⟩
theorem A6x0i (Q:QT) (i8 o8 i6 o6:Nat) (h:Zaa) (ht :
 Zcd (Zbe h (.ptr (i6,o6)) 2) fun A=>Zai A fun A B=>Zeb .u8 A fun A=>Zai B fun B C=>xSl B fun B D E F=>Zbq C (Zak pg Znv [.ptr (i8,o8),.agg [.int .u8 A,.slice B D E F]] h fun A B=>
 Zqh A fun A=>Zai A fun A C=>Zeb .u8 A fun A=>Zai C fun C D=>xSl C fun C E F G=>Zbq D (Zcf (B ++ [.cells Zap [.int .u8 0,.slice none 0 0 true] false]) fun D=>Zbt (Zbb D (.ptr (B.length,0)) [.int .u8 A,.slice C E F G]) fun A=>Zcd (Zbe A (.ptr (B.length,0)) 2) fun C=>Zai C fun C D=>Zeb .u8 C fun C=>Zai D fun D E=>xSl D fun D F G H=>Zbq E (Zak pg Zih [.agg [.int .u8 C,.slice D F G H]] A fun A C=>
 Zeb .i64 A fun A=>bcase (decide ((A:Int) > 60)) (Q (.tup [.str [],.bool false]) C) (Zcd (Zbe C (.ptr (B.length,0)) 2) fun A=>Zai A fun A B=>Zeb .u8 A fun A=>Zai B fun B D=>xSl B fun B E F G=>Zbq D (Zak pg Zhp [.agg [.int .u8 A,.slice B E F G]] C fun A B=>
 Zbd A fun A=>Q (.tup [.str A,.bool true]) B)))))):Ydm Q i8 o8 i6 o6 h:=
 At.mk (cast (by kernel_rfl) ht)
theorem call (a0:Pt) (n0 c0:Nat) (e0:Bool) (x1:List Nat) (h:Zaa) (Q:QT) (ht :
 Zak pg Zhd [.str x1] h fun A B=>
 Zle A fun A=>Zai A fun A C=>Zqh A fun A=>Zai A fun A D=>Zeb .u8 A fun A=>Zai D fun D E=>xSl D fun D F G H=>Zbq E (Zai C fun C E=>Zbz C fun C=>Zbq E (Zcf (B ++ [.cells Zap [.int .u8 0,.slice none 0 0 true] false]) fun E=>Zbt (Zbb E (.ptr (B.length,0)) [.int .u8 A,.slice D F G H]) fun A=>bcase (!C) (Q (.tup [.str [],.bool false]) A) (Zak pg Zkl [.slice a0 n0 c0 e0] A fun A C=>
 Zbz A fun A=>bcase (!A) (Q (.tup [.str [],.bool false]) C) (J4 Q a0 n0 c0 e0 B.length 0 C))))):Zak pg Zkj [.slice a0 n0 c0 e0,.str x1] h Q:=
 Zak.of_body kp (c:=cod fn) (fn:=fn) Go.Proofs.Tryz.func135 (by kernel_rfl) (by kernel_rfl) (Nat.le_of_ble_eq_true (by kernel_rfl))
  (cast (by kernel_rfl) ht)
end Zga
namespace Zku
noncomputable abbrev fn:Func:=Go.Proofs.Tryz.f112
def kp:Zch:=[(3000006,[6,4,5]),(1000006,[6,7,26,27,28])]
noncomputable def C (p:List Nat):Code:=(cod fn).sub p
def KR (Q:QT):KT:=Zfd pg fn.results.toList Q
abbrev T6:=Pt→Nat→Nat→Bool→Pt→Nat→Nat→Bool→Pt→Nat→Nat→Bool→Int→Int→Zaa→Prop
def E6 (R6:T6) (env:Env) (h:Zaa):Prop:=Zbu 6 env fun v env=>xSl v fun a6 n6 c6 e6=>Zbu 7 env fun v env=>xSl v fun a7 n7 c7 e7=>Zbu 26 env fun v env=>xSl v fun a26 n26 c26 e26=>Zbu 27 env fun v env=>Zdz .i64 v fun x27=>Zbu 28 env fun v env=>Zdz .i64 v fun x28=>Zin env (R6 a6 n6 c6 e6 a7 n7 c7 e7 a26 n26 c26 e26 x27 x28 h)
theorem Zlw {R6:T6} {env:Env} {h:Zaa} (hi:E6 R6 env h):∃ a6,∃ n6,∃ c6,∃ e6,∃ a7,∃ n7,∃ c7,∃ e7,∃ a26,∃ n26,∃ c26,∃ e26,∃ x27,∃ x28,env=[(6,.slice a6 n6 c6 e6),(7,.slice a7 n7 c7 e7),(26,.slice a26 n26 c26 e26),(27,.int .i64 x27),(28,.int .i64 x28)]∧R6 a6 n6 c6 e6 a7 n7 c7 e7 a26 n26 c26 e26 x27 x28 h:=by
 unfold E6 at hi
 repeat ((first | (have k:=Zaf hi; clear hi; obtain ⟨_,_,e,hi⟩:=k) | (have k:=Zav hi; clear hi; obtain ⟨_,e,hi⟩:=k) | (have k:=Zbp hi; clear hi; obtain ⟨_,_,_,_,e,hi⟩:=k)); subst e)
 obtain ⟨rfl,hi⟩:=Zbl hi
 exact ⟨_,_,_,_,_,_,_,_,_,_,_,_,_,_,rfl,hi⟩
def K0 (Q:QT):KT:=andThen (fun env' h'=>(match kp.find 4000013 with | some ks=>Den pg fn.ntmps (C [1,1,1,1,1]) (env'.keep ks) h' (KR Q) | none=>den pg fn.ntmps kp (C [1,1,1,1,1]) env' h' (KR Q))) (KR Q)
def K1 (Q:QT):KT:=Zcj 0 (K0 Q)
def K2 (Q:QT):KT:=left kp 6 (K1 Q)
def K3 (Q:QT) (R6:T6):KT:=rnd ((kp.find 1000006).getD []) (E6 R6) (K2 Q)
def L6 (Q:QT) (a6:Pt) (n6 c6:Nat) (e6:Bool) (a7:Pt) (n7 c7:Nat) (e7:Bool) (a26:Pt) (n26 c26:Nat) (e26:Bool) (x27 x28:Int) (h:Zaa):Prop:=Zej (Den pg fn.ntmps (C [1,1,1,1,0,1,0,0])) ((kp.find 1000006).getD []) (K2 Q) [(6,.slice a6 n6 c6 e6),(7,.slice a7 n7 c7 e7),(26,.slice a26 n26 c26 e26),(27,.int .i64 x27),(28,.int .i64 x28)] h
def Ydm (Q:QT) (a6:Pt) (n6 c6:Nat) (e6:Bool) (h:Zaa):Prop:=At (K1 Q) (.exit 0) [(6,.slice a6 n6 c6 e6),(4,.undef),(5,.undef)] h
def L6t (Q:QT) (R6:T6) (a6:Pt) (n6 c6:Nat) (e6:Bool) (a7:Pt) (n7 c7:Nat) (e7:Bool) (a26:Pt) (n26 c26:Nat) (e26:Bool) (x27 x28:Int) (h:Zaa):Prop:=
 bcase (decide ((x28:Int) < x27)) ((0≤(x28:Int)∧(x28:Int) < (n26:Nat))∧(Zbf a26 fun A B=>Zcd (Zbe h (.ptr (A,B + (Int.toNat x28) * 2)) 2) fun A=>Zai A fun A B=>Zbd A fun A=>Zai B fun B C=>Zbd B fun B=>Zbq C (Zcf (h ++ [.cells Zab [.str [],.str []] false]) fun C=>Zbt (Zbb C (.ptr (h.length,0)) [.str A,.str B]) fun A=>Zbd (Zag A (.ptr (h.length,0 + 1))) fun B=>Zak pg Zkj [.slice a7 n7 c7 e7,.str B] A fun A B=>
 Zle A fun A=>Zai A fun A C=>Zbd A fun A=>Zai C fun C D=>Zbz C fun C=>Zbq D (bcase (!C) (Zcf (B ++ [.cells Zab [] false]) fun C=>Q (.tup [.slice (B.length,0) 0 0 true,.bool false]) C) (Zbd (Zag B (.ptr (h.length,0 + 0))) fun C=>Zcf (B ++ [.cells Zab [.str C,.str A] false]) fun A=>Zci pg Zbo A (.slice a6 n6 c6 e6) (.slice (B.length,0) 1 1 true) fun A B=>xSl A fun A C D E=>R6 A C D E a7 n7 c7 e7 a26 n26 c26 e26 x27 (IntKind.wrap .i64 (x28 + 1)) B))))) (Ydm Q a6 n6 c6 e6 h)
theorem Zxy (Q:QT) (R6:T6) (a6:Pt) (n6 c6:Nat) (e6:Bool) (a7:Pt) (n7 c7:Nat) (e7:Bool) (a26:Pt) (n26 c26:Nat) (e26:Bool) (x27 x28:Int) (h:Zaa) (ht:L6t Q R6 a6 n6 c6 e6 a7 n7 c7 e7 a26 n26 c26 e26 x27 x28 h):Den pg fn.ntmps (C [1,1,1,1,0,1,0,0]) [(6,.slice a6 n6 c6 e6),(7,.slice a7 n7 c7 e7),(26,.slice a26 n26 c26 e26),(27,.int .i64 x27),(28,.int .i64 x28)] h (K3 Q R6):=
 Zba (kp:=kp) (cast (by kernel_rfl) ht)
theorem L6ind (Q:QT) (a7:Pt) (n7 c7:Nat) (e7:Bool) (a26:Pt) (n26 c26:Nat) (e26:Bool) (x27:Int) {G:Type} (J:G→Pt→Nat→Nat→Bool→Int→Zaa→Prop) (m:G→Nat)
 (hr:∀ (g:G) (a6:Pt) (n6 c6:Nat) (e6:Bool) (x28:Int) (h:Zaa),J g a6 n6 c6 e6 x28 h→∀ (R6:T6),(∀ g' (a6:Pt) (n6 c6:Nat) (e6:Bool) (x28:Int) (h:Zaa),m g' < m g→J g' a6 n6 c6 e6 x28 h→R6 a6 n6 c6 e6 a7 n7 c7 e7 a26 n26 c26 e26 x27 x28 h)→L6t Q R6 a6 n6 c6 e6 a7 n7 c7 e7 a26 n26 c26 e26 x27 x28 h)
 (g:G) (a6:Pt) (n6 c6:Nat) (e6:Bool) (x28:Int) (h:Zaa) (hj:J g a6 n6 c6 e6 x28 h):L6 Q a6 n6 c6 e6 a7 n7 c7 e7 a26 n26 c26 e26 x27 x28 h:=by
 let P:=fun (K:Pt→Nat→Nat→Bool→Int→Zaa→Prop) a6 n6 c6 e6 a7' n7' c7' e7' a26' n26' c26' e26' x27' x28 h=>a7=a7'∧n7=n7'∧c7=c7'∧e7=e7'∧a26=a26'∧n26=n26'∧c26=c26'∧e26=e26'∧x27=x27'∧K a6 n6 c6 e6 x28 h
 refine Zej.inv2 (fun g=>E6 (P (J g))) (fun g=>E6 (P fun a6 n6 c6 e6 x28 h=>∃ g',m g' < m g∧J g' a6 n6 c6 e6 x28 h)) m ?_ ?_ g ⟨rfl,rfl,rfl,rfl,rfl,rfl,rfl,rfl,rfl,hj⟩
 ·intro g env h hi
  obtain ⟨a6,n6,c6,e6,a7',n7',c7',e7',a26',n26',c26',e26',x27',x28,rfl,rfl,rfl,rfl,rfl,rfl,rfl,rfl,rfl,rfl,hj⟩:=Zlw hi
  exact Zxy Q _ a6 n6 c6 e6 a7 n7 c7 e7 a26 n26 c26 e26 x27 x28 h (hr g a6 n6 c6 e6 x28 h hj (P fun a6 n6 c6 e6 x28 h=>∃ g',m g' < m g∧J g' a6 n6 c6 e6 x28 h) fun g' a6 n6 c6 e6 x28 h hlt hj=>⟨rfl,rfl,rfl,rfl,rfl,rfl,rfl,rfl,rfl,g',hlt,hj⟩)
 ·intro g env h hi
  obtain ⟨a6,n6,c6,e6,a7',n7',c7',e7',a26',n26',c26',e26',x27',x28,rfl,rfl,rfl,rfl,rfl,rfl,rfl,rfl,rfl,rfl,g',hlt,hj⟩:=Zlw hi
  exact ⟨g',hlt,rfl,rfl,rfl,rfl,rfl,rfl,rfl,rfl,rfl,hj⟩
theorem A6x0i (Q:QT) (a6:Pt) (n6 c6:Nat) (e6:Bool) (h:Zaa) (ht :
 Q (.tup [.slice a6 n6 c6 e6,.bool true]) h):Ydm Q a6 n6 c6 e6 h:=
 At.mk (cast (by kernel_rfl) ht)
theorem call (x0x0 x0x1:List Nat) (a0x2:Pt) (n0x2 c0x2:Nat) (e0x2:Bool) (x1:List Nat) (h:Zaa) (Q:QT) (ht :
 Zcf (h ++ [.cells Zad [.str x0x0,.str x0x1,.slice a0x2 n0x2 c0x2 e0x2] false]) fun A=>Zcf (A ++ [.cells Zab [] false]) fun B=>Zbd (Zag B (.ptr (h.length,0 + 0 + 1))) fun C=>Zak pg Zlm [.str C,.str x1] B fun B C=>
 Zle B fun B=>Zai B fun B D=>xSl B fun B E F G=>Zai D fun D H=>Zbz D fun D=>Zbq H (bcase (!D) (Q (.tup [.slice (A.length,0) 0 0 true,.bool false]) C) (xSl (Zag C (.ptr (h.length,0 + 2))) fun D H I J=>L6 Q (A.length,0) 0 0 true B E F G D H I J (((H:Nat):Int)) 0 C))):Zak pg Zjb [.agg [.str x0x0,.str x0x1,.slice a0x2 n0x2 c0x2 e0x2],.str x1] h Q:=
 Zak.of_body kp (c:=cod fn) (fn:=fn) Go.Proofs.Tryz.func112 (by kernel_rfl) (by kernel_rfl) (Nat.le_of_ble_eq_true (by kernel_rfl))
  (cast (by kernel_rfl) ht)
end Zku
end Go.Sim

set_option maxRecDepth 100000
set_option maxHeartbeats 0
set_option linter.unusedVariables false
namespace Go.Sim
open Go Go.RowKit
namespace Zfe
noncomputable abbrev fn:Func:=Go.Proofs.Tryz.f154
def kp:Zch:=[(3000002,[2]),(1000002,[0,5,6,7]),(2000004,[43,7,6,5,0]),(4000006,[7,6,5,0])]
noncomputable def C (p:List Nat):Code:=(cod fn).sub p
def KR (Q:QT):KT:=Zfd pg fn.results.toList Q
abbrev T2:=Pt→Nat→Nat→Bool→Pt→Nat→Nat→Bool→Int→Int→Zaa→Prop
def E2 (R2:T2) (env:Env) (h:Zaa):Prop:=Zbu 0 env fun v env=>xSl v fun a0 n0 c0 e0=>Zbu 5 env fun v env=>xSl v fun a5 n5 c5 e5=>Zbu 6 env fun v env=>Zdz .i64 v fun x6=>Zbu 7 env fun v env=>Zdz .i64 v fun x7=>Zin env (R2 a0 n0 c0 e0 a5 n5 c5 e5 x6 x7 h)
theorem Zea {R2:T2} {env:Env} {h:Zaa} (hi:E2 R2 env h):∃ a0,∃ n0,∃ c0,∃ e0,∃ a5,∃ n5,∃ c5,∃ e5,∃ x6,∃ x7,env=[(0,.slice a0 n0 c0 e0),(5,.slice a5 n5 c5 e5),(6,.int .i64 x6),(7,.int .i64 x7)]∧R2 a0 n0 c0 e0 a5 n5 c5 e5 x6 x7 h:=by
 unfold E2 at hi
 repeat ((first | (have k:=Zaf hi; clear hi; obtain ⟨_,_,e,hi⟩:=k) | (have k:=Zav hi; clear hi; obtain ⟨_,e,hi⟩:=k) | (have k:=Zbp hi; clear hi; obtain ⟨_,_,_,_,e,hi⟩:=k)); subst e)
 obtain ⟨rfl,hi⟩:=Zbl hi
 exact ⟨_,_,_,_,_,_,_,_,_,_,rfl,hi⟩
def K0 (Q:QT):KT:=andThen (fun env' h'=>(match kp.find 4000007 with | some ks=>Den pg fn.ntmps (C [1,1]) (env'.keep ks) h' (KR Q) | none=>den pg fn.ntmps kp (C [1,1]) env' h' (KR Q))) (KR Q)
def K1 (Q:QT):KT:=Zcj 0 (K0 Q)
def K2 (Q:QT):KT:=left kp 2 (K1 Q)
def K3 (Q:QT) (R2:T2):KT:=rnd ((kp.find 1000002).getD []) (E2 R2) (K2 Q)
def L2 (Q:QT) (a0:Pt) (n0 c0:Nat) (e0:Bool) (a5:Pt) (n5 c5:Nat) (e5:Bool) (x6 x7:Int) (h:Zaa):Prop:=Zej (Den pg fn.ntmps (C [1,0,1,0,0])) ((kp.find 1000002).getD []) (K2 Q) [(0,.slice a0 n0 c0 e0),(5,.slice a5 n5 c5 e5),(6,.int .i64 x6),(7,.int .i64 x7)] h
def J6 (Q:QT) (R2:T2) (x7 x6:Int) (a5:Pt) (n5 c5:Nat) (e5:Bool) (a0:Pt) (n0 c0:Nat) (e0:Bool) (h:Zaa):Prop:=Den pg fn.ntmps (C [1,0,1,0,0,1,1,1]) [(7,.int .i64 x7),(6,.int .i64 x6),(5,.slice a5 n5 c5 e5),(0,.slice a0 n0 c0 e0)] h (K3 Q R2)
def Zmy (Q:QT) (h:Zaa):Prop:=At (K1 Q) (.exit 0) [(2,.undef)] h
def L2t (Q:QT) (R2:T2) (a0:Pt) (n0 c0:Nat) (e0:Bool) (a5:Pt) (n5 c5:Nat) (e5:Bool) (x6 x7:Int) (h:Zaa):Prop:=
 bcase (decide ((x7:Int) < x6)) ((0≤(x7:Int)∧(x7:Int) < (n5:Nat))∧(Zbf a5 fun A B=>Zcd (Zbe h (.ptr (A,B + (Int.toNat x7) * 2)) 2) fun A=>Zai A fun A B=>Zbd A fun A=>Zai B fun B C=>Zbd B fun B=>Zbq C (Zcf (h ++ [.cells Zbv [.str [],.str []] false]) fun C=>Zbt (Zbb C (.ptr (h.length,0)) [.str A,.str B]) fun A=>Zbd (Zag A (.ptr (h.length,0 + 0))) fun B=>bcase (!((((List.length B:Nat):Int):Int) == 1)) ((Zag A (.tup [])=Zag A (.tup []))∧Q (.bool false) A) (Zbd (Zag A (.ptr (h.length,0 + 0))) fun B=>Zmo B 0 fun B=>Zak pg Zia [.int .u8 (((B:Nat):Int))] A fun A B=>
 Zbz A fun A=>bcase (!A) ((Zag B (.tup [])=Zag B (.tup []))∧Q (.bool false) B) (Zbd (Zag B (.ptr (h.length,0 + 1))) fun A=>Zak pg Zge [.str A] B fun A B=>
 Zbz A fun A=>bcase (!A) ((Zag B (.tup [])=Zag B (.tup []))∧Q (.bool false) B) (bcase (decide ((x7:Int) > 0)) ((0≤(IntKind.wrap .i64 (x7 - 1):Int)∧(IntKind.wrap .i64 (x7 - 1):Int) < (n0:Nat))∧(Zbf a0 fun A C=>Zbd (Zag B (.ptr (A,C + (Int.toNat (IntKind.wrap .i64 (x7 - 1))) * 2 + 0))) fun D=>Zbd (Zag B (.ptr (h.length,0 + 0))) fun E=>(Zag B (.ptr (A,C + (Int.toNat (IntKind.wrap .i64 (x7 - 1))) * 2 + 0))=Zag B (.ptr (A,C + (Int.toNat (IntKind.wrap .i64 (x7 - 1))) * 2 + 0)))∧bcase (!Zfo D E) (Q (.bool false) B) (J6 Q R2 x7 x6 a5 n5 c5 e5 a0 n0 c0 e0 B))) ((Zag B (.tup [])=Zag B (.tup []))∧J6 Q R2 x7 x6 a5 n5 c5 e5 a0 n0 c0 e0 B))))))) (Zmy Q h)
theorem Zje (Q:QT) (R2:T2) (a0:Pt) (n0 c0:Nat) (e0:Bool) (a5:Pt) (n5 c5:Nat) (e5:Bool) (x6 x7:Int) (h:Zaa) (ht:L2t Q R2 a0 n0 c0 e0 a5 n5 c5 e5 x6 x7 h):Den pg fn.ntmps (C [1,0,1,0,0]) [(0,.slice a0 n0 c0 e0),(5,.slice a5 n5 c5 e5),(6,.int .i64 x6),(7,.int .i64 x7)] h (K3 Q R2):=
 Zba (kp:=kp) (cast (by kernel_rfl) ht)
theorem L2ind (Q:QT) (a0:Pt) (n0 c0:Nat) (e0:Bool) (a5:Pt) (n5 c5:Nat) (e5:Bool) (x6:Int) {G:Type} (J:G→Int→Zaa→Prop) (m:G→Nat)
 (hr:∀ (g:G) (x7:Int) (h:Zaa),J g x7 h→∀ (R2:T2),(∀ g' (x7:Int) (h:Zaa),m g' < m g→J g' x7 h→R2 a0 n0 c0 e0 a5 n5 c5 e5 x6 x7 h)→L2t Q R2 a0 n0 c0 e0 a5 n5 c5 e5 x6 x7 h)
 (g:G) (x7:Int) (h:Zaa) (hj:J g x7 h):L2 Q a0 n0 c0 e0 a5 n5 c5 e5 x6 x7 h:=by
 let P:=fun (K:Int→Zaa→Prop) a0' n0' c0' e0' a5' n5' c5' e5' x6' x7 h=>a0=a0'∧n0=n0'∧c0=c0'∧e0=e0'∧a5=a5'∧n5=n5'∧c5=c5'∧e5=e5'∧x6=x6'∧K x7 h
 refine Zej.inv2 (fun g=>E2 (P (J g))) (fun g=>E2 (P fun x7 h=>∃ g',m g' < m g∧J g' x7 h)) m ?_ ?_ g ⟨rfl,rfl,rfl,rfl,rfl,rfl,rfl,rfl,rfl,hj⟩
 ·intro g env h hi
  obtain ⟨a0',n0',c0',e0',a5',n5',c5',e5',x6',x7,rfl,rfl,rfl,rfl,rfl,rfl,rfl,rfl,rfl,rfl,hj⟩:=Zea hi
  exact Zje Q _ a0 n0 c0 e0 a5 n5 c5 e5 x6 x7 h (hr g x7 h hj (P fun x7 h=>∃ g',m g' < m g∧J g' x7 h) fun g' x7 h hlt hj=>⟨rfl,rfl,rfl,rfl,rfl,rfl,rfl,rfl,rfl,g',hlt,hj⟩)
 ·intro g env h hi
  obtain ⟨a0',n0',c0',e0',a5',n5',c5',e5',x6',x7,rfl,rfl,rfl,rfl,rfl,rfl,rfl,rfl,rfl,rfl,g',hlt,hj⟩:=Zea hi
  exact ⟨g',hlt,rfl,rfl,rfl,rfl,rfl,rfl,rfl,rfl,rfl,hj⟩
theorem J6i (Q:QT) (R2:T2) (x7 x6:Int) (a5:Pt) (n5 c5:Nat) (e5:Bool) (a0:Pt) (n0 c0:Nat) (e0:Bool) (h:Zaa) (ht :
 R2 a0 n0 c0 e0 a5 n5 c5 e5 x6 (IntKind.wrap .i64 (x7 + 1)) h):J6 Q R2 x7 x6 a5 n5 c5 e5 a0 n0 c0 e0 h:=
 Zba (kp:=kp) (cast (by kernel_rfl) ht)
theorem A2x0i (Q:QT) (h:Zaa) (ht :
 Q (.bool true) h):Zmy Q h:=
 At.mk (cast (by kernel_rfl) ht)
theorem call (a0:Pt) (n0 c0:Nat) (e0:Bool) (h:Zaa) (Q:QT) (ht :
 L2 Q a0 n0 c0 e0 a0 n0 c0 e0 (((n0:Nat):Int)) 0 h):Zak pg Zkl [.slice a0 n0 c0 e0] h Q:=
 Zak.of_body kp (c:=cod fn) (fn:=fn) Go.Proofs.Tryz.func154 (by kernel_rfl) (by kernel_rfl) (Nat.le_of_ble_eq_true (by kernel_rfl))
  (cast (by kernel_rfl) ht)
end Zfe
namespace Zjn
noncomputable abbrev fn:Func:=Go.Proofs.Tryz.f108
def kp:Zch:=[(4000004,[3,0,4]),(3000006,[6,4]),(1000006,[0,4,6,33,34,35]),(2000008,[35,34,33,6,0,4])]
noncomputable def C (p:List Nat):Code:=(cod fn).sub p
def KR (Q:QT):KT:=Zfd pg fn.results.toList Q
abbrev T6:=Pt→Nat→Nat→Nat→Nat→Pt→Nat→Nat→Bool→Int→Int→Zaa→Prop
def E6 (R6:T6) (env:Env) (h:Zaa):Prop:=Zbu 0 env fun v env=>Zgn v fun a0=>Zbu 4 env fun v env=>Zgn v fun a=>Zbf a fun i4 o4=>Zbu 6 env fun v env=>Zgn v fun a=>Zbf a fun i6 o6=>Zbu 33 env fun v env=>xSl v fun a33 n33 c33 e33=>Zbu 34 env fun v env=>Zdz .i64 v fun x34=>Zbu 35 env fun v env=>Zdz .i64 v fun x35=>Zin env (R6 a0 i4 o4 i6 o6 a33 n33 c33 e33 x34 x35 h)
theorem Zlw {R6:T6} {env:Env} {h:Zaa} (hi:E6 R6 env h):∃ a0,∃ i4,∃ o4,∃ i6,∃ o6,∃ a33,∃ n33,∃ c33,∃ e33,∃ x34,∃ x35,env=[(0,.ptr a0),(4,.ptr (i4,o4)),(6,.ptr (i6,o6)),(33,.slice a33 n33 c33 e33),(34,.int .i64 x34),(35,.int .i64 x35)]∧R6 a0 i4 o4 i6 o6 a33 n33 c33 e33 x34 x35 h:=by
 unfold E6 at hi
 have hi0:=hi
 clear hi
 obtain ⟨_,_,rfl,hi1⟩:=Zaf hi0
 obtain ⟨a0,rfl,hi2⟩:=Zbn hi1
 obtain ⟨_,_,rfl,hi3⟩:=Zaf hi2
 obtain ⟨a,rfl,hi4⟩:=Zbn hi3
 obtain ⟨i4,o4,rfl,hi5⟩:=Zbk hi4
 obtain ⟨_,_,rfl,hi6⟩:=Zaf hi5
 obtain ⟨a,rfl,hi7⟩:=Zbn hi6
 obtain ⟨i6,o6,rfl,hi8⟩:=Zbk hi7
 obtain ⟨_,_,rfl,hi9⟩:=Zaf hi8
 obtain ⟨a33,n33,c33,e33,rfl,hi10⟩:=Zbp hi9
 obtain ⟨_,_,rfl,hi11⟩:=Zaf hi10
 obtain ⟨x34,rfl,hi12⟩:=Zav hi11
 obtain ⟨_,_,rfl,hi13⟩:=Zaf hi12
 obtain ⟨x35,rfl,hi14⟩:=Zav hi13
 obtain ⟨rfl,hi15⟩:=Zbl hi14
 have hi:=hi15
 exact ⟨a0,i4,o4,i6,o6,a33,n33,c33,e33,x34,x35,rfl,hi⟩
def K0 (Q:QT):KT:=andThen (fun env' h'=>(match kp.find 4000010 with | some ks=>Den pg fn.ntmps (C [1,1,1,1]) (env'.keep ks) h' (KR Q) | none=>den pg fn.ntmps kp (C [1,1,1,1]) env' h' (KR Q))) (KR Q)
def K1 (Q:QT):KT:=Zcj 0 (K0 Q)
def K2 (Q:QT):KT:=left kp 6 (K1 Q)
def K3 (Q:QT) (R6:T6):KT:=rnd ((kp.find 1000006).getD []) (E6 R6) (K2 Q)
def J4 (Q:QT) (i3 o3:Nat) (a0:Pt) (i4 o4:Nat) (h:Zaa):Prop:=Den pg fn.ntmps (C [1,1]) [(3,.ptr (i3,o3)),(0,.ptr a0),(4,.ptr (i4,o4))] h (KR Q)
def L6 (Q:QT) (a0:Pt) (i4 o4 i6 o6:Nat) (a33:Pt) (n33 c33:Nat) (e33:Bool) (x34 x35:Int) (h:Zaa):Prop:=Zej (Den pg fn.ntmps (C [1,1,1,0,1,0,0])) ((kp.find 1000006).getD []) (K2 Q) [(0,.ptr a0),(4,.ptr (i4,o4)),(6,.ptr (i6,o6)),(33,.slice a33 n33 c33 e33),(34,.int .i64 x34),(35,.int .i64 x35)] h
def Ydm (Q:QT) (i6 o6 i4 o4:Nat) (h:Zaa):Prop:=At (K1 Q) (.exit 0) [(6,.ptr (i6,o6)),(4,.ptr (i4,o4))] h
theorem J4i (Q:QT) (i3 o3:Nat) (a0:Pt) (i4 o4:Nat) (h:Zaa) (ht :
 Zeb .u8 (Zag h (.ptr (i3,o3 + 0))) fun A=>Zcf (h ++ [.cells Zap [] false]) fun B=>Zcf (B ++ [.cells Zap [.int .u8 0,.slice none 0 0 true] false]) fun C=>Zbt (Zbb C (.ptr (B.length,0)) [.int .u8 A,.slice (h.length,0) 0 0 true]) fun A=>xSl (Zag A (.ptr (i3,o3 + 1))) fun C D E F=>L6 Q a0 i4 o4 B.length 0 C D E F (((D:Nat):Int)) 0 A):J4 Q i3 o3 a0 i4 o4 h:=
 Zba (kp:=kp) (cast (by kernel_rfl) ht)
def L6t (Q:QT) (R6:T6) (a0:Pt) (i4 o4 i6 o6:Nat) (a33:Pt) (n33 c33:Nat) (e33:Bool) (x34 x35:Int) (h:Zaa):Prop:=
 bcase (decide ((x35:Int) < x34)) ((0≤(x35:Int)∧(x35:Int) < (n33:Nat))∧(Zbf a33 fun A B=>Zcd (Zbe h (.ptr (A,B + (Int.toNat x35) * 2)) 2) fun A=>Zai A fun A B=>Zeb .u8 A fun A=>Zai B fun B C=>xSl B fun B D E F=>Zbq C (Zcf (h ++ [.cells Zap [.int .u8 0,.slice none 0 0 true] false]) fun C=>Zbt (Zbb C (.ptr (h.length,0)) [.int .u8 A,.slice B D E F]) fun A=>xSl (Zag A (.ptr (i6,o6 + 1))) fun B C D E=>Zcd (Zbe A (.ptr (h.length,0)) 2) fun F=>Zai F fun F G=>Zeb .u8 F fun F=>Zai G fun G H=>xSl G fun G I J K=>Zbq H ((Zag A (.ptr (i6,o6 + 1))=Zag A (.ptr (i6,o6 + 1)))∧Zak pg Znv [.ptr a0,.agg [.int .u8 F,.slice G I J K]] A fun F G=>
 Zqh F fun F=>Zai F fun F H=>Zeb .u8 F fun F=>Zai H fun H I=>xSl H fun H J K L=>Zbq I ((Zag G (.ptr (i6,o6 + 1))=Zag A (.ptr (i6,o6 + 1)))∧Zcf (G ++ [.cells Zap [.int .u8 F,.slice H J K L] false]) fun A=>(Zag A (.ptr (i6,o6 + 1))=Zag G (.ptr (i6,o6 + 1)))∧Zci pg Zmg A (.slice B C D E) (.slice (G.length,0) 1 1 true) fun A B=>xSl A fun A C D E=>Zbt (Zbb B (.ptr (i6,o6 + 1)) [.slice A C D E]) fun A=>R6 a0 i4 o4 i6 o6 a33 n33 c33 e33 x34 (IntKind.wrap .i64 (x35 + 1)) A))))) (Ydm Q i6 o6 i4 o4 h)
theorem Zxy (Q:QT) (R6:T6) (a0:Pt) (i4 o4 i6 o6:Nat) (a33:Pt) (n33 c33:Nat) (e33:Bool) (x34 x35:Int) (h:Zaa) (ht:L6t Q R6 a0 i4 o4 i6 o6 a33 n33 c33 e33 x34 x35 h):Den pg fn.ntmps (C [1,1,1,0,1,0,0]) [(0,.ptr a0),(4,.ptr (i4,o4)),(6,.ptr (i6,o6)),(33,.slice a33 n33 c33 e33),(34,.int .i64 x34),(35,.int .i64 x35)] h (K3 Q R6):=
 Zba (kp:=kp) (cast (by kernel_rfl) ht)
theorem L6ind (Q:QT) (a0:Pt) (i4 o4 i6 o6:Nat) (a33:Pt) (n33 c33:Nat) (e33:Bool) (x34:Int) {G:Type} (J:G→Int→Zaa→Prop) (m:G→Nat)
 (hr:∀ (g:G) (x35:Int) (h:Zaa),J g x35 h→∀ (R6:T6),(∀ g' (x35:Int) (h:Zaa),m g' < m g→J g' x35 h→R6 a0 i4 o4 i6 o6 a33 n33 c33 e33 x34 x35 h)→L6t Q R6 a0 i4 o4 i6 o6 a33 n33 c33 e33 x34 x35 h)
 (g:G) (x35:Int) (h:Zaa) (hj:J g x35 h):L6 Q a0 i4 o4 i6 o6 a33 n33 c33 e33 x34 x35 h:=by
 let P:=fun (K:Int→Zaa→Prop) a0' i4' o4' i6' o6' a33' n33' c33' e33' x34' x35 h=>a0=a0'∧i4=i4'∧o4=o4'∧i6=i6'∧o6=o6'∧a33=a33'∧n33=n33'∧c33=c33'∧e33=e33'∧x34=x34'∧K x35 h
 refine Zej.inv2 (fun g=>E6 (P (J g))) (fun g=>E6 (P fun x35 h=>∃ g',m g' < m g∧J g' x35 h)) m ?_ ?_ g ⟨rfl,rfl,rfl,rfl,rfl,rfl,rfl,rfl,rfl,rfl,hj⟩
 ·intro g env h hi
  obtain ⟨a0',i4',o4',i6',o6',a33',n33',c33',e33',x34',x35,rfl,rfl,rfl,rfl,rfl,rfl,rfl,rfl,rfl,rfl,rfl,hj⟩:=Zlw hi
  exact Zxy Q _ a0 i4 o4 i6 o6 a33 n33 c33 e33 x34 x35 h (hr g x35 h hj (P fun x35 h=>∃ g',m g' < m g∧J g' x35 h) fun g' x35 h hlt hj=>⟨rfl,rfl,rfl,rfl,rfl,rfl,rfl,rfl,rfl,rfl,g',hlt,hj⟩)
 ·intro g env h hi
  obtain ⟨a0',i4',o4',i6',o6',a33',n33',c33',e33',x34',x35,rfl,rfl,rfl,rfl,rfl,rfl,rfl,rfl,rfl,rfl,rfl,g',hlt,hj⟩:=Zlw hi
  exact ⟨g',hlt,rfl,rfl,rfl,rfl,rfl,rfl,rfl,rfl,rfl,rfl,hj⟩
theorem A6x0i (Q:QT) (i6 o6 i4 o4:Nat) (h:Zaa) (ht :
 Zcd (Zbe h (.ptr (i6,o6)) 2) fun A=>Zai A fun A B=>Zeb .u8 A fun A=>Zai B fun B C=>xSl B fun B D E F=>Zbq C (Zbt (Zbb h (.ptr (i4,o4)) [.int .u8 A,.slice B D E F]) fun A=>Zcd (Zbe A (.ptr (i4,o4)) 2) fun B=>Zai B fun B C=>Zeb .u8 B fun B=>Zai C fun C D=>xSl C fun C E F G=>Zbq D (Q (.agg [.int .u8 B,.slice C E F G]) A))):Ydm Q i6 o6 i4 o4 h:=
 At.mk (cast (by kernel_rfl) ht)
theorem call (a0:Pt) (x1x0:Int) (a1x1:Pt) (n1x1 c1x1:Nat) (e1x1:Bool) (h:Zaa) (Q:QT) (ht :
 Zcf (h ++ [.cells Zap [.int .u8 x1x0,.slice a1x1 n1x1 c1x1 e1x1] false]) fun A=>Zcf (A ++ [.cells Zap [.int .u8 0,.slice none 0 0 true] false]) fun B=>Zeb .u8 (Zag B (.ptr (h.length,0 + 0))) fun C=>Zak pg Zlc [.int .u8 C] B fun B C=>
 Zeb .i64 B fun B=>bcase (decide ((B:Int) ≥ 0)) (Zbf a0 fun D E=>(0≤(B:Int)∧(B:Int) < (12:Nat))∧(Zeb .u8 (Zag C (.ptr (D,E + (Int.toNat B) * 2 + 0))) fun D=>bcase (!((D:Int) == 0)) (Zbf a0 fun D E=>(0≤(B:Int)∧(B:Int) < (12:Nat))∧(Zcd (Zbe C (.ptr (D,E + (Int.toNat B) * 2)) 2) fun B=>Zai B fun B D=>Zeb .u8 B fun B=>Zai D fun D E=>xSl D fun D F G H=>Zbq E (Zbt (Zbb C (.ptr (A.length,0)) [.int .u8 B,.slice D F G H]) fun B=>Zcd (Zbe B (.ptr (A.length,0)) 2) fun D=>Zai D fun D E=>Zeb .u8 D fun D=>Zai E fun E F=>xSl E fun E G H I=>Zbq F (Q (.agg [.int .u8 D,.slice E G H I]) B)))) (J4 Q h.length 0 a0 A.length 0 C))) (J4 Q h.length 0 a0 A.length 0 C)):Zak pg Znv [.ptr a0,.agg [.int .u8 x1x0,.slice a1x1 n1x1 c1x1 e1x1]] h Q:=
 Zak.of_body kp (c:=cod fn) (fn:=fn) Go.Proofs.Tryz.func108 (by kernel_rfl) (by kernel_rfl) (Nat.le_of_ble_eq_true (by kernel_rfl))
  (cast (by kernel_rfl) ht)
end Zjn
end Go.Sim
