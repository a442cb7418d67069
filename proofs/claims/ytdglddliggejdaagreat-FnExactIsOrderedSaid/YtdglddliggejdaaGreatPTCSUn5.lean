/- A part of the proof of a statement of this seat: see the text that holds the theorem. No condition. -/
import Derived.Test.YtdglddliggejdaaGreatNm
set_option linter.unusedVariables false
set_option linter.unusedSimpArgs false
set_option linter.all false
set_option maxRecDepth 100000
set_option maxHeartbeats 0
set_option linter.unusedVariables false
namespace Go.Sim
open Go Go.RowKit
namespace Zih
noncomputable abbrev fn:Func:=Go.Proofs.Tryz.f4
def kp:Zce:=[(2000010,[26])]
noncomputable def C (p:List Nat):Code:=(cod fn).sub p
def KR (Q:QT):KT:=Zev pg fn.results.toList Q
theorem call (a0x0:Pt) (n0x0 c0x0:Nat) (e0x0:Bool) (a0x1:Pt) (n0x1 c0x1:Nat) (e0x1:Bool) (h:Zaa) (Q:QT) (ht :
 Zcy (h ++ [.cells Zef [.slice a0x0 n0x0 c0x0 e0x0,.slice a0x1 n0x1 c0x1 e0x1] false]) fun A=>Zcs (Zbf A (.ptr (h.length,0)) 2) fun B=>Zaj B fun B C=>xSl B fun B D E F=>Zaj C fun C G=>xSl C fun C H I J=>Zcf G (Zae pg Zlv [.agg [.slice B D E F,.slice C H I J],.int .i64 1048576] A fun A B=>
 Zci .i64 A fun A=>bcase (decide ((A:Int) < 0)) (Q (.bool true) B) (Zcs (Zbf B (.ptr (h.length,0)) 2) fun A=>Zaj A fun A C=>xSl A fun A D E F=>Zaj C fun C G=>xSl C fun C H I J=>Zcf G (Zae pg Zhi [.agg [.slice A D E F,.slice C H I J]] B fun A B=>
 Zrs A fun A=>Zaj A fun A C=>xSl A fun A D E F=>Zaj C fun C G=>xSl C fun C H I J=>Zcf G (Zae pg Zjp [.agg [.slice A D E F,.slice C H I J]] B fun A B=>
 Zbp A fun A=>Zcs (Zbf B (.ptr (h.length,0)) 2) fun C=>Zaj C fun C D=>xSl C fun C E F G=>Zaj D fun D H=>xSl D fun D I J K=>Zcf H (Zae pg Zhi [.agg [.slice C E F G,.slice D I J K]] B fun B C=>
 Zrs B fun B=>Zaj B fun B D=>xSl B fun B E F G=>Zaj D fun D H=>xSl D fun D I J K=>Zcf H (Zcy (C ++ [.cells Zao [.slice none 0 0 true,.slice none 0 0 true] false]) fun H=>Zch (Zbe H (.ptr (C.length,0)) [.slice B E F G,.slice D I J K]) fun B=>Zcs (Zbf B (.ptr (C.length,0)) 2) fun D=>Zaj D fun D E=>xSl D fun D F G H=>Zaj E fun E I=>xSl E fun E J K L=>Zcf I (Zae pg Zjo [.agg [.slice D F G H,.slice E J K L]] B fun B D=>
 Zbp B fun B=>bcase (!(B == A)) (Q (.bool false) D) (Zcs (Zbf D (.ptr (C.length,0)) 2) fun A=>Zaj A fun A B=>xSl A fun A E F G=>Zaj B fun B H=>xSl B fun B I J K=>Zcf H (Zcs (Zbf D (.ptr (h.length,0)) 2) fun H=>Zaj H fun H L=>xSl H fun H M N O=>Zaj L fun L P=>xSl L fun L R S T=>Zcf P ((Zbf D (.ptr (C.length,0)) 2=Zbf D (.ptr (C.length,0)) 2)∧Zae pg Zhi [.agg [.slice H M N O,.slice L R S T]] D fun H L=>
 Zrs H fun H=>Zaj H fun H M=>xSl H fun H N O P=>Zaj M fun M R=>xSl M fun M S T U=>Zcf R ((Zbf L (.ptr (C.length,0)) 2=Zbf D (.ptr (C.length,0)) 2)∧Zae pg Zlx [.agg [.slice A E F G,.slice B I J K],.agg [.slice H N O P,.slice M S T U]] L fun A B=>
 Zbp A fun A=>bcase (!A) (Q (.bool false) B) (Q (.bool true) B))))))))))))):Zae pg Zia [.agg [.slice a0x0 n0x0 c0x0 e0x0,.slice a0x1 n0x1 c0x1 e0x1]] h Q:=
 Zae.of_body kp (c:=cod fn) (fn:=fn) Go.Proofs.Tryz.func4 (by kernel_rfl) (by kernel_rfl) (Nat.le_of_ble_eq_true (by kernel_rfl))
  (cast (by kernel_rfl) ht)
end Zih
end Go.Sim

set_option maxRecDepth 100000
set_option maxHeartbeats 0
set_option linter.unusedVariables false
namespace Go.Sim
open Go Go.RowKit
namespace Zei
noncomputable abbrev fn:Func:=Go.Proofs.Tryz.f19
def kp:Zce:=[(3000003,[4,2]),(1000003,[1,4,14,15,16]),(2000005,[7,8,16,15,14,1,4]),(4000008,[16,15,14,1,4])]
noncomputable def C (p:List Nat):Code:=(cod fn).sub p
def KR (Q:QT):KT:=Zev pg fn.results.toList Q
abbrev T3:=Nat→Nat→Bool→Pt→Nat→Nat→Bool→Int→Int→Zaa→Prop
def E3 (R3:T3) (env:Env) (h:Zaa):Prop:=Zby 1 env fun v env=>Zfd v fun a=>Zba a fun i1 o1=>Zby 4 env fun v env=>Zbp v fun x4=>Zby 14 env fun v env=>xSl v fun a14 n14 c14 e14=>Zby 15 env fun v env=>Zea .i64 v fun x15=>Zby 16 env fun v env=>Zea .i64 v fun x16=>Zjh env (R3 i1 o1 x4 a14 n14 c14 e14 x15 x16 h)
theorem Zdv {R3:T3} {env:Env} {h:Zaa} (hi:E3 R3 env h):∃ i1,∃ o1,∃ x4,∃ a14,∃ n14,∃ c14,∃ e14,∃ x15,∃ x16,env=[(1,.ptr (i1,o1)),(4,.bool x4),(14,.slice a14 n14 c14 e14),(15,.int .i64 x15),(16,.int .i64 x16)]∧R3 i1 o1 x4 a14 n14 c14 e14 x15 x16 h:=by
 unfold E3 at hi
 have hi0:=hi
 clear hi
 obtain ⟨_,_,rfl,hi1⟩:=Zaf hi0
 obtain ⟨a,rfl,hi2⟩:=Zbk hi1
 obtain ⟨i1,o1,rfl,hi3⟩:=Zbj hi2
 obtain ⟨_,_,rfl,hi4⟩:=Zaf hi3
 obtain ⟨x4,rfl,hi5⟩:=Zwf hi4
 obtain ⟨_,_,rfl,hi6⟩:=Zaf hi5
 obtain ⟨a14,n14,c14,e14,rfl,hi7⟩:=Zbz hi6
 obtain ⟨_,_,rfl,hi8⟩:=Zaf hi7
 obtain ⟨x15,rfl,hi9⟩:=Zav hi8
 obtain ⟨_,_,rfl,hi10⟩:=Zaf hi9
 obtain ⟨x16,rfl,hi11⟩:=Zav hi10
 obtain ⟨rfl,hi12⟩:=Zbi hi11
 have hi:=hi12
 exact ⟨i1,o1,x4,a14,n14,c14,e14,x15,x16,rfl,hi⟩
def K0 (Q:QT):KT:=andThen (fun env' h'=>(match kp.find 4000009 with | some ks=>Den pg fn.ntmps (C [1,1,1]) (env'.keep ks) h' (KR Q) | none=>den pg fn.ntmps kp (C [1,1,1]) env' h' (KR Q))) (KR Q)
def K1 (Q:QT):KT:=Zcl 0 (K0 Q)
def K2 (Q:QT):KT:=left kp 3 (K1 Q)
def K3 (Q:QT) (R3:T3):KT:=rnd ((kp.find 1000003).getD []) (E3 R3) (K2 Q)
def L3 (Q:QT) (i1 o1:Nat) (x4:Bool) (a14:Pt) (n14 c14:Nat) (e14:Bool) (x15 x16:Int) (h:Zaa):Prop:=Zdz (Den pg fn.ntmps (C [1,1,0,1,0,0])) ((kp.find 1000003).getD []) (K2 Q) [(1,.ptr (i1,o1)),(4,.bool x4),(14,.slice a14 n14 c14 e14),(15,.int .i64 x15),(16,.int .i64 x16)] h
def J8 (Q:QT) (R3:T3) (x16 x15:Int) (a14:Pt) (n14 c14:Nat) (e14:Bool) (i1 o1:Nat) (x4:Bool) (h:Zaa):Prop:=Den pg fn.ntmps (C [1,1,0,1,0,0,1,1,1]) [(16,.int .i64 x16),(15,.int .i64 x15),(14,.slice a14 n14 c14 e14),(1,.ptr (i1,o1)),(4,.bool x4)] h (K3 Q R3)
def Znv (Q:QT) (x4:Bool) (h:Zaa):Prop:=At (K1 Q) (.exit 0) [(4,.bool x4),(2,.undef)] h
def L3t (Q:QT) (R3:T3) (i1 o1:Nat) (x4:Bool) (a14:Pt) (n14 c14:Nat) (e14:Bool) (x15 x16:Int) (h:Zaa):Prop:=
 bcase (decide ((x16:Int) < x15)) ((0≤(x16:Int)∧(x16:Int) < (n14:Nat))∧(Zba a14 fun A B=>xSl (Zad h (.ptr (A,B + (Int.toNat x16) * 1))) fun A B C C=>(0≤(0:Int)∧(0:Int) < (B:Nat))∧(Zba A fun C D=>(0≤(1:Int)∧(1:Int) < (B:Nat))∧(Zba A fun A B=>xSl (Zad h (.ptr (i1,o1 + 1))) fun E F G G=>Zci .i64 (Zad h (.ptr (C,D + (Int.toNat 0) * 1))) fun G=>(0≤(G:Int)∧(G:Int) < (F:Nat))∧(Zba E fun E F=>Zcs (Zbf h (.ptr (E,F + (Int.toNat G) * 3)) 3) fun H=>Zaj H fun H I=>Zbs H fun H=>Zaj I fun I J=>Zbs I fun I=>Zaj J fun J K=>xSl J fun J L M N=>Zcf K (xSl (Zad h (.ptr (i1,o1 + 1))) fun K O P P=>Zci .i64 (Zad h (.ptr (A,B + (Int.toNat 1) * 1))) fun P=>(0≤(P:Int)∧(P:Int) < (O:Nat))∧(Zba K fun K O=>Zcs (Zbf h (.ptr (K,O + (Int.toNat P) * 3)) 3) fun R=>Zaj R fun R S=>Zbs R fun R=>Zaj S fun S T=>Zbs S fun S=>Zaj T fun T U=>xSl T fun T V W X=>Zcf U ((Zcy (h ++ [.cells Zac [.str [],.str [],.slice none 0 0 true] false]) fun U=>(Zbf U (.ptr (K,O + (Int.toNat P) * 3)) 3=Zbf h (.ptr (K,O + (Int.toNat P) * 3)) 3)∧(Zad U (.ptr (A,B + (Int.toNat 1) * 1))=Zad h (.ptr (A,B + (Int.toNat 1) * 1)))∧(Zad U (.ptr (i1,o1 + 1))=Zad h (.ptr (i1,o1 + 1)))∧(Zbf U (.ptr (E,F + (Int.toNat G) * 3)) 3=Zbf h (.ptr (E,F + (Int.toNat G) * 3)) 3)∧(Zad U (.ptr (C,D + (Int.toNat 0) * 1))=Zad h (.ptr (C,D + (Int.toNat 0) * 1)))∧(Zad U (.ptr (i1,o1 + 1))=Zad h (.ptr (i1,o1 + 1)))∧Zcy (U ++ [.cells Zac [.str [],.str [],.slice none 0 0 true] false]) fun Y=>(Zbf Y (.ptr (K,O + (Int.toNat P) * 3)) 3=Zbf U (.ptr (K,O + (Int.toNat P) * 3)) 3)∧(Zad Y (.ptr (A,B + (Int.toNat 1) * 1))=Zad U (.ptr (A,B + (Int.toNat 1) * 1)))∧(Zad Y (.ptr (i1,o1 + 1))=Zad U (.ptr (i1,o1 + 1)))∧(Zbf Y (.ptr (E,F + (Int.toNat G) * 3)) 3=Zbf U (.ptr (E,F + (Int.toNat G) * 3)) 3)∧(Zad Y (.ptr (C,D + (Int.toNat 0) * 1))=Zad U (.ptr (C,D + (Int.toNat 0) * 1)))∧(Zad Y (.ptr (i1,o1 + 1))=Zad U (.ptr (i1,o1 + 1)))∧Zch (Zbe Y (.ptr (h.length,0)) [.str H,.str I,.slice J L M N]) fun Z=>(Zbf Z (.ptr (K,O + (Int.toNat P) * 3)) 3=Zbf Y (.ptr (K,O + (Int.toNat P) * 3)) 3)∧(Zad Z (.ptr (A,B + (Int.toNat 1) * 1))=Zad Y (.ptr (A,B + (Int.toNat 1) * 1)))∧(Zad Z (.ptr (i1,o1 + 1))=Zad Y (.ptr (i1,o1 + 1)))∧Zch (Zbe Z (.ptr (U.length,0)) [.str R,.str S,.slice T V W X]) fun Y=>Zcs (Zbf Y (.ptr (h.length,0)) 3) fun Z=>Zaj Z fun Z a=>Zbs Z fun Z=>Zaj a fun a b=>Zbs a fun a=>Zaj b fun b c=>xSl b fun b d e f=>Zcf c (Zcs (Zbf Y (.ptr (U.length,0)) 3) fun c=>Zaj c fun c g=>Zbs c fun c=>Zaj g fun g i=>Zbs g fun g=>Zaj i fun i j=>xSl i fun i k l m=>Zcf j (Zae pg Zgb [.agg [.str Z,.str a,.slice b d e f],.agg [.str c,.str g,.slice i k l m]] Y fun Y Z=>
 Zbp Y fun Y=>bcase (!Y) (Zcs (Zbf Z (.ptr (U.length,0)) 3) fun U=>Zaj U fun U Y=>Zbs U fun U=>Zaj Y fun Y a=>Zbs Y fun Y=>Zaj a fun a b=>xSl a fun a c d e=>Zcf b (Zcs (Zbf Z (.ptr (h.length,0)) 3) fun b=>Zaj b fun b f=>Zbs b fun b=>Zaj f fun f g=>Zbs f fun f=>Zaj g fun g i=>xSl g fun g j k l=>Zcf i (Zae pg Zgb [.agg [.str U,.str Y,.slice a c d e],.agg [.str b,.str f,.slice g j k l]] Z fun U Y=>
 Zbp U fun U=>bcase (!U) (Q (.bool false) Y) (J8 Q R3 x16 x15 a14 n14 c14 e14 i1 o1 x4 Y)))) (J8 Q R3 x16 x15 a14 n14 c14 e14 i1 o1 x4 Z))))∧(Zcy (h ++ [.cells Zac [.str [],.str [],.slice none 0 0 true] false]) fun U=>(Zbf U (.ptr (K,O + (Int.toNat P) * 3)) 3=Zbf h (.ptr (K,O + (Int.toNat P) * 3)) 3)∧(Zad U (.ptr (A,B + (Int.toNat 1) * 1))=Zad h (.ptr (A,B + (Int.toNat 1) * 1)))∧(Zad U (.ptr (i1,o1 + 1))=Zad h (.ptr (i1,o1 + 1)))∧(Zbf U (.ptr (E,F + (Int.toNat G) * 3)) 3=Zbf h (.ptr (E,F + (Int.toNat G) * 3)) 3)∧(Zad U (.ptr (C,D + (Int.toNat 0) * 1))=Zad h (.ptr (C,D + (Int.toNat 0) * 1)))∧(Zad U (.ptr (i1,o1 + 1))=Zad h (.ptr (i1,o1 + 1)))∧Zcy (U ++ [.cells Zac [.str [],.str [],.slice none 0 0 true] false]) fun Y=>(Zbf Y (.ptr (K,O + (Int.toNat P) * 3)) 3=Zbf U (.ptr (K,O + (Int.toNat P) * 3)) 3)∧(Zad Y (.ptr (A,B + (Int.toNat 1) * 1))=Zad U (.ptr (A,B + (Int.toNat 1) * 1)))∧(Zad Y (.ptr (i1,o1 + 1))=Zad U (.ptr (i1,o1 + 1)))∧(Zbf Y (.ptr (E,F + (Int.toNat G) * 3)) 3=Zbf U (.ptr (E,F + (Int.toNat G) * 3)) 3)∧(Zad Y (.ptr (C,D + (Int.toNat 0) * 1))=Zad U (.ptr (C,D + (Int.toNat 0) * 1)))∧(Zad Y (.ptr (i1,o1 + 1))=Zad U (.ptr (i1,o1 + 1)))∧Zch (Zbe Y (.ptr (U.length,0)) [.str H,.str I,.slice J L M N]) fun C=>(Zbf C (.ptr (K,O + (Int.toNat P) * 3)) 3=Zbf Y (.ptr (K,O + (Int.toNat P) * 3)) 3)∧(Zad C (.ptr (A,B + (Int.toNat 1) * 1))=Zad Y (.ptr (A,B + (Int.toNat 1) * 1)))∧(Zad C (.ptr (i1,o1 + 1))=Zad Y (.ptr (i1,o1 + 1)))∧Zch (Zbe C (.ptr (h.length,0)) [.str R,.str S,.slice T V W X]) fun A=>Zcs (Zbf A (.ptr (U.length,0)) 3) fun B=>Zaj B fun B C=>Zbs B fun B=>Zaj C fun C D=>Zbs C fun C=>Zaj D fun D E=>xSl D fun D F G H=>Zcf E (Zcs (Zbf A (.ptr (h.length,0)) 3) fun E=>Zaj E fun E I=>Zbs E fun E=>Zaj I fun I J=>Zbs I fun I=>Zaj J fun J K=>xSl J fun J L M N=>Zcf K (Zae pg Zgb [.agg [.str B,.str C,.slice D F G H],.agg [.str E,.str I,.slice J L M N]] A fun A B=>
 Zbp A fun A=>bcase (!A) (Zcs (Zbf B (.ptr (h.length,0)) 3) fun A=>Zaj A fun A C=>Zbs A fun A=>Zaj C fun C D=>Zbs C fun C=>Zaj D fun D E=>xSl D fun D F G H=>Zcf E (Zcs (Zbf B (.ptr (U.length,0)) 3) fun E=>Zaj E fun E I=>Zbs E fun E=>Zaj I fun I J=>Zbs I fun I=>Zaj J fun J K=>xSl J fun J L M N=>Zcf K (Zae pg Zgb [.agg [.str A,.str C,.slice D F G H],.agg [.str E,.str I,.slice J L M N]] B fun A C=>
 Zbp A fun A=>bcase (!A) (Q (.bool false) C) (J8 Q R3 x16 x15 a14 n14 c14 e14 i1 o1 x4 C)))) (J8 Q R3 x16 x15 a14 n14 c14 e14 i1 o1 x4 B)))))))))))) (Znv Q x4 h)
theorem Zjr (Q:QT) (R3:T3) (i1 o1:Nat) (x4:Bool) (a14:Pt) (n14 c14:Nat) (e14:Bool) (x15 x16:Int) (h:Zaa) (ht:L3t Q R3 i1 o1 x4 a14 n14 c14 e14 x15 x16 h):Den pg fn.ntmps (C [1,1,0,1,0,0]) [(1,.ptr (i1,o1)),(4,.bool x4),(14,.slice a14 n14 c14 e14),(15,.int .i64 x15),(16,.int .i64 x16)] h (K3 Q R3):=
 Zbb (kp:=kp) (cast (by kernel_rfl) ht)
theorem L3ind (Q:QT) (i1 o1:Nat) (x4:Bool) (a14:Pt) (n14 c14:Nat) (e14:Bool) (x15:Int) {G:Type} (J:G→Int→Zaa→Prop) (m:G→Nat)
 (hr:∀ (g:G) (x16:Int) (h:Zaa),J g x16 h→∀ (R3:T3),(∀ g' (x16:Int) (h:Zaa),m g' < m g→J g' x16 h→R3 i1 o1 x4 a14 n14 c14 e14 x15 x16 h)→L3t Q R3 i1 o1 x4 a14 n14 c14 e14 x15 x16 h)
 (g:G) (x16:Int) (h:Zaa) (hj:J g x16 h):L3 Q i1 o1 x4 a14 n14 c14 e14 x15 x16 h:=by
 let P:=fun (K:Int→Zaa→Prop) i1' o1' x4' a14' n14' c14' e14' x15' x16 h=>i1=i1'∧o1=o1'∧x4=x4'∧a14=a14'∧n14=n14'∧c14=c14'∧e14=e14'∧x15=x15'∧K x16 h
 refine Zdz.inv2 (fun g=>E3 (P (J g))) (fun g=>E3 (P fun x16 h=>∃ g',m g' < m g∧J g' x16 h)) m ?_ ?_ g ⟨rfl,rfl,rfl,rfl,rfl,rfl,rfl,rfl,hj⟩
 ·intro g env h hi
  obtain ⟨i1',o1',x4',a14',n14',c14',e14',x15',x16,rfl,rfl,rfl,rfl,rfl,rfl,rfl,rfl,rfl,hj⟩:=Zdv hi
  exact Zjr Q _ i1 o1 x4 a14 n14 c14 e14 x15 x16 h (hr g x16 h hj (P fun x16 h=>∃ g',m g' < m g∧J g' x16 h) fun g' x16 h hlt hj=>⟨rfl,rfl,rfl,rfl,rfl,rfl,rfl,rfl,g',hlt,hj⟩)
 ·intro g env h hi
  obtain ⟨i1',o1',x4',a14',n14',c14',e14',x15',x16,rfl,rfl,rfl,rfl,rfl,rfl,rfl,rfl,rfl,g',hlt,hj⟩:=Zdv hi
  exact ⟨g',hlt,rfl,rfl,rfl,rfl,rfl,rfl,rfl,rfl,hj⟩
theorem J8i (Q:QT) (R3:T3) (x16 x15:Int) (a14:Pt) (n14 c14:Nat) (e14:Bool) (i1 o1:Nat) (x4:Bool) (h:Zaa) (ht :
 R3 i1 o1 x4 a14 n14 c14 e14 x15 (IntKind.wrap .i64 (x16 + 1)) h):J8 Q R3 x16 x15 a14 n14 c14 e14 i1 o1 x4 h:=
 Zbb (kp:=kp) (cast (by kernel_rfl) ht)
theorem A3x0i (Q:QT) (x4:Bool) (h:Zaa) (ht :
 Q (.bool x4) h):Znv Q x4 h:=
 At.mk (cast (by kernel_rfl) ht)
theorem call (a0x0:Pt) (n0x0 c0x0:Nat) (e0x0:Bool) (a0x1:Pt) (n0x1 c0x1:Nat) (e0x1:Bool) (h:Zaa) (Q:QT) (ht :
 Zcy (h ++ [.cells Zao [.slice a0x0 n0x0 c0x0 e0x0,.slice a0x1 n0x1 c0x1 e0x1] false]) fun A=>Zcs (Zbf A (.ptr (h.length,0)) 2) fun B=>Zaj B fun B C=>xSl B fun B D E F=>Zaj C fun C G=>xSl C fun C H I J=>Zcf G (Zae pg Ziu [.agg [.slice B D E F,.slice C H I J]] A fun A B=>
 Zvv A fun A=>Zaj A fun A C=>xSl A fun A D E F=>Zaj C fun C G=>Zbp C fun C=>Zcf G (L3 Q h.length 0 C A D E F (((D:Nat):Int)) 0 B))):Zae pg Zjo [.agg [.slice a0x0 n0x0 c0x0 e0x0,.slice a0x1 n0x1 c0x1 e0x1]] h Q:=
 Zae.of_body kp (c:=cod fn) (fn:=fn) Go.Proofs.Tryz.func19 (by kernel_rfl) (by kernel_rfl) (Nat.le_of_ble_eq_true (by kernel_rfl))
  (cast (by kernel_rfl) ht)
end Zei
namespace Zeh
noncomputable abbrev fn:Func:=Go.Proofs.Tryz.f17
def kp:Zce:=[(3000003,[4,2]),(1000003,[1,4,12,13,14]),(2000005,[37,14,13,12,1,4]),(4000007,[14,13,12,1,4])]
noncomputable def C (p:List Nat):Code:=(cod fn).sub p
def KR (Q:QT):KT:=Zev pg fn.results.toList Q
abbrev T3:=Nat→Nat→Bool→Pt→Nat→Nat→Bool→Int→Int→Zaa→Prop
def E3 (R3:T3) (env:Env) (h:Zaa):Prop:=Zby 1 env fun v env=>Zfd v fun a=>Zba a fun i1 o1=>Zby 4 env fun v env=>Zbp v fun x4=>Zby 12 env fun v env=>xSl v fun a12 n12 c12 e12=>Zby 13 env fun v env=>Zea .i64 v fun x13=>Zby 14 env fun v env=>Zea .i64 v fun x14=>Zjh env (R3 i1 o1 x4 a12 n12 c12 e12 x13 x14 h)
theorem Zdv {R3:T3} {env:Env} {h:Zaa} (hi:E3 R3 env h):∃ i1,∃ o1,∃ x4,∃ a12,∃ n12,∃ c12,∃ e12,∃ x13,∃ x14,env=[(1,.ptr (i1,o1)),(4,.bool x4),(12,.slice a12 n12 c12 e12),(13,.int .i64 x13),(14,.int .i64 x14)]∧R3 i1 o1 x4 a12 n12 c12 e12 x13 x14 h:=by
 unfold E3 at hi
 have hi0:=hi
 clear hi
 obtain ⟨_,_,rfl,hi1⟩:=Zaf hi0
 obtain ⟨a,rfl,hi2⟩:=Zbk hi1
 obtain ⟨i1,o1,rfl,hi3⟩:=Zbj hi2
 obtain ⟨_,_,rfl,hi4⟩:=Zaf hi3
 obtain ⟨x4,rfl,hi5⟩:=Zwf hi4
 obtain ⟨_,_,rfl,hi6⟩:=Zaf hi5
 obtain ⟨a12,n12,c12,e12,rfl,hi7⟩:=Zbz hi6
 obtain ⟨_,_,rfl,hi8⟩:=Zaf hi7
 obtain ⟨x13,rfl,hi9⟩:=Zav hi8
 obtain ⟨_,_,rfl,hi10⟩:=Zaf hi9
 obtain ⟨x14,rfl,hi11⟩:=Zav hi10
 obtain ⟨rfl,hi12⟩:=Zbi hi11
 have hi:=hi12
 exact ⟨i1,o1,x4,a12,n12,c12,e12,x13,x14,rfl,hi⟩
def K0 (Q:QT):KT:=andThen (fun env' h'=>(match kp.find 4000008 with | some ks=>Den pg fn.ntmps (C [1,1,1]) (env'.keep ks) h' (KR Q) | none=>den pg fn.ntmps kp (C [1,1,1]) env' h' (KR Q))) (KR Q)
def K1 (Q:QT):KT:=Zcl 0 (K0 Q)
def K2 (Q:QT):KT:=left kp 3 (K1 Q)
def K3 (Q:QT) (R3:T3):KT:=rnd ((kp.find 1000003).getD []) (E3 R3) (K2 Q)
def L3 (Q:QT) (i1 o1:Nat) (x4:Bool) (a12:Pt) (n12 c12:Nat) (e12:Bool) (x13 x14:Int) (h:Zaa):Prop:=Zdz (Den pg fn.ntmps (C [1,1,0,1,0,0])) ((kp.find 1000003).getD []) (K2 Q) [(1,.ptr (i1,o1)),(4,.bool x4),(12,.slice a12 n12 c12 e12),(13,.int .i64 x13),(14,.int .i64 x14)] h
def J7 (Q:QT) (R3:T3) (x14 x13:Int) (a12:Pt) (n12 c12:Nat) (e12:Bool) (i1 o1:Nat) (x4:Bool) (h:Zaa):Prop:=Den pg fn.ntmps (C [1,1,0,1,0,0,1,1,1]) [(14,.int .i64 x14),(13,.int .i64 x13),(12,.slice a12 n12 c12 e12),(1,.ptr (i1,o1)),(4,.bool x4)] h (K3 Q R3)
def Znv (Q:QT) (x4:Bool) (h:Zaa):Prop:=At (K1 Q) (.exit 0) [(4,.bool x4),(2,.undef)] h
def L3t (Q:QT) (R3:T3) (i1 o1:Nat) (x4:Bool) (a12:Pt) (n12 c12:Nat) (e12:Bool) (x13 x14:Int) (h:Zaa):Prop:=
 bcase (decide ((x14:Int) < x13)) ((0≤(x14:Int)∧(x14:Int) < (n12:Nat))∧(Zba a12 fun A B=>xSl (Zad h (.ptr (A,B + (Int.toNat x14) * 1))) fun A B C C=>(0≤(0:Int)∧(0:Int) < (B:Nat))∧(Zba A fun C D=>(0≤(1:Int)∧(1:Int) < (B:Nat))∧(Zba A fun E F=>Zcs (Zbf h (.ptr (i1,o1)) 2) fun G=>Zaj G fun G H=>xSl G fun G I J K=>Zaj H fun H L=>xSl H fun H M N O=>Zcf L (Zci .i64 (Zad h (.ptr (C,D + (Int.toNat 0) * 1))) fun L=>Zci .i64 (Zad h (.ptr (E,F + (Int.toNat 1) * 1))) fun E=>(Zad h (.ptr (C,D + (Int.toNat 0) * 1))=Zad h (.ptr (C,D + (Int.toNat 0) * 1)))∧(Zbf h (.ptr (i1,o1)) 2=Zbf h (.ptr (i1,o1)) 2)∧Zae pg Zhq [.agg [.slice G I J K,.slice H M N O],.int .i64 L,.int .i64 E] h fun E F=>
 Zbp E fun E=>bcase (!E) ((0≤(1:Int)∧(1:Int) < (B:Nat))∧(Zba A fun E G=>(0≤(0:Int)∧(0:Int) < (B:Nat))∧(Zba A fun A B=>Zcs (Zbf F (.ptr (i1,o1)) 2) fun H=>Zaj H fun H I=>xSl H fun H J K L=>Zaj I fun I M=>xSl I fun I N O P=>Zcf M (Zci .i64 (Zad F (.ptr (E,G + (Int.toNat 1) * 1))) fun M=>Zci .i64 (Zad F (.ptr (A,B + (Int.toNat 0) * 1))) fun A=>(Zad F (.ptr (E,G + (Int.toNat 1) * 1))=Zad F (.ptr (E,G + (Int.toNat 1) * 1)))∧(Zbf F (.ptr (i1,o1)) 2=Zbf F (.ptr (i1,o1)) 2)∧(Zad F (.ptr (C,D + (Int.toNat 0) * 1))=Zad F (.ptr (C,D + (Int.toNat 0) * 1)))∧(Zbf F (.ptr (i1,o1)) 2=Zbf F (.ptr (i1,o1)) 2)∧Zae pg Zhq [.agg [.slice H J K L,.slice I N O P],.int .i64 M,.int .i64 A] F fun A B=>
 Zbp A fun A=>(Zad B (.ptr (C,D + (Int.toNat 0) * 1))=Zad F (.ptr (C,D + (Int.toNat 0) * 1)))∧(Zbf B (.ptr (i1,o1)) 2=Zbf F (.ptr (i1,o1)) 2)∧bcase (!A) (Q (.bool false) B) (J7 Q R3 x14 x13 a12 n12 c12 e12 i1 o1 x4 B))))) ((Zad F (.tup [])=Zad F (.tup []))∧(Zbf F (.ptr (i1,o1)) 2=Zbf F (.ptr (i1,o1)) 2)∧(Zad F (.ptr (C,D + (Int.toNat 0) * 1))=Zad F (.ptr (C,D + (Int.toNat 0) * 1)))∧(Zbf F (.ptr (i1,o1)) 2=Zbf F (.ptr (i1,o1)) 2)∧(Zad F (.ptr (C,D + (Int.toNat 0) * 1))=Zad F (.ptr (C,D + (Int.toNat 0) * 1)))∧(Zbf F (.ptr (i1,o1)) 2=Zbf F (.ptr (i1,o1)) 2)∧J7 Q R3 x14 x13 a12 n12 c12 e12 i1 o1 x4 F)))))) (Znv Q x4 h)
theorem Zjr (Q:QT) (R3:T3) (i1 o1:Nat) (x4:Bool) (a12:Pt) (n12 c12:Nat) (e12:Bool) (x13 x14:Int) (h:Zaa) (ht:L3t Q R3 i1 o1 x4 a12 n12 c12 e12 x13 x14 h):Den pg fn.ntmps (C [1,1,0,1,0,0]) [(1,.ptr (i1,o1)),(4,.bool x4),(12,.slice a12 n12 c12 e12),(13,.int .i64 x13),(14,.int .i64 x14)] h (K3 Q R3):=
 Zbb (kp:=kp) (cast (by kernel_rfl) ht)
theorem L3ind (Q:QT) (i1 o1:Nat) (x4:Bool) (a12:Pt) (n12 c12:Nat) (e12:Bool) (x13:Int) {G:Type} (J:G→Int→Zaa→Prop) (m:G→Nat)
 (hr:∀ (g:G) (x14:Int) (h:Zaa),J g x14 h→∀ (R3:T3),(∀ g' (x14:Int) (h:Zaa),m g' < m g→J g' x14 h→R3 i1 o1 x4 a12 n12 c12 e12 x13 x14 h)→L3t Q R3 i1 o1 x4 a12 n12 c12 e12 x13 x14 h)
 (g:G) (x14:Int) (h:Zaa) (hj:J g x14 h):L3 Q i1 o1 x4 a12 n12 c12 e12 x13 x14 h:=by
 let P:=fun (K:Int→Zaa→Prop) i1' o1' x4' a12' n12' c12' e12' x13' x14 h=>i1=i1'∧o1=o1'∧x4=x4'∧a12=a12'∧n12=n12'∧c12=c12'∧e12=e12'∧x13=x13'∧K x14 h
 refine Zdz.inv2 (fun g=>E3 (P (J g))) (fun g=>E3 (P fun x14 h=>∃ g',m g' < m g∧J g' x14 h)) m ?_ ?_ g ⟨rfl,rfl,rfl,rfl,rfl,rfl,rfl,rfl,hj⟩
 ·intro g env h hi
  obtain ⟨i1',o1',x4',a12',n12',c12',e12',x13',x14,rfl,rfl,rfl,rfl,rfl,rfl,rfl,rfl,rfl,hj⟩:=Zdv hi
  exact Zjr Q _ i1 o1 x4 a12 n12 c12 e12 x13 x14 h (hr g x14 h hj (P fun x14 h=>∃ g',m g' < m g∧J g' x14 h) fun g' x14 h hlt hj=>⟨rfl,rfl,rfl,rfl,rfl,rfl,rfl,rfl,g',hlt,hj⟩)
 ·intro g env h hi
  obtain ⟨i1',o1',x4',a12',n12',c12',e12',x13',x14,rfl,rfl,rfl,rfl,rfl,rfl,rfl,rfl,rfl,g',hlt,hj⟩:=Zdv hi
  exact ⟨g',hlt,rfl,rfl,rfl,rfl,rfl,rfl,rfl,rfl,hj⟩
theorem J7i (Q:QT) (R3:T3) (x14 x13:Int) (a12:Pt) (n12 c12:Nat) (e12:Bool) (i1 o1:Nat) (x4:Bool) (h:Zaa) (ht :
 R3 i1 o1 x4 a12 n12 c12 e12 x13 (IntKind.wrap .i64 (x14 + 1)) h):J7 Q R3 x14 x13 a12 n12 c12 e12 i1 o1 x4 h:=
 Zbb (kp:=kp) (cast (by kernel_rfl) ht)
theorem A3x0i (Q:QT) (x4:Bool) (h:Zaa) (ht :
 Q (.bool x4) h):Znv Q x4 h:=
 At.mk (cast (by kernel_rfl) ht)
theorem call (a0x0:Pt) (n0x0 c0x0:Nat) (e0x0:Bool) (a0x1:Pt) (n0x1 c0x1:Nat) (e0x1:Bool) (h:Zaa) (Q:QT) (ht :
 Zcy (h ++ [.cells Zao [.slice a0x0 n0x0 c0x0 e0x0,.slice a0x1 n0x1 c0x1 e0x1] false]) fun A=>Zcs (Zbf A (.ptr (h.length,0)) 2) fun B=>Zaj B fun B C=>xSl B fun B D E F=>Zaj C fun C G=>xSl C fun C H I J=>Zcf G (Zae pg Zix [.agg [.slice B D E F,.slice C H I J]] A fun A B=>
 Zvv A fun A=>Zaj A fun A C=>xSl A fun A D E F=>Zaj C fun C G=>Zbp C fun C=>Zcf G (L3 Q h.length 0 C A D E F (((D:Nat):Int)) 0 B))):Zae pg Zjp [.agg [.slice a0x0 n0x0 c0x0 e0x0,.slice a0x1 n0x1 c0x1 e0x1]] h Q:=
 Zae.of_body kp (c:=cod fn) (fn:=fn) Go.Proofs.Tryz.func17 (by kernel_rfl) (by kernel_rfl) (Nat.le_of_ble_eq_true (by kernel_rfl))
  (cast (by kernel_rfl) ht)
end Zeh
end Go.Sim

set_option maxRecDepth 100000
set_option maxHeartbeats 0
set_option linter.unusedVariables false
namespace Go.Sim
open Go Go.RowKit
namespace Zdn
noncomputable abbrev fn:Func:=Go.Proofs.Tryz.f94
def kp:Zce:=[(3000003,[3]),(1000003,[3,7,8,9])]
noncomputable def C (p:List Nat):Code:=(cod fn).sub p
def KR (Q:QT):KT:=Zev pg fn.results.toList Q
abbrev T3:=Pt→Nat→Nat→Bool→Pt→Nat→Nat→Bool→Int→Int→Zaa→Prop
def E3 (R3:T3) (env:Env) (h:Zaa):Prop:=Zby 3 env fun v env=>xSl v fun a3 n3 c3 e3=>Zby 7 env fun v env=>xSl v fun a7 n7 c7 e7=>Zby 8 env fun v env=>Zea .i64 v fun x8=>Zby 9 env fun v env=>Zea .i64 v fun x9=>Zjh env (R3 a3 n3 c3 e3 a7 n7 c7 e7 x8 x9 h)
theorem Zdv {R3:T3} {env:Env} {h:Zaa} (hi:E3 R3 env h):∃ a3,∃ n3,∃ c3,∃ e3,∃ a7,∃ n7,∃ c7,∃ e7,∃ x8,∃ x9,env=[(3,.slice a3 n3 c3 e3),(7,.slice a7 n7 c7 e7),(8,.int .i64 x8),(9,.int .i64 x9)]∧R3 a3 n3 c3 e3 a7 n7 c7 e7 x8 x9 h:=by
 unfold E3 at hi
 repeat ((first | (have k:=Zaf hi; clear hi; obtain ⟨_,_,e,hi⟩:=k) | (have k:=Zav hi; clear hi; obtain ⟨_,e,hi⟩:=k) | (have k:=Zbz hi; clear hi; obtain ⟨_,_,_,_,e,hi⟩:=k)); subst e)
 obtain ⟨rfl,hi⟩:=Zbi hi
 exact ⟨_,_,_,_,_,_,_,_,_,_,rfl,hi⟩
def K0 (Q:QT):KT:=andThen (fun env' h'=>(match kp.find 4000007 with | some ks=>Den pg fn.ntmps (C [1,1,1]) (env'.keep ks) h' (KR Q) | none=>den pg fn.ntmps kp (C [1,1,1]) env' h' (KR Q))) (KR Q)
def K1 (Q:QT):KT:=Zcl 0 (K0 Q)
def K2 (Q:QT):KT:=left kp 3 (K1 Q)
def K3 (Q:QT) (R3:T3):KT:=rnd ((kp.find 1000003).getD []) (E3 R3) (K2 Q)
def L3 (Q:QT) (a3:Pt) (n3 c3:Nat) (e3:Bool) (a7:Pt) (n7 c7:Nat) (e7:Bool) (x8 x9:Int) (h:Zaa):Prop:=Zdz (Den pg fn.ntmps (C [1,1,0,1,0,0])) ((kp.find 1000003).getD []) (K2 Q) [(3,.slice a3 n3 c3 e3),(7,.slice a7 n7 c7 e7),(8,.int .i64 x8),(9,.int .i64 x9)] h
def Znv (Q:QT) (a3:Pt) (n3 c3:Nat) (e3:Bool) (h:Zaa):Prop:=At (K1 Q) (.exit 0) [(3,.slice a3 n3 c3 e3)] h
def L3t (Q:QT) (R3:T3) (a3:Pt) (n3 c3:Nat) (e3:Bool) (a7:Pt) (n7 c7:Nat) (e7:Bool) (x8 x9:Int) (h:Zaa):Prop:=
 bcase (decide ((x9:Int) < x8)) ((0≤(x9:Int)∧(x9:Int) < (n7:Nat))∧(Zba a7 fun A B=>xSl (Zad h (.ptr (A,B + (Int.toNat x9) * 1))) fun A B C D=>Zcy (h ++ [.cells Zna [] false]) fun E=>Zdp pg Zet E (.slice (h.length,0) 0 0 true) (.slice A B C D) fun A B=>xSl A fun A C D E=>Zcy (B ++ [.cells Zet [.slice A C D E] false]) fun A=>Zdp pg Zky A (.slice a3 n3 c3 e3) (.slice (B.length,0) 1 1 true) fun A B=>xSl A fun A C D E=>R3 A C D E a7 n7 c7 e7 x8 (IntKind.wrap .i64 (x9 + 1)) B)) (Znv Q a3 n3 c3 e3 h)
theorem Zjr (Q:QT) (R3:T3) (a3:Pt) (n3 c3:Nat) (e3:Bool) (a7:Pt) (n7 c7:Nat) (e7:Bool) (x8 x9:Int) (h:Zaa) (ht:L3t Q R3 a3 n3 c3 e3 a7 n7 c7 e7 x8 x9 h):Den pg fn.ntmps (C [1,1,0,1,0,0]) [(3,.slice a3 n3 c3 e3),(7,.slice a7 n7 c7 e7),(8,.int .i64 x8),(9,.int .i64 x9)] h (K3 Q R3):=
 Zbb (kp:=kp) (cast (by kernel_rfl) ht)
theorem L3ind (Q:QT) (a7:Pt) (n7 c7:Nat) (e7:Bool) (x8:Int) {G:Type} (J:G→Pt→Nat→Nat→Bool→Int→Zaa→Prop) (m:G→Nat)
 (hr:∀ (g:G) (a3:Pt) (n3 c3:Nat) (e3:Bool) (x9:Int) (h:Zaa),J g a3 n3 c3 e3 x9 h→∀ (R3:T3),(∀ g' (a3:Pt) (n3 c3:Nat) (e3:Bool) (x9:Int) (h:Zaa),m g' < m g→J g' a3 n3 c3 e3 x9 h→R3 a3 n3 c3 e3 a7 n7 c7 e7 x8 x9 h)→L3t Q R3 a3 n3 c3 e3 a7 n7 c7 e7 x8 x9 h)
 (g:G) (a3:Pt) (n3 c3:Nat) (e3:Bool) (x9:Int) (h:Zaa) (hj:J g a3 n3 c3 e3 x9 h):L3 Q a3 n3 c3 e3 a7 n7 c7 e7 x8 x9 h:=by
 let P:=fun (K:Pt→Nat→Nat→Bool→Int→Zaa→Prop) a3 n3 c3 e3 a7' n7' c7' e7' x8' x9 h=>a7=a7'∧n7=n7'∧c7=c7'∧e7=e7'∧x8=x8'∧K a3 n3 c3 e3 x9 h
 refine Zdz.inv2 (fun g=>E3 (P (J g))) (fun g=>E3 (P fun a3 n3 c3 e3 x9 h=>∃ g',m g' < m g∧J g' a3 n3 c3 e3 x9 h)) m ?_ ?_ g ⟨rfl,rfl,rfl,rfl,rfl,hj⟩
 ·intro g env h hi
  obtain ⟨a3,n3,c3,e3,a7',n7',c7',e7',x8',x9,rfl,rfl,rfl,rfl,rfl,rfl,hj⟩:=Zdv hi
  exact Zjr Q _ a3 n3 c3 e3 a7 n7 c7 e7 x8 x9 h (hr g a3 n3 c3 e3 x9 h hj (P fun a3 n3 c3 e3 x9 h=>∃ g',m g' < m g∧J g' a3 n3 c3 e3 x9 h) fun g' a3 n3 c3 e3 x9 h hlt hj=>⟨rfl,rfl,rfl,rfl,rfl,g',hlt,hj⟩)
 ·intro g env h hi
  obtain ⟨a3,n3,c3,e3,a7',n7',c7',e7',x8',x9,rfl,rfl,rfl,rfl,rfl,rfl,g',hlt,hj⟩:=Zdv hi
  exact ⟨g',hlt,rfl,rfl,rfl,rfl,rfl,hj⟩
theorem A3x0i (Q:QT) (a3:Pt) (n3 c3:Nat) (e3:Bool) (h:Zaa) (ht :
 Q (.slice a3 n3 c3 e3) h):Znv Q a3 n3 c3 e3 h:=
 At.mk (cast (by kernel_rfl) ht)
theorem call (a0:Pt) (n0 c0:Nat) (e0:Bool) (h:Zaa) (Q:QT) (ht :
 Zcy (h ++ [.cells Zet [] false]) fun A=>L3 Q (h.length,0) 0 0 true a0 n0 c0 e0 (((n0:Nat):Int)) 0 A):Zae pg Zfh [.slice a0 n0 c0 e0] h Q:=
 Zae.of_body kp (c:=cod fn) (fn:=fn) Go.Proofs.Tryz.func94 (by kernel_rfl) (by kernel_rfl) (Nat.le_of_ble_eq_true (by kernel_rfl))
  (cast (by kernel_rfl) ht)
end Zdn
namespace Zms
noncomputable abbrev fn:Func:=Go.Proofs.Tryz.f50
def kp:Zce:=[]
noncomputable def C (p:List Nat):Code:=(cod fn).sub p
def KR (Q:QT):KT:=Zev pg fn.results.toList Q
theorem call (a0x0:Pt) (n0x0 c0x0:Nat) (e0x0:Bool) (a0x1:Pt) (n0x1 c0x1:Nat) (e0x1:Bool) (h:Zaa) (Q:QT) (ht :
 Zcy (h ++ [.cells Zao [.slice a0x0 n0x0 c0x0 e0x0,.slice a0x1 n0x1 c0x1 e0x1] false]) fun A=>Zcs (Zbf A (.ptr (h.length,0)) 2) fun B=>Zaj B fun B C=>xSl B fun B D E F=>Zaj C fun C G=>xSl C fun C H I J=>Zcf G (Zae pg Zgc [.agg [.slice B D E F,.slice C H I J]] A fun A B=>
 Zvv A fun A=>Zaj A fun A C=>xSl A fun A D E F=>Zaj C fun C G=>Zbp C fun C=>Zcf G (Zae pg Zfh [.slice A D E F] B fun A B=>
 xSl A fun A D E F=>Q (.tup [.slice A D E F,.bool C]) B))):Zae pg Zix [.agg [.slice a0x0 n0x0 c0x0 e0x0,.slice a0x1 n0x1 c0x1 e0x1]] h Q:=
 Zae.of_body kp (c:=cod fn) (fn:=fn) Go.Proofs.Tryz.func50 (by kernel_rfl) (by kernel_rfl) (Nat.le_of_ble_eq_true (by kernel_rfl))
  (cast (by kernel_rfl) ht)
end Zms
namespace Zip
noncomputable abbrev fn:Func:=Go.Proofs.Tryz.f93
def kp:Zce:=[]
noncomputable def C (p:List Nat):Code:=(cod fn).sub p
def KR (Q:QT):KT:=Zev pg fn.results.toList Q
theorem call (a0x0:Pt) (n0x0 c0x0:Nat) (e0x0:Bool) (a0x1:Pt) (n0x1 c0x1:Nat) (e0x1:Bool) (h:Zaa) (Q:QT) (ht :
 Zcy (h ++ [.cells Zao [.slice a0x0 n0x0 c0x0 e0x0,.slice a0x1 n0x1 c0x1 e0x1] false]) fun A=>Zcs (Zbf A (.ptr (h.length,0)) 2) fun B=>Zaj B fun B C=>xSl B fun B D E F=>Zaj C fun C G=>xSl C fun C H I J=>Zcf G (Zae pg Zgv [.agg [.slice B D E F,.slice C H I J]] A fun A B=>
 Zbp A fun A=>bcase (!A) (Zcy (B ++ [.cells Zet [] false]) fun A=>Q (.tup [.slice (B.length,0) 0 0 true,.bool false]) A) (Zcs (Zbf B (.ptr (h.length,0)) 2) fun A=>Zaj A fun A C=>xSl A fun A D E F=>Zaj C fun C G=>xSl C fun C H I J=>Zcf G (Zae pg Ziy [.agg [.slice A D E F,.slice C H I J]] B fun A B=>
 xSl A fun A C D E=>Q (.tup [.slice A C D E,.bool true]) B)))):Zae pg Zgc [.agg [.slice a0x0 n0x0 c0x0 e0x0,.slice a0x1 n0x1 c0x1 e0x1]] h Q:=
 Zae.of_body kp (c:=cod fn) (fn:=fn) Go.Proofs.Tryz.func93 (by kernel_rfl) (by kernel_rfl) (Nat.le_of_ble_eq_true (by kernel_rfl))
  (cast (by kernel_rfl) ht)
end Zip
end Go.Sim

set_option maxRecDepth 100000
set_option maxHeartbeats 0
set_option linter.unusedVariables false
namespace Go.Sim
open Go Go.RowKit
namespace Zcb
noncomputable abbrev fn:Func:=Go.Proofs.Tryz.f54
def kp:Zce:=[(3000005,[4]),(1000005,[1,4,15,16]),(3000008,[16,15,1,4]),(1000008,[1,4,5,6,15,16]),(2000010,[7,8,4,5,6,1,16,15]),(4000009,[6,1,5,4,16,15])]
noncomputable def C (p:List Nat):Code:=(cod fn).sub p
def KR (Q:QT):KT:=Zev pg fn.results.toList Q
abbrev T5:=Nat→Nat→Pt→Nat→Nat→Bool→Int→Int→Zaa→Prop
def E5 (R5:T5) (env:Env) (h:Zaa):Prop:=Zby 1 env fun v env=>Zfd v fun a=>Zba a fun i1 o1=>Zby 4 env fun v env=>xSl v fun a4 n4 c4 e4=>Zby 15 env fun v env=>Zea .i64 v fun x15=>Zby 16 env fun v env=>Zea .i64 v fun x16=>Zjh env (R5 i1 o1 a4 n4 c4 e4 x15 x16 h)
theorem Zgd {R5:T5} {env:Env} {h:Zaa} (hi:E5 R5 env h):∃ i1,∃ o1,∃ a4,∃ n4,∃ c4,∃ e4,∃ x15,∃ x16,env=[(1,.ptr (i1,o1)),(4,.slice a4 n4 c4 e4),(15,.int .i64 x15),(16,.int .i64 x16)]∧R5 i1 o1 a4 n4 c4 e4 x15 x16 h:=by
 unfold E5 at hi
 have hi0:=hi
 clear hi
 obtain ⟨_,_,rfl,hi1⟩:=Zaf hi0
 obtain ⟨a,rfl,hi2⟩:=Zbk hi1
 obtain ⟨i1,o1,rfl,hi3⟩:=Zbj hi2
 obtain ⟨_,_,rfl,hi4⟩:=Zaf hi3
 obtain ⟨a4,n4,c4,e4,rfl,hi5⟩:=Zbz hi4
 obtain ⟨_,_,rfl,hi6⟩:=Zaf hi5
 obtain ⟨x15,rfl,hi7⟩:=Zav hi6
 obtain ⟨_,_,rfl,hi8⟩:=Zaf hi7
 obtain ⟨x16,rfl,hi9⟩:=Zav hi8
 obtain ⟨rfl,hi10⟩:=Zbi hi9
 have hi:=hi10
 exact ⟨i1,o1,a4,n4,c4,e4,x15,x16,rfl,hi⟩
abbrev T8:=Nat→Nat→Pt→Nat→Nat→Bool→Int→Int→Int→Int→Zaa→Prop
def E8 (R8:T8) (env:Env) (h:Zaa):Prop:=Zby 1 env fun v env=>Zfd v fun a=>Zba a fun i1 o1=>Zby 4 env fun v env=>xSl v fun a4 n4 c4 e4=>Zby 5 env fun v env=>Zea .i64 v fun x5=>Zby 6 env fun v env=>Zea .i64 v fun x6=>Zby 15 env fun v env=>Zea .i64 v fun x15=>Zby 16 env fun v env=>Zea .i64 v fun x16=>Zjh env (R8 i1 o1 a4 n4 c4 e4 x5 x6 x15 x16 h)
theorem Yam {R8:T8} {env:Env} {h:Zaa} (hi:E8 R8 env h):∃ i1,∃ o1,∃ a4,∃ n4,∃ c4,∃ e4,∃ x5,∃ x6,∃ x15,∃ x16,env=[(1,.ptr (i1,o1)),(4,.slice a4 n4 c4 e4),(5,.int .i64 x5),(6,.int .i64 x6),(15,.int .i64 x15),(16,.int .i64 x16)]∧R8 i1 o1 a4 n4 c4 e4 x5 x6 x15 x16 h:=by
 unfold E8 at hi
 have hi0:=hi
 clear hi
 obtain ⟨_,_,rfl,hi1⟩:=Zaf hi0
 obtain ⟨a,rfl,hi2⟩:=Zbk hi1
 obtain ⟨i1,o1,rfl,hi3⟩:=Zbj hi2
 obtain ⟨_,_,rfl,hi4⟩:=Zaf hi3
 obtain ⟨a4,n4,c4,e4,rfl,hi5⟩:=Zbz hi4
 obtain ⟨_,_,rfl,hi6⟩:=Zaf hi5
 obtain ⟨x5,rfl,hi7⟩:=Zav hi6
 obtain ⟨_,_,rfl,hi8⟩:=Zaf hi7
 obtain ⟨x6,rfl,hi9⟩:=Zav hi8
 obtain ⟨_,_,rfl,hi10⟩:=Zaf hi9
 obtain ⟨x15,rfl,hi11⟩:=Zav hi10
 obtain ⟨_,_,rfl,hi12⟩:=Zaf hi11
 obtain ⟨x16,rfl,hi13⟩:=Zav hi12
 obtain ⟨rfl,hi14⟩:=Zbi hi13
 have hi:=hi14
 exact ⟨i1,o1,a4,n4,c4,e4,x5,x6,x15,x16,rfl,hi⟩
def K0 (Q:QT):KT:=andThen (fun env' h'=>(match kp.find 4000014 with | some ks=>Den pg fn.ntmps (C [1,1,1,1]) (env'.keep ks) h' (KR Q) | none=>den pg fn.ntmps kp (C [1,1,1,1]) env' h' (KR Q))) (KR Q)
def K1 (Q:QT):KT:=Zcl 0 (K0 Q)
def K2 (Q:QT):KT:=left kp 5 (K1 Q)
def K3 (Q:QT) (R5:T5):KT:=rnd ((kp.find 1000005).getD []) (E5 R5) (K2 Q)
def K4 (Q:QT) (R5:T5):KT:=andThen (fun env' h'=>(match kp.find 4000013 with | some ks=>Den pg fn.ntmps (C [1,1,1,0,1,0,0,1,1,1]) (env'.keep ks) h' (K3 Q R5) | none=>den pg fn.ntmps kp (C [1,1,1,0,1,0,0,1,1,1]) env' h' (K3 Q R5))) (K3 Q R5)
def K5 (Q:QT) (R5:T5):KT:=Zcl 1 (K4 Q R5)
def K6 (Q:QT) (R5:T5):KT:=Zcl 2 (K5 Q R5)
def K7 (Q:QT) (R5:T5):KT:=left kp 8 (K6 Q R5)
def K8 (Q:QT) (R5:T5) (R8:T8):KT:=rnd ((kp.find 1000008).getD []) (E8 R8) (K7 Q R5)
def L5 (Q:QT) (i1 o1:Nat) (a4:Pt) (n4 c4:Nat) (e4:Bool) (x15 x16:Int) (h:Zaa):Prop:=Zdz (Den pg fn.ntmps (C [1,1,1,0,1,0,0])) ((kp.find 1000005).getD []) (K2 Q) [(1,.ptr (i1,o1)),(4,.slice a4 n4 c4 e4),(15,.int .i64 x15),(16,.int .i64 x16)] h
def L8 (Q:QT) (R5:T5) (i1 o1:Nat) (a4:Pt) (n4 c4:Nat) (e4:Bool) (x5 x6 x15 x16:Int) (h:Zaa):Prop:=Zdz (Den pg fn.ntmps (C [1,1,1,0,1,0,0,1,1,0,0,1,1,0,0])) ((kp.find 1000008).getD []) (K7 Q R5) [(1,.ptr (i1,o1)),(4,.slice a4 n4 c4 e4),(5,.int .i64 x5),(6,.int .i64 x6),(15,.int .i64 x15),(16,.int .i64 x16)] h
def A5x0 (Q:QT) (a4:Pt) (n4 c4:Nat) (e4:Bool) (h:Zaa):Prop:=At (K1 Q) (.exit 0) [(4,.slice a4 n4 c4 e4)] h
def J9 (Q:QT) (R5:T5) (R8:T8) (x6:Int) (i1 o1:Nat) (x5:Int) (a4:Pt) (n4 c4:Nat) (e4:Bool) (x16 x15:Int) (h:Zaa):Prop:=Den pg fn.ntmps (C [1,1,1,0,1,0,0,1,1,0,0,1,1,0,0,1,1]) [(6,.int .i64 x6),(1,.ptr (i1,o1)),(5,.int .i64 x5),(4,.slice a4 n4 c4 e4),(16,.int .i64 x16),(15,.int .i64 x15)] h (K8 Q R5 R8)
def Ysf (Q:QT) (R5:T5) (x16 x15:Int) (i1 o1:Nat) (a4:Pt) (n4 c4:Nat) (e4:Bool) (h:Zaa):Prop:=At (K6 Q R5) (.exit 2) [(16,.int .i64 x16),(15,.int .i64 x15),(1,.ptr (i1,o1)),(4,.slice a4 n4 c4 e4)] h
def L5t (Q:QT) (R5:T5) (i1 o1:Nat) (a4:Pt) (n4 c4:Nat) (e4:Bool) (x15 x16:Int) (h:Zaa):Prop:=
 bcase (decide ((x16:Int) < x15)) (L8 Q R5 i1 o1 a4 n4 c4 e4 x16 (IntKind.wrap .i64 (x16 + 1)) x15 x16 h) (A5x0 Q a4 n4 c4 e4 h)
theorem Zqk (Q:QT) (R5:T5) (i1 o1:Nat) (a4:Pt) (n4 c4:Nat) (e4:Bool) (x15 x16:Int) (h:Zaa) (ht:L5t Q R5 i1 o1 a4 n4 c4 e4 x15 x16 h):Den pg fn.ntmps (C [1,1,1,0,1,0,0]) [(1,.ptr (i1,o1)),(4,.slice a4 n4 c4 e4),(15,.int .i64 x15),(16,.int .i64 x16)] h (K3 Q R5):=
 Zbb (kp:=kp) (cast (by kernel_rfl) ht)
theorem L5ind (Q:QT) (i1 o1:Nat) (x15:Int) {G:Type} (J:G→Pt→Nat→Nat→Bool→Int→Zaa→Prop) (m:G→Nat)
 (hr:∀ (g:G) (a4:Pt) (n4 c4:Nat) (e4:Bool) (x16:Int) (h:Zaa),J g a4 n4 c4 e4 x16 h→∀ (R5:T5),(∀ g' (a4:Pt) (n4 c4:Nat) (e4:Bool) (x16:Int) (h:Zaa),m g' < m g→J g' a4 n4 c4 e4 x16 h→R5 i1 o1 a4 n4 c4 e4 x15 x16 h)→L5t Q R5 i1 o1 a4 n4 c4 e4 x15 x16 h)
 (g:G) (a4:Pt) (n4 c4:Nat) (e4:Bool) (x16:Int) (h:Zaa) (hj:J g a4 n4 c4 e4 x16 h):L5 Q i1 o1 a4 n4 c4 e4 x15 x16 h:=by
 let P:=fun (K:Pt→Nat→Nat→Bool→Int→Zaa→Prop) i1' o1' a4 n4 c4 e4 x15' x16 h=>i1=i1'∧o1=o1'∧x15=x15'∧K a4 n4 c4 e4 x16 h
 refine Zdz.inv2 (fun g=>E5 (P (J g))) (fun g=>E5 (P fun a4 n4 c4 e4 x16 h=>∃ g',m g' < m g∧J g' a4 n4 c4 e4 x16 h)) m ?_ ?_ g ⟨rfl,rfl,rfl,hj⟩
 ·intro g env h hi
  obtain ⟨i1',o1',a4,n4,c4,e4,x15',x16,rfl,rfl,rfl,rfl,hj⟩:=Zgd hi
  exact Zqk Q _ i1 o1 a4 n4 c4 e4 x15 x16 h (hr g a4 n4 c4 e4 x16 h hj (P fun a4 n4 c4 e4 x16 h=>∃ g',m g' < m g∧J g' a4 n4 c4 e4 x16 h) fun g' a4 n4 c4 e4 x16 h hlt hj=>⟨rfl,rfl,rfl,g',hlt,hj⟩)
 ·intro g env h hi
  obtain ⟨i1',o1',a4,n4,c4,e4,x15',x16,rfl,rfl,rfl,rfl,g',hlt,hj⟩:=Zgd hi
  exact ⟨g',hlt,rfl,rfl,rfl,hj⟩
def L8t (Q:QT) (R5:T5) (R8:T8) (i1 o1:Nat) (a4:Pt) (n4 c4:Nat) (e4:Bool) (x5 x6 x15 x16:Int) (h:Zaa):Prop:=
 xSl (Zad h (.ptr (i1,o1 + 1))) fun A A B B=>bcase (decide ((x6:Int) < (((A:Nat):Int)))) (xSl (Zad h (.ptr (i1,o1 + 1))) fun A B C C=>(0≤(x5:Int)∧(x5:Int) < (B:Nat))∧(Zba A fun A B=>Zcs (Zbf h (.ptr (A,B + (Int.toNat x5) * 3)) 3) fun C=>Zaj C fun C D=>Zbs C fun C=>Zaj D fun D E=>Zbs D fun D=>Zaj E fun E F=>xSl E fun E G H I=>Zcf F (xSl (Zad h (.ptr (i1,o1 + 1))) fun F J K K=>(0≤(x6:Int)∧(x6:Int) < (J:Nat))∧(Zba F fun F J=>Zcs (Zbf h (.ptr (F,J + (Int.toNat x6) * 3)) 3) fun K=>Zaj K fun K L=>Zbs K fun K=>Zaj L fun L M=>Zbs L fun L=>Zaj M fun M N=>xSl M fun M O P R=>Zcf N ((Zcy (h ++ [.cells Zac [.str [],.str [],.slice none 0 0 true] false]) fun N=>(Zbf N (.ptr (F,J + (Int.toNat x6) * 3)) 3=Zbf h (.ptr (F,J + (Int.toNat x6) * 3)) 3)∧(Zad N (.ptr (i1,o1 + 1))=Zad h (.ptr (i1,o1 + 1)))∧(Zbf N (.ptr (A,B + (Int.toNat x5) * 3)) 3=Zbf h (.ptr (A,B + (Int.toNat x5) * 3)) 3)∧(Zad N (.ptr (i1,o1 + 1))=Zad h (.ptr (i1,o1 + 1)))∧Zcy (N ++ [.cells Zac [.str [],.str [],.slice none 0 0 true] false]) fun S=>(Zbf S (.ptr (F,J + (Int.toNat x6) * 3)) 3=Zbf N (.ptr (F,J + (Int.toNat x6) * 3)) 3)∧(Zad S (.ptr (i1,o1 + 1))=Zad N (.ptr (i1,o1 + 1)))∧(Zbf S (.ptr (A,B + (Int.toNat x5) * 3)) 3=Zbf N (.ptr (A,B + (Int.toNat x5) * 3)) 3)∧(Zad S (.ptr (i1,o1 + 1))=Zad N (.ptr (i1,o1 + 1)))∧Zch (Zbe S (.ptr (h.length,0)) [.str C,.str D,.slice E G H I]) fun T=>(Zbf T (.ptr (F,J + (Int.toNat x6) * 3)) 3=Zbf S (.ptr (F,J + (Int.toNat x6) * 3)) 3)∧(Zad T (.ptr (i1,o1 + 1))=Zad S (.ptr (i1,o1 + 1)))∧Zch (Zbe T (.ptr (N.length,0)) [.str K,.str L,.slice M O P R]) fun S=>Zbs (Zad S (.ptr (h.length,0 + 0 + 0))) fun T=>Zbs (Zad S (.ptr (N.length,0 + 0 + 0))) fun U=>bcase (decide (T=U)) (Zbs (Zad S (.ptr (h.length,0 + 0 + 1))) fun T=>Zbs (Zad S (.ptr (N.length,0 + 0 + 1))) fun N=>Zae pg Zgg [.str T,.str N] S fun N T=>
 Zbp N fun N=>bcase (!N) (Zcy (T ++ [.cells Zna [.int .i64 x5,.int .i64 x6] false]) fun N=>Zcy (N ++ [.cells Zet [.slice (T.length,0) 2 2 true] false]) fun U=>Zdp pg Zky U (.slice a4 n4 c4 e4) (.slice (N.length,0) 1 1 true) fun N U=>xSl N fun N V W X=>J9 Q R5 R8 x6 i1 o1 x5 N V W X x16 x15 U) (J9 Q R5 R8 x6 i1 o1 x5 a4 n4 c4 e4 x16 x15 T)) (J9 Q R5 R8 x6 i1 o1 x5 a4 n4 c4 e4 x16 x15 S))∧(Zcy (h ++ [.cells Zac [.str [],.str [],.slice none 0 0 true] false]) fun N=>(Zbf N (.ptr (F,J + (Int.toNat x6) * 3)) 3=Zbf h (.ptr (F,J + (Int.toNat x6) * 3)) 3)∧(Zad N (.ptr (i1,o1 + 1))=Zad h (.ptr (i1,o1 + 1)))∧(Zbf N (.ptr (A,B + (Int.toNat x5) * 3)) 3=Zbf h (.ptr (A,B + (Int.toNat x5) * 3)) 3)∧(Zad N (.ptr (i1,o1 + 1))=Zad h (.ptr (i1,o1 + 1)))∧Zcy (N ++ [.cells Zac [.str [],.str [],.slice none 0 0 true] false]) fun S=>(Zbf S (.ptr (F,J + (Int.toNat x6) * 3)) 3=Zbf N (.ptr (F,J + (Int.toNat x6) * 3)) 3)∧(Zad S (.ptr (i1,o1 + 1))=Zad N (.ptr (i1,o1 + 1)))∧(Zbf S (.ptr (A,B + (Int.toNat x5) * 3)) 3=Zbf N (.ptr (A,B + (Int.toNat x5) * 3)) 3)∧(Zad S (.ptr (i1,o1 + 1))=Zad N (.ptr (i1,o1 + 1)))∧Zch (Zbe S (.ptr (N.length,0)) [.str C,.str D,.slice E G H I]) fun A=>(Zbf A (.ptr (F,J + (Int.toNat x6) * 3)) 3=Zbf S (.ptr (F,J + (Int.toNat x6) * 3)) 3)∧(Zad A (.ptr (i1,o1 + 1))=Zad S (.ptr (i1,o1 + 1)))∧Zch (Zbe A (.ptr (h.length,0)) [.str K,.str L,.slice M O P R]) fun A=>Zbs (Zad A (.ptr (N.length,0 + 0 + 0))) fun B=>Zbs (Zad A (.ptr (h.length,0 + 0 + 0))) fun C=>bcase (decide (B=C)) (Zbs (Zad A (.ptr (N.length,0 + 0 + 1))) fun B=>Zbs (Zad A (.ptr (h.length,0 + 0 + 1))) fun C=>Zae pg Zgg [.str B,.str C] A fun B C=>
 Zbp B fun B=>bcase (!B) (Zcy (C ++ [.cells Zna [.int .i64 x5,.int .i64 x6] false]) fun B=>Zcy (B ++ [.cells Zet [.slice (C.length,0) 2 2 true] false]) fun D=>Zdp pg Zky D (.slice a4 n4 c4 e4) (.slice (B.length,0) 1 1 true) fun B D=>xSl B fun B E F G=>J9 Q R5 R8 x6 i1 o1 x5 B E F G x16 x15 D) (J9 Q R5 R8 x6 i1 o1 x5 a4 n4 c4 e4 x16 x15 C)) (J9 Q R5 R8 x6 i1 o1 x5 a4 n4 c4 e4 x16 x15 A))))))) (Ysf Q R5 x16 x15 i1 o1 a4 n4 c4 e4 h)
theorem Yok (Q:QT) (R5:T5) (R8:T8) (i1 o1:Nat) (a4:Pt) (n4 c4:Nat) (e4:Bool) (x5 x6 x15 x16:Int) (h:Zaa) (ht:L8t Q R5 R8 i1 o1 a4 n4 c4 e4 x5 x6 x15 x16 h):Den pg fn.ntmps (C [1,1,1,0,1,0,0,1,1,0,0,1,1,0,0]) [(1,.ptr (i1,o1)),(4,.slice a4 n4 c4 e4),(5,.int .i64 x5),(6,.int .i64 x6),(15,.int .i64 x15),(16,.int .i64 x16)] h (K8 Q R5 R8):=
 Zbb (kp:=kp) (cast (by kernel_rfl) ht)
theorem L8ind (Q:QT) (R5:T5) (i1 o1:Nat) (x5 x15 x16:Int) {G:Type} (J:G→Pt→Nat→Nat→Bool→Int→Zaa→Prop) (m:G→Nat)
 (hr:∀ (g:G) (a4:Pt) (n4 c4:Nat) (e4:Bool) (x6:Int) (h:Zaa),J g a4 n4 c4 e4 x6 h→∀ (R8:T8),(∀ g' (a4:Pt) (n4 c4:Nat) (e4:Bool) (x6:Int) (h:Zaa),m g' < m g→J g' a4 n4 c4 e4 x6 h→R8 i1 o1 a4 n4 c4 e4 x5 x6 x15 x16 h)→L8t Q R5 R8 i1 o1 a4 n4 c4 e4 x5 x6 x15 x16 h)
 (g:G) (a4:Pt) (n4 c4:Nat) (e4:Bool) (x6:Int) (h:Zaa) (hj:J g a4 n4 c4 e4 x6 h):L8 Q R5 i1 o1 a4 n4 c4 e4 x5 x6 x15 x16 h:=by
 let P:=fun (K:Pt→Nat→Nat→Bool→Int→Zaa→Prop) i1' o1' a4 n4 c4 e4 x5' x6 x15' x16' h=>i1=i1'∧o1=o1'∧x5=x5'∧x15=x15'∧x16=x16'∧K a4 n4 c4 e4 x6 h
 refine Zdz.inv2 (fun g=>E8 (P (J g))) (fun g=>E8 (P fun a4 n4 c4 e4 x6 h=>∃ g',m g' < m g∧J g' a4 n4 c4 e4 x6 h)) m ?_ ?_ g ⟨rfl,rfl,rfl,rfl,rfl,hj⟩
 ·intro g env h hi
  obtain ⟨i1',o1',a4,n4,c4,e4,x5',x6,x15',x16',rfl,rfl,rfl,rfl,rfl,rfl,hj⟩:=Yam hi
  exact Yok Q R5 (P fun a4 n4 c4 e4 x6 h=>∃ g',m g' < m g∧J g' a4 n4 c4 e4 x6 h) i1 o1 a4 n4 c4 e4 x5 x6 x15 x16 h (hr g a4 n4 c4 e4 x6 h hj (P fun a4 n4 c4 e4 x6 h=>∃ g',m g' < m g∧J g' a4 n4 c4 e4 x6 h) fun g' a4 n4 c4 e4 x6 h hlt hj=>⟨rfl,rfl,rfl,rfl,rfl,g',hlt,hj⟩)
 ·intro g env h hi
  obtain ⟨i1',o1',a4,n4,c4,e4,x5',x6,x15',x16',rfl,rfl,rfl,rfl,rfl,rfl,g',hlt,hj⟩:=Yam hi
  exact ⟨g',hlt,rfl,rfl,rfl,rfl,rfl,hj⟩
theorem A5x0i (Q:QT) (a4:Pt) (n4 c4:Nat) (e4:Bool) (h:Zaa) (ht :
 Q (.tup [.slice a4 n4 c4 e4,.bool true]) h):A5x0 Q a4 n4 c4 e4 h:=
 At.mk (cast (by kernel_rfl) ht)
theorem J9i (Q:QT) (R5:T5) (R8:T8) (x6:Int) (i1 o1:Nat) (x5:Int) (a4:Pt) (n4 c4:Nat) (e4:Bool) (x16 x15:Int) (h:Zaa) (ht :
 R8 i1 o1 a4 n4 c4 e4 x5 (IntKind.wrap .i64 (x6 + 1)) x15 x16 h):J9 Q R5 R8 x6 i1 o1 x5 a4 n4 c4 e4 x16 x15 h:=
 Zbb (kp:=kp) (cast (by kernel_rfl) ht)
theorem A8x2i (Q:QT) (R5:T5) (x16 x15:Int) (i1 o1:Nat) (a4:Pt) (n4 c4:Nat) (e4:Bool) (h:Zaa) (ht :
 R5 i1 o1 a4 n4 c4 e4 x15 (IntKind.wrap .i64 (x16 + 1)) h):Ysf Q R5 x16 x15 i1 o1 a4 n4 c4 e4 h:=
 At.mk (cast (by kernel_rfl) ht)
theorem call (a0x0:Pt) (n0x0 c0x0:Nat) (e0x0:Bool) (a0x1:Pt) (n0x1 c0x1:Nat) (e0x1:Bool) (h:Zaa) (Q:QT) (ht :
 Zcy (h ++ [.cells Zao [.slice a0x0 n0x0 c0x0 e0x0,.slice a0x1 n0x1 c0x1 e0x1] false]) fun A=>Zcs (Zbf A (.ptr (h.length,0)) 2) fun B=>Zaj B fun B C=>xSl B fun B D E F=>Zaj C fun C G=>xSl C fun C H I J=>Zcf G (Zae pg Zir [.agg [.slice B D E F,.slice C H I J]] A fun A B=>
 Zbp A fun A=>bcase (!A) (Q (.tup [.slice none 0 0 true,.bool false]) B) (Zcy (B ++ [.cells Zet [] false]) fun A=>xSl (Zad A (.ptr (h.length,0 + 1))) fun C C D D=>L5 Q h.length 0 (B.length,0) 0 0 true (((C:Nat):Int)) 0 A))):Zae pg Ziu [.agg [.slice a0x0 n0x0 c0x0 e0x0,.slice a0x1 n0x1 c0x1 e0x1]] h Q:=
 Zae.of_body kp (c:=cod fn) (fn:=fn) Go.Proofs.Tryz.func54 (by kernel_rfl) (by kernel_rfl) (Nat.le_of_ble_eq_true (by kernel_rfl))
  (cast (by kernel_rfl) ht)
end Zcb
namespace Zpo
noncomputable abbrev fn:Func:=Go.Proofs.Tryz.f159
def kp:Zce:=[]
noncomputable def C (p:List Nat):Code:=(cod fn).sub p
def KR (Q:QT):KT:=Zev pg fn.results.toList Q
theorem call (x0x0 x0x1:List Nat) (a0x2:Pt) (n0x2 c0x2:Nat) (e0x2:Bool) (x1x0 x1x1:List Nat) (a1x2:Pt) (n1x2 c1x2:Nat) (e1x2:Bool) (h:Zaa) (Q:QT) (ht :
 Zcy (h ++ [.cells Zac [.str x0x0,.str x0x1,.slice a0x2 n0x2 c0x2 e0x2] false]) fun A=>Zcy (A ++ [.cells Zac [.str x1x0,.str x1x1,.slice a1x2 n1x2 c1x2 e1x2] false]) fun B=>Zbs (Zad B (.ptr (h.length,0 + 0 + 0))) fun C=>Zbs (Zad B (.ptr (A.length,0 + 0 + 0))) fun D=>bcase (decide (C=D)) (Zbs (Zad B (.ptr (h.length,0 + 0 + 1))) fun C=>Zbs (Zad B (.ptr (A.length,0 + 0 + 1))) fun A=>Zae pg Zla [.str C,.str A] B fun A C=>
 Zbp A fun A=>Q (.bool (!A)) C) (Q (.bool false) B)):Zae pg Zlt [.agg [.str x0x0,.str x0x1,.slice a0x2 n0x2 c0x2 e0x2],.agg [.str x1x0,.str x1x1,.slice a1x2 n1x2 c1x2 e1x2]] h Q:=
 Zae.of_body kp (c:=cod fn) (fn:=fn) Go.Proofs.Tryz.func159 (by kernel_rfl) (by kernel_rfl) (Nat.le_of_ble_eq_true (by kernel_rfl))
  (cast (by kernel_rfl) ht)
end Zpo
namespace Zcu
noncomputable abbrev fn:Func:=Go.Proofs.Tryz.f133
def kp:Zce:=[(3000003,[3]),(1000003,[1,3,9,10,11]),(3000006,[11,10,9,1,3]),(1000006,[1,3,4,5,6,9,10,11]),(2000008,[31,3,4,6,1,5,11,10,9]),(4000007,[6,1,5,3,4,11,10,9])]
noncomputable def C (p:List Nat):Code:=(cod fn).sub p
def KR (Q:QT):KT:=Zev pg fn.results.toList Q
abbrev T3:=Nat→Nat→Pt→Nat→Nat→Bool→Pt→Nat→Nat→Bool→Int→Int→Zaa→Prop
def E3 (R3:T3) (env:Env) (h:Zaa):Prop:=Zby 1 env fun v env=>Zfd v fun a=>Zba a fun i1 o1=>Zby 3 env fun v env=>xSl v fun a3 n3 c3 e3=>Zby 9 env fun v env=>xSl v fun a9 n9 c9 e9=>Zby 10 env fun v env=>Zea .i64 v fun x10=>Zby 11 env fun v env=>Zea .i64 v fun x11=>Zjh env (R3 i1 o1 a3 n3 c3 e3 a9 n9 c9 e9 x10 x11 h)
theorem Zdv {R3:T3} {env:Env} {h:Zaa} (hi:E3 R3 env h):∃ i1,∃ o1,∃ a3,∃ n3,∃ c3,∃ e3,∃ a9,∃ n9,∃ c9,∃ e9,∃ x10,∃ x11,env=[(1,.ptr (i1,o1)),(3,.slice a3 n3 c3 e3),(9,.slice a9 n9 c9 e9),(10,.int .i64 x10),(11,.int .i64 x11)]∧R3 i1 o1 a3 n3 c3 e3 a9 n9 c9 e9 x10 x11 h:=by
 unfold E3 at hi
 have hi0:=hi
 clear hi
 obtain ⟨_,_,rfl,hi1⟩:=Zaf hi0
 obtain ⟨a,rfl,hi2⟩:=Zbk hi1
 obtain ⟨i1,o1,rfl,hi3⟩:=Zbj hi2
 obtain ⟨_,_,rfl,hi4⟩:=Zaf hi3
 obtain ⟨a3,n3,c3,e3,rfl,hi5⟩:=Zbz hi4
 obtain ⟨_,_,rfl,hi6⟩:=Zaf hi5
 obtain ⟨a9,n9,c9,e9,rfl,hi7⟩:=Zbz hi6
 obtain ⟨_,_,rfl,hi8⟩:=Zaf hi7
 obtain ⟨x10,rfl,hi9⟩:=Zav hi8
 obtain ⟨_,_,rfl,hi10⟩:=Zaf hi9
 obtain ⟨x11,rfl,hi11⟩:=Zav hi10
 obtain ⟨rfl,hi12⟩:=Zbi hi11
 have hi:=hi12
 exact ⟨i1,o1,a3,n3,c3,e3,a9,n9,c9,e9,x10,x11,rfl,hi⟩
abbrev T6:=Nat→Nat→Pt→Nat→Nat→Bool→Int→Nat→Nat→Int→Pt→Nat→Nat→Bool→Int→Int→Zaa→Prop
def E6 (R6:T6) (env:Env) (h:Zaa):Prop:=Zby 1 env fun v env=>Zfd v fun a=>Zba a fun i1 o1=>Zby 3 env fun v env=>xSl v fun a3 n3 c3 e3=>Zby 4 env fun v env=>Zea .i64 v fun x4=>Zby 5 env fun v env=>Zfd v fun a=>Zba a fun i5 o5=>Zby 6 env fun v env=>Zea .i64 v fun x6=>Zby 9 env fun v env=>xSl v fun a9 n9 c9 e9=>Zby 10 env fun v env=>Zea .i64 v fun x10=>Zby 11 env fun v env=>Zea .i64 v fun x11=>Zjh env (R6 i1 o1 a3 n3 c3 e3 x4 i5 o5 x6 a9 n9 c9 e9 x10 x11 h)
theorem Zol {R6:T6} {env:Env} {h:Zaa} (hi:E6 R6 env h):∃ i1,∃ o1,∃ a3,∃ n3,∃ c3,∃ e3,∃ x4,∃ i5,∃ o5,∃ x6,∃ a9,∃ n9,∃ c9,∃ e9,∃ x10,∃ x11,env=[(1,.ptr (i1,o1)),(3,.slice a3 n3 c3 e3),(4,.int .i64 x4),(5,.ptr (i5,o5)),(6,.int .i64 x6),(9,.slice a9 n9 c9 e9),(10,.int .i64 x10),(11,.int .i64 x11)]∧R6 i1 o1 a3 n3 c3 e3 x4 i5 o5 x6 a9 n9 c9 e9 x10 x11 h:=by
 unfold E6 at hi
 have hi0:=hi
 clear hi
 obtain ⟨_,_,rfl,hi1⟩:=Zaf hi0
 obtain ⟨a,rfl,hi2⟩:=Zbk hi1
 obtain ⟨i1,o1,rfl,hi3⟩:=Zbj hi2
 obtain ⟨_,_,rfl,hi4⟩:=Zaf hi3
 obtain ⟨a3,n3,c3,e3,rfl,hi5⟩:=Zbz hi4
 obtain ⟨_,_,rfl,hi6⟩:=Zaf hi5
 obtain ⟨x4,rfl,hi7⟩:=Zav hi6
 obtain ⟨_,_,rfl,hi8⟩:=Zaf hi7
 obtain ⟨a,rfl,hi9⟩:=Zbk hi8
 obtain ⟨i5,o5,rfl,hi10⟩:=Zbj hi9
 obtain ⟨_,_,rfl,hi11⟩:=Zaf hi10
 obtain ⟨x6,rfl,hi12⟩:=Zav hi11
 obtain ⟨_,_,rfl,hi13⟩:=Zaf hi12
 obtain ⟨a9,n9,c9,e9,rfl,hi14⟩:=Zbz hi13
 obtain ⟨_,_,rfl,hi15⟩:=Zaf hi14
 obtain ⟨x10,rfl,hi16⟩:=Zav hi15
 obtain ⟨_,_,rfl,hi17⟩:=Zaf hi16
 obtain ⟨x11,rfl,hi18⟩:=Zav hi17
 obtain ⟨rfl,hi19⟩:=Zbi hi18
 have hi:=hi19
 exact ⟨i1,o1,a3,n3,c3,e3,x4,i5,o5,x6,a9,n9,c9,e9,x10,x11,rfl,hi⟩
def K0 (Q:QT):KT:=andThen (fun env' h'=>(match kp.find 4000011 with | some ks=>Den pg fn.ntmps (C [1,1,1]) (env'.keep ks) h' (KR Q) | none=>den pg fn.ntmps kp (C [1,1,1]) env' h' (KR Q))) (KR Q)
def K1 (Q:QT):KT:=Zcl 0 (K0 Q)
def K2 (Q:QT):KT:=left kp 3 (K1 Q)
def K3 (Q:QT) (R3:T3):KT:=rnd ((kp.find 1000003).getD []) (E3 R3) (K2 Q)
def K4 (Q:QT) (R3:T3):KT:=andThen (fun env' h'=>(match kp.find 4000010 with | some ks=>Den pg fn.ntmps (C [1,1,0,1,0,0,1,1,1]) (env'.keep ks) h' (K3 Q R3) | none=>den pg fn.ntmps kp (C [1,1,0,1,0,0,1,1,1]) env' h' (K3 Q R3))) (K3 Q R3)
def K5 (Q:QT) (R3:T3):KT:=Zcl 1 (K4 Q R3)
def K6 (Q:QT) (R3:T3):KT:=Zcl 2 (K5 Q R3)
def K7 (Q:QT) (R3:T3):KT:=left kp 6 (K6 Q R3)
def K8 (Q:QT) (R3:T3) (R6:T6):KT:=rnd ((kp.find 1000006).getD []) (E6 R6) (K7 Q R3)
def L3 (Q:QT) (i1 o1:Nat) (a3:Pt) (n3 c3:Nat) (e3:Bool) (a9:Pt) (n9 c9:Nat) (e9:Bool) (x10 x11:Int) (h:Zaa):Prop:=Zdz (Den pg fn.ntmps (C [1,1,0,1,0,0])) ((kp.find 1000003).getD []) (K2 Q) [(1,.ptr (i1,o1)),(3,.slice a3 n3 c3 e3),(9,.slice a9 n9 c9 e9),(10,.int .i64 x10),(11,.int .i64 x11)] h
def L6 (Q:QT) (R3:T3) (i1 o1:Nat) (a3:Pt) (n3 c3:Nat) (e3:Bool) (x4:Int) (i5 o5:Nat) (x6:Int) (a9:Pt) (n9 c9:Nat) (e9:Bool) (x10 x11:Int) (h:Zaa):Prop:=Zdz (Den pg fn.ntmps (C [1,1,0,1,0,0,1,1,0,0,1,1,0,0])) ((kp.find 1000006).getD []) (K7 Q R3) [(1,.ptr (i1,o1)),(3,.slice a3 n3 c3 e3),(4,.int .i64 x4),(5,.ptr (i5,o5)),(6,.int .i64 x6),(9,.slice a9 n9 c9 e9),(10,.int .i64 x10),(11,.int .i64 x11)] h
def Znv (Q:QT) (a3:Pt) (n3 c3:Nat) (e3:Bool) (h:Zaa):Prop:=At (K1 Q) (.exit 0) [(3,.slice a3 n3 c3 e3)] h
def J7 (Q:QT) (R3:T3) (R6:T6) (x6:Int) (i1 o1 i5 o5:Nat) (a3:Pt) (n3 c3:Nat) (e3:Bool) (x4 x11 x10:Int) (a9:Pt) (n9 c9:Nat) (e9:Bool) (h:Zaa):Prop:=Den pg fn.ntmps (C [1,1,0,1,0,0,1,1,0,0,1,1,0,0,1,1]) [(6,.int .i64 x6),(1,.ptr (i1,o1)),(5,.ptr (i5,o5)),(3,.slice a3 n3 c3 e3),(4,.int .i64 x4),(11,.int .i64 x11),(10,.int .i64 x10),(9,.slice a9 n9 c9 e9)] h (K8 Q R3 R6)
def Ysd (Q:QT) (R3:T3) (x11 x10:Int) (a9:Pt) (n9 c9:Nat) (e9:Bool) (i1 o1:Nat) (a3:Pt) (n3 c3:Nat) (e3:Bool) (h:Zaa):Prop:=At (K6 Q R3) (.exit 2) [(11,.int .i64 x11),(10,.int .i64 x10),(9,.slice a9 n9 c9 e9),(1,.ptr (i1,o1)),(3,.slice a3 n3 c3 e3)] h
def L3t (Q:QT) (R3:T3) (i1 o1:Nat) (a3:Pt) (n3 c3:Nat) (e3:Bool) (a9:Pt) (n9 c9:Nat) (e9:Bool) (x10 x11:Int) (h:Zaa):Prop:=
 bcase (decide ((x11:Int) < x10)) ((0≤(x11:Int)∧(x11:Int) < (n9:Nat))∧(Zba a9 fun A B=>Zcs (Zbf h (.ptr (A,B + (Int.toNat x11) * 3)) 3) fun A=>Zaj A fun A B=>Zbs A fun A=>Zaj B fun B C=>Zbs B fun B=>Zaj C fun C D=>xSl C fun C E F G=>Zcf D (Zcy (h ++ [.cells Zac [.str [],.str [],.slice none 0 0 true] false]) fun D=>Zch (Zbe D (.ptr (h.length,0)) [.str A,.str B,.slice C E F G]) fun A=>L6 Q R3 i1 o1 a3 n3 c3 e3 x11 h.length 0 (IntKind.wrap .i64 (x11 + 1)) a9 n9 c9 e9 x10 x11 A))) (Znv Q a3 n3 c3 e3 h)
theorem Zjr (Q:QT) (R3:T3) (i1 o1:Nat) (a3:Pt) (n3 c3:Nat) (e3:Bool) (a9:Pt) (n9 c9:Nat) (e9:Bool) (x10 x11:Int) (h:Zaa) (ht:L3t Q R3 i1 o1 a3 n3 c3 e3 a9 n9 c9 e9 x10 x11 h):Den pg fn.ntmps (C [1,1,0,1,0,0]) [(1,.ptr (i1,o1)),(3,.slice a3 n3 c3 e3),(9,.slice a9 n9 c9 e9),(10,.int .i64 x10),(11,.int .i64 x11)] h (K3 Q R3):=
 Zbb (kp:=kp) (cast (by kernel_rfl) ht)
theorem L3ind (Q:QT) (i1 o1:Nat) (a9:Pt) (n9 c9:Nat) (e9:Bool) (x10:Int) {G:Type} (J:G→Pt→Nat→Nat→Bool→Int→Zaa→Prop) (m:G→Nat)
 (hr:∀ (g:G) (a3:Pt) (n3 c3:Nat) (e3:Bool) (x11:Int) (h:Zaa),J g a3 n3 c3 e3 x11 h→∀ (R3:T3),(∀ g' (a3:Pt) (n3 c3:Nat) (e3:Bool) (x11:Int) (h:Zaa),m g' < m g→J g' a3 n3 c3 e3 x11 h→R3 i1 o1 a3 n3 c3 e3 a9 n9 c9 e9 x10 x11 h)→L3t Q R3 i1 o1 a3 n3 c3 e3 a9 n9 c9 e9 x10 x11 h)
 (g:G) (a3:Pt) (n3 c3:Nat) (e3:Bool) (x11:Int) (h:Zaa) (hj:J g a3 n3 c3 e3 x11 h):L3 Q i1 o1 a3 n3 c3 e3 a9 n9 c9 e9 x10 x11 h:=by
 let P:=fun (K:Pt→Nat→Nat→Bool→Int→Zaa→Prop) i1' o1' a3 n3 c3 e3 a9' n9' c9' e9' x10' x11 h=>i1=i1'∧o1=o1'∧a9=a9'∧n9=n9'∧c9=c9'∧e9=e9'∧x10=x10'∧K a3 n3 c3 e3 x11 h
 refine Zdz.inv2 (fun g=>E3 (P (J g))) (fun g=>E3 (P fun a3 n3 c3 e3 x11 h=>∃ g',m g' < m g∧J g' a3 n3 c3 e3 x11 h)) m ?_ ?_ g ⟨rfl,rfl,rfl,rfl,rfl,rfl,rfl,hj⟩
 ·intro g env h hi
  obtain ⟨i1',o1',a3,n3,c3,e3,a9',n9',c9',e9',x10',x11,rfl,rfl,rfl,rfl,rfl,rfl,rfl,rfl,hj⟩:=Zdv hi
  exact Zjr Q _ i1 o1 a3 n3 c3 e3 a9 n9 c9 e9 x10 x11 h (hr g a3 n3 c3 e3 x11 h hj (P fun a3 n3 c3 e3 x11 h=>∃ g',m g' < m g∧J g' a3 n3 c3 e3 x11 h) fun g' a3 n3 c3 e3 x11 h hlt hj=>⟨rfl,rfl,rfl,rfl,rfl,rfl,rfl,g',hlt,hj⟩)
 ·intro g env h hi
  obtain ⟨i1',o1',a3,n3,c3,e3,a9',n9',c9',e9',x10',x11,rfl,rfl,rfl,rfl,rfl,rfl,rfl,rfl,g',hlt,hj⟩:=Zdv hi
  exact ⟨g',hlt,rfl,rfl,rfl,rfl,rfl,rfl,rfl,hj⟩
def L6t (Q:QT) (R3:T3) (R6:T6) (i1 o1:Nat) (a3:Pt) (n3 c3:Nat) (e3:Bool) (x4:Int) (i5 o5:Nat) (x6:Int) (a9:Pt) (n9 c9:Nat) (e9:Bool) (x10 x11:Int) (h:Zaa):Prop:=
 xSl (Zad h (.ptr (i1,o1 + 1))) fun A A B B=>bcase (decide ((x6:Int) < (((A:Nat):Int)))) (Zcs (Zbf h (.ptr (i5,o5)) 3) fun A=>Zaj A fun A B=>Zbs A fun A=>Zaj B fun B C=>Zbs B fun B=>Zaj C fun C D=>xSl C fun C E F G=>Zcf D (xSl (Zad h (.ptr (i1,o1 + 1))) fun D H I I=>(Zbf h (.ptr (i5,o5)) 3=Zbf h (.ptr (i5,o5)) 3)∧(0≤(x6:Int)∧(x6:Int) < (H:Nat))∧(Zba D fun D H=>Zcs (Zbf h (.ptr (D,H + (Int.toNat x6) * 3)) 3) fun D=>Zaj D fun D H=>Zbs D fun D=>Zaj H fun H I=>Zbs H fun H=>Zaj I fun I J=>xSl I fun I K L M=>Zcf J ((Zbf h (.ptr (i5,o5)) 3=Zbf h (.ptr (i5,o5)) 3)∧Zae pg Zlt [.agg [.str A,.str B,.slice C E F G],.agg [.str D,.str H,.slice I K L M]] h fun A B=>
 Zbp A fun A=>bcase A (Zcy (B ++ [.cells Zna [.int .i64 x4,.int .i64 x6] false]) fun A=>Zcy (A ++ [.cells Zet [.slice (B.length,0) 2 2 true] false]) fun C=>Zdp pg Zky C (.slice a3 n3 c3 e3) (.slice (A.length,0) 1 1 true) fun A C=>xSl A fun A D E F=>J7 Q R3 R6 x6 i1 o1 i5 o5 A D E F x4 x11 x10 a9 n9 c9 e9 C) (J7 Q R3 R6 x6 i1 o1 i5 o5 a3 n3 c3 e3 x4 x11 x10 a9 n9 c9 e9 B))))) (Ysd Q R3 x11 x10 a9 n9 c9 e9 i1 o1 a3 n3 c3 e3 h)
theorem Ycu (Q:QT) (R3:T3) (R6:T6) (i1 o1:Nat) (a3:Pt) (n3 c3:Nat) (e3:Bool) (x4:Int) (i5 o5:Nat) (x6:Int) (a9:Pt) (n9 c9:Nat) (e9:Bool) (x10 x11:Int) (h:Zaa) (ht:L6t Q R3 R6 i1 o1 a3 n3 c3 e3 x4 i5 o5 x6 a9 n9 c9 e9 x10 x11 h):Den pg fn.ntmps (C [1,1,0,1,0,0,1,1,0,0,1,1,0,0]) [(1,.ptr (i1,o1)),(3,.slice a3 n3 c3 e3),(4,.int .i64 x4),(5,.ptr (i5,o5)),(6,.int .i64 x6),(9,.slice a9 n9 c9 e9),(10,.int .i64 x10),(11,.int .i64 x11)] h (K8 Q R3 R6):=
 Zbb (kp:=kp) (cast (by kernel_rfl) ht)
theorem L6ind (Q:QT) (R3:T3) (i1 o1:Nat) (x4:Int) (i5 o5:Nat) (a9:Pt) (n9 c9:Nat) (e9:Bool) (x10 x11:Int) {G:Type} (J:G→Pt→Nat→Nat→Bool→Int→Zaa→Prop) (m:G→Nat)
 (hr:∀ (g:G) (a3:Pt) (n3 c3:Nat) (e3:Bool) (x6:Int) (h:Zaa),J g a3 n3 c3 e3 x6 h→∀ (R6:T6),(∀ g' (a3:Pt) (n3 c3:Nat) (e3:Bool) (x6:Int) (h:Zaa),m g' < m g→J g' a3 n3 c3 e3 x6 h→R6 i1 o1 a3 n3 c3 e3 x4 i5 o5 x6 a9 n9 c9 e9 x10 x11 h)→L6t Q R3 R6 i1 o1 a3 n3 c3 e3 x4 i5 o5 x6 a9 n9 c9 e9 x10 x11 h)
 (g:G) (a3:Pt) (n3 c3:Nat) (e3:Bool) (x6:Int) (h:Zaa) (hj:J g a3 n3 c3 e3 x6 h):L6 Q R3 i1 o1 a3 n3 c3 e3 x4 i5 o5 x6 a9 n9 c9 e9 x10 x11 h:=by
 let P:=fun (K:Pt→Nat→Nat→Bool→Int→Zaa→Prop) i1' o1' a3 n3 c3 e3 x4' i5' o5' x6 a9' n9' c9' e9' x10' x11' h=>i1=i1'∧o1=o1'∧x4=x4'∧i5=i5'∧o5=o5'∧a9=a9'∧n9=n9'∧c9=c9'∧e9=e9'∧x10=x10'∧x11=x11'∧K a3 n3 c3 e3 x6 h
 refine Zdz.inv2 (fun g=>E6 (P (J g))) (fun g=>E6 (P fun a3 n3 c3 e3 x6 h=>∃ g',m g' < m g∧J g' a3 n3 c3 e3 x6 h)) m ?_ ?_ g ⟨rfl,rfl,rfl,rfl,rfl,rfl,rfl,rfl,rfl,rfl,rfl,hj⟩
 ·intro g env h hi
  obtain ⟨i1',o1',a3,n3,c3,e3,x4',i5',o5',x6,a9',n9',c9',e9',x10',x11',rfl,rfl,rfl,rfl,rfl,rfl,rfl,rfl,rfl,rfl,rfl,rfl,hj⟩:=Zol hi
  exact Ycu Q R3 (P fun a3 n3 c3 e3 x6 h=>∃ g',m g' < m g∧J g' a3 n3 c3 e3 x6 h) i1 o1 a3 n3 c3 e3 x4 i5 o5 x6 a9 n9 c9 e9 x10 x11 h (hr g a3 n3 c3 e3 x6 h hj (P fun a3 n3 c3 e3 x6 h=>∃ g',m g' < m g∧J g' a3 n3 c3 e3 x6 h) fun g' a3 n3 c3 e3 x6 h hlt hj=>⟨rfl,rfl,rfl,rfl,rfl,rfl,rfl,rfl,rfl,rfl,rfl,g',hlt,hj⟩)
 ·intro g env h hi
  obtain ⟨i1',o1',a3,n3,c3,e3,x4',i5',o5',x6,a9',n9',c9',e9',x10',x11',rfl,rfl,rfl,rfl,rfl,rfl,rfl,rfl,rfl,rfl,rfl,rfl,g',hlt,hj⟩:=Zol hi
  exact ⟨g',hlt,rfl,rfl,rfl,rfl,rfl,rfl,rfl,rfl,rfl,rfl,rfl,hj⟩
theorem A3x0i (Q:QT) (a3:Pt) (n3 c3:Nat) (e3:Bool) (h:Zaa) (ht :
 Q (.slice a3 n3 c3 e3) h):Znv Q a3 n3 c3 e3 h:=
 At.mk (cast (by kernel_rfl) ht)
theorem J7i (Q:QT) (R3:T3) (R6:T6) (x6:Int) (i1 o1 i5 o5:Nat) (a3:Pt) (n3 c3:Nat) (e3:Bool) (x4 x11 x10:Int) (a9:Pt) (n9 c9:Nat) (e9:Bool) (h:Zaa) (ht :
 R6 i1 o1 a3 n3 c3 e3 x4 i5 o5 (IntKind.wrap .i64 (x6 + 1)) a9 n9 c9 e9 x10 x11 h):J7 Q R3 R6 x6 i1 o1 i5 o5 a3 n3 c3 e3 x4 x11 x10 a9 n9 c9 e9 h:=
 Zbb (kp:=kp) (cast (by kernel_rfl) ht)
theorem A6x2i (Q:QT) (R3:T3) (x11 x10:Int) (a9:Pt) (n9 c9:Nat) (e9:Bool) (i1 o1:Nat) (a3:Pt) (n3 c3:Nat) (e3:Bool) (h:Zaa) (ht :
 R3 i1 o1 a3 n3 c3 e3 a9 n9 c9 e9 x10 (IntKind.wrap .i64 (x11 + 1)) h):Ysd Q R3 x11 x10 a9 n9 c9 e9 i1 o1 a3 n3 c3 e3 h:=
 At.mk (cast (by kernel_rfl) ht)
theorem call (a0x0:Pt) (n0x0 c0x0:Nat) (e0x0:Bool) (a0x1:Pt) (n0x1 c0x1:Nat) (e0x1:Bool) (h:Zaa) (Q:QT) (ht :
 Zcy (h ++ [.cells Zao [.slice a0x0 n0x0 c0x0 e0x0,.slice a0x1 n0x1 c0x1 e0x1] false]) fun A=>Zcy (A ++ [.cells Zet [] false]) fun B=>xSl (Zad B (.ptr (h.length,0 + 1))) fun C D E F=>L3 Q h.length 0 (A.length,0) 0 0 true C D E F (((D:Nat):Int)) 0 B):Zae pg Ziy [.agg [.slice a0x0 n0x0 c0x0 e0x0,.slice a0x1 n0x1 c0x1 e0x1]] h Q:=
 Zae.of_body kp (c:=cod fn) (fn:=fn) Go.Proofs.Tryz.func133 (by kernel_rfl) (by kernel_rfl) (Nat.le_of_ble_eq_true (by kernel_rfl))
  (cast (by kernel_rfl) ht)
end Zcu
end Go.Sim

set_option maxRecDepth 100000
set_option maxHeartbeats 0
set_option linter.unusedVariables false
namespace Go.Sim
open Go Go.RowKit
end Go.Sim

set_option maxRecDepth 100000
set_option maxHeartbeats 0
set_option linter.unusedVariables false
namespace Go.Sim
open Go Go.RowKit
namespace Zfe
noncomputable abbrev fn:Func:=Go.Proofs.Tryz.f42
def kp:Zce:=[(3000006,[7]),(1000006,[6,7,19]),(2000009,[19,6,7]),(4000010,[19,6,7])]
noncomputable def C (p:List Nat):Code:=(cod fn).sub p
def KR (Q:QT):KT:=Zev pg fn.results.toList Q
abbrev T6:=Nat→Nat→Nat→Nat→Int→Zaa→Prop
def E6 (R6:T6) (env:Env) (h:Zaa):Prop:=Zby 6 env fun v env=>Zfd v fun a=>Zba a fun i6 o6=>Zby 7 env fun v env=>Zfd v fun a=>Zba a fun i7 o7=>Zby 19 env fun v env=>Zea .i64 v fun x19=>Zjh env (R6 i6 o6 i7 o7 x19 h)
theorem Zol {R6:T6} {env:Env} {h:Zaa} (hi:E6 R6 env h):∃ i6,∃ o6,∃ i7,∃ o7,∃ x19,env=[(6,.ptr (i6,o6)),(7,.ptr (i7,o7)),(19,.int .i64 x19)]∧R6 i6 o6 i7 o7 x19 h:=by
 unfold E6 at hi
 have hi0:=hi
 clear hi
 obtain ⟨_,_,rfl,hi1⟩:=Zaf hi0
 obtain ⟨a,rfl,hi2⟩:=Zbk hi1
 obtain ⟨i6,o6,rfl,hi3⟩:=Zbj hi2
 obtain ⟨_,_,rfl,hi4⟩:=Zaf hi3
 obtain ⟨a,rfl,hi5⟩:=Zbk hi4
 obtain ⟨i7,o7,rfl,hi6⟩:=Zbj hi5
 obtain ⟨_,_,rfl,hi7⟩:=Zaf hi6
 obtain ⟨x19,rfl,hi8⟩:=Zav hi7
 obtain ⟨rfl,hi9⟩:=Zbi hi8
 have hi:=hi9
 exact ⟨i6,o6,i7,o7,x19,rfl,hi⟩
def K0 (Q:QT):KT:=andThen (fun env' h'=>(match kp.find 4000011 with | some ks=>Den pg fn.ntmps (C [1,1,1,1,1]) (env'.keep ks) h' (KR Q) | none=>den pg fn.ntmps kp (C [1,1,1,1,1]) env' h' (KR Q))) (KR Q)
def K1 (Q:QT):KT:=Zcl 0 (K0 Q)
def K2 (Q:QT):KT:=left kp 6 (K1 Q)
def K3 (Q:QT) (R6:T6):KT:=rnd ((kp.find 1000006).getD []) (E6 R6) (K2 Q)
def L6 (Q:QT) (i6 o6 i7 o7:Nat) (x19:Int) (h:Zaa):Prop:=Zdz (Den pg fn.ntmps (C [1,1,1,1,0,1,0,0])) ((kp.find 1000006).getD []) (K2 Q) [(6,.ptr (i6,o6)),(7,.ptr (i7,o7)),(19,.int .i64 x19)] h
def J10 (Q:QT) (R6:T6) (x19:Int) (i6 o6 i7 o7:Nat) (h:Zaa):Prop:=Den pg fn.ntmps (C [1,1,1,1,0,1,0,0,1,1,1]) [(19,.int .i64 x19),(6,.ptr (i6,o6)),(7,.ptr (i7,o7))] h (K3 Q R6)
def Ymp (Q:QT) (i7 o7:Nat) (h:Zaa):Prop:=At (K1 Q) (.exit 0) [(7,.ptr (i7,o7))] h
def L6t (Q:QT) (R6:T6) (i6 o6 i7 o7:Nat) (x19:Int) (h:Zaa):Prop:=
 bcase (decide ((x19:Int) < 12)) ((0≤(x19:Int)∧(x19:Int) < (12:Nat))∧(Zci .u8 (Zad h (.ptr (i6,o6 + (Int.toNat x19) * 2 + 0))) fun A=>bcase (!((A:Int) == 0)) ((0≤(x19:Int)∧(x19:Int) < (12:Nat))∧(Zcs (Zbf h (.ptr (i6,o6 + (Int.toNat x19) * 2)) 2) fun A=>Zaj A fun A B=>Zci .u8 A fun A=>Zaj B fun B C=>xSl B fun B D E F=>Zcf C (Zae pg Zkh [.ptr (i6,o6),.agg [.int .u8 A,.slice B D E F]] h fun A B=>
 Zrs A fun A=>Zaj A fun A C=>Zci .u8 A fun A=>Zaj C fun C D=>xSl C fun C E F G=>Zcf D ((0≤(x19:Int)∧(x19:Int) < (12:Nat))∧(Zch (Zbe B (.ptr (i7,o7 + (Int.toNat x19) * 2)) [.int .u8 A,.slice C E F G]) fun A=>J10 Q R6 x19 i6 o6 i7 o7 A))))) (J10 Q R6 x19 i6 o6 i7 o7 h))) (Ymp Q i7 o7 h)
theorem Ycu (Q:QT) (R6:T6) (i6 o6 i7 o7:Nat) (x19:Int) (h:Zaa) (ht:L6t Q R6 i6 o6 i7 o7 x19 h):Den pg fn.ntmps (C [1,1,1,1,0,1,0,0]) [(6,.ptr (i6,o6)),(7,.ptr (i7,o7)),(19,.int .i64 x19)] h (K3 Q R6):=
 Zbb (kp:=kp) (cast (by kernel_rfl) ht)
theorem L6ind (Q:QT) (i6 o6 i7 o7:Nat) {G:Type} (J:G→Int→Zaa→Prop) (m:G→Nat)
 (hr:∀ (g:G) (x19:Int) (h:Zaa),J g x19 h→∀ (R6:T6),(∀ g' (x19:Int) (h:Zaa),m g' < m g→J g' x19 h→R6 i6 o6 i7 o7 x19 h)→L6t Q R6 i6 o6 i7 o7 x19 h)
 (g:G) (x19:Int) (h:Zaa) (hj:J g x19 h):L6 Q i6 o6 i7 o7 x19 h:=by
 let P:=fun (K:Int→Zaa→Prop) i6' o6' i7' o7' x19 h=>i6=i6'∧o6=o6'∧i7=i7'∧o7=o7'∧K x19 h
 refine Zdz.inv2 (fun g=>E6 (P (J g))) (fun g=>E6 (P fun x19 h=>∃ g',m g' < m g∧J g' x19 h)) m ?_ ?_ g ⟨rfl,rfl,rfl,rfl,hj⟩
 ·intro g env h hi
  obtain ⟨i6',o6',i7',o7',x19,rfl,rfl,rfl,rfl,rfl,hj⟩:=Zol hi
  exact Ycu Q _ i6 o6 i7 o7 x19 h (hr g x19 h hj (P fun x19 h=>∃ g',m g' < m g∧J g' x19 h) fun g' x19 h hlt hj=>⟨rfl,rfl,rfl,rfl,g',hlt,hj⟩)
 ·intro g env h hi
  obtain ⟨i6',o6',i7',o7',x19,rfl,rfl,rfl,rfl,rfl,g',hlt,hj⟩:=Zol hi
  exact ⟨g',hlt,rfl,rfl,rfl,rfl,hj⟩
theorem J10i (Q:QT) (R6:T6) (x19:Int) (i6 o6 i7 o7:Nat) (h:Zaa) (ht :
 R6 i6 o6 i7 o7 (IntKind.wrap .i64 (x19 + 1)) h):J10 Q R6 x19 i6 o6 i7 o7 h:=
 Zbb (kp:=kp) (cast (by kernel_rfl) ht)
theorem A6x0i (Q:QT) (i7 o7:Nat) (h:Zaa) (ht :
 Q (.tup [.ptr (i7,o7),.bool true]) h):Ymp Q i7 o7 h:=
 At.mk (cast (by kernel_rfl) ht)
theorem call (x0x0:Int) (a0x1:Pt) (n0x1 c0x1:Nat) (e0x1:Bool) (x1x0:Int) (a1x1:Pt) (n1x1 c1x1:Nat) (e1x1:Bool) (h:Zaa) (Q:QT) (ht :
 Zcy (h ++ [.cells Zab [.int .u8 x0x0,.slice a0x1 n0x1 c0x1 e0x1] false]) fun A=>Zcy (A ++ [.cells Zab [.int .u8 x1x0,.slice a1x1 n1x1 c1x1 e1x1] false]) fun B=>Zcy (B ++ [.cells Zct [.int .u8 0,.slice none 0 0 true,.int .u8 0,.slice none 0 0 true,.int .u8 0,.slice none 0 0 true,.int .u8 0,.slice none 0 0 true,.int .u8 0,.slice none 0 0 true,.int .u8 0,.slice none 0 0 true,.int .u8 0,.slice none 0 0 true,.int .u8 0,.slice none 0 0 true,.int .u8 0,.slice none 0 0 true,.int .u8 0,.slice none 0 0 true,.int .u8 0,.slice none 0 0 true,.int .u8 0,.slice none 0 0 true] false]) fun C=>Zcs (Zbf C (.ptr (h.length,0)) 2) fun D=>Zaj D fun D E=>Zci .u8 D fun D=>Zaj E fun E F=>xSl E fun E G H I=>Zcf F (Zcs (Zbf C (.ptr (A.length,0)) 2) fun A=>Zaj A fun A F=>Zci .u8 A fun A=>Zaj F fun F J=>xSl F fun F K L M=>Zcf J (Zae pg Zcr [.ptr (B.length,0),.agg [.int .u8 D,.slice E G H I],.agg [.int .u8 A,.slice F K L M]] C fun A C=>
 Zbp A fun A=>bcase (!A) (Q (.tup [.ptr (B.length,0),.bool false]) C) (Zcy (C ++ [.cells Zct [.int .u8 0,.slice none 0 0 true,.int .u8 0,.slice none 0 0 true,.int .u8 0,.slice none 0 0 true,.int .u8 0,.slice none 0 0 true,.int .u8 0,.slice none 0 0 true,.int .u8 0,.slice none 0 0 true,.int .u8 0,.slice none 0 0 true,.int .u8 0,.slice none 0 0 true,.int .u8 0,.slice none 0 0 true,.int .u8 0,.slice none 0 0 true,.int .u8 0,.slice none 0 0 true,.int .u8 0,.slice none 0 0 true] false]) fun A=>L6 Q B.length 0 C.length 0 0 A)))):Zae pg Zlr [.agg [.int .u8 x0x0,.slice a0x1 n0x1 c0x1 e0x1],.agg [.int .u8 x1x0,.slice a1x1 n1x1 c1x1 e1x1]] h Q:=
 Zae.of_body kp (c:=cod fn) (fn:=fn) Go.Proofs.Tryz.func42 (by kernel_rfl) (by kernel_rfl) (Nat.le_of_ble_eq_true (by kernel_rfl))
  (cast (by kernel_rfl) ht)
end Zfe
namespace Zkp
noncomputable abbrev fn:Func:=Go.Proofs.Tryz.f63
def kp:Zce:=[(4000005,[5,7]),(2000005,[10])]
noncomputable def C (p:List Nat):Code:=(cod fn).sub p
def KR (Q:QT):KT:=Zev pg fn.results.toList Q
def J5 (Q:QT) (i5 o5 i7 o7:Nat) (h:Zaa):Prop:=Den pg fn.ntmps (C [1,1,1,1]) [(5,.ptr (i5,o5)),(7,.ptr (i7,o7))] h (KR Q)
theorem J5i (Q:QT) (i5 o5 i7 o7:Nat) (h:Zaa) (ht :
 Zcs (Zbf h (.ptr (i5,o5)) 2) fun A=>Zaj A fun A B=>Zci .u8 A fun A=>Zaj B fun B C=>xSl B fun B D E F=>Zcf C (Zcs (Zbf h (.ptr (i7,o7)) 2) fun C=>Zaj C fun C G=>Zci .u8 C fun C=>Zaj G fun G H=>xSl G fun G I J K=>Zcf H ((Zbf h (.ptr (i5,o5)) 2=Zbf h (.ptr (i5,o5)) 2)∧Zae pg Zif [.agg [.int .u8 C,.slice G I J K]] h fun C G=>
 Zrs C fun C=>Zaj C fun C H=>Zci .u8 C fun C=>Zaj H fun H I=>xSl H fun H J K L=>Zcf I ((Zbf G (.ptr (i5,o5)) 2=Zbf h (.ptr (i5,o5)) 2)∧Zae pg Zlr [.agg [.int .u8 A,.slice B D E F],.agg [.int .u8 C,.slice H J K L]] G fun A B=>
 Zvv A fun A=>Zaj A fun A C=>Zfd A fun A=>Zaj C fun A C=>Zbp A fun A=>Zcf C (Q (.bool (!A)) B))))):J5 Q i5 o5 i7 o7 h:=
 Zbb (kp:=kp) (cast (by kernel_rfl) ht)
theorem call (x0 x1:List Nat) (h:Zaa) (Q:QT) (ht :
 Zae pg Zfq [.str x0] h fun A B=>
 Zvv A fun A=>Zaj A fun A C=>Zrs A fun A=>Zaj A fun A D=>Zci .u8 A fun A=>Zaj D fun D E=>xSl D fun D F G H=>Zcf E (Zaj C fun C E=>Zbp C fun C=>Zcf E (Zcy (B ++ [.cells Zab [.int .u8 0,.slice none 0 0 true] false]) fun E=>Zch (Zbe E (.ptr (B.length,0)) [.int .u8 A,.slice D F G H]) fun A=>Zae pg Zfq [.str x1] A fun A D=>
 Zvv A fun A=>Zaj A fun A E=>Zrs A fun A=>Zaj A fun A F=>Zci .u8 A fun A=>Zaj F fun F G=>xSl F fun F H I J=>Zcf G (Zaj E fun E G=>Zbp E fun E=>Zcf G (Zcy (D ++ [.cells Zab [.int .u8 0,.slice none 0 0 true] false]) fun G=>Zch (Zbe G (.ptr (D.length,0)) [.int .u8 A,.slice F H I J]) fun A=>bcase (!C) (Q (.bool false) A) (bcase (!E) (Q (.bool false) A) (J5 Q B.length 0 D.length 0 A))))))):Zae pg Zla [.str x0,.str x1] h Q:=
 Zae.of_body kp (c:=cod fn) (fn:=fn) Go.Proofs.Tryz.func63 (by kernel_rfl) (by kernel_rfl) (Nat.le_of_ble_eq_true (by kernel_rfl))
  (cast (by kernel_rfl) ht)
end Zkp
end Go.Sim

set_option maxRecDepth 100000
set_option maxHeartbeats 0
set_option linter.unusedVariables false
namespace Go.Sim
open Go Go.RowKit
namespace Zii
noncomputable abbrev fn:Func:=Go.Proofs.Tryz.f80
def kp:Zce:=[(3000004,[5,4]),(1000004,[0,4,5,16,17,18]),(2000006,[18,17,16,5,0,4])]
noncomputable def C (p:List Nat):Code:=(cod fn).sub p
def KR (Q:QT):KT:=Zev pg fn.results.toList Q
abbrev T4:=Pt→Nat→Nat→Nat→Nat→Pt→Nat→Nat→Bool→Int→Int→Zaa→Prop
def E4 (R4:T4) (env:Env) (h:Zaa):Prop:=Zby 0 env fun v env=>Zfd v fun a0=>Zby 4 env fun v env=>Zfd v fun a=>Zba a fun i4 o4=>Zby 5 env fun v env=>Zfd v fun a=>Zba a fun i5 o5=>Zby 16 env fun v env=>xSl v fun a16 n16 c16 e16=>Zby 17 env fun v env=>Zea .i64 v fun x17=>Zby 18 env fun v env=>Zea .i64 v fun x18=>Zjh env (R4 a0 i4 o4 i5 o5 a16 n16 c16 e16 x17 x18 h)
theorem Zji {R4:T4} {env:Env} {h:Zaa} (hi:E4 R4 env h):∃ a0,∃ i4,∃ o4,∃ i5,∃ o5,∃ a16,∃ n16,∃ c16,∃ e16,∃ x17,∃ x18,env=[(0,.ptr a0),(4,.ptr (i4,o4)),(5,.ptr (i5,o5)),(16,.slice a16 n16 c16 e16),(17,.int .i64 x17),(18,.int .i64 x18)]∧R4 a0 i4 o4 i5 o5 a16 n16 c16 e16 x17 x18 h:=by
 unfold E4 at hi
 have hi0:=hi
 clear hi
 obtain ⟨_,_,rfl,hi1⟩:=Zaf hi0
 obtain ⟨a0,rfl,hi2⟩:=Zbk hi1
 obtain ⟨_,_,rfl,hi3⟩:=Zaf hi2
 obtain ⟨a,rfl,hi4⟩:=Zbk hi3
 obtain ⟨i4,o4,rfl,hi5⟩:=Zbj hi4
 obtain ⟨_,_,rfl,hi6⟩:=Zaf hi5
 obtain ⟨a,rfl,hi7⟩:=Zbk hi6
 obtain ⟨i5,o5,rfl,hi8⟩:=Zbj hi7
 obtain ⟨_,_,rfl,hi9⟩:=Zaf hi8
 obtain ⟨a16,n16,c16,e16,rfl,hi10⟩:=Zbz hi9
 obtain ⟨_,_,rfl,hi11⟩:=Zaf hi10
 obtain ⟨x17,rfl,hi12⟩:=Zav hi11
 obtain ⟨_,_,rfl,hi13⟩:=Zaf hi12
 obtain ⟨x18,rfl,hi14⟩:=Zav hi13
 obtain ⟨rfl,hi15⟩:=Zbi hi14
 have hi:=hi15
 exact ⟨a0,i4,o4,i5,o5,a16,n16,c16,e16,x17,x18,rfl,hi⟩
def K0 (Q:QT):KT:=andThen (fun env' h'=>(match kp.find 4000008 with | some ks=>Den pg fn.ntmps (C [1,1,1,1]) (env'.keep ks) h' (KR Q) | none=>den pg fn.ntmps kp (C [1,1,1,1]) env' h' (KR Q))) (KR Q)
def K1 (Q:QT):KT:=Zcl 0 (K0 Q)
def K2 (Q:QT):KT:=left kp 4 (K1 Q)
def K3 (Q:QT) (R4:T4):KT:=rnd ((kp.find 1000004).getD []) (E4 R4) (K2 Q)
def L4 (Q:QT) (a0:Pt) (i4 o4 i5 o5:Nat) (a16:Pt) (n16 c16:Nat) (e16:Bool) (x17 x18:Int) (h:Zaa):Prop:=Zdz (Den pg fn.ntmps (C [1,1,1,0,1,0,0])) ((kp.find 1000004).getD []) (K2 Q) [(0,.ptr a0),(4,.ptr (i4,o4)),(5,.ptr (i5,o5)),(16,.slice a16 n16 c16 e16),(17,.int .i64 x17),(18,.int .i64 x18)] h
def Yba (Q:QT) (i5 o5 i4 o4:Nat) (h:Zaa):Prop:=At (K1 Q) (.exit 0) [(5,.ptr (i5,o5)),(4,.ptr (i4,o4))] h
def L4t (Q:QT) (R4:T4) (a0:Pt) (i4 o4 i5 o5:Nat) (a16:Pt) (n16 c16:Nat) (e16:Bool) (x17 x18:Int) (h:Zaa):Prop:=
 bcase (decide ((x18:Int) < x17)) ((0≤(x18:Int)∧(x18:Int) < (n16:Nat))∧(Zba a16 fun A B=>Zcs (Zbf h (.ptr (A,B + (Int.toNat x18) * 2)) 2) fun A=>Zaj A fun A B=>Zci .u8 A fun A=>Zaj B fun B C=>xSl B fun B D E F=>Zcf C (Zcy (h ++ [.cells Zab [.int .u8 0,.slice none 0 0 true] false]) fun C=>Zch (Zbe C (.ptr (h.length,0)) [.int .u8 A,.slice B D E F]) fun A=>xSl (Zad A (.ptr (i5,o5 + 1))) fun B C D E=>Zcs (Zbf A (.ptr (h.length,0)) 2) fun F=>Zaj F fun F G=>Zci .u8 F fun F=>Zaj G fun G H=>xSl G fun G I J K=>Zcf H ((Zad A (.ptr (i5,o5 + 1))=Zad A (.ptr (i5,o5 + 1)))∧Zae pg Zkh [.ptr a0,.agg [.int .u8 F,.slice G I J K]] A fun F G=>
 Zrs F fun F=>Zaj F fun F H=>Zci .u8 F fun F=>Zaj H fun H I=>xSl H fun H J K L=>Zcf I ((Zad G (.ptr (i5,o5 + 1))=Zad A (.ptr (i5,o5 + 1)))∧Zcy (G ++ [.cells Zab [.int .u8 F,.slice H J K L] false]) fun A=>(Zad A (.ptr (i5,o5 + 1))=Zad G (.ptr (i5,o5 + 1)))∧Zdp pg Zgi A (.slice B C D E) (.slice (G.length,0) 1 1 true) fun A B=>xSl A fun A C D E=>Zch (Zbe B (.ptr (i5,o5 + 1)) [.slice A C D E]) fun A=>R4 a0 i4 o4 i5 o5 a16 n16 c16 e16 x17 (IntKind.wrap .i64 (x18 + 1)) A))))) (Yba Q i5 o5 i4 o4 h)
theorem Zvd (Q:QT) (R4:T4) (a0:Pt) (i4 o4 i5 o5:Nat) (a16:Pt) (n16 c16:Nat) (e16:Bool) (x17 x18:Int) (h:Zaa) (ht:L4t Q R4 a0 i4 o4 i5 o5 a16 n16 c16 e16 x17 x18 h):Den pg fn.ntmps (C [1,1,1,0,1,0,0]) [(0,.ptr a0),(4,.ptr (i4,o4)),(5,.ptr (i5,o5)),(16,.slice a16 n16 c16 e16),(17,.int .i64 x17),(18,.int .i64 x18)] h (K3 Q R4):=
 Zbb (kp:=kp) (cast (by kernel_rfl) ht)
theorem L4ind (Q:QT) (a0:Pt) (i4 o4 i5 o5:Nat) (a16:Pt) (n16 c16:Nat) (e16:Bool) (x17:Int) {G:Type} (J:G→Int→Zaa→Prop) (m:G→Nat)
 (hr:∀ (g:G) (x18:Int) (h:Zaa),J g x18 h→∀ (R4:T4),(∀ g' (x18:Int) (h:Zaa),m g' < m g→J g' x18 h→R4 a0 i4 o4 i5 o5 a16 n16 c16 e16 x17 x18 h)→L4t Q R4 a0 i4 o4 i5 o5 a16 n16 c16 e16 x17 x18 h)
 (g:G) (x18:Int) (h:Zaa) (hj:J g x18 h):L4 Q a0 i4 o4 i5 o5 a16 n16 c16 e16 x17 x18 h:=by
 let P:=fun (K:Int→Zaa→Prop) a0' i4' o4' i5' o5' a16' n16' c16' e16' x17' x18 h=>a0=a0'∧i4=i4'∧o4=o4'∧i5=i5'∧o5=o5'∧a16=a16'∧n16=n16'∧c16=c16'∧e16=e16'∧x17=x17'∧K x18 h
 refine Zdz.inv2 (fun g=>E4 (P (J g))) (fun g=>E4 (P fun x18 h=>∃ g',m g' < m g∧J g' x18 h)) m ?_ ?_ g ⟨rfl,rfl,rfl,rfl,rfl,rfl,rfl,rfl,rfl,rfl,hj⟩
 ·intro g env h hi
  obtain ⟨a0',i4',o4',i5',o5',a16',n16',c16',e16',x17',x18,rfl,rfl,rfl,rfl,rfl,rfl,rfl,rfl,rfl,rfl,rfl,hj⟩:=Zji hi
  exact Zvd Q _ a0 i4 o4 i5 o5 a16 n16 c16 e16 x17 x18 h (hr g x18 h hj (P fun x18 h=>∃ g',m g' < m g∧J g' x18 h) fun g' x18 h hlt hj=>⟨rfl,rfl,rfl,rfl,rfl,rfl,rfl,rfl,rfl,rfl,g',hlt,hj⟩)
 ·intro g env h hi
  obtain ⟨a0',i4',o4',i5',o5',a16',n16',c16',e16',x17',x18,rfl,rfl,rfl,rfl,rfl,rfl,rfl,rfl,rfl,rfl,rfl,g',hlt,hj⟩:=Zji hi
  exact ⟨g',hlt,rfl,rfl,rfl,rfl,rfl,rfl,rfl,rfl,rfl,rfl,hj⟩
theorem A4x0i (Q:QT) (i5 o5 i4 o4:Nat) (h:Zaa) (ht :
 Zcs (Zbf h (.ptr (i5,o5)) 2) fun A=>Zaj A fun A B=>Zci .u8 A fun A=>Zaj B fun B C=>xSl B fun B D E F=>Zcf C (Zch (Zbe h (.ptr (i4,o4)) [.int .u8 A,.slice B D E F]) fun A=>Zcs (Zbf A (.ptr (i4,o4)) 2) fun B=>Zaj B fun B C=>Zci .u8 B fun B=>Zaj C fun C D=>xSl C fun C E F G=>Zcf D (Q (.agg [.int .u8 B,.slice C E F G]) A))):Yba Q i5 o5 i4 o4 h:=
 At.mk (cast (by kernel_rfl) ht)
theorem call (a0:Pt) (x1x0:Int) (a1x1:Pt) (n1x1 c1x1:Nat) (e1x1:Bool) (h:Zaa) (Q:QT) (ht :
 Zcy (h ++ [.cells Zab [.int .u8 x1x0,.slice a1x1 n1x1 c1x1 e1x1] false]) fun A=>Zcy (A ++ [.cells Zab [.int .u8 0,.slice none 0 0 true] false]) fun B=>Zcs (Zbf B (.ptr (h.length,0)) 2) fun C=>Zaj C fun C D=>Zci .u8 C fun C=>Zaj D fun D E=>xSl D fun D F G H=>Zcf E (Zae pg Zgs [.ptr a0,.agg [.int .u8 C,.slice D F G H]] B fun B C=>
 Zrs B fun B=>Zaj B fun B D=>Zci .u8 B fun B=>Zaj D fun D E=>xSl D fun D F G H=>Zcf E (Zch (Zbe C (.ptr (h.length,0)) [.int .u8 B,.slice D F G H]) fun B=>Zci .u8 (Zad B (.ptr (h.length,0 + 0))) fun C=>Zcy (B ++ [.cells Zab [] false]) fun D=>Zcy (D ++ [.cells Zab [.int .u8 0,.slice none 0 0 true] false]) fun E=>Zch (Zbe E (.ptr (D.length,0)) [.int .u8 C,.slice (B.length,0) 0 0 true]) fun B=>xSl (Zad B (.ptr (h.length,0 + 1))) fun C E F G=>L4 Q a0 A.length 0 D.length 0 C E F G (((E:Nat):Int)) 0 B))):Zae pg Zkh [.ptr a0,.agg [.int .u8 x1x0,.slice a1x1 n1x1 c1x1 e1x1]] h Q:=
 Zae.of_body kp (c:=cod fn) (fn:=fn) Go.Proofs.Tryz.func80 (by kernel_rfl) (by kernel_rfl) (Nat.le_of_ble_eq_true (by kernel_rfl))
  (cast (by kernel_rfl) ht)
end Zii
namespace Zee
noncomputable abbrev fn:Func:=Go.Proofs.Tryz.f105
def kp:Zce:=[(4000005,[1,2,3]),(3000006,[3,2]),(1000006,[2,3,21,22,23]),(2000008,[23,22,21,3,2])]
noncomputable def C (p:List Nat):Code:=(cod fn).sub p
def KR (Q:QT):KT:=Zev pg fn.results.toList Q
abbrev T6:=Nat→Nat→Nat→Nat→Pt→Nat→Nat→Bool→Int→Int→Zaa→Prop
def E6 (R6:T6) (env:Env) (h:Zaa):Prop:=Zby 2 env fun v env=>Zfd v fun a=>Zba a fun i2 o2=>Zby 3 env fun v env=>Zfd v fun a=>Zba a fun i3 o3=>Zby 21 env fun v env=>xSl v fun a21 n21 c21 e21=>Zby 22 env fun v env=>Zea .i64 v fun x22=>Zby 23 env fun v env=>Zea .i64 v fun x23=>Zjh env (R6 i2 o2 i3 o3 a21 n21 c21 e21 x22 x23 h)
theorem Zol {R6:T6} {env:Env} {h:Zaa} (hi:E6 R6 env h):∃ i2,∃ o2,∃ i3,∃ o3,∃ a21,∃ n21,∃ c21,∃ e21,∃ x22,∃ x23,env=[(2,.ptr (i2,o2)),(3,.ptr (i3,o3)),(21,.slice a21 n21 c21 e21),(22,.int .i64 x22),(23,.int .i64 x23)]∧R6 i2 o2 i3 o3 a21 n21 c21 e21 x22 x23 h:=by
 unfold E6 at hi
 have hi0:=hi
 clear hi
 obtain ⟨_,_,rfl,hi1⟩:=Zaf hi0
 obtain ⟨a,rfl,hi2⟩:=Zbk hi1
 obtain ⟨i2,o2,rfl,hi3⟩:=Zbj hi2
 obtain ⟨_,_,rfl,hi4⟩:=Zaf hi3
 obtain ⟨a,rfl,hi5⟩:=Zbk hi4
 obtain ⟨i3,o3,rfl,hi6⟩:=Zbj hi5
 obtain ⟨_,_,rfl,hi7⟩:=Zaf hi6
 obtain ⟨a21,n21,c21,e21,rfl,hi8⟩:=Zbz hi7
 obtain ⟨_,_,rfl,hi9⟩:=Zaf hi8
 obtain ⟨x22,rfl,hi10⟩:=Zav hi9
 obtain ⟨_,_,rfl,hi11⟩:=Zaf hi10
 obtain ⟨x23,rfl,hi12⟩:=Zav hi11
 obtain ⟨rfl,hi13⟩:=Zbi hi12
 have hi:=hi13
 exact ⟨i2,o2,i3,o3,a21,n21,c21,e21,x22,x23,rfl,hi⟩
def K0 (Q:QT):KT:=andThen (fun env' h'=>(match kp.find 4000010 with | some ks=>Den pg fn.ntmps (C [1,1,1,1]) (env'.keep ks) h' (KR Q) | none=>den pg fn.ntmps kp (C [1,1,1,1]) env' h' (KR Q))) (KR Q)
def K1 (Q:QT):KT:=Zcl 0 (K0 Q)
def K2 (Q:QT):KT:=left kp 6 (K1 Q)
def K3 (Q:QT) (R6:T6):KT:=rnd ((kp.find 1000006).getD []) (E6 R6) (K2 Q)
def J5 (Q:QT) (i1 o1 i2 o2 i3 o3:Nat) (h:Zaa):Prop:=Den pg fn.ntmps (C [1,1,1]) [(1,.ptr (i1,o1)),(2,.ptr (i2,o2)),(3,.ptr (i3,o3))] h (KR Q)
def L6 (Q:QT) (i2 o2 i3 o3:Nat) (a21:Pt) (n21 c21:Nat) (e21:Bool) (x22 x23:Int) (h:Zaa):Prop:=Zdz (Den pg fn.ntmps (C [1,1,1,0,1,0,0])) ((kp.find 1000006).getD []) (K2 Q) [(2,.ptr (i2,o2)),(3,.ptr (i3,o3)),(21,.slice a21 n21 c21 e21),(22,.int .i64 x22),(23,.int .i64 x23)] h
def Ymp (Q:QT) (i3 o3 i2 o2:Nat) (h:Zaa):Prop:=At (K1 Q) (.exit 0) [(3,.ptr (i3,o3)),(2,.ptr (i2,o2))] h
theorem J5i (Q:QT) (i1 o1 i2 o2 i3 o3:Nat) (h:Zaa) (ht :
 xSl (Zad h (.ptr (i1,o1 + 1))) fun A B C D=>L6 Q i2 o2 i3 o3 A B C D (((B:Nat):Int)) 0 h):J5 Q i1 o1 i2 o2 i3 o3 h:=
 Zbb (kp:=kp) (cast (by kernel_rfl) ht)
def L6t (Q:QT) (R6:T6) (i2 o2 i3 o3:Nat) (a21:Pt) (n21 c21:Nat) (e21:Bool) (x22 x23:Int) (h:Zaa):Prop:=
 bcase (decide ((x23:Int) < x22)) ((0≤(x23:Int)∧(x23:Int) < (n21:Nat))∧(Zba a21 fun A B=>Zcs (Zbf h (.ptr (A,B + (Int.toNat x23) * 2)) 2) fun A=>Zaj A fun A B=>Zci .u8 A fun A=>Zaj B fun B C=>xSl B fun B D E F=>Zcf C (Zcy (h ++ [.cells Zab [.int .u8 0,.slice none 0 0 true] false]) fun C=>Zch (Zbe C (.ptr (h.length,0)) [.int .u8 A,.slice B D E F]) fun A=>xSl (Zad A (.ptr (i3,o3 + 1))) fun B C D E=>Zcs (Zbf A (.ptr (h.length,0)) 2) fun F=>Zaj F fun F G=>Zci .u8 F fun F=>Zaj G fun G H=>xSl G fun G I J K=>Zcf H ((Zad A (.ptr (i3,o3 + 1))=Zad A (.ptr (i3,o3 + 1)))∧Zae pg Zif [.agg [.int .u8 F,.slice G I J K]] A fun F G=>
 Zrs F fun F=>Zaj F fun F H=>Zci .u8 F fun F=>Zaj H fun H I=>xSl H fun H J K L=>Zcf I ((Zad G (.ptr (i3,o3 + 1))=Zad A (.ptr (i3,o3 + 1)))∧Zcy (G ++ [.cells Zab [.int .u8 F,.slice H J K L] false]) fun A=>(Zad A (.ptr (i3,o3 + 1))=Zad G (.ptr (i3,o3 + 1)))∧Zdp pg Zgi A (.slice B C D E) (.slice (G.length,0) 1 1 true) fun A B=>xSl A fun A C D E=>Zch (Zbe B (.ptr (i3,o3 + 1)) [.slice A C D E]) fun A=>R6 i2 o2 i3 o3 a21 n21 c21 e21 x22 (IntKind.wrap .i64 (x23 + 1)) A))))) (Ymp Q i3 o3 i2 o2 h)
theorem Ycu (Q:QT) (R6:T6) (i2 o2 i3 o3:Nat) (a21:Pt) (n21 c21:Nat) (e21:Bool) (x22 x23:Int) (h:Zaa) (ht:L6t Q R6 i2 o2 i3 o3 a21 n21 c21 e21 x22 x23 h):Den pg fn.ntmps (C [1,1,1,0,1,0,0]) [(2,.ptr (i2,o2)),(3,.ptr (i3,o3)),(21,.slice a21 n21 c21 e21),(22,.int .i64 x22),(23,.int .i64 x23)] h (K3 Q R6):=
 Zbb (kp:=kp) (cast (by kernel_rfl) ht)
theorem L6ind (Q:QT) (i2 o2 i3 o3:Nat) (a21:Pt) (n21 c21:Nat) (e21:Bool) (x22:Int) {G:Type} (J:G→Int→Zaa→Prop) (m:G→Nat)
 (hr:∀ (g:G) (x23:Int) (h:Zaa),J g x23 h→∀ (R6:T6),(∀ g' (x23:Int) (h:Zaa),m g' < m g→J g' x23 h→R6 i2 o2 i3 o3 a21 n21 c21 e21 x22 x23 h)→L6t Q R6 i2 o2 i3 o3 a21 n21 c21 e21 x22 x23 h)
 (g:G) (x23:Int) (h:Zaa) (hj:J g x23 h):L6 Q i2 o2 i3 o3 a21 n21 c21 e21 x22 x23 h:=by
 let P:=fun (K:Int→Zaa→Prop) i2' o2' i3' o3' a21' n21' c21' e21' x22' x23 h=>i2=i2'∧o2=o2'∧i3=i3'∧o3=o3'∧a21=a21'∧n21=n21'∧c21=c21'∧e21=e21'∧x22=x22'∧K x23 h
 refine Zdz.inv2 (fun g=>E6 (P (J g))) (fun g=>E6 (P fun x23 h=>∃ g',m g' < m g∧J g' x23 h)) m ?_ ?_ g ⟨rfl,rfl,rfl,rfl,rfl,rfl,rfl,rfl,rfl,hj⟩
 ·intro g env h hi
  obtain ⟨i2',o2',i3',o3',a21',n21',c21',e21',x22',x23,rfl,rfl,rfl,rfl,rfl,rfl,rfl,rfl,rfl,rfl,hj⟩:=Zol hi
  exact Ycu Q _ i2 o2 i3 o3 a21 n21 c21 e21 x22 x23 h (hr g x23 h hj (P fun x23 h=>∃ g',m g' < m g∧J g' x23 h) fun g' x23 h hlt hj=>⟨rfl,rfl,rfl,rfl,rfl,rfl,rfl,rfl,rfl,g',hlt,hj⟩)
 ·intro g env h hi
  obtain ⟨i2',o2',i3',o3',a21',n21',c21',e21',x22',x23,rfl,rfl,rfl,rfl,rfl,rfl,rfl,rfl,rfl,rfl,g',hlt,hj⟩:=Zol hi
  exact ⟨g',hlt,rfl,rfl,rfl,rfl,rfl,rfl,rfl,rfl,rfl,hj⟩
theorem A6x0i (Q:QT) (i3 o3 i2 o2:Nat) (h:Zaa) (ht :
 Zcs (Zbf h (.ptr (i3,o3)) 2) fun A=>Zaj A fun A B=>Zci .u8 A fun A=>Zaj B fun B C=>xSl B fun B D E F=>Zcf C (Zch (Zbe h (.ptr (i2,o2)) [.int .u8 A,.slice B D E F]) fun A=>Zcs (Zbf A (.ptr (i2,o2)) 2) fun B=>Zaj B fun B C=>Zci .u8 B fun B=>Zaj C fun C D=>xSl C fun C E F G=>Zcf D (Q (.agg [.int .u8 B,.slice C E F G]) A))):Ymp Q i3 o3 i2 o2 h:=
 At.mk (cast (by kernel_rfl) ht)
theorem call (x0x0:Int) (a0x1:Pt) (n0x1 c0x1:Nat) (e0x1:Bool) (h:Zaa) (Q:QT) (ht :
 Zcy (h ++ [.cells Zab [.int .u8 x0x0,.slice a0x1 n0x1 c0x1 e0x1] false]) fun A=>Zcy (A ++ [.cells Zab [.int .u8 0,.slice none 0 0 true] false]) fun B=>Zci .u8 (Zad B (.ptr (h.length,0 + 0))) fun C=>Zcy (B ++ [.cells Zab [] false]) fun D=>Zcy (D ++ [.cells Zab [.int .u8 0,.slice none 0 0 true] false]) fun E=>Zch (Zbe E (.ptr (D.length,0)) [.int .u8 C,.slice (B.length,0) 0 0 true]) fun B=>Zci .u8 (Zad B (.ptr (h.length,0 + 0))) fun C=>Zae pg Zeo [.int .u8 C] B fun B C=>
 Zci .i64 B fun B=>bcase (decide ((B:Int) ≥ 0)) (Zjy ([88,89,90,120,121,122,49,50,51,52,53,54]) (IntKind.wrap .i64 (B + 6)) fun B=>Zch (Zbe C (.ptr (D.length,0 + 0)) [.int .u8 (((B:Nat):Int))]) fun B=>J5 Q h.length 0 A.length 0 D.length 0 B) (J5 Q h.length 0 A.length 0 D.length 0 C)):Zae pg Zif [.agg [.int .u8 x0x0,.slice a0x1 n0x1 c0x1 e0x1]] h Q:=
 Zae.of_body kp (c:=cod fn) (fn:=fn) Go.Proofs.Tryz.func105 (by kernel_rfl) (by kernel_rfl) (Nat.le_of_ble_eq_true (by kernel_rfl))
  (cast (by kernel_rfl) ht)
end Zee
end Go.Sim
