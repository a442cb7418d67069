/- A part of the proof of a statement of this seat: see the text that holds the theorem. No condition. -/
import Derived.Test.YtdglddliggejdaaGreatNm
set_option linter.unusedVariables false
set_option linter.unusedSimpArgs false
set_option linter.all false
set_option maxRecDepth 100000
set_option maxHeartbeats 0
set_option linter.unusedVariables false
namespace Go.Sim
open Go Go.RowKit
namespace Zdd
noncomputable abbrev fn:Func:=Go.Proofs.Tryz.f44
def kp:Zcu:=[(4000004,[0,6]),(3000006,[8,6]),(1000006,[6,8,26,27,28]),(2000008,[28,27,26,8,6])]
noncomputable def C (p:List Nat):Code:=(cod fn).sub p
def KR (Q:QT):KT:=Zha pg fn.results.toList Q
abbrev T6:=Nat→Nat→Nat→Nat→Pt→Nat→Nat→Bool→Int→Int→Zaa→Prop
def E6 (R6:T6) (env:Env) (h:Zaa):Prop:=Zcd 6 env fun v env=>Zep v fun a=>Zax a fun i6 o6=>Zcd 8 env fun v env=>Zep v fun a=>Zax a fun i8 o8=>Zcd 26 env fun v env=>xSl v fun a26 n26 c26 e26=>Zcd 27 env fun v env=>Zgj .i64 v fun x27=>Zcd 28 env fun v env=>Zgj .i64 v fun x28=>Znc env (R6 i6 o6 i8 o8 a26 n26 c26 e26 x27 x28 h)
theorem Ziw {R6:T6} {env:Env} {h:Zaa} (hi:E6 R6 env h):∃ i6,∃ o6,∃ i8,∃ o8,∃ a26,∃ n26,∃ c26,∃ e26,∃ x27,∃ x28,env=[(6,.ptr (i6,o6)),(8,.ptr (i8,o8)),(26,.slice a26 n26 c26 e26),(27,.int .i64 x27),(28,.int .i64 x28)]∧R6 i6 o6 i8 o8 a26 n26 c26 e26 x27 x28 h:=by
 unfold E6 at hi
 have hi0:=hi
 clear hi
 obtain ⟨_,_,rfl,hi1⟩:=Zaj hi0
 obtain ⟨a,rfl,hi2⟩:=Zbk hi1
 obtain ⟨i6,o6,rfl,hi3⟩:=Zbm hi2
 obtain ⟨_,_,rfl,hi4⟩:=Zaj hi3
 obtain ⟨a,rfl,hi5⟩:=Zbk hi4
 obtain ⟨i8,o8,rfl,hi6⟩:=Zbm hi5
 obtain ⟨_,_,rfl,hi7⟩:=Zaj hi6
 obtain ⟨a26,n26,c26,e26,rfl,hi8⟩:=Zcy hi7
 obtain ⟨_,_,rfl,hi9⟩:=Zaj hi8
 obtain ⟨x27,rfl,hi10⟩:=Zbd hi9
 obtain ⟨_,_,rfl,hi11⟩:=Zaj hi10
 obtain ⟨x28,rfl,hi12⟩:=Zbd hi11
 obtain ⟨rfl,hi13⟩:=Zbq hi12
 have hi:=hi13
 exact ⟨i6,o6,i8,o8,a26,n26,c26,e26,x27,x28,rfl,hi⟩
def K0 (Q:QT):KT:=andThen (fun env' h'=>(match kp.find 4000010 with | some ks=>Den pg fn.ntmps (C [1,1,1,1,1]) (env'.keep ks) h' (KR Q) | none=>den pg fn.ntmps kp (C [1,1,1,1,1]) env' h' (KR Q))) (KR Q)
def K1 (Q:QT):KT:=Zdj 0 (K0 Q)
def K2 (Q:QT):KT:=left kp 6 (K1 Q)
def K3 (Q:QT) (R6:T6):KT:=rnd ((kp.find 1000006).getD []) (E6 R6) (K2 Q)
def J4 (Q:QT) (a0:Pt) (n0 c0:Nat) (e0:Bool) (i6 o6:Nat) (h:Zaa):Prop:=Den pg fn.ntmps (C [1,1,1]) [(0,.slice a0 n0 c0 e0),(6,.ptr (i6,o6))] h (KR Q)
def L6 (Q:QT) (i6 o6 i8 o8:Nat) (a26:Pt) (n26 c26:Nat) (e26:Bool) (x27 x28:Int) (h:Zaa):Prop:=Zfy (Den pg fn.ntmps (C [1,1,1,1,0,1,0,0])) ((kp.find 1000006).getD []) (K2 Q) [(6,.ptr (i6,o6)),(8,.ptr (i8,o8)),(26,.slice a26 n26 c26 e26),(27,.int .i64 x27),(28,.int .i64 x28)] h
def Zzt (Q:QT) (i8 o8 i6 o6:Nat) (h:Zaa):Prop:=At (K1 Q) (.exit 0) [(8,.ptr (i8,o8)),(6,.ptr (i6,o6))] h
theorem J4i (Q:QT) (a0:Pt) (n0 c0:Nat) (e0:Bool) (i6 o6:Nat) (h:Zaa) (ht :
 Zeg (h ++ [.cells Zbe [.int .u8 0,.slice none 0 0 true,.int .u8 0,.slice none 0 0 true,.int .u8 0,.slice none 0 0 true,.int .u8 0,.slice none 0 0 true,.int .u8 0,.slice none 0 0 true,.int .u8 0,.slice none 0 0 true,.int .u8 0,.slice none 0 0 true,.int .u8 0,.slice none 0 0 true,.int .u8 0,.slice none 0 0 true,.int .u8 0,.slice none 0 0 true,.int .u8 0,.slice none 0 0 true,.int .u8 0,.slice none 0 0 true] false]) fun A=>L6 Q i6 o6 h.length 0 a0 n0 c0 e0 (((n0:Nat):Int)) 0 A):J4 Q a0 n0 c0 e0 i6 o6 h:=
 Zbb (kp:=kp) (cast (by kernel_rfl) ht)
def L6t (Q:QT) (R6:T6) (i6 o6 i8 o8:Nat) (a26:Pt) (n26 c26:Nat) (e26:Bool) (x27 x28:Int) (h:Zaa):Prop:=
 bcase (decide ((x28:Int) < x27)) ((0≤(x28:Int)∧(x28:Int) < (n26:Nat))∧(Zax a26 fun A B=>Zdg (Zcv h (.ptr (A,B + (Int.toNat x28) * 2)) 2) fun A=>Zai A fun A B=>Zck A fun A=>Zai B fun B C=>Zck B fun B=>Zcg C (Zeg (h ++ [.cells Zaq [.str [],.str []] false]) fun C=>Zcc (Zbf C (.ptr (h.length,0)) [.str A,.str B]) fun A=>Zck (Zah A (.ptr (h.length,0 + 0))) fun B=>Ztb B 0 fun B=>Zck (Zah A (.ptr (h.length,0 + 1))) fun C=>Zac pg Zdu [.int .u8 (((B:Nat):Int))] A fun B D=>
 Zbo .i64 B fun B=>(Zah D (.ptr (h.length,0 + 1))=Zah A (.ptr (h.length,0 + 1)))∧(Zah D (.ptr (h.length,0 + 0))=Zah A (.ptr (h.length,0 + 0)))∧Zac pg Zds [.str C] D fun A C=>
 Zmb A fun A=>Zai A fun A E=>Zqb A fun A=>Zai A fun A F=>Zbo .u8 A fun A=>Zai F fun F G=>xSl F fun F H I J=>Zcg G (Zai E fun E G=>Zbh E fun E=>Zcg G ((Zah C (.ptr (h.length,0 + 0))=Zah D (.ptr (h.length,0 + 0)))∧(0≤(B:Int)∧(B:Int) < (12:Nat))∧(Zcc (Zbf C (.ptr (i8,o8 + (Int.toNat B) * 2)) [.int .u8 A,.slice F H I J]) fun A=>R6 i6 o6 i8 o8 a26 n26 c26 e26 x27 (IntKind.wrap .i64 (x28 + 1)) A)))))) (Zzt Q i8 o8 i6 o6 h)
theorem Zum (Q:QT) (R6:T6) (i6 o6 i8 o8:Nat) (a26:Pt) (n26 c26:Nat) (e26:Bool) (x27 x28:Int) (h:Zaa) (ht:L6t Q R6 i6 o6 i8 o8 a26 n26 c26 e26 x27 x28 h):Den pg fn.ntmps (C [1,1,1,1,0,1,0,0]) [(6,.ptr (i6,o6)),(8,.ptr (i8,o8)),(26,.slice a26 n26 c26 e26),(27,.int .i64 x27),(28,.int .i64 x28)] h (K3 Q R6):=
 Zbb (kp:=kp) (cast (by kernel_rfl) ht)
theorem L6ind (Q:QT) (i6 o6 i8 o8:Nat) (a26:Pt) (n26 c26:Nat) (e26:Bool) (x27:Int) {G:Type} (J:G→Int→Zaa→Prop) (m:G→Nat)
 (hr:∀ (g:G) (x28:Int) (h:Zaa),J g x28 h→∀ (R6:T6),(∀ g' (x28:Int) (h:Zaa),m g' < m g→J g' x28 h→R6 i6 o6 i8 o8 a26 n26 c26 e26 x27 x28 h)→L6t Q R6 i6 o6 i8 o8 a26 n26 c26 e26 x27 x28 h)
 (g:G) (x28:Int) (h:Zaa) (hj:J g x28 h):L6 Q i6 o6 i8 o8 a26 n26 c26 e26 x27 x28 h:=by
 let P:=fun (K:Int→Zaa→Prop) i6' o6' i8' o8' a26' n26' c26' e26' x27' x28 h=>i6=i6'∧o6=o6'∧i8=i8'∧o8=o8'∧a26=a26'∧n26=n26'∧c26=c26'∧e26=e26'∧x27=x27'∧K x28 h
 refine Zfy.inv2 (fun g=>E6 (P (J g))) (fun g=>E6 (P fun x28 h=>∃ g',m g' < m g∧J g' x28 h)) m ?_ ?_ g ⟨rfl,rfl,rfl,rfl,rfl,rfl,rfl,rfl,rfl,hj⟩
 ·intro g env h hi
  obtain ⟨i6',o6',i8',o8',a26',n26',c26',e26',x27',x28,rfl,rfl,rfl,rfl,rfl,rfl,rfl,rfl,rfl,rfl,hj⟩:=Ziw hi
  exact Zum Q _ i6 o6 i8 o8 a26 n26 c26 e26 x27 x28 h (hr g x28 h hj (P fun x28 h=>∃ g',m g' < m g∧J g' x28 h) fun g' x28 h hlt hj=>⟨rfl,rfl,rfl,rfl,rfl,rfl,rfl,rfl,rfl,g',hlt,hj⟩)
 ·intro g env h hi
  obtain ⟨i6',o6',i8',o8',a26',n26',c26',e26',x27',x28,rfl,rfl,rfl,rfl,rfl,rfl,rfl,rfl,rfl,rfl,g',hlt,hj⟩:=Ziw hi
  exact ⟨g',hlt,rfl,rfl,rfl,rfl,rfl,rfl,rfl,rfl,rfl,hj⟩
theorem A6x0i (Q:QT) (i8 o8 i6 o6:Nat) (h:Zaa) (ht :
 Zdg (Zcv h (.ptr (i6,o6)) 2) fun A=>Zai A fun A B=>Zbo .u8 A fun A=>Zai B fun B C=>xSl B fun B D E F=>Zcg C (Zac pg Zhk [.ptr (i8,o8),.agg [.int .u8 A,.slice B D E F]] h fun A B=>
 Zqb A fun A=>Zai A fun A C=>Zbo .u8 A fun A=>Zai C fun C D=>xSl C fun C E F G=>Zcg D (Zeg (B ++ [.cells Zab [.int .u8 0,.slice none 0 0 true] false]) fun D=>Zcc (Zbf D (.ptr (B.length,0)) [.int .u8 A,.slice C E F G]) fun A=>Zdg (Zcv A (.ptr (B.length,0)) 2) fun C=>Zai C fun C D=>Zbo .u8 C fun C=>Zai D fun D E=>xSl D fun D F G H=>Zcg E (Zac pg Zek [.agg [.int .u8 C,.slice D F G H]] A fun A C=>
 Zbo .i64 A fun A=>bcase (decide ((A:Int) > 60)) (Q (.tup [.str [],.bool false]) C) (Zdg (Zcv C (.ptr (B.length,0)) 2) fun A=>Zai A fun A B=>Zbo .u8 A fun A=>Zai B fun B D=>xSl B fun B E F G=>Zcg D (Zac pg Zfr [.agg [.int .u8 A,.slice B E F G]] C fun A B=>
 Zck A fun A=>Q (.tup [.str A,.bool true]) B)))))):Zzt Q i8 o8 i6 o6 h:=
 At.mk (cast (by kernel_rfl) ht)
theorem call (a0:Pt) (n0 c0:Nat) (e0:Bool) (x1:List Nat) (h:Zaa) (Q:QT) (ht :
 Zac pg Zds [.str x1] h fun A B=>
 Zmb A fun A=>Zai A fun A C=>Zqb A fun A=>Zai A fun A D=>Zbo .u8 A fun A=>Zai D fun D E=>xSl D fun D F G H=>Zcg E (Zai C fun C E=>Zbh C fun C=>Zcg E (Zeg (B ++ [.cells Zab [.int .u8 0,.slice none 0 0 true] false]) fun E=>Zcc (Zbf E (.ptr (B.length,0)) [.int .u8 A,.slice D F G H]) fun A=>bcase (!C) (Q (.tup [.str [],.bool false]) A) (Zac pg Zfw [.slice a0 n0 c0 e0] A fun A C=>
 Zbh A fun A=>bcase (!A) (Q (.tup [.str [],.bool false]) C) (J4 Q a0 n0 c0 e0 B.length 0 C))))):Zac pg Zfx [.slice a0 n0 c0 e0,.str x1] h Q:=
 Zac.of_body kp (c:=cod fn) (fn:=fn) Go.Proofs.Tryz.func44 (by kernel_rfl) (by kernel_rfl) (Nat.le_of_ble_eq_true (by kernel_rfl))
  (cast (by kernel_rfl) ht)
end Zdd
end Go.Sim

set_option maxRecDepth 100000
set_option maxHeartbeats 0
set_option linter.unusedVariables false
namespace Go.Sim
open Go Go.RowKit
end Go.Sim

set_option maxRecDepth 100000
set_option maxHeartbeats 0
set_option linter.unusedVariables false
namespace Go.Sim
open Go Go.RowKit
end Go.Sim

set_option maxRecDepth 100000
set_option maxHeartbeats 0
set_option linter.unusedVariables false
namespace Go.Sim
open Go Go.RowKit
namespace Zcj
noncomputable abbrev fn:Func:=Go.Proofs.Tryz.f7
def kp:Zcu:=[(4000003,[0,1]),(4000007,[6]),(3000009,[9,4,5]),(1000009,[9,40])]
noncomputable def C (p:List Nat):Code:=(cod fn).sub p
def KR (Q:QT):KT:=Zha pg fn.results.toList Q
abbrev T9:=Option Nat→Nat→Zaa→Prop
def E9 (R9:T9) (env:Env) (h:Zaa):Prop:=Zcd 9 env fun v env=>Zwy v fun m9=>Zcd 40 env fun v env=>Yix v fun r40=>Znc env (R9 m9 r40 h)
theorem Zwh {R9:T9} {env:Env} {h:Zaa} (hi:E9 R9 env h):∃ m9,∃ r40,env=[(9,.map m9),(40,.iter r40)]∧R9 m9 r40 h:=by
 unfold E9 at hi
 have hi0:=hi
 clear hi
 obtain ⟨_,_,rfl,hi1⟩:=Zaj hi0
 obtain ⟨m9,rfl,hi2⟩:=Zlt hi1
 obtain ⟨_,_,rfl,hi3⟩:=Zaj hi2
 obtain ⟨r40,rfl,hi4⟩:=Ybf hi3
 obtain ⟨rfl,hi5⟩:=Zbq hi4
 have hi:=hi5
 exact ⟨m9,r40,rfl,hi⟩
def K0 (Q:QT):KT:=andThen (fun env' h'=>(match kp.find 4000016 with | some ks=>Den pg fn.ntmps (C [1,1,1,1,1,1,1]) (env'.keep ks) h' (KR Q) | none=>den pg fn.ntmps kp (C [1,1,1,1,1,1,1]) env' h' (KR Q))) (KR Q)
def K1 (Q:QT):KT:=Zdj 0 (K0 Q)
def K2 (Q:QT):KT:=left kp 9 (K1 Q)
def K3 (Q:QT) (R9:T9):KT:=rnd ((kp.find 1000009).getD []) (E9 R9) (K2 Q)
def J3 (Q:QT) (x0 x1:List Nat) (h:Zaa):Prop:=Den pg fn.ntmps (C [1,1]) [(0,.str x0),(1,.str x1)] h (KR Q)
def J7 (Q:QT) (m6:Option Nat) (h:Zaa):Prop:=Den pg fn.ntmps (C [1,1,1,1,1]) [(6,.map m6)] h (KR Q)
def L9 (Q:QT) (m9:Option Nat) (r40:Nat) (h:Zaa):Prop:=Zfy (Den pg fn.ntmps (C [1,1,1,1,1,1,0,1,0,0])) ((kp.find 1000009).getD []) (K2 Q) [(9,.map m9),(40,.iter r40)] h
def A9x0 (Q:QT) (m9:Option Nat) (h:Zaa):Prop:=At (K1 Q) (.exit 0) [(9,.map m9),(4,.undef),(5,.undef)] h
theorem J3i (Q:QT) (x0 x1:List Nat) (h:Zaa) (ht :
 Zeg (h ++ [.map [] 0]) fun A=>Zac pg Zja [.str x0,.map ((some h.length))] A fun A B=>
 Zep A fun A=>Zac pg Zja [.str x1,.map ((some h.length))] B fun B C=>
 Zep B fun B=>Zac pg Ziu [.ptr A,.ptr B] C fun B C=>
 Zbh B fun B=>bcase (!B) (Q (.tup [.slice none 0 0 true,.bool false]) C) (Zac pg Zho [.ptr A] C fun A B=>
 Zbh A fun A=>bcase (!A) (Q (.tup [.slice none 0 0 true,.bool false]) B) (J7 Q ((some h.length)) B))):J3 Q x0 x1 h:=
 Zbb (kp:=kp) (cast (by kernel_rfl) ht)
theorem J7i (Q:QT) (m6:Option Nat) (h:Zaa) (ht :
 Zeg (h ++ [.map [] 0]) fun A=>Zbv A m6 fun es_20 k_21=>Zeg (A ++ [.miter m6 (Yle m6 k_21) [] (Yle m6 k_21)]) fun B=>L9 Q ((some h.length)) A.length B):J7 Q m6 h:=
 Zbb (kp:=kp) (cast (by kernel_rfl) ht)
def L9t (Q:QT) (R9:T9) (m9:Option Nat) (r40:Nat) (h:Zaa):Prop:=
 Zms h r40 fun m_23 A z_25 B=>Yjx m_23 (A9x0 Q m9 h) (Zbv h m_23 fun es_27 k_28=>((∀ e∈es_27,e.2.2 < A)∧A≤B)∧((∀ e∈es_27,e.2.2∈z_25)→A9x0 Q m9 h)∧∀ B∈es_27,B.2.2 ∉ z_25→Zsq (some B.1) fun C=>Zsq (some B.2.1) fun C=>Zeg (List.set h r40 (.miter m_23 A (z_25 ++ [B.2.2]) k_28)) fun A=>Zms A r40 fun m_33 B z_36 B=>xMp m_33 fun C=>Zbv A (some C) fun es_38 k_39=>((List.map (fun (e:ME)=>e.2.2) es_38).Nodup∧k_39=B)∧∃ B∈es_38,∃ z_41,z_36=z_41 ++ [B.2.2]∧Zsq (some B.1) fun C=>Zsq (some B.2.1) fun B=>Zac pg Zdx [B] A fun A D=>
 Zep A fun A=>Zep B fun E=>Zog D A E fun A=>bcase A (R9 m9 r40 D) (Zac pg Zgd [B,.fn Zox []] D fun A B=>
 Zmb A fun A=>Zai A fun A D=>Zck A fun A=>Zai D fun D E=>Zbh D fun D=>Zcg E (bcase (!D) (Q (.tup [.slice none 0 0 true,.bool false]) B) (xMp m9 fun D=>Zck C fun C=>Zbv B (some D) fun es_60 k_61=>Zzv es_60 k_61 C (.str A) fun es_62 k_63=>Zeg (List.set B D (.map es_62 k_63)) fun A=>R9 m9 r40 A))))
theorem Yjt (Q:QT) (R9:T9) (m9:Option Nat) (r40:Nat) (h:Zaa) (ht:L9t Q R9 m9 r40 h):Den pg fn.ntmps (C [1,1,1,1,1,1,0,1,0,0]) [(9,.map m9),(40,.iter r40)] h (K3 Q R9):=
 Zbb (kp:=kp) (cast (by kernel_rfl) ht)
theorem L9ind (Q:QT) (m9:Option Nat) (r40:Nat) {G:Type} (J:G→Zaa→Prop) (m:G→Nat)
 (hr:∀ (g:G) (h:Zaa),J g  h→∀ (R9:T9),(∀ g' (h:Zaa),m g' < m g→J g'  h→R9 m9 r40 h)→L9t Q R9 m9 r40 h)
 (g:G) (h:Zaa) (hj:J g  h):L9 Q m9 r40 h:=by
 let P:=fun (K:Zaa→Prop) m9' r40' h=>m9=m9'∧r40=r40'∧K  h
 refine Zfy.inv2 (fun g=>E9 (P (J g))) (fun g=>E9 (P fun  h=>∃ g',m g' < m g∧J g'  h)) m ?_ ?_ g ⟨rfl,rfl,hj⟩
 ·intro g env h hi
  obtain ⟨m9',r40',rfl,rfl,rfl,hj⟩:=Zwh hi
  exact Yjt Q _ m9 r40 h (hr g  h hj (P fun  h=>∃ g',m g' < m g∧J g'  h) fun g'  h hlt hj=>⟨rfl,rfl,g',hlt,hj⟩)
 ·intro g env h hi
  obtain ⟨m9',r40',rfl,rfl,rfl,g',hlt,hj⟩:=Zwh hi
  exact ⟨g',hlt,rfl,rfl,hj⟩
theorem A9x0i (Q:QT) (m9:Option Nat) (h:Zaa) (ht :
 Zac pg Zgs [.map m9] h fun A B=>
 xSl A fun A C D E=>Q (.tup [.slice A C D E,.bool true]) B):A9x0 Q m9 h:=
 At.mk (cast (by kernel_rfl) ht)
theorem call (x0 x1:List Nat) (h:Zaa) (Q:QT) (ht :
 Zac pg Zdl [.str x0] h fun A B=>
 Zbh A fun A=>bcase (!A) (Q (.tup [.slice none 0 0 true,.bool false]) B) (Zac pg Zdl [.str x1] B fun A B=>
 Zbh A fun A=>bcase (!A) (Q (.tup [.slice none 0 0 true,.bool false]) B) (J3 Q x0 x1 B))):Zac pg Zem [.str x0,.str x1] h Q:=
 Zac.of_body kp (c:=cod fn) (fn:=fn) Go.Proofs.Tryz.func7 (by kernel_rfl) (by kernel_rfl) (Nat.le_of_ble_eq_true (by kernel_rfl))
  (cast (by kernel_rfl) ht)
end Zcj
namespace Znv
noncomputable abbrev fn:Func:=Go.Proofs.Tryz.f9
def kp:Zcu:=[]
noncomputable def C (p:List Nat):Code:=(cod fn).sub p
def KR (Q:QT):KT:=Zha pg fn.results.toList Q
theorem call (x0 x1:List Nat) (h:Zaa) (Q:QT) (ht :
 Zac pg Zem [.str x0,.str x1] h fun A B=>
 Zmb A fun A=>Zai A fun A C=>xSl A fun A D E F=>Zai C fun C G=>Zbh C fun C=>Zcg G (bcase (!C) (Q (.tup [.str [],.bool false]) B) (Zac pg Zdn [.slice A D E F,.str x0] B fun A B=>
 Zmb A fun A=>Zai A fun A C=>Zck A fun A=>Zai C fun C D=>Zbh C fun C=>Zcg D (Q (.tup [.str A,.bool C]) B)))):Zac pg Zjw [.str x0,.str x1] h Q:=
 Zac.of_body kp (c:=cod fn) (fn:=fn) Go.Proofs.Tryz.func9 (by kernel_rfl) (by kernel_rfl) (Nat.le_of_ble_eq_true (by kernel_rfl))
  (cast (by kernel_rfl) ht)
end Znv
end Go.Sim

set_option maxRecDepth 100000
set_option maxHeartbeats 0
set_option linter.unusedVariables false
namespace Go.Sim
open Go Go.RowKit
namespace Zpu
noncomputable abbrev fn:Func:=Go.Proofs.Tryz.f34
def kp:Zcu:=[]
noncomputable def C (p:List Nat):Code:=(cod fn).sub p
def KR (Q:QT):KT:=Zha pg fn.results.toList Q
theorem call (x0:List Nat) (m1:Option Nat) (h:Zaa) (Q:QT) (ht :
 Zac pg Zfj [.str x0] h fun A B=>
 Zmb A fun A=>Zai A fun A C=>Zep A fun A=>Zai C fun C D=>Zck C fun C=>Zcg D (Zac pg Zfo [.ptr A,.map m1] B fun A B=>
 Zep A fun A=>Q (.ptr A) B)):Zac pg Zja [.str x0,.map m1] h Q:=
 Zac.of_body kp (c:=cod fn) (fn:=fn) Go.Proofs.Tryz.func34 (by kernel_rfl) (by kernel_rfl) (Nat.le_of_ble_eq_true (by kernel_rfl))
  (cast (by kernel_rfl) ht)
end Zpu
end Go.Sim

set_option maxRecDepth 100000
set_option maxHeartbeats 0
set_option linter.unusedVariables false
namespace Go.Sim
open Go Go.RowKit
namespace Zdh
noncomputable abbrev fn:Func:=Go.Proofs.Tryz.f74
def kp:Zcu:=[(2000003,[1,0]),(4000004,[1,0]),(3000007,[5]),(1000007,[1,5,46,47,48]),(2000009,[48,47,46,5,1])]
noncomputable def C (p:List Nat):Code:=(cod fn).sub p
def KR (Q:QT):KT:=Zha pg fn.results.toList Q
abbrev T7:=Option Nat→Nat→Nat→Pt→Nat→Nat→Bool→Int→Int→Zaa→Prop
def E7 (R7:T7) (env:Env) (h:Zaa):Prop:=Zcd 1 env fun v env=>Zwy v fun m1=>Zcd 5 env fun v env=>Zep v fun a=>Zax a fun i5 o5=>Zcd 46 env fun v env=>xSl v fun a46 n46 c46 e46=>Zcd 47 env fun v env=>Zgj .i64 v fun x47=>Zcd 48 env fun v env=>Zgj .i64 v fun x48=>Znc env (R7 m1 i5 o5 a46 n46 c46 e46 x47 x48 h)
theorem Zvg {R7:T7} {env:Env} {h:Zaa} (hi:E7 R7 env h):∃ m1,∃ i5,∃ o5,∃ a46,∃ n46,∃ c46,∃ e46,∃ x47,∃ x48,env=[(1,.map m1),(5,.ptr (i5,o5)),(46,.slice a46 n46 c46 e46),(47,.int .i64 x47),(48,.int .i64 x48)]∧R7 m1 i5 o5 a46 n46 c46 e46 x47 x48 h:=by
 unfold E7 at hi
 have hi0:=hi
 clear hi
 obtain ⟨_,_,rfl,hi1⟩:=Zaj hi0
 obtain ⟨m1,rfl,hi2⟩:=Zlt hi1
 obtain ⟨_,_,rfl,hi3⟩:=Zaj hi2
 obtain ⟨a,rfl,hi4⟩:=Zbk hi3
 obtain ⟨i5,o5,rfl,hi5⟩:=Zbm hi4
 obtain ⟨_,_,rfl,hi6⟩:=Zaj hi5
 obtain ⟨a46,n46,c46,e46,rfl,hi7⟩:=Zcy hi6
 obtain ⟨_,_,rfl,hi8⟩:=Zaj hi7
 obtain ⟨x47,rfl,hi9⟩:=Zbd hi8
 obtain ⟨_,_,rfl,hi10⟩:=Zaj hi9
 obtain ⟨x48,rfl,hi11⟩:=Zbd hi10
 obtain ⟨rfl,hi12⟩:=Zbq hi11
 have hi:=hi12
 exact ⟨m1,i5,o5,a46,n46,c46,e46,x47,x48,rfl,hi⟩
def K0 (Q:QT):KT:=andThen (fun env' h'=>(match kp.find 4000005 with | some ks=>Den pg fn.ntmps (C [1,1]) (env'.keep ks) h' (KR Q) | none=>den pg fn.ntmps kp (C [1,1]) env' h' (KR Q))) (KR Q)
def K1 (Q:QT):KT:=andThen (fun env' h'=>(match kp.find 4000011 with | some ks=>Den pg fn.ntmps (C [1,1,1,1]) (env'.keep ks) h' (KR Q) | none=>den pg fn.ntmps kp (C [1,1,1,1]) env' h' (KR Q))) (KR Q)
def K2 (Q:QT):KT:=Zdj 0 (K1 Q)
def K3 (Q:QT):KT:=left kp 7 (K2 Q)
def K4 (Q:QT) (R7:T7):KT:=rnd ((kp.find 1000007).getD []) (E7 R7) (K3 Q)
def J4 (Q:QT) (m1:Option Nat) (a0:Pt) (h:Zaa):Prop:=Den pg fn.ntmps (C [1,0,1,0,1]) [(1,.map m1),(0,.ptr a0)] h (K0 Q)
def L7 (Q:QT) (m1:Option Nat) (i5 o5:Nat) (a46:Pt) (n46 c46:Nat) (e46:Bool) (x47 x48:Int) (h:Zaa):Prop:=Zfy (Den pg fn.ntmps (C [1,1,1,0,1,0,0])) ((kp.find 1000007).getD []) (K3 Q) [(1,.map m1),(5,.ptr (i5,o5)),(46,.slice a46 n46 c46 e46),(47,.int .i64 x47),(48,.int .i64 x48)] h
def Ylb (Q:QT) (i5 o5:Nat) (h:Zaa):Prop:=At (K2 Q) (.exit 0) [(5,.ptr (i5,o5))] h
theorem J4i (Q:QT) (m1:Option Nat) (a0:Pt) (h:Zaa) (ht :
 Zax a0 fun A B=>Zck (Zah h (.ptr (A,B + 0))) fun A=>Zbv h m1 fun es_39 k_40=>Znd es_39 A fun A=>Zep (some (Option.getD A (.ptr none))) fun A=>Q (.ptr A) h):J4 Q m1 a0 h:=
 Zbb (kp:=kp) (cast (by kernel_rfl) ht)
def L7t (Q:QT) (R7:T7) (m1:Option Nat) (i5 o5:Nat) (a46:Pt) (n46 c46:Nat) (e46:Bool) (x47 x48:Int) (h:Zaa):Prop:=
 bcase (decide ((x48:Int) < x47)) ((0≤(x48:Int)∧(x48:Int) < (n46:Nat))∧(Zax a46 fun A B=>Zep (Zah h (.ptr (A,B + (Int.toNat x48) * 1))) fun A=>xSl (Zah h (.ptr (i5,o5 + 1))) fun B C D E=>Zac pg Zfo [.ptr A,.map m1] h fun A F=>
 Zep A fun A=>(Zah F (.ptr (i5,o5 + 1))=Zah h (.ptr (i5,o5 + 1)))∧Zeg (F ++ [.cells Zce [.ptr A] false]) fun A=>(Zah A (.ptr (i5,o5 + 1))=Zah F (.ptr (i5,o5 + 1)))∧Zea pg Zil A (.slice B C D E) (.slice (F.length,0) 1 1 true) fun A B=>xSl A fun A C D E=>Zcc (Zbf B (.ptr (i5,o5 + 1)) [.slice A C D E]) fun A=>R7 m1 i5 o5 a46 n46 c46 e46 x47 (IntKind.wrap .i64 (x48 + 1)) A)) (Ylb Q i5 o5 h)
theorem Yjc (Q:QT) (R7:T7) (m1:Option Nat) (i5 o5:Nat) (a46:Pt) (n46 c46:Nat) (e46:Bool) (x47 x48:Int) (h:Zaa) (ht:L7t Q R7 m1 i5 o5 a46 n46 c46 e46 x47 x48 h):Den pg fn.ntmps (C [1,1,1,0,1,0,0]) [(1,.map m1),(5,.ptr (i5,o5)),(46,.slice a46 n46 c46 e46),(47,.int .i64 x47),(48,.int .i64 x48)] h (K4 Q R7):=
 Zbb (kp:=kp) (cast (by kernel_rfl) ht)
theorem L7ind (Q:QT) (m1:Option Nat) (i5 o5:Nat) (a46:Pt) (n46 c46:Nat) (e46:Bool) (x47:Int) {G:Type} (J:G→Int→Zaa→Prop) (m:G→Nat)
 (hr:∀ (g:G) (x48:Int) (h:Zaa),J g x48 h→∀ (R7:T7),(∀ g' (x48:Int) (h:Zaa),m g' < m g→J g' x48 h→R7 m1 i5 o5 a46 n46 c46 e46 x47 x48 h)→L7t Q R7 m1 i5 o5 a46 n46 c46 e46 x47 x48 h)
 (g:G) (x48:Int) (h:Zaa) (hj:J g x48 h):L7 Q m1 i5 o5 a46 n46 c46 e46 x47 x48 h:=by
 let P:=fun (K:Int→Zaa→Prop) m1' i5' o5' a46' n46' c46' e46' x47' x48 h=>m1=m1'∧i5=i5'∧o5=o5'∧a46=a46'∧n46=n46'∧c46=c46'∧e46=e46'∧x47=x47'∧K x48 h
 refine Zfy.inv2 (fun g=>E7 (P (J g))) (fun g=>E7 (P fun x48 h=>∃ g',m g' < m g∧J g' x48 h)) m ?_ ?_ g ⟨rfl,rfl,rfl,rfl,rfl,rfl,rfl,rfl,hj⟩
 ·intro g env h hi
  obtain ⟨m1',i5',o5',a46',n46',c46',e46',x47',x48,rfl,rfl,rfl,rfl,rfl,rfl,rfl,rfl,rfl,hj⟩:=Zvg hi
  exact Yjc Q _ m1 i5 o5 a46 n46 c46 e46 x47 x48 h (hr g x48 h hj (P fun x48 h=>∃ g',m g' < m g∧J g' x48 h) fun g' x48 h hlt hj=>⟨rfl,rfl,rfl,rfl,rfl,rfl,rfl,rfl,g',hlt,hj⟩)
 ·intro g env h hi
  obtain ⟨m1',i5',o5',a46',n46',c46',e46',x47',x48,rfl,rfl,rfl,rfl,rfl,rfl,rfl,rfl,rfl,g',hlt,hj⟩:=Zvg hi
  exact ⟨g',hlt,rfl,rfl,rfl,rfl,rfl,rfl,rfl,rfl,hj⟩
theorem A7x0i (Q:QT) (i5 o5:Nat) (h:Zaa) (ht :
 Q (.ptr (i5,o5)) h):Ylb Q i5 o5 h:=
 At.mk (cast (by kernel_rfl) ht)
theorem call (a0:Pt) (m1:Option Nat) (h:Zaa) (Q:QT) (ht :
 Zax a0 fun A B=>Zck (Zah h (.ptr (A,B + 0))) fun A=>Zac pg Zbx [.str A] h fun A B=>
 Zbh A fun A=>bcase A (Zax a0 fun A C=>Zck (Zah B (.ptr (A,C + 0))) fun A=>Zbv B m1 fun es_9 k_10=>Znd es_9 A fun A=>Zep (some (Option.getD A (.ptr none))) fun A=>bcase (Option.isNone A) (Zax a0 fun A C=>Zax a0 fun D E=>Zck (Zah B (.ptr (A,C + 0))) fun F=>Zck (Zah B (.ptr (D,E + 0))) fun D=>(Zah B (.ptr (A,C + 0))=Zah B (.ptr (A,C + 0)))∧Zeg (B ++ [.cells Zbg [.str D,.slice none 0 0 true,.ptr none] false]) fun D=>(Zah D (.ptr (A,C + 0))=Zah B (.ptr (A,C + 0)))∧xMp m1 fun A=>Zbv D (some A) fun es_21 k_22=>Zzv es_21 k_22 F (.ptr (B.length,0)) fun es_23 k_24=>Zeg (List.set D A (.map es_23 k_24)) fun A=>J4 Q m1 a0 A) (J4 Q m1 a0 B)) (Zax a0 fun A C=>Zck (Zah B (.ptr (A,C + 0))) fun A=>Zeg (B ++ [.cells Zbg [.str A,.slice none 0 0 true,.ptr none] false]) fun A=>Zax a0 fun C D=>xSl (Zah A (.ptr (C,D + 1))) fun C D E F=>L7 Q m1 B.length 0 C D E F (((D:Nat):Int)) 0 A)):Zac pg Zfo [.ptr a0,.map m1] h Q:=
 Zac.of_body kp (c:=cod fn) (fn:=fn) Go.Proofs.Tryz.func74 (by kernel_rfl) (by kernel_rfl) (Nat.le_of_ble_eq_true (by kernel_rfl))
  (cast (by kernel_rfl) ht)
end Zdh
end Go.Sim

set_option maxRecDepth 100000
set_option maxHeartbeats 0
set_option linter.unusedVariables false
namespace Go.Sim
open Go Go.RowKit
namespace Zde
noncomputable abbrev fn:Func:=Go.Proofs.Tryz.f38
def kp:Zcu:=[(3000007,[0,7,4,5]),(1000007,[0,1,7,32,33,34]),(4000013,[34,33,32,1,7,0]),(4000016,[7])]
noncomputable def C (p:List Nat):Code:=(cod fn).sub p
def KR (Q:QT):KT:=Zha pg fn.results.toList Q
abbrev T7:=Pt→Zad→List Nat→Pt→Nat→Nat→Bool→Int→Int→Zaa→Prop
def E7 (R7:T7) (env:Env) (h:Zaa):Prop:=Zcd 0 env fun v env=>Zep v fun a0=>Zcd 1 env fun v env=>Zsq v fun v1=>Zcd 7 env fun v env=>Zck v fun x7=>Zcd 32 env fun v env=>xSl v fun a32 n32 c32 e32=>Zcd 33 env fun v env=>Zgj .i64 v fun x33=>Zcd 34 env fun v env=>Zgj .i64 v fun x34=>Znc env (R7 a0 v1 x7 a32 n32 c32 e32 x33 x34 h)
theorem Zvg {R7:T7} {env:Env} {h:Zaa} (hi:E7 R7 env h):∃ a0,∃ v1,∃ x7,∃ a32,∃ n32,∃ c32,∃ e32,∃ x33,∃ x34,env=[(0,.ptr a0),(1,v1),(7,.str x7),(32,.slice a32 n32 c32 e32),(33,.int .i64 x33),(34,.int .i64 x34)]∧R7 a0 v1 x7 a32 n32 c32 e32 x33 x34 h:=by
 unfold E7 at hi
 have hi0:=hi
 clear hi
 obtain ⟨_,_,rfl,hi1⟩:=Zaj hi0
 obtain ⟨a0,rfl,hi2⟩:=Zbk hi1
 obtain ⟨_,_,rfl,hi3⟩:=Zaj hi2
 obtain ⟨v1,hx,hi4⟩:=Zld hi3
 replace hx:=(Option.some.inj hx).symm
 subst hx
 obtain ⟨_,_,rfl,hi5⟩:=Zaj hi4
 obtain ⟨x7,rfl,hi6⟩:=Zgb hi5
 obtain ⟨_,_,rfl,hi7⟩:=Zaj hi6
 obtain ⟨a32,n32,c32,e32,rfl,hi8⟩:=Zcy hi7
 obtain ⟨_,_,rfl,hi9⟩:=Zaj hi8
 obtain ⟨x33,rfl,hi10⟩:=Zbd hi9
 obtain ⟨_,_,rfl,hi11⟩:=Zaj hi10
 obtain ⟨x34,rfl,hi12⟩:=Zbd hi11
 obtain ⟨rfl,hi13⟩:=Zbq hi12
 have hi:=hi13
 exact ⟨a0,v1,x7,a32,n32,c32,e32,x33,x34,rfl,hi⟩
def K0 (Q:QT):KT:=andThen (fun env' h'=>(match kp.find 4000014 with | some ks=>Den pg fn.ntmps (C [1,1,1,1,1]) (env'.keep ks) h' (KR Q) | none=>den pg fn.ntmps kp (C [1,1,1,1,1]) env' h' (KR Q))) (KR Q)
def K1 (Q:QT):KT:=Zdj 0 (K0 Q)
def K2 (Q:QT):KT:=left kp 7 (K1 Q)
def K3 (Q:QT) (R7:T7):KT:=rnd ((kp.find 1000007).getD []) (E7 R7) (K2 Q)
def L7 (Q:QT) (a0:Pt) (v1:Zad) (x7:List Nat) (a32:Pt) (n32 c32:Nat) (e32:Bool) (x33 x34:Int) (h:Zaa):Prop:=Zfy (Den pg fn.ntmps (C [1,1,1,1,0,1,0,0])) ((kp.find 1000007).getD []) (K2 Q) [(0,.ptr a0),(1,v1),(7,.str x7),(32,.slice a32 n32 c32 e32),(33,.int .i64 x33),(34,.int .i64 x34)] h
def J13 (Q:QT) (R7:T7) (x34 x33:Int) (a32:Pt) (n32 c32:Nat) (e32:Bool) (v1:Zad) (x7:List Nat) (a0:Pt) (h:Zaa):Prop:=Den pg fn.ntmps (C [1,1,1,1,0,1,0,0,1,1,1]) [(34,.int .i64 x34),(33,.int .i64 x33),(32,.slice a32 n32 c32 e32),(1,v1),(7,.str x7),(0,.ptr a0)] h (K3 Q R7)
def Ylb (Q:QT) (a0:Pt) (x7:List Nat) (h:Zaa):Prop:=At (K1 Q) (.exit 0) [(0,.ptr a0),(7,.str x7),(4,.undef),(5,.undef)] h
def J16 (Q:QT) (x7:List Nat) (h:Zaa):Prop:=Den pg fn.ntmps (C [1,1,1,1,1,1]) [(7,.str x7)] h (KR Q)
def L7t (Q:QT) (R7:T7) (a0:Pt) (v1:Zad) (x7:List Nat) (a32:Pt) (n32 c32:Nat) (e32:Bool) (x33 x34:Int) (h:Zaa):Prop:=
 bcase (decide ((x34:Int) < x33)) ((0≤(x34:Int)∧(x34:Int) < (n32:Nat))∧(Zax a32 fun A B=>Zep (Zah h (.ptr (A,B + (Int.toNat x34) * 1))) fun A=>Zac pg Zgd [.ptr A,v1] h fun A B=>
 Zmb A fun A=>Zai A fun A C=>Zck A fun A=>Zai C fun C D=>Zbh C fun C=>Zcg D ((0≤(x34:Int)∧(x34:Int)≤IntKind.wrap .i64 (x34 + 1)∧(IntKind.wrap .i64 (x34 + 1):Int)≤(List.length ([40,44]):Nat))∧(List.length (sub ([40,44]) x34 (IntKind.wrap .i64 (x34 + 1))) + List.length A≤9223372036854775807∧(List.length x7 + List.length ((sub ([40,44]) x34 (IntKind.wrap .i64 (x34 + 1))) ++ A)≤9223372036854775807∧(bcase (!C) (Q (.tup [.str [],.bool false]) B) (bcase (decide (((((List.length (x7 ++ ((sub ([40,44]) x34 (IntKind.wrap .i64 (x34 + 1))) ++ A)):Nat):Int)):Int) > 60)) (Q (.tup [.str [],.bool false]) B) (J13 Q R7 x34 x33 a32 n32 c32 e32 v1 (x7 ++ ((sub ([40,44]) x34 (IntKind.wrap .i64 (x34 + 1))) ++ A)) a0 B)))))))) (Ylb Q a0 x7 h)
theorem Yjc (Q:QT) (R7:T7) (a0:Pt) (v1:Zad) (x7:List Nat) (a32:Pt) (n32 c32:Nat) (e32:Bool) (x33 x34:Int) (h:Zaa) (ht:L7t Q R7 a0 v1 x7 a32 n32 c32 e32 x33 x34 h):Den pg fn.ntmps (C [1,1,1,1,0,1,0,0]) [(0,.ptr a0),(1,v1),(7,.str x7),(32,.slice a32 n32 c32 e32),(33,.int .i64 x33),(34,.int .i64 x34)] h (K3 Q R7):=
 Zbb (kp:=kp) (cast (by kernel_rfl) ht)
theorem L7ind (Q:QT) (a0:Pt) (v1:Zad) (a32:Pt) (n32 c32:Nat) (e32:Bool) (x33:Int) {G:Type} (J:G→List Nat→Int→Zaa→Prop) (m:G→Nat)
 (hr:∀ (g:G) (x7:List Nat) (x34:Int) (h:Zaa),J g x7 x34 h→∀ (R7:T7),(∀ g' (x7:List Nat) (x34:Int) (h:Zaa),m g' < m g→J g' x7 x34 h→R7 a0 v1 x7 a32 n32 c32 e32 x33 x34 h)→L7t Q R7 a0 v1 x7 a32 n32 c32 e32 x33 x34 h)
 (g:G) (x7:List Nat) (x34:Int) (h:Zaa) (hj:J g x7 x34 h):L7 Q a0 v1 x7 a32 n32 c32 e32 x33 x34 h:=by
 let P:=fun (K:List Nat→Int→Zaa→Prop) a0' v1' x7 a32' n32' c32' e32' x33' x34 h=>a0=a0'∧v1=v1'∧a32=a32'∧n32=n32'∧c32=c32'∧e32=e32'∧x33=x33'∧K x7 x34 h
 refine Zfy.inv2 (fun g=>E7 (P (J g))) (fun g=>E7 (P fun x7 x34 h=>∃ g',m g' < m g∧J g' x7 x34 h)) m ?_ ?_ g ⟨rfl,rfl,rfl,rfl,rfl,rfl,rfl,hj⟩
 ·intro g env h hi
  obtain ⟨a0',v1',x7,a32',n32',c32',e32',x33',x34,rfl,rfl,rfl,rfl,rfl,rfl,rfl,rfl,hj⟩:=Zvg hi
  exact Yjc Q _ a0 v1 x7 a32 n32 c32 e32 x33 x34 h (hr g x7 x34 h hj (P fun x7 x34 h=>∃ g',m g' < m g∧J g' x7 x34 h) fun g' x7 x34 h hlt hj=>⟨rfl,rfl,rfl,rfl,rfl,rfl,rfl,g',hlt,hj⟩)
 ·intro g env h hi
  obtain ⟨a0',v1',x7,a32',n32',c32',e32',x33',x34,rfl,rfl,rfl,rfl,rfl,rfl,rfl,rfl,g',hlt,hj⟩:=Zvg hi
  exact ⟨g',hlt,rfl,rfl,rfl,rfl,rfl,rfl,rfl,hj⟩
theorem J13i (Q:QT) (R7:T7) (x34 x33:Int) (a32:Pt) (n32 c32:Nat) (e32:Bool) (v1:Zad) (x7:List Nat) (a0:Pt) (h:Zaa) (ht :
 R7 a0 v1 x7 a32 n32 c32 e32 x33 (IntKind.wrap .i64 (x34 + 1)) h):J13 Q R7 x34 x33 a32 n32 c32 e32 v1 x7 a0 h:=
 Zbb (kp:=kp) (cast (by kernel_rfl) ht)
theorem A7x0i (Q:QT) (a0:Pt) (x7:List Nat) (h:Zaa) (ht :
 Zax a0 fun A B=>xSl (Zah h (.ptr (A,B + 1))) fun A A B B=>bcase (decide (((((A:Nat):Int)):Int) > 0)) (List.length x7 + List.length [41]≤9223372036854775807∧(J16 Q (x7 ++ [41]) h)) (J16 Q x7 h)):Ylb Q a0 x7 h:=
 At.mk (cast (by kernel_rfl) ht)
theorem J16i (Q:QT) (x7:List Nat) (h:Zaa) (ht :
 Q (.tup [.str x7,.bool (decide (((((List.length x7:Nat):Int)):Int)≤60))]) h):J16 Q x7 h:=
 Zbb (kp:=kp) (cast (by kernel_rfl) ht)
theorem call (a0:Pt) (v1:Zad) (h:Zaa) (Q:QT) (ht :
 Zac pg Zdx [.ptr a0] h fun A B=>
 Zep A fun A=>Zax A fun C D=>Zck (Zah B (.ptr (C,D + 0))) fun C=>Zac pg Zbx [.str C] B fun B C=>
 Zbh B fun B=>bcase B (Ylu v1 fun B D=>Zac pg B ([.ptr A] ++ D) C fun B D=>
 Zck B fun B=>Q (.tup [.str B,.bool (!(decide (B=[])))]) D) (Zax A fun B D=>Zck (Zah C (.ptr (B,D + 0))) fun B=>Zax A fun D E=>xSl (Zah C (.ptr (D,E + 1))) fun D E F G=>L7 Q A v1 B D E F G (((E:Nat):Int)) 0 C)):Zac pg Zgd [.ptr a0,v1] h Q:=
 Zac.of_body kp (c:=cod fn) (fn:=fn) Go.Proofs.Tryz.func38 (by kernel_rfl) (by kernel_rfl) (Nat.le_of_ble_eq_true (by kernel_rfl))
  (cast (by kernel_rfl) ht)
end Zde
namespace Ztc
noncomputable abbrev fn:Func:=Go.Proofs.Tryz.f39
def kp:Zcu:=[]
noncomputable def C (p:List Nat):Code:=(cod fn).sub p
def KR (Q:QT):KT:=Zha pg fn.results.toList Q
theorem call (a0:Pt) (h:Zaa) (Q:QT) (ht :
 Zax a0 fun A B=>Zck (Zah h (.ptr (A,B + 0))) fun A=>Q (.str A) h):Zac pg Zox [.ptr a0] h Q:=
 Zac.of_body kp (c:=cod fn) (fn:=fn) Go.Proofs.Tryz.func39 (by kernel_rfl) (by kernel_rfl) (Nat.le_of_ble_eq_true (by kernel_rfl))
  (cast (by kernel_rfl) ht)
end Ztc
end Go.Sim

set_option maxRecDepth 100000
set_option maxHeartbeats 0
set_option linter.unusedVariables false
namespace Go.Sim
open Go Go.RowKit
namespace Zdw
noncomputable abbrev fn:Func:=Go.Proofs.Tryz.f75
def kp:Zcu:=[(3000008,[1,0,2,6]),(1000008,[0,1,2,22,23,24])]
noncomputable def C (p:List Nat):Code:=(cod fn).sub p
def KR (Q:QT):KT:=Zha pg fn.results.toList Q
abbrev T8:=Pt→Option Nat→Option Nat→Pt→Nat→Nat→Bool→Int→Int→Zaa→Prop
def E8 (R8:T8) (env:Env) (h:Zaa):Prop:=Zcd 0 env fun v env=>Zep v fun a0=>Zcd 1 env fun v env=>Zwy v fun m1=>Zcd 2 env fun v env=>Zwy v fun m2=>Zcd 22 env fun v env=>xSl v fun a22 n22 c22 e22=>Zcd 23 env fun v env=>Zgj .i64 v fun x23=>Zcd 24 env fun v env=>Zgj .i64 v fun x24=>Znc env (R8 a0 m1 m2 a22 n22 c22 e22 x23 x24 h)
theorem Yhy {R8:T8} {env:Env} {h:Zaa} (hi:E8 R8 env h):∃ a0,∃ m1,∃ m2,∃ a22,∃ n22,∃ c22,∃ e22,∃ x23,∃ x24,env=[(0,.ptr a0),(1,.map m1),(2,.map m2),(22,.slice a22 n22 c22 e22),(23,.int .i64 x23),(24,.int .i64 x24)]∧R8 a0 m1 m2 a22 n22 c22 e22 x23 x24 h:=by
 unfold E8 at hi
 repeat ((first | (have k:=Zaj hi; clear hi; obtain ⟨_,_,e,hi⟩:=k) | (have k:=Zbk hi; clear hi; obtain ⟨_,e,hi⟩:=k) | (have k:=Zcy hi; clear hi; obtain ⟨_,_,_,_,e,hi⟩:=k) | (have k:=Zbd hi; clear hi; obtain ⟨_,e,hi⟩:=k) | (have k:=Zlt hi; clear hi; obtain ⟨_,e,hi⟩:=k)); subst e)
 obtain ⟨rfl,hi⟩:=Zbq hi
 exact ⟨_,_,_,_,_,_,_,_,_,rfl,hi⟩
def K0 (Q:QT):KT:=andThen (fun env' h'=>(match kp.find 4000013 with | some ks=>Den pg fn.ntmps (C [1,1,1,1,1,1]) (env'.keep ks) h' (KR Q) | none=>den pg fn.ntmps kp (C [1,1,1,1,1,1]) env' h' (KR Q))) (KR Q)
def K1 (Q:QT):KT:=Zdj 0 (K0 Q)
def K2 (Q:QT):KT:=left kp 8 (K1 Q)
def K3 (Q:QT) (R8:T8):KT:=rnd ((kp.find 1000008).getD []) (E8 R8) (K2 Q)
def L8 (Q:QT) (a0:Pt) (m1 m2:Option Nat) (a22:Pt) (n22 c22:Nat) (e22:Bool) (x23 x24:Int) (h:Zaa):Prop:=Zfy (Den pg fn.ntmps (C [1,1,1,1,1,0,1,0,0])) ((kp.find 1000008).getD []) (K2 Q) [(0,.ptr a0),(1,.map m1),(2,.map m2),(22,.slice a22 n22 c22 e22),(23,.int .i64 x23),(24,.int .i64 x24)] h
def Ymw (Q:QT) (m1:Option Nat) (a0:Pt) (m2:Option Nat) (h:Zaa):Prop:=At (K1 Q) (.exit 0) [(1,.map m1),(0,.ptr a0),(2,.map m2),(6,.undef)] h
def L8t (Q:QT) (R8:T8) (a0:Pt) (m1 m2:Option Nat) (a22:Pt) (n22 c22:Nat) (e22:Bool) (x23 x24:Int) (h:Zaa):Prop:=
 bcase (decide ((x24:Int) < x23)) ((0≤(x24:Int)∧(x24:Int) < (n22:Nat))∧(Zax a22 fun A B=>Zep (Zah h (.ptr (A,B + (Int.toNat x24) * 1))) fun A=>Zac pg Zev [.ptr A,.map m1,.map m2] h fun A B=>
 Zbh A fun A=>bcase A (Q (.bool true) B) (R8 a0 m1 m2 a22 n22 c22 e22 x23 (IntKind.wrap .i64 (x24 + 1)) B))) (Ymw Q m1 a0 m2 h)
theorem Ymp (Q:QT) (R8:T8) (a0:Pt) (m1 m2:Option Nat) (a22:Pt) (n22 c22:Nat) (e22:Bool) (x23 x24:Int) (h:Zaa) (ht:L8t Q R8 a0 m1 m2 a22 n22 c22 e22 x23 x24 h):Den pg fn.ntmps (C [1,1,1,1,1,0,1,0,0]) [(0,.ptr a0),(1,.map m1),(2,.map m2),(22,.slice a22 n22 c22 e22),(23,.int .i64 x23),(24,.int .i64 x24)] h (K3 Q R8):=
 Zbb (kp:=kp) (cast (by kernel_rfl) ht)
theorem L8ind (Q:QT) (a0:Pt) (m1 m2:Option Nat) (a22:Pt) (n22 c22:Nat) (e22:Bool) (x23:Int) {G:Type} (J:G→Int→Zaa→Prop) (m:G→Nat)
 (hr:∀ (g:G) (x24:Int) (h:Zaa),J g x24 h→∀ (R8:T8),(∀ g' (x24:Int) (h:Zaa),m g' < m g→J g' x24 h→R8 a0 m1 m2 a22 n22 c22 e22 x23 x24 h)→L8t Q R8 a0 m1 m2 a22 n22 c22 e22 x23 x24 h)
 (g:G) (x24:Int) (h:Zaa) (hj:J g x24 h):L8 Q a0 m1 m2 a22 n22 c22 e22 x23 x24 h:=by
 let P:=fun (K:Int→Zaa→Prop) a0' m1' m2' a22' n22' c22' e22' x23' x24 h=>a0=a0'∧m1=m1'∧m2=m2'∧a22=a22'∧n22=n22'∧c22=c22'∧e22=e22'∧x23=x23'∧K x24 h
 refine Zfy.inv2 (fun g=>E8 (P (J g))) (fun g=>E8 (P fun x24 h=>∃ g',m g' < m g∧J g' x24 h)) m ?_ ?_ g ⟨rfl,rfl,rfl,rfl,rfl,rfl,rfl,rfl,hj⟩
 ·intro g env h hi
  obtain ⟨a0',m1',m2',a22',n22',c22',e22',x23',x24,rfl,rfl,rfl,rfl,rfl,rfl,rfl,rfl,rfl,hj⟩:=Yhy hi
  exact Ymp Q _ a0 m1 m2 a22 n22 c22 e22 x23 x24 h (hr g x24 h hj (P fun x24 h=>∃ g',m g' < m g∧J g' x24 h) fun g' x24 h hlt hj=>⟨rfl,rfl,rfl,rfl,rfl,rfl,rfl,rfl,g',hlt,hj⟩)
 ·intro g env h hi
  obtain ⟨a0',m1',m2',a22',n22',c22',e22',x23',x24,rfl,rfl,rfl,rfl,rfl,rfl,rfl,rfl,rfl,g',hlt,hj⟩:=Yhy hi
  exact ⟨g',hlt,rfl,rfl,rfl,rfl,rfl,rfl,rfl,rfl,hj⟩
theorem A8x0i (Q:QT) (m1:Option Nat) (a0:Pt) (m2:Option Nat) (h:Zaa) (ht :
 xMp m1 fun A=>Zax a0 fun B C=>Zbv h (some A) fun es_36 k_37=>Yhu (Zin h es_36 (B,C) 0) es_36 fun es_38=>Zeg (List.set h A (.map es_38 k_37)) fun A=>xMp m2 fun B=>Zax a0 fun C D=>Zbv A (some B) fun es_43 k_44=>Yfz (Zin A es_43 (C,D) 0) es_43 k_44 (C,D) (.bool true) fun es_45 k_46=>Zeg (List.set A B (.map es_45 k_46)) fun A=>Q (.bool false) A):Ymw Q m1 a0 m2 h:=
 At.mk (cast (by kernel_rfl) ht)
theorem call (a0:Pt) (m1 m2:Option Nat) (h:Zaa) (Q:QT) (ht :
 Zac pg Zdx [.ptr a0] h fun A B=>
 Zep A fun A=>Zax A fun C D=>Zbv B m1 fun es_3 k_4=>Zqw (Zin B es_3 (C,D) 0) fun C=>Zbh (some (Option.getD C (.bool false))) fun C=>bcase C (Q (.bool true) B) (Zax A fun C D=>Zbv B m2 fun es_9 k_10=>Zqw (Zin B es_9 (C,D) 0) fun C=>Zbh (some (Option.getD C (.bool false))) fun C=>bcase C (Q (.bool false) B) (xMp m1 fun C=>Zax A fun D E=>Zbv B (some C) fun es_16 k_17=>Yfz (Zin B es_16 (D,E) 0) es_16 k_17 (D,E) (.bool true) fun es_18 k_19=>Zeg (List.set B C (.map es_18 k_19)) fun B=>Zax A fun C D=>xSl (Zah B (.ptr (C,D + 1))) fun C D E F=>L8 Q A m1 m2 C D E F (((D:Nat):Int)) 0 B))):Zac pg Zev [.ptr a0,.map m1,.map m2] h Q:=
 Zac.of_body kp (c:=cod fn) (fn:=fn) Go.Proofs.Tryz.func75 (by kernel_rfl) (by kernel_rfl) (Nat.le_of_ble_eq_true (by kernel_rfl))
  (cast (by kernel_rfl) ht)
end Zdw
namespace Zkq
noncomputable abbrev fn:Func:=Go.Proofs.Tryz.f36
def kp:Zcu:=[]
noncomputable def C (p:List Nat):Code:=(cod fn).sub p
def KR (Q:QT):KT:=Zha pg fn.results.toList Q
theorem call (a0:Pt) (h:Zaa) (Q:QT) (ht :
 Zeg (h ++ [.map [] 0]) fun A=>Zeg (A ++ [.map [] 0]) fun B=>Zac pg Zev [.ptr a0,.map ((some h.length)),.map ((some A.length))] B fun A B=>
 Zbh A fun A=>Q (.bool (!A)) B):Zac pg Zho [.ptr a0] h Q:=
 Zac.of_body kp (c:=cod fn) (fn:=fn) Go.Proofs.Tryz.func36 (by kernel_rfl) (by kernel_rfl) (Nat.le_of_ble_eq_true (by kernel_rfl))
  (cast (by kernel_rfl) ht)
end Zkq
end Go.Sim

set_option maxRecDepth 100000
set_option maxHeartbeats 0
set_option linter.unusedVariables false
namespace Go.Sim
open Go Go.RowKit
namespace Zfm
noncomputable abbrev fn:Func:=Go.Proofs.Tryz.f37
def kp:Zcu:=[(3000001,[0]),(1000001,[0])]
noncomputable def C (p:List Nat):Code:=(cod fn).sub p
def KR (Q:QT):KT:=Zha pg fn.results.toList Q
abbrev T1:=Pt→Zaa→Prop
def E1 (R1:T1) (env:Env) (h:Zaa):Prop:=Zcd 0 env fun v env=>Zep v fun a0=>Znc env (R1 a0 h)
theorem Yhw {R1:T1} {env:Env} {h:Zaa} (hi:E1 R1 env h):∃ a0,env=[(0,.ptr a0)]∧R1 a0 h:=by
 unfold E1 at hi
 repeat ((first | (have k:=Zaj hi; clear hi; obtain ⟨_,_,e,hi⟩:=k) | (have k:=Zbk hi; clear hi; obtain ⟨_,e,hi⟩:=k)); subst e)
 obtain ⟨rfl,hi⟩:=Zbq hi
 exact ⟨_,rfl,hi⟩
def K0 (Q:QT):KT:=andThen (fun env' h'=>(match kp.find 4000003 with | some ks=>Den pg fn.ntmps (C [1,1]) (env'.keep ks) h' (KR Q) | none=>den pg fn.ntmps kp (C [1,1]) env' h' (KR Q))) (KR Q)
def K1 (Q:QT):KT:=Zdj 0 (K0 Q)
def K2 (Q:QT):KT:=left kp 1 (K1 Q)
def K3 (Q:QT) (R1:T1):KT:=rnd ((kp.find 1000001).getD []) (E1 R1) (K2 Q)
def L1 (Q:QT) (a0:Pt) (h:Zaa):Prop:=Zfy (Den pg fn.ntmps (C [1,0,0,0])) ((kp.find 1000001).getD []) (K2 Q) [(0,.ptr a0)] h
def Yms (Q:QT) (a0:Pt) (h:Zaa):Prop:=At (K1 Q) (.exit 0) [(0,.ptr a0)] h
def L1t (Q:QT) (R1:T1) (a0:Pt) (h:Zaa):Prop:=
 Zax a0 fun A B=>Zep (Zah h (.ptr (A,B + 2))) fun A=>bcase (!(Option.isNone A)) (Zax a0 fun A B=>Zep (Zah h (.ptr (A,B + 2))) fun A=>R1 A h) (Yms Q a0 h)
theorem Ymf (Q:QT) (R1:T1) (a0:Pt) (h:Zaa) (ht:L1t Q R1 a0 h):Den pg fn.ntmps (C [1,0,0,0]) [(0,.ptr a0)] h (K3 Q R1):=
 Zbb (kp:=kp) (cast (by kernel_rfl) ht)
theorem L1ind (Q:QT) {G:Type} (J:G→Pt→Zaa→Prop) (m:G→Nat)
 (hr:∀ (g:G) (a0:Pt) (h:Zaa),J g a0 h→∀ (R1:T1),(∀ g' (a0:Pt) (h:Zaa),m g' < m g→J g' a0 h→R1 a0 h)→L1t Q R1 a0 h)
 (g:G) (a0:Pt) (h:Zaa) (hj:J g a0 h):L1 Q a0 h:=by
 let P:=fun (K:Pt→Zaa→Prop) a0 h=>K a0 h
 refine Zfy.inv2 (fun g=>E1 (P (J g))) (fun g=>E1 (P fun a0 h=>∃ g',m g' < m g∧J g' a0 h)) m ?_ ?_ g hj
 ·intro g env h hi
  obtain ⟨a0,rfl,hj⟩:=Yhw hi
  exact Ymf Q _ a0 h (hr g a0 h hj (P fun a0 h=>∃ g',m g' < m g∧J g' a0 h) fun g' a0 h hlt hj=>⟨g',hlt,hj⟩)
 ·intro g env h hi
  obtain ⟨a0,rfl,g',hlt,hj⟩:=Yhw hi
  exact ⟨g',hlt,hj⟩
theorem A1x0i (Q:QT) (a0:Pt) (h:Zaa) (ht :
 Q (.ptr a0) h):Yms Q a0 h:=
 At.mk (cast (by kernel_rfl) ht)
theorem call (a0:Pt) (h:Zaa) (Q:QT) (ht :
 L1 Q a0 h):Zac pg Zdx [.ptr a0] h Q:=
 Zac.of_body kp (c:=cod fn) (fn:=fn) Go.Proofs.Tryz.func37 (by kernel_rfl) (by kernel_rfl) (Nat.le_of_ble_eq_true (by kernel_rfl))
  (cast (by kernel_rfl) ht)
end Zfm
namespace Zef
noncomputable abbrev fn:Func:=Go.Proofs.Tryz.f35
def kp:Zcu:=[(2000004,[16,1,0]),(4000007,[0,1]),(2000007,[71,0,1]),(4000009,[0,1]),(3000012,[4]),(1000012,[1,80,81,82])]
noncomputable def C (p:List Nat):Code:=(cod fn).sub p
def KR (Q:QT):KT:=Zha pg fn.results.toList Q
abbrev T12:=Pt→Pt→Nat→Nat→Bool→Int→Int→Zaa→Prop
def E12 (R12:T12) (env:Env) (h:Zaa):Prop:=Zcd 1 env fun v env=>Zep v fun a1=>Zcd 80 env fun v env=>xSl v fun a80 n80 c80 e80=>Zcd 81 env fun v env=>Zgj .i64 v fun x81=>Zcd 82 env fun v env=>Zgj .i64 v fun x82=>Znc env (R12 a1 a80 n80 c80 e80 x81 x82 h)
theorem Ycx {R12:T12} {env:Env} {h:Zaa} (hi:E12 R12 env h):∃ a1,∃ a80,∃ n80,∃ c80,∃ e80,∃ x81,∃ x82,env=[(1,.ptr a1),(80,.slice a80 n80 c80 e80),(81,.int .i64 x81),(82,.int .i64 x82)]∧R12 a1 a80 n80 c80 e80 x81 x82 h:=by
 unfold E12 at hi
 repeat ((first | (have k:=Zaj hi; clear hi; obtain ⟨_,_,e,hi⟩:=k) | (have k:=Zbk hi; clear hi; obtain ⟨_,e,hi⟩:=k) | (have k:=Zcy hi; clear hi; obtain ⟨_,_,_,_,e,hi⟩:=k) | (have k:=Zbd hi; clear hi; obtain ⟨_,e,hi⟩:=k)); subst e)
 obtain ⟨rfl,hi⟩:=Zbq hi
 exact ⟨_,_,_,_,_,_,_,rfl,hi⟩
def K0 (Q:QT):KT:=andThen (fun env' h'=>(match kp.find 4000017 with | some ks=>Den pg fn.ntmps (C [1,1,1,1,1,1,1]) (env'.keep ks) h' (KR Q) | none=>den pg fn.ntmps kp (C [1,1,1,1,1,1,1]) env' h' (KR Q))) (KR Q)
def K1 (Q:QT):KT:=Zdj 1 (K0 Q)
def K2 (Q:QT):KT:=left kp 12 (K1 Q)
def K3 (Q:QT) (R12:T12):KT:=rnd ((kp.find 1000012).getD []) (E12 R12) (K2 Q)
def J7 (Q:QT) (a0 a1:Pt) (h:Zaa):Prop:=Den pg fn.ntmps (C [1,1,1]) [(0,.ptr a0),(1,.ptr a1)] h (KR Q)
def J9 (Q:QT) (a0 a1:Pt) (h:Zaa):Prop:=Den pg fn.ntmps (C [1,1,1,1]) [(0,.ptr a0),(1,.ptr a1)] h (KR Q)
def L12 (Q:QT) (a1 a80:Pt) (n80 c80:Nat) (e80:Bool) (x81 x82:Int) (h:Zaa):Prop:=Zfy (Den pg fn.ntmps (C [1,1,1,1,1,1,0,1,0,0])) ((kp.find 1000012).getD []) (K2 Q) [(1,.ptr a1),(80,.slice a80 n80 c80 e80),(81,.int .i64 x81),(82,.int .i64 x82)] h
def Yla (Q:QT) (h:Zaa):Prop:=At (K1 Q) (.exit 1) [(4,.undef)] h
theorem J7i (Q:QT) (a0 a1:Pt) (h:Zaa) (ht :
 Zax a0 fun A B=>Zck (Zah h (.ptr (A,B + 0))) fun A=>Zac pg Zbx [.str A] h fun A B=>
 Zbh A fun A=>bcase (!A) (Zax a0 fun A C=>Zax a1 fun D E=>Zck (Zah B (.ptr (A,C + 0))) fun F=>Zck (Zah B (.ptr (D,E + 0))) fun D=>(Zah B (.ptr (A,C + 0))=Zah B (.ptr (A,C + 0)))∧bcase (!(decide (F=D))) (Q (.bool false) B) (J9 Q a0 a1 B)) ((Zah B (.tup [])=Zah B (.tup []))∧J9 Q a0 a1 B)):J7 Q a0 a1 h:=
 Zbb (kp:=kp) (cast (by kernel_rfl) ht)
theorem J9i (Q:QT) (a0 a1:Pt) (h:Zaa) (ht :
 Zax a0 fun A B=>xSl (Zah h (.ptr (A,B + 1))) fun A B C D=>Zax a0 fun E F=>Zcc (Zbf h (.ptr (E,F + 2)) [.ptr a1]) fun E=>L12 Q a1 A B C D (((B:Nat):Int)) 0 E):J9 Q a0 a1 h:=
 Zbb (kp:=kp) (cast (by kernel_rfl) ht)
def L12t (Q:QT) (R12:T12) (a1 a80:Pt) (n80 c80:Nat) (e80:Bool) (x81 x82:Int) (h:Zaa):Prop:=
 bcase (decide ((x82:Int) < x81)) ((0≤(x82:Int)∧(x82:Int) < (n80:Nat))∧(Zax a80 fun A B=>Zep (Zah h (.ptr (A,B + (Int.toNat x82) * 1))) fun A=>Zax a1 fun B C=>xSl (Zah h (.ptr (B,C + 1))) fun B C D D=>(0≤(x82:Int)∧(x82:Int) < (C:Nat))∧(Zax B fun B C=>Zep (Zah h (.ptr (B,C + (Int.toNat x82) * 1))) fun B=>Zac pg Ziu [.ptr A,.ptr B] h fun A B=>
 Zbh A fun A=>bcase (!A) (Q (.bool false) B) (R12 a1 a80 n80 c80 e80 x81 (IntKind.wrap .i64 (x82 + 1)) B)))) (Yla Q h)
theorem Ylh (Q:QT) (R12:T12) (a1 a80:Pt) (n80 c80:Nat) (e80:Bool) (x81 x82:Int) (h:Zaa) (ht:L12t Q R12 a1 a80 n80 c80 e80 x81 x82 h):Den pg fn.ntmps (C [1,1,1,1,1,1,0,1,0,0]) [(1,.ptr a1),(80,.slice a80 n80 c80 e80),(81,.int .i64 x81),(82,.int .i64 x82)] h (K3 Q R12):=
 Zbb (kp:=kp) (cast (by kernel_rfl) ht)
theorem L12ind (Q:QT) (a1 a80:Pt) (n80 c80:Nat) (e80:Bool) (x81:Int) {G:Type} (J:G→Int→Zaa→Prop) (m:G→Nat)
 (hr:∀ (g:G) (x82:Int) (h:Zaa),J g x82 h→∀ (R12:T12),(∀ g' (x82:Int) (h:Zaa),m g' < m g→J g' x82 h→R12 a1 a80 n80 c80 e80 x81 x82 h)→L12t Q R12 a1 a80 n80 c80 e80 x81 x82 h)
 (g:G) (x82:Int) (h:Zaa) (hj:J g x82 h):L12 Q a1 a80 n80 c80 e80 x81 x82 h:=by
 let P:=fun (K:Int→Zaa→Prop) a1' a80' n80' c80' e80' x81' x82 h=>a1=a1'∧a80=a80'∧n80=n80'∧c80=c80'∧e80=e80'∧x81=x81'∧K x82 h
 refine Zfy.inv2 (fun g=>E12 (P (J g))) (fun g=>E12 (P fun x82 h=>∃ g',m g' < m g∧J g' x82 h)) m ?_ ?_ g ⟨rfl,rfl,rfl,rfl,rfl,rfl,hj⟩
 ·intro g env h hi
  obtain ⟨a1',a80',n80',c80',e80',x81',x82,rfl,rfl,rfl,rfl,rfl,rfl,rfl,hj⟩:=Ycx hi
  exact Ylh Q _ a1 a80 n80 c80 e80 x81 x82 h (hr g x82 h hj (P fun x82 h=>∃ g',m g' < m g∧J g' x82 h) fun g' x82 h hlt hj=>⟨rfl,rfl,rfl,rfl,rfl,rfl,g',hlt,hj⟩)
 ·intro g env h hi
  obtain ⟨a1',a80',n80',c80',e80',x81',x82,rfl,rfl,rfl,rfl,rfl,rfl,rfl,g',hlt,hj⟩:=Ycx hi
  exact ⟨g',hlt,rfl,rfl,rfl,rfl,rfl,rfl,hj⟩
theorem A12x1i (Q:QT) (h:Zaa) (ht :
 Q (.bool true) h):Yla Q h:=
 At.mk (cast (by kernel_rfl) ht)
theorem call (a0 a1:Pt) (h:Zaa) (Q:QT) (ht :
 Zac pg Zdx [.ptr a0] h fun A B=>
 Zep A fun A=>Zac pg Zdx [.ptr a1] B fun B C=>
 Zep B fun B=>Zog C A B fun D=>bcase D (Q (.bool true) C) (Zax A fun D E=>Zck (Zah C (.ptr (D,E + 0))) fun D=>Zac pg Zbx [.str D] C fun C D=>
 Zbh C fun C=>bcase C (Zax B fun C E=>Zck (Zah D (.ptr (C,E + 0))) fun C=>Zac pg Zbx [.str C] D fun C E=>
 Zbh C fun C=>bcase C (Zax A fun C F=>Zax B fun G H=>Zck (Zah E (.ptr (C,F + 0))) fun I=>Zck (Zah E (.ptr (G,H + 0))) fun G=>(Zah E (.ptr (C,F + 0))=Zah E (.ptr (C,F + 0)))∧bcase (!(Zeb I G || decide (I=G))) (bcase (!(Zeb I G || decide (I=G))) (J7 Q B A E) (J7 Q A B E)) (Zax A fun C F=>Zck (Zah E (.ptr (C,F + 0))) fun C=>Zac pg Zbx [.str C] E fun C F=>
 Zbh C fun C=>bcase (!C) (Zax B fun C G=>Zck (Zah F (.ptr (C,G + 0))) fun C=>Zac pg Zbx [.str C] F fun C G=>
 Zbh C fun C=>bcase C (J7 Q B A G) (J7 Q A B G)) (J7 Q A B F))) ((Zah E (.tup [])=Zah E (.tup []))∧Zax A fun C F=>Zck (Zah E (.ptr (C,F + 0))) fun C=>Zac pg Zbx [.str C] E fun C E=>
 Zbh C fun C=>bcase (!C) (Zax B fun C F=>Zck (Zah E (.ptr (C,F + 0))) fun C=>Zac pg Zbx [.str C] E fun C F=>
 Zbh C fun C=>bcase C (J7 Q B A F) (J7 Q A B F)) (J7 Q A B E))) ((Zah D (.tup [])=Zah D (.tup []))∧Zax A fun C E=>Zck (Zah D (.ptr (C,E + 0))) fun C=>Zac pg Zbx [.str C] D fun C D=>
 Zbh C fun C=>bcase (!C) (Zax B fun C E=>Zck (Zah D (.ptr (C,E + 0))) fun C=>Zac pg Zbx [.str C] D fun C E=>
 Zbh C fun C=>bcase C (J7 Q B A E) (J7 Q A B E)) (J7 Q A B D)))):Zac pg Ziu [.ptr a0,.ptr a1] h Q:=
 Zac.of_body kp (c:=cod fn) (fn:=fn) Go.Proofs.Tryz.func35 (by kernel_rfl) (by kernel_rfl) (Nat.le_of_ble_eq_true (by kernel_rfl))
  (cast (by kernel_rfl) ht)
end Zef
end Go.Sim

set_option maxRecDepth 100000
set_option maxHeartbeats 0
set_option linter.unusedVariables false
namespace Go.Sim
open Go Go.RowKit
namespace Zen
noncomputable abbrev fn:Func:=Go.Proofs.Tryz.f11
def kp:Zcu:=[(3000002,[0,1,4]),(1000002,[0,1,10,11]),(2000004,[22,11,10,0,1])]
noncomputable def C (p:List Nat):Code:=(cod fn).sub p
def KR (Q:QT):KT:=Zha pg fn.results.toList Q
abbrev T2:=Pt→Nat→Nat→Bool→Pt→Nat→Nat→Bool→Int→Int→Zaa→Prop
def E2 (R2:T2) (env:Env) (h:Zaa):Prop:=Zcd 0 env fun v env=>xSl v fun a0 n0 c0 e0=>Zcd 1 env fun v env=>xSl v fun a1 n1 c1 e1=>Zcd 10 env fun v env=>Zgj .i64 v fun x10=>Zcd 11 env fun v env=>Zgj .i64 v fun x11=>Znc env (R2 a0 n0 c0 e0 a1 n1 c1 e1 x10 x11 h)
theorem Zjc {R2:T2} {env:Env} {h:Zaa} (hi:E2 R2 env h):∃ a0,∃ n0,∃ c0,∃ e0,∃ a1,∃ n1,∃ c1,∃ e1,∃ x10,∃ x11,env=[(0,.slice a0 n0 c0 e0),(1,.slice a1 n1 c1 e1),(10,.int .i64 x10),(11,.int .i64 x11)]∧R2 a0 n0 c0 e0 a1 n1 c1 e1 x10 x11 h:=by
 unfold E2 at hi
 repeat ((first | (have k:=Zaj hi; clear hi; obtain ⟨_,_,e,hi⟩:=k) | (have k:=Zcy hi; clear hi; obtain ⟨_,_,_,_,e,hi⟩:=k) | (have k:=Zbd hi; clear hi; obtain ⟨_,e,hi⟩:=k)); subst e)
 obtain ⟨rfl,hi⟩:=Zbq hi
 exact ⟨_,_,_,_,_,_,_,_,_,_,rfl,hi⟩
def K0 (Q:QT):KT:=andThen (fun env' h'=>(match kp.find 4000007 with | some ks=>Den pg fn.ntmps (C [1,1]) (env'.keep ks) h' (KR Q) | none=>den pg fn.ntmps kp (C [1,1]) env' h' (KR Q))) (KR Q)
def K1 (Q:QT):KT:=Zdj 0 (K0 Q)
def K2 (Q:QT):KT:=left kp 2 (K1 Q)
def K3 (Q:QT) (R2:T2):KT:=rnd ((kp.find 1000002).getD []) (E2 R2) (K2 Q)
def L2 (Q:QT) (a0:Pt) (n0 c0:Nat) (e0:Bool) (a1:Pt) (n1 c1:Nat) (e1:Bool) (x10 x11:Int) (h:Zaa):Prop:=Zfy (Den pg fn.ntmps (C [1,0,1,0,0])) ((kp.find 1000002).getD []) (K2 Q) [(0,.slice a0 n0 c0 e0),(1,.slice a1 n1 c1 e1),(10,.int .i64 x10),(11,.int .i64 x11)] h
def A2x0 (Q:QT) (a0:Pt) (n0 c0:Nat) (e0:Bool) (a1:Pt) (n1 c1:Nat) (e1:Bool) (h:Zaa):Prop:=At (K1 Q) (.exit 0) [(0,.slice a0 n0 c0 e0),(1,.slice a1 n1 c1 e1),(4,.undef)] h
def L2t (Q:QT) (R2:T2) (a0:Pt) (n0 c0:Nat) (e0:Bool) (a1:Pt) (n1 c1:Nat) (e1:Bool) (x10 x11:Int) (h:Zaa):Prop:=
 bcase (decide ((x11:Int) < x10)) ((0≤(x11:Int)∧(x11:Int) < (n0:Nat))∧(Zax a0 fun A B=>(0≤(x11:Int)∧(x11:Int) < (n1:Nat))∧(Zax a1 fun C D=>Zdg (Zcv h (.ptr (A,B + (Int.toNat x11) * 2)) 2) fun E=>Zai E fun E F=>Zck E fun E=>Zai F fun F G=>Zck F fun F=>Zcg G (Zdg (Zcv h (.ptr (C,D + (Int.toNat x11) * 2)) 2) fun C=>Zai C fun C D=>Zck C fun C=>Zai D fun D G=>Zck D fun D=>Zcg G ((Zcv h (.ptr (A,B + (Int.toNat x11) * 2)) 2=Zcv h (.ptr (A,B + (Int.toNat x11) * 2)) 2)∧bcase (!((decide (E=C)) && (decide (F=D)))) (Q (.bool false) h) (R2 a0 n0 c0 e0 a1 n1 c1 e1 x10 (IntKind.wrap .i64 (x11 + 1)) h)))))) (A2x0 Q a0 n0 c0 e0 a1 n1 c1 e1 h)
theorem Ztv (Q:QT) (R2:T2) (a0:Pt) (n0 c0:Nat) (e0:Bool) (a1:Pt) (n1 c1:Nat) (e1:Bool) (x10 x11:Int) (h:Zaa) (ht:L2t Q R2 a0 n0 c0 e0 a1 n1 c1 e1 x10 x11 h):Den pg fn.ntmps (C [1,0,1,0,0]) [(0,.slice a0 n0 c0 e0),(1,.slice a1 n1 c1 e1),(10,.int .i64 x10),(11,.int .i64 x11)] h (K3 Q R2):=
 Zbb (kp:=kp) (cast (by kernel_rfl) ht)
theorem L2ind (Q:QT) (a0:Pt) (n0 c0:Nat) (e0:Bool) (a1:Pt) (n1 c1:Nat) (e1:Bool) (x10:Int) {G:Type} (J:G→Int→Zaa→Prop) (m:G→Nat)
 (hr:∀ (g:G) (x11:Int) (h:Zaa),J g x11 h→∀ (R2:T2),(∀ g' (x11:Int) (h:Zaa),m g' < m g→J g' x11 h→R2 a0 n0 c0 e0 a1 n1 c1 e1 x10 x11 h)→L2t Q R2 a0 n0 c0 e0 a1 n1 c1 e1 x10 x11 h)
 (g:G) (x11:Int) (h:Zaa) (hj:J g x11 h):L2 Q a0 n0 c0 e0 a1 n1 c1 e1 x10 x11 h:=by
 let P:=fun (K:Int→Zaa→Prop) a0' n0' c0' e0' a1' n1' c1' e1' x10' x11 h=>a0=a0'∧n0=n0'∧c0=c0'∧e0=e0'∧a1=a1'∧n1=n1'∧c1=c1'∧e1=e1'∧x10=x10'∧K x11 h
 refine Zfy.inv2 (fun g=>E2 (P (J g))) (fun g=>E2 (P fun x11 h=>∃ g',m g' < m g∧J g' x11 h)) m ?_ ?_ g ⟨rfl,rfl,rfl,rfl,rfl,rfl,rfl,rfl,rfl,hj⟩
 ·intro g env h hi
  obtain ⟨a0',n0',c0',e0',a1',n1',c1',e1',x10',x11,rfl,rfl,rfl,rfl,rfl,rfl,rfl,rfl,rfl,rfl,hj⟩:=Zjc hi
  exact Ztv Q _ a0 n0 c0 e0 a1 n1 c1 e1 x10 x11 h (hr g x11 h hj (P fun x11 h=>∃ g',m g' < m g∧J g' x11 h) fun g' x11 h hlt hj=>⟨rfl,rfl,rfl,rfl,rfl,rfl,rfl,rfl,rfl,g',hlt,hj⟩)
 ·intro g env h hi
  obtain ⟨a0',n0',c0',e0',a1',n1',c1',e1',x10',x11,rfl,rfl,rfl,rfl,rfl,rfl,rfl,rfl,rfl,rfl,g',hlt,hj⟩:=Zjc hi
  exact ⟨g',hlt,rfl,rfl,rfl,rfl,rfl,rfl,rfl,rfl,rfl,hj⟩
theorem A2x0i (Q:QT) (a0:Pt) (n0 c0:Nat) (e0:Bool) (a1:Pt) (n1 c1:Nat) (e1:Bool) (h:Zaa) (ht :
 Q (.bool ((((n0:Nat):Int):Int) == (((n1:Nat):Int)))) h):A2x0 Q a0 n0 c0 e0 a1 n1 c1 e1 h:=
 At.mk (cast (by kernel_rfl) ht)
theorem call (a0:Pt) (n0 c0:Nat) (e0:Bool) (a1:Pt) (n1 c1:Nat) (e1:Bool) (h:Zaa) (Q:QT) (ht :
 L2 Q a0 n0 c0 e0 a1 n1 c1 e1 (if (((n1:Nat):Int):Int) < (((n0:Nat):Int)) then ((n1:Nat):Int) else ((n0:Nat):Int)) 0 h):Zac pg Zbs [.slice a0 n0 c0 e0,.slice a1 n1 c1 e1] h Q:=
 Zac.of_body kp (c:=cod fn) (fn:=fn) Go.Proofs.Tryz.func11 (by kernel_rfl) (by kernel_rfl) (Nat.le_of_ble_eq_true (by kernel_rfl))
  (cast (by kernel_rfl) ht)
end Zen
end Go.Sim

set_option maxRecDepth 100000
set_option maxHeartbeats 0
set_option linter.unusedVariables false
namespace Go.Sim
open Go Go.RowKit
namespace Zhv
noncomputable abbrev fn:Func:=Go.Proofs.Tryz.f103
def kp:Zcu:=[(4000005,[0,1,2])]
noncomputable def C (p:List Nat):Code:=(cod fn).sub p
def KR (Q:QT):KT:=Zha pg fn.results.toList Q
def J5 (Q:QT) (a0:Pt) (x1:Int) (x2:Bool) (h:Zaa):Prop:=Den pg fn.ntmps (C [1,1]) [(0,.ptr a0),(1,.int .i64 x1),(2,.bool x2)] h (KR Q)
theorem J5i (Q:QT) (a0:Pt) (x1:Int) (x2:Bool) (h:Zaa) (ht :
 Zac pg Zbn [.ptr a0,.int .i64 4] h fun A B=>
 Zbo .i64 A fun A=>bcase ((A:Int) == 0) (Zac pg Zdq [.ptr a0,.int .i64 (IntKind.wrap .i64 (x1 - 1)),.bool x2] B fun C D=>
 Zck C fun C=>List.length ([112,40]) + List.length C≤9223372036854775807∧(List.length (([112,40]) ++ C) + List.length [44]≤9223372036854775807∧(Zac pg Zdq [.ptr a0,.int .i64 (IntKind.wrap .i64 (x1 - 1)),.bool x2] D fun D E=>
 Zck D fun D=>List.length ((([112,40]) ++ C) ++ [44]) + List.length D≤9223372036854775807∧(List.length (((([112,40]) ++ C) ++ [44]) ++ D) + List.length [41]≤9223372036854775807∧(Q (.str ((((([112,40]) ++ C) ++ [44]) ++ D) ++ [41])) E))))) (bcase ((A:Int) == 1) (Zac pg Zdq [.ptr a0,.int .i64 (IntKind.wrap .i64 (x1 - 1)),.bool x2] B fun A C=>
 Zck A fun A=>List.length ([109,40]) + List.length A≤9223372036854775807∧(List.length (([109,40]) ++ A) + List.length [41]≤9223372036854775807∧(Q (.str ((([109,40]) ++ A) ++ [41])) C))) (Zac pg Zdq [.ptr a0,.int .i64 (IntKind.wrap .i64 (x1 - 1)),.bool x2] B fun A B=>
 Zck A fun A=>List.length ([108,40]) + List.length A≤9223372036854775807∧(List.length (([108,40]) ++ A) + List.length [41]≤9223372036854775807∧(Q (.str ((([108,40]) ++ A) ++ [41])) B))))):J5 Q a0 x1 x2 h:=
 Zbb (kp:=kp) (cast (by kernel_rfl) ht)
theorem call (a0:Pt) (x1:Int) (x2:Bool) (h:Zaa) (Q:QT) (ht :
 bcase ((x1:Int) == 0) (bcase x2 (Zeg (h ++ [.cells Zdb [.str [105],.str [98],.str [105],.str [117]] false]) fun A=>Zac pg Zcs [.ptr a0,.slice (h.length,0) 4 4 true] A fun A B=>
 Zck A fun A=>Q (.str A) B) (Zeg (h ++ [.cells Zdb [.str [120],.str [105],.str [121],.str [98],.str [120],.str [122],.str [117]] false]) fun A=>Zac pg Zcs [.ptr a0,.slice (h.length,0) 7 7 true] A fun A B=>
 Zck A fun A=>Q (.str A) B)) (Zac pg Zbn [.ptr a0,.int .i64 3] h fun A B=>
 Zbo .i64 A fun A=>bcase ((A:Int) == 0) (bcase x2 (Zeg (B ++ [.cells Zdb [.str [105],.str [98],.str [105],.str [117]] false]) fun A=>Zac pg Zcs [.ptr a0,.slice (B.length,0) 4 4 true] A fun A C=>
 Zck A fun A=>Q (.str A) C) (Zeg (B ++ [.cells Zdb [.str [120],.str [105],.str [121],.str [98],.str [120],.str [122],.str [117]] false]) fun A=>Zac pg Zcs [.ptr a0,.slice (B.length,0) 7 7 true] A fun A C=>
 Zck A fun A=>Q (.str A) C)) (J5 Q a0 x1 x2 B))):Zac pg Zdq [.ptr a0,.int .i64 x1,.bool x2] h Q:=
 Zac.of_body kp (c:=cod fn) (fn:=fn) Go.Proofs.Tryz.func103 (by kernel_rfl) (by kernel_rfl) (Nat.le_of_ble_eq_true (by kernel_rfl))
  (cast (by kernel_rfl) ht)
end Zhv
namespace Zpo
noncomputable abbrev fn:Func:=Go.Proofs.Tryz.f69
def kp:Zcu:=[(2000005,[2])]
noncomputable def C (p:List Nat):Code:=(cod fn).sub p
def KR (Q:QT):KT:=Zha pg fn.results.toList Q
theorem call (a0:Pt) (h:Zaa) (Q:QT) (ht :
 Zac pg Zbn [.ptr a0,.int .i64 4] h fun A B=>
 Zbo .i64 A fun A=>Zac pg Zbn [.ptr a0,.int .i64 2] B fun B C=>
 Zbo .i64 B fun B=>Zac pg Zdq [.ptr a0,.int .i64 A,.bool ((B:Int) == 0)] C fun A B=>
 Zck A fun A=>Zac pg Zbn [.ptr a0,.int .i64 16] B fun B C=>
 Zbo .i64 B fun B=>bcase (decide ((B:Int) > 0)) (Q (.str A) C) (Zac pg Zbn [.ptr a0,.int .i64 (((List.length A:Nat):Int))] C fun B C=>
 Zbo .i64 B fun B=>(0≤(0:Int)∧(0:Int)≤B∧(B:Int)≤(List.length A:Nat))∧(Zeg (C ++ [.cells Zdb [.str [],.str [40],.str [41],.str [44],.str [105],.str [113],.str [88]] false]) fun D=>Zac pg Zcs [.ptr a0,.slice (C.length,0) 7 7 true] D fun C D=>
 Zck C fun C=>List.length (sub A 0 B) + List.length C≤9223372036854775807∧(Zac pg Zbn [.ptr a0,.int .i64 2] D fun D E=>
 Zbo .i64 D fun D=>(0≤(IntKind.wrap .i64 (B + D):Int)∧(IntKind.wrap .i64 (B + D):Int)≤(List.length A:Int)∧((List.length A:Int):Int)≤(List.length A:Nat))∧(List.length ((sub A 0 B) ++ C) + List.length (sub A (IntKind.wrap .i64 (B + D)) ((List.length A:Int)))≤9223372036854775807∧(Q (.str (((sub A 0 B) ++ C) ++ (sub A (IntKind.wrap .i64 (B + D)) ((List.length A:Int))))) E)))))):Zac pg Ziv [.ptr a0] h Q:=
 Zac.of_body kp (c:=cod fn) (fn:=fn) Go.Proofs.Tryz.func69 (by kernel_rfl) (by kernel_rfl) (Nat.le_of_ble_eq_true (by kernel_rfl))
  (cast (by kernel_rfl) ht)
end Zpo
namespace Zgq
noncomputable abbrev fn:Func:=Go.Proofs.Tryz.f71
def kp:Zcu:=[(3000006,[7,5]),(1000006,[0,5,7,19]),(2000008,[19,7,0,5])]
noncomputable def C (p:List Nat):Code:=(cod fn).sub p
def KR (Q:QT):KT:=Zha pg fn.results.toList Q
abbrev T6:=Pt→Nat→Nat→Nat→Nat→Int→Zaa→Prop
def E6 (R6:T6) (env:Env) (h:Zaa):Prop:=Zcd 0 env fun v env=>Zep v fun a0=>Zcd 5 env fun v env=>Zep v fun a=>Zax a fun i5 o5=>Zcd 7 env fun v env=>Zep v fun a=>Zax a fun i7 o7=>Zcd 19 env fun v env=>Zgj .i64 v fun x19=>Znc env (R6 a0 i5 o5 i7 o7 x19 h)
theorem Ziw {R6:T6} {env:Env} {h:Zaa} (hi:E6 R6 env h):∃ a0,∃ i5,∃ o5,∃ i7,∃ o7,∃ x19,env=[(0,.ptr a0),(5,.ptr (i5,o5)),(7,.ptr (i7,o7)),(19,.int .i64 x19)]∧R6 a0 i5 o5 i7 o7 x19 h:=by
 unfold E6 at hi
 have hi0:=hi
 clear hi
 obtain ⟨_,_,rfl,hi1⟩:=Zaj hi0
 obtain ⟨a0,rfl,hi2⟩:=Zbk hi1
 obtain ⟨_,_,rfl,hi3⟩:=Zaj hi2
 obtain ⟨a,rfl,hi4⟩:=Zbk hi3
 obtain ⟨i5,o5,rfl,hi5⟩:=Zbm hi4
 obtain ⟨_,_,rfl,hi6⟩:=Zaj hi5
 obtain ⟨a,rfl,hi7⟩:=Zbk hi6
 obtain ⟨i7,o7,rfl,hi8⟩:=Zbm hi7
 obtain ⟨_,_,rfl,hi9⟩:=Zaj hi8
 obtain ⟨x19,rfl,hi10⟩:=Zbd hi9
 obtain ⟨rfl,hi11⟩:=Zbq hi10
 have hi:=hi11
 exact ⟨a0,i5,o5,i7,o7,x19,rfl,hi⟩
def K0 (Q:QT):KT:=andThen (fun env' h'=>(match kp.find 4000010 with | some ks=>Den pg fn.ntmps (C [1,1,1,1,1]) (env'.keep ks) h' (KR Q) | none=>den pg fn.ntmps kp (C [1,1,1,1,1]) env' h' (KR Q))) (KR Q)
def K1 (Q:QT):KT:=Zdj 0 (K0 Q)
def K2 (Q:QT):KT:=left kp 6 (K1 Q)
def K3 (Q:QT) (R6:T6):KT:=rnd ((kp.find 1000006).getD []) (E6 R6) (K2 Q)
def L6 (Q:QT) (a0:Pt) (i5 o5 i7 o7:Nat) (x19:Int) (h:Zaa):Prop:=Zfy (Den pg fn.ntmps (C [1,1,1,1,0,1,0,0])) ((kp.find 1000006).getD []) (K2 Q) [(0,.ptr a0),(5,.ptr (i5,o5)),(7,.ptr (i7,o7)),(19,.int .i64 x19)] h
def Zzt (Q:QT) (i7 o7 i5 o5:Nat) (h:Zaa):Prop:=At (K1 Q) (.exit 0) [(7,.ptr (i7,o7)),(5,.ptr (i5,o5))] h
def L6t (Q:QT) (R6:T6) (a0:Pt) (i5 o5 i7 o7:Nat) (x19:Int) (h:Zaa):Prop:=
 bcase (decide ((x19:Int) < 12)) (Zac pg Zbn [.ptr a0,.int .i64 2] h fun A B=>
 Zbo .i64 A fun A=>Zac pg Zbn [.ptr a0,.int .i64 2] B fun B C=>
 Zbo .i64 B fun B=>Zac pg Zdq [.ptr a0,.int .i64 A,.bool ((B:Int) == 0)] C fun A B=>
 Zck A fun A=>Zac pg Zds [.str A] B fun A B=>
 Zmb A fun A=>Zai A fun A C=>Zqb A fun A=>Zai A fun A D=>Zbo .u8 A fun A=>Zai D fun D E=>xSl D fun D F G H=>Zcg E (Zai C fun C E=>Zbh C fun C=>Zcg E ((0≤(x19:Int)∧(x19:Int) < (12:Nat))∧(Zcc (Zbf B (.ptr (i7,o7 + (Int.toNat x19) * 2)) [.int .u8 A,.slice D F G H]) fun A=>R6 a0 i5 o5 i7 o7 (IntKind.wrap .i64 (x19 + 1)) A)))) (Zzt Q i7 o7 i5 o5 h)
theorem Zum (Q:QT) (R6:T6) (a0:Pt) (i5 o5 i7 o7:Nat) (x19:Int) (h:Zaa) (ht:L6t Q R6 a0 i5 o5 i7 o7 x19 h):Den pg fn.ntmps (C [1,1,1,1,0,1,0,0]) [(0,.ptr a0),(5,.ptr (i5,o5)),(7,.ptr (i7,o7)),(19,.int .i64 x19)] h (K3 Q R6):=
 Zbb (kp:=kp) (cast (by kernel_rfl) ht)
theorem L6ind (Q:QT) (a0:Pt) (i5 o5 i7 o7:Nat) {G:Type} (J:G→Int→Zaa→Prop) (m:G→Nat)
 (hr:∀ (g:G) (x19:Int) (h:Zaa),J g x19 h→∀ (R6:T6),(∀ g' (x19:Int) (h:Zaa),m g' < m g→J g' x19 h→R6 a0 i5 o5 i7 o7 x19 h)→L6t Q R6 a0 i5 o5 i7 o7 x19 h)
 (g:G) (x19:Int) (h:Zaa) (hj:J g x19 h):L6 Q a0 i5 o5 i7 o7 x19 h:=by
 let P:=fun (K:Int→Zaa→Prop) a0' i5' o5' i7' o7' x19 h=>a0=a0'∧i5=i5'∧o5=o5'∧i7=i7'∧o7=o7'∧K x19 h
 refine Zfy.inv2 (fun g=>E6 (P (J g))) (fun g=>E6 (P fun x19 h=>∃ g',m g' < m g∧J g' x19 h)) m ?_ ?_ g ⟨rfl,rfl,rfl,rfl,rfl,hj⟩
 ·intro g env h hi
  obtain ⟨a0',i5',o5',i7',o7',x19,rfl,rfl,rfl,rfl,rfl,rfl,hj⟩:=Ziw hi
  exact Zum Q _ a0 i5 o5 i7 o7 x19 h (hr g x19 h hj (P fun x19 h=>∃ g',m g' < m g∧J g' x19 h) fun g' x19 h hlt hj=>⟨rfl,rfl,rfl,rfl,rfl,g',hlt,hj⟩)
 ·intro g env h hi
  obtain ⟨a0',i5',o5',i7',o7',x19,rfl,rfl,rfl,rfl,rfl,rfl,g',hlt,hj⟩:=Ziw hi
  exact ⟨g',hlt,rfl,rfl,rfl,rfl,rfl,hj⟩
theorem A6x0i (Q:QT) (i7 o7 i5 o5:Nat) (h:Zaa) (ht :
 Zdg (Zcv h (.ptr (i5,o5)) 2) fun A=>Zai A fun A B=>Zbo .u8 A fun A=>Zai B fun B C=>xSl B fun B D E F=>Zcg C (Zac pg Zhk [.ptr (i7,o7),.agg [.int .u8 A,.slice B D E F]] h fun A B=>
 Zqb A fun A=>Zai A fun A C=>Zbo .u8 A fun A=>Zai C fun C D=>xSl C fun C E F G=>Zcg D (Zeg (B ++ [.cells Zab [.int .u8 0,.slice none 0 0 true] false]) fun D=>Zcc (Zbf D (.ptr (B.length,0)) [.int .u8 A,.slice C E F G]) fun A=>Zdg (Zcv A (.ptr (B.length,0)) 2) fun C=>Zai C fun C D=>Zbo .u8 C fun C=>Zai D fun D E=>xSl D fun D F G H=>Zcg E (Zac pg Zek [.agg [.int .u8 C,.slice D F G H]] A fun A C=>
 Zbo .i64 A fun A=>bcase (decide ((A:Int) > 60)) (Q (.str [105]) C) (Zdg (Zcv C (.ptr (B.length,0)) 2) fun A=>Zai A fun A B=>Zbo .u8 A fun A=>Zai B fun B D=>xSl B fun B E F G=>Zcg D (Zac pg Zfr [.agg [.int .u8 A,.slice B E F G]] C fun A B=>
 Zck A fun A=>Q (.str A) B)))))):Zzt Q i7 o7 i5 o5 h:=
 At.mk (cast (by kernel_rfl) ht)
theorem call (a0:Pt) (x1:List Nat) (h:Zaa) (Q:QT) (ht :
 Zac pg Zds [.str x1] h fun A B=>
 Zmb A fun A=>Zai A fun A C=>Zqb A fun A=>Zai A fun A D=>Zbo .u8 A fun A=>Zai D fun D E=>xSl D fun D F G H=>Zcg E (Zai C fun C E=>Zbh C fun C=>Zcg E (Zeg (B ++ [.cells Zab [.int .u8 0,.slice none 0 0 true] false]) fun E=>Zcc (Zbf E (.ptr (B.length,0)) [.int .u8 A,.slice D F G H]) fun A=>bcase (!C) (Q (.str [105]) A) (Zeg (A ++ [.cells Zbe [.int .u8 0,.slice none 0 0 true,.int .u8 0,.slice none 0 0 true,.int .u8 0,.slice none 0 0 true,.int .u8 0,.slice none 0 0 true,.int .u8 0,.slice none 0 0 true,.int .u8 0,.slice none 0 0 true,.int .u8 0,.slice none 0 0 true,.int .u8 0,.slice none 0 0 true,.int .u8 0,.slice none 0 0 true,.int .u8 0,.slice none 0 0 true,.int .u8 0,.slice none 0 0 true,.int .u8 0,.slice none 0 0 true] false]) fun C=>L6 Q a0 B.length 0 A.length 0 0 C)))):Zac pg Zhy [.ptr a0,.str x1] h Q:=
 Zac.of_body kp (c:=cod fn) (fn:=fn) Go.Proofs.Tryz.func71 (by kernel_rfl) (by kernel_rfl) (Nat.le_of_ble_eq_true (by kernel_rfl))
  (cast (by kernel_rfl) ht)
end Zgq
namespace Zpp
noncomputable abbrev fn:Func:=Go.Proofs.Tryz.f31
def kp:Zcu:=[]
noncomputable def C (p:List Nat):Code:=(cod fn).sub p
def KR (Q:QT):KT:=Zha pg fn.results.toList Q
theorem call (a0:Pt) (h:Zaa) (Q:QT) (ht :
 Zac pg Ziv [.ptr a0] h fun A B=>
 Zck A fun A=>Zac pg Zbn [.ptr a0,.int .i64 3] B fun B C=>
 Zbo .i64 B fun B=>bcase ((B:Int) == 0) (Zac pg Zhy [.ptr a0,.str A] C fun D E=>
 Zck D fun D=>Q (.tup [.str A,.str D]) E) (bcase ((B:Int) == 1) (Zac pg Zhy [.ptr a0,.str A] C fun B D=>
 Zck B fun B=>Q (.tup [.str B,.str A]) D) (Zac pg Ziv [.ptr a0] C fun B C=>
 Zck B fun B=>Q (.tup [.str A,.str B]) C))):Zac pg Zlp [.ptr a0] h Q:=
 Zac.of_body kp (c:=cod fn) (fn:=fn) Go.Proofs.Tryz.func31 (by kernel_rfl) (by kernel_rfl) (Nat.le_of_ble_eq_true (by kernel_rfl))
  (cast (by kernel_rfl) ht)
end Zpp
end Go.Sim

set_option maxRecDepth 100000
set_option maxHeartbeats 0
set_option linter.unusedVariables false
namespace Go.Sim
open Go Go.RowKit
namespace Zhf
noncomputable abbrev fn:Func:=Go.Proofs.Tryz.f32
def kp:Zcu:=[(4000003,[0])]
noncomputable def C (p:List Nat):Code:=(cod fn).sub p
def KR (Q:QT):KT:=Zha pg fn.results.toList Q
def J3 (Q:QT) (a0:Pt) (n0 c0:Nat) (e0:Bool) (h:Zaa):Prop:=Den pg fn.ntmps (C [1,1]) [(0,.slice a0 n0 c0 e0)] h (KR Q)
theorem J3i (Q:QT) (a0:Pt) (n0 c0:Nat) (e0:Bool) (h:Zaa) (ht :
 Zeg (h ++ [.cells Ziz [.slice a0 n0 c0 e0,.int .i64 0] false]) fun A=>Q (.ptr (h.length,0)) A):J3 Q a0 n0 c0 e0 h:=
 Zbb (kp:=kp) (cast (by kernel_rfl) ht)
theorem call (a0:Pt) (n0 c0:Nat) (e0:Bool) (h:Zaa) (Q:QT) (ht :
 bcase (decide (((((n0:Nat):Int)):Int) > 2000)) (Znk a0 n0 c0 e0 1 none (some (.int .i64 2000)) none fun A=>xSl A fun A B C D=>J3 Q A B C D h) (J3 Q a0 n0 c0 e0 h)):Zac pg Zjf [.slice a0 n0 c0 e0] h Q:=
 Zac.of_body kp (c:=cod fn) (fn:=fn) Go.Proofs.Tryz.func32 (by kernel_rfl) (by kernel_rfl) (Nat.le_of_ble_eq_true (by kernel_rfl))
  (cast (by kernel_rfl) ht)
end Zhf
namespace Zhd
noncomputable abbrev fn:Func:=Go.Proofs.Tryz.f70
def kp:Zcu:=[(4000004,[0,1]),(2000007,[6,1])]
noncomputable def C (p:List Nat):Code:=(cod fn).sub p
def KR (Q:QT):KT:=Zha pg fn.results.toList Q
def J4 (Q:QT) (a0:Pt) (x1:Int) (h:Zaa):Prop:=Den pg fn.ntmps (C [1,1,1]) [(0,.ptr a0),(1,.int .i64 x1)] h (KR Q)
theorem J4i (Q:QT) (a0:Pt) (x1:Int) (h:Zaa) (ht :
 Zax a0 fun A B=>Zbo .i64 (Zah h (.ptr (A,B + 1))) fun A=>Zax a0 fun B C=>xSl (Zah h (.ptr (B,C + 0))) fun B B C C=>bcase (decide (((IntKind.wrap .i64 (A - 1)):Int) < (((B:Nat):Int)))) (Zax a0 fun B C=>xSl (Zah h (.ptr (B,C + 0))) fun B C D D=>(0≤(IntKind.wrap .i64 (A - 1):Int)∧(IntKind.wrap .i64 (A - 1):Int) < (C:Nat))∧(Zax B fun B C=>Zbo .u8 (Zah h (.ptr (B,C + (Int.toNat (IntKind.wrap .i64 (A - 1))) * 1))) fun B=>(x1:Int)≠0∧(Q (.int .i64 (Int.tmod (IntKind.wrap .i64 (B)) x1)) h))) (Zax a0 fun B C=>Zax a0 fun D E=>Zax a0 fun F G=>Zax a0 fun H I=>Zax a0 fun J K=>xSl (Zah h (.ptr (B,C + 0))) fun L M N N=>xSl (Zah h (.ptr (D,E + 0))) fun N N O O=>((((N:Nat):Int)):Int)≠0∧((0≤(Int.tmod (IntKind.wrap .i64 (A - 1)) (((N:Nat):Int)):Int)∧(Int.tmod (IntKind.wrap .i64 (A - 1)) (((N:Nat):Int)):Int) < (M:Nat))∧(Zax L fun L M=>Zbo .u8 (Zah h (.ptr (L,M + (Int.toNat (Int.tmod (IntKind.wrap .i64 (A - 1)) (((N:Nat):Int)))) * 1))) fun O=>xSl (Zah h (.ptr (F,G + 0))) fun P R S S=>xSl (Zah h (.ptr (H,I + 0))) fun S S T T=>((((S:Nat):Int)):Int)≠0∧((0≤(Int.tmod (IntKind.wrap .i64 ((IntKind.wrap .i64 ((IntKind.wrap .i64 (A - 1)) * 7)) + 3)) (((S:Nat):Int)):Int)∧(Int.tmod (IntKind.wrap .i64 ((IntKind.wrap .i64 ((IntKind.wrap .i64 (A - 1)) * 7)) + 3)) (((S:Nat):Int)):Int) < (R:Nat))∧(Zax P fun P R=>Zbo .u8 (Zah h (.ptr (P,R + (Int.toNat (Int.tmod (IntKind.wrap .i64 ((IntKind.wrap .i64 ((IntKind.wrap .i64 (A - 1)) * 7)) + 3)) (((S:Nat):Int)))) * 1))) fun T=>xSl (Zah h (.ptr (J,K + 0))) fun J J K K=>(Zah h (.ptr (P,R + (Int.toNat (Int.tmod (IntKind.wrap .i64 ((IntKind.wrap .i64 ((IntKind.wrap .i64 (A - 1)) * 7)) + 3)) (((S:Nat):Int)))) * 1))=Zah h (.ptr (P,R + (Int.toNat (Int.tmod (IntKind.wrap .i64 ((IntKind.wrap .i64 ((IntKind.wrap .i64 (A - 1)) * 7)) + 3)) (((S:Nat):Int)))) * 1)))∧(Zah h (.ptr (H,I + 0))=Zah h (.ptr (H,I + 0)))∧(Zah h (.ptr (F,G + 0))=Zah h (.ptr (F,G + 0)))∧(Zah h (.ptr (L,M + (Int.toNat (Int.tmod (IntKind.wrap .i64 (A - 1)) (((N:Nat):Int)))) * 1))=Zah h (.ptr (L,M + (Int.toNat (Int.tmod (IntKind.wrap .i64 (A - 1)) (((N:Nat):Int)))) * 1)))∧(Zah h (.ptr (D,E + 0))=Zah h (.ptr (D,E + 0)))∧(Zah h (.ptr (B,C + 0))=Zah h (.ptr (B,C + 0)))∧((((J:Nat):Int)):Int)≠0∧((64:Int)≠0∧((x1:Int)≠0∧(Q (.int .i64 (Int.tmod (IntKind.wrap .i64 (BitVec.ofInt (IntKind.bits .i64) (IntKind.wrap .i64 ((IntKind.wrap .i64 ((IntKind.wrap .i64 ((IntKind.wrap .i64 ((IntKind.wrap .i64 (O)) * 131)) + (IntKind.wrap .i64 ((IntKind.wrap .i64 (T)) * 1117)))) + (IntKind.wrap .i64 ((IntKind.wrap .i64 (A - 1)) * 29)))) + (IntKind.wrap .i64 ((IntKind.wrap .i64 (Int.tdiv (IntKind.wrap .i64 (A - 1)) (((J:Nat):Int)))) * 53)))) ^^^ BitVec.ofInt (IntKind.bits .i64) (IntKind.wrap .i64 (Int.tdiv (IntKind.wrap .i64 ((IntKind.wrap .i64 ((IntKind.wrap .i64 ((IntKind.wrap .i64 ((IntKind.wrap .i64 (O)) * 131)) + (IntKind.wrap .i64 ((IntKind.wrap .i64 (T)) * 1117)))) + (IntKind.wrap .i64 ((IntKind.wrap .i64 (A - 1)) * 29)))) + (IntKind.wrap .i64 ((IntKind.wrap .i64 (Int.tdiv (IntKind.wrap .i64 (A - 1)) (((J:Nat):Int)))) * 53)))) 64))).toNat) x1)) h))))))))):J4 Q a0 x1 h:=
 Zbb (kp:=kp) (cast (by kernel_rfl) ht)
theorem call (a0:Pt) (x1:Int) (h:Zaa) (Q:QT) (ht :
 Zax a0 fun A B=>Zbo .i64 (Zah h (.ptr (A,B + 1))) fun A=>Zax a0 fun B C=>Zcc (Zbf h (.ptr (B,C + 1)) [.int .i64 (IntKind.wrap .i64 (A + 1))]) fun A=>bcase (decide ((x1:Int) < 1)) (Q (.int .i64 0) A) (Zax a0 fun B C=>xSl (Zah A (.ptr (B,C + 0))) fun B B C C=>bcase ((((B:Nat):Int):Int) == 0) (Q (.int .i64 0) A) (J4 Q a0 x1 A))):Zac pg Zbn [.ptr a0,.int .i64 x1] h Q:=
 Zac.of_body kp (c:=cod fn) (fn:=fn) Go.Proofs.Tryz.func70 (by kernel_rfl) (by kernel_rfl) (Nat.le_of_ble_eq_true (by kernel_rfl))
  (cast (by kernel_rfl) ht)
end Zhd
namespace Zlj
noncomputable abbrev fn:Func:=Go.Proofs.Tryz.f117
def kp:Zcu:=[]
noncomputable def C (p:List Nat):Code:=(cod fn).sub p
def KR (Q:QT):KT:=Zha pg fn.results.toList Q
theorem call (a0 a1:Pt) (n1 c1:Nat) (e1:Bool) (h:Zaa) (Q:QT) (ht :
 Zac pg Zbn [.ptr a0,.int .i64 (((n1:Nat):Int))] h fun A B=>
 Zbo .i64 A fun A=>(0≤(A:Int)∧(A:Int) < (n1:Nat))∧(Zax a1 fun C D=>Zck (Zah B (.ptr (C,D + (Int.toNat A) * 1))) fun A=>Q (.str A) B)):Zac pg Zcs [.ptr a0,.slice a1 n1 c1 e1] h Q:=
 Zac.of_body kp (c:=cod fn) (fn:=fn) Go.Proofs.Tryz.func117 (by kernel_rfl) (by kernel_rfl) (Nat.le_of_ble_eq_true (by kernel_rfl))
  (cast (by kernel_rfl) ht)
end Zlj
end Go.Sim
