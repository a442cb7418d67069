/- A part of the proof of a statement of this seat: see the text that holds the theorem. No condition. -/
import Derived.Test.YtflfcofeedjblaaGreatDoorNm
set_option linter.unusedVariables false
set_option linter.unusedSimpArgs false
set_option linter.all false
set_option maxRecDepth 100000
set_option maxHeartbeats 0
set_option linter.unusedVariables false
namespace Go.Sim
open Go Go.RowKit
namespace Zcg
noncomputable abbrev fn:Func:=Go.Proofs.Tryz.f3
def kp:Zch:=[(2000006,[68,5,7,6,8,3,4]),(2000007,[2]),(4000008,[5,3,4]),(3000009,[4,5,2]),(1000009,[3,4,5,93,94,95]),(4000014,[5,9,3,4,10,93,94,95]),(3000015,[95,94,93,3,4,5,2]),(1000015,[3,4,5,10,93,94,95,119,120,121]),(4000020,[95,94,93,3,4,5]),(3000022,[2]),(1000022,[5,130,131,132]),(3000026,[17,132,131,130,5]),(1000026,[5,16,17,130,131,132,136,137,138]),(4000029,[138,137,136,17,16,132,131,130,5])]
noncomputable def C (p:List Nat):Code:=(cod fn).sub p
def KR (Q:QT):KT:=Zfd pg fn.results.toList Q
abbrev T9:=Nat→Nat→Pt→Nat→Nat→Bool→Pt→Nat→Nat→Bool→Pt→Nat→Nat→Bool→Int→Int→Zaa→Prop
def E9 (R9:T9) (env:Env) (h:Zaa):Prop:=Zbu 3 env fun v env=>Zgn v fun a=>Zbf a fun i3 o3=>Zbu 4 env fun v env=>xSl v fun a4 n4 c4 e4=>Zbu 5 env fun v env=>xSl v fun a5 n5 c5 e5=>Zbu 93 env fun v env=>xSl v fun a93 n93 c93 e93=>Zbu 94 env fun v env=>Zdz .i64 v fun x94=>Zbu 95 env fun v env=>Zdz .i64 v fun x95=>Zil env (R9 i3 o3 a4 n4 c4 e4 a5 n5 c5 e5 a93 n93 c93 e93 x94 x95 h)
theorem Zny {R9:T9} {env:Env} {h:Zaa} (hi:E9 R9 env h):∃ i3,∃ o3,∃ a4,∃ n4,∃ c4,∃ e4,∃ a5,∃ n5,∃ c5,∃ e5,∃ a93,∃ n93,∃ c93,∃ e93,∃ x94,∃ x95,env=[(3,.ptr (i3,o3)),(4,.slice a4 n4 c4 e4),(5,.slice a5 n5 c5 e5),(93,.slice a93 n93 c93 e93),(94,.int .i64 x94),(95,.int .i64 x95)]∧R9 i3 o3 a4 n4 c4 e4 a5 n5 c5 e5 a93 n93 c93 e93 x94 x95 h:=by
 unfold E9 at hi
 have hi0:=hi
 clear hi
 obtain ⟨_,_,rfl,hi1⟩:=Zaf hi0
 obtain ⟨a,rfl,hi2⟩:=Zbn hi1
 obtain ⟨i3,o3,rfl,hi3⟩:=Zbk hi2
 obtain ⟨_,_,rfl,hi4⟩:=Zaf hi3
 obtain ⟨a4,n4,c4,e4,rfl,hi5⟩:=Zbp hi4
 obtain ⟨_,_,rfl,hi6⟩:=Zaf hi5
 obtain ⟨a5,n5,c5,e5,rfl,hi7⟩:=Zbp hi6
 obtain ⟨_,_,rfl,hi8⟩:=Zaf hi7
 obtain ⟨a93,n93,c93,e93,rfl,hi9⟩:=Zbp hi8
 obtain ⟨_,_,rfl,hi10⟩:=Zaf hi9
 obtain ⟨x94,rfl,hi11⟩:=Zav hi10
 obtain ⟨_,_,rfl,hi12⟩:=Zaf hi11
 obtain ⟨x95,rfl,hi13⟩:=Zav hi12
 obtain ⟨rfl,hi14⟩:=Zbl hi13
 have hi:=hi14
 exact ⟨i3,o3,a4,n4,c4,e4,a5,n5,c5,e5,a93,n93,c93,e93,x94,x95,rfl,hi⟩
abbrev T15:=Nat→Nat→Pt→Nat→Nat→Bool→Pt→Nat→Nat→Bool→Nat→Nat→Pt→Nat→Nat→Bool→Int→Int→Pt→Nat→Nat→Bool→Int→Int→Zaa→Prop
def E15 (R15:T15) (env:Env) (h:Zaa):Prop:=Zbu 3 env fun v env=>Zgn v fun a=>Zbf a fun i3 o3=>Zbu 4 env fun v env=>xSl v fun a4 n4 c4 e4=>Zbu 5 env fun v env=>xSl v fun a5 n5 c5 e5=>Zbu 10 env fun v env=>Zgn v fun a=>Zbf a fun i10 o10=>Zbu 93 env fun v env=>xSl v fun a93 n93 c93 e93=>Zbu 94 env fun v env=>Zdz .i64 v fun x94=>Zbu 95 env fun v env=>Zdz .i64 v fun x95=>Zbu 119 env fun v env=>xSl v fun a119 n119 c119 e119=>Zbu 120 env fun v env=>Zdz .i64 v fun x120=>Zbu 121 env fun v env=>Zdz .i64 v fun x121=>Zil env (R15 i3 o3 a4 n4 c4 e4 a5 n5 c5 e5 i10 o10 a93 n93 c93 e93 x94 x95 a119 n119 c119 e119 x120 x121 h)
theorem Ybw {R15:T15} {env:Env} {h:Zaa} (hi:E15 R15 env h):∃ i3,∃ o3,∃ a4,∃ n4,∃ c4,∃ e4,∃ a5,∃ n5,∃ c5,∃ e5,∃ i10,∃ o10,∃ a93,∃ n93,∃ c93,∃ e93,∃ x94,∃ x95,∃ a119,∃ n119,∃ c119,∃ e119,∃ x120,∃ x121,env=[(3,.ptr (i3,o3)),(4,.slice a4 n4 c4 e4),(5,.slice a5 n5 c5 e5),(10,.ptr (i10,o10)),(93,.slice a93 n93 c93 e93),(94,.int .i64 x94),(95,.int .i64 x95),(119,.slice a119 n119 c119 e119),(120,.int .i64 x120),(121,.int .i64 x121)]∧R15 i3 o3 a4 n4 c4 e4 a5 n5 c5 e5 i10 o10 a93 n93 c93 e93 x94 x95 a119 n119 c119 e119 x120 x121 h:=by
 unfold E15 at hi
 have hi0:=hi
 clear hi
 obtain ⟨_,_,rfl,hi1⟩:=Zaf hi0
 obtain ⟨a,rfl,hi2⟩:=Zbn hi1
 obtain ⟨i3,o3,rfl,hi3⟩:=Zbk hi2
 obtain ⟨_,_,rfl,hi4⟩:=Zaf hi3
 obtain ⟨a4,n4,c4,e4,rfl,hi5⟩:=Zbp hi4
 obtain ⟨_,_,rfl,hi6⟩:=Zaf hi5
 obtain ⟨a5,n5,c5,e5,rfl,hi7⟩:=Zbp hi6
 obtain ⟨_,_,rfl,hi8⟩:=Zaf hi7
 obtain ⟨a,rfl,hi9⟩:=Zbn hi8
 obtain ⟨i10,o10,rfl,hi10⟩:=Zbk hi9
 obtain ⟨_,_,rfl,hi11⟩:=Zaf hi10
 obtain ⟨a93,n93,c93,e93,rfl,hi12⟩:=Zbp hi11
 obtain ⟨_,_,rfl,hi13⟩:=Zaf hi12
 obtain ⟨x94,rfl,hi14⟩:=Zav hi13
 obtain ⟨_,_,rfl,hi15⟩:=Zaf hi14
 obtain ⟨x95,rfl,hi16⟩:=Zav hi15
 obtain ⟨_,_,rfl,hi17⟩:=Zaf hi16
 obtain ⟨a119,n119,c119,e119,rfl,hi18⟩:=Zbp hi17
 obtain ⟨_,_,rfl,hi19⟩:=Zaf hi18
 obtain ⟨x120,rfl,hi20⟩:=Zav hi19
 obtain ⟨_,_,rfl,hi21⟩:=Zaf hi20
 obtain ⟨x121,rfl,hi22⟩:=Zav hi21
 obtain ⟨rfl,hi23⟩:=Zbl hi22
 have hi:=hi23
 exact ⟨i3,o3,a4,n4,c4,e4,a5,n5,c5,e5,i10,o10,a93,n93,c93,e93,x94,x95,a119,n119,c119,e119,x120,x121,rfl,hi⟩
abbrev T22:=Pt→Nat→Nat→Bool→Pt→Nat→Nat→Bool→Int→Int→Zaa→Prop
def E22 (R22:T22) (env:Env) (h:Zaa):Prop:=Zbu 5 env fun v env=>xSl v fun a5 n5 c5 e5=>Zbu 130 env fun v env=>xSl v fun a130 n130 c130 e130=>Zbu 131 env fun v env=>Zdz .i64 v fun x131=>Zbu 132 env fun v env=>Zdz .i64 v fun x132=>Zil env (R22 a5 n5 c5 e5 a130 n130 c130 e130 x131 x132 h)
theorem Yqx {R22:T22} {env:Env} {h:Zaa} (hi:E22 R22 env h):∃ a5,∃ n5,∃ c5,∃ e5,∃ a130,∃ n130,∃ c130,∃ e130,∃ x131,∃ x132,env=[(5,.slice a5 n5 c5 e5),(130,.slice a130 n130 c130 e130),(131,.int .i64 x131),(132,.int .i64 x132)]∧R22 a5 n5 c5 e5 a130 n130 c130 e130 x131 x132 h:=by
 unfold E22 at hi
 repeat ((first | (have k:=Zaf hi; clear hi; obtain ⟨_,_,e,hi⟩:=k) | (have k:=Zav hi; clear hi; obtain ⟨_,e,hi⟩:=k) | (have k:=Zbp hi; clear hi; obtain ⟨_,_,_,_,e,hi⟩:=k)); subst e)
 obtain ⟨rfl,hi⟩:=Zbl hi
 exact ⟨_,_,_,_,_,_,_,_,_,_,rfl,hi⟩
abbrev T26:=Pt→Nat→Nat→Bool→Nat→Nat→Bool→Pt→Nat→Nat→Bool→Int→Int→Pt→Nat→Nat→Bool→Int→Int→Zaa→Prop
def E26 (R26:T26) (env:Env) (h:Zaa):Prop:=Zbu 5 env fun v env=>xSl v fun a5 n5 c5 e5=>Zbu 16 env fun v env=>Zgn v fun a=>Zbf a fun i16 o16=>Zbu 17 env fun v env=>Zca v fun x17=>Zbu 130 env fun v env=>xSl v fun a130 n130 c130 e130=>Zbu 131 env fun v env=>Zdz .i64 v fun x131=>Zbu 132 env fun v env=>Zdz .i64 v fun x132=>Zbu 136 env fun v env=>xSl v fun a136 n136 c136 e136=>Zbu 137 env fun v env=>Zdz .i64 v fun x137=>Zbu 138 env fun v env=>Zdz .i64 v fun x138=>Zil env (R26 a5 n5 c5 e5 i16 o16 x17 a130 n130 c130 e130 x131 x132 a136 n136 c136 e136 x137 x138 h)
theorem Ytb {R26:T26} {env:Env} {h:Zaa} (hi:E26 R26 env h):∃ a5,∃ n5,∃ c5,∃ e5,∃ i16,∃ o16,∃ x17,∃ a130,∃ n130,∃ c130,∃ e130,∃ x131,∃ x132,∃ a136,∃ n136,∃ c136,∃ e136,∃ x137,∃ x138,env=[(5,.slice a5 n5 c5 e5),(16,.ptr (i16,o16)),(17,.bool x17),(130,.slice a130 n130 c130 e130),(131,.int .i64 x131),(132,.int .i64 x132),(136,.slice a136 n136 c136 e136),(137,.int .i64 x137),(138,.int .i64 x138)]∧R26 a5 n5 c5 e5 i16 o16 x17 a130 n130 c130 e130 x131 x132 a136 n136 c136 e136 x137 x138 h:=by
 unfold E26 at hi
 have hi0:=hi
 clear hi
 obtain ⟨_,_,rfl,hi1⟩:=Zaf hi0
 obtain ⟨a5,n5,c5,e5,rfl,hi2⟩:=Zbp hi1
 obtain ⟨_,_,rfl,hi3⟩:=Zaf hi2
 obtain ⟨a,rfl,hi4⟩:=Zbn hi3
 obtain ⟨i16,o16,rfl,hi5⟩:=Zbk hi4
 obtain ⟨_,_,rfl,hi6⟩:=Zaf hi5
 obtain ⟨x17,rfl,hi7⟩:=Zxx hi6
 obtain ⟨_,_,rfl,hi8⟩:=Zaf hi7
 obtain ⟨a130,n130,c130,e130,rfl,hi9⟩:=Zbp hi8
 obtain ⟨_,_,rfl,hi10⟩:=Zaf hi9
 obtain ⟨x131,rfl,hi11⟩:=Zav hi10
 obtain ⟨_,_,rfl,hi12⟩:=Zaf hi11
 obtain ⟨x132,rfl,hi13⟩:=Zav hi12
 obtain ⟨_,_,rfl,hi14⟩:=Zaf hi13
 obtain ⟨a136,n136,c136,e136,rfl,hi15⟩:=Zbp hi14
 obtain ⟨_,_,rfl,hi16⟩:=Zaf hi15
 obtain ⟨x137,rfl,hi17⟩:=Zav hi16
 obtain ⟨_,_,rfl,hi18⟩:=Zaf hi17
 obtain ⟨x138,rfl,hi19⟩:=Zav hi18
 obtain ⟨rfl,hi20⟩:=Zbl hi19
 have hi:=hi20
 exact ⟨a5,n5,c5,e5,i16,o16,x17,a130,n130,c130,e130,x131,x132,a136,n136,c136,e136,x137,x138,rfl,hi⟩
def K0 (Q:QT):KT:=andThen (fun env' h'=>(match kp.find 4000021 with | some ks=>Den pg fn.ntmps (C [1,1,1,1,1,1,1]) (env'.keep ks) h' (KR Q) | none=>den pg fn.ntmps kp (C [1,1,1,1,1,1,1]) env' h' (KR Q))) (KR Q)
def K1 (Q:QT):KT:=Zcj 0 (K0 Q)
def K2 (Q:QT):KT:=left kp 9 (K1 Q)
def K3 (Q:QT) (R9:T9):KT:=rnd ((kp.find 1000009).getD []) (E9 R9) (K2 Q)
def K4 (Q:QT) (R9:T9):KT:=andThen (fun env' h'=>(match kp.find 4000020 with | some ks=>Den pg fn.ntmps (C [1,1,1,1,1,1,0,1,0,0,1,1,1]) (env'.keep ks) h' (K3 Q R9) | none=>den pg fn.ntmps kp (C [1,1,1,1,1,1,0,1,0,0,1,1,1]) env' h' (K3 Q R9))) (K3 Q R9)
def K5 (Q:QT) (R9:T9):KT:=Zcj 1 (K4 Q R9)
def K6 (Q:QT) (R9:T9):KT:=Zcj 2 (K5 Q R9)
def K7 (Q:QT) (R9:T9):KT:=left kp 15 (K6 Q R9)
def K8 (Q:QT) (R9:T9) (R15:T15):KT:=rnd ((kp.find 1000015).getD []) (E15 R15) (K7 Q R9)
def K9 (Q:QT):KT:=andThen (fun env' h'=>(match kp.find 4000033 with | some ks=>Den pg fn.ntmps (C [1,1,1,1,1,1,1,1]) (env'.keep ks) h' (KR Q) | none=>den pg fn.ntmps kp (C [1,1,1,1,1,1,1,1]) env' h' (KR Q))) (KR Q)
def K10 (Q:QT):KT:=Zcj 4 (K9 Q)
def K11 (Q:QT):KT:=left kp 22 (K10 Q)
def K12 (Q:QT) (R22:T22):KT:=rnd ((kp.find 1000022).getD []) (E22 R22) (K11 Q)
def K13 (Q:QT) (R22:T22):KT:=andThen (fun env' h'=>(match kp.find 4000032 with | some ks=>Den pg fn.ntmps (C [1,1,1,1,1,1,1,0,1,0,0,1,1,1]) (env'.keep ks) h' (K12 Q R22) | none=>den pg fn.ntmps kp (C [1,1,1,1,1,1,1,0,1,0,0,1,1,1]) env' h' (K12 Q R22))) (K12 Q R22)
def K14 (Q:QT) (R22:T22):KT:=Zcj 5 (K13 Q R22)
def K15 (Q:QT) (R22:T22):KT:=andThen (fun env' h'=>(match kp.find 4000030 with | some ks=>Den pg fn.ntmps (C [1,1,1,1,1,1,1,0,1,0,0,1,1,0,0,1,1,1]) (env'.keep ks) h' (K14 Q R22) | none=>den pg fn.ntmps kp (C [1,1,1,1,1,1,1,0,1,0,0,1,1,0,0,1,1,1]) env' h' (K14 Q R22))) (K14 Q R22)
def K16 (Q:QT) (R22:T22):KT:=Zcj 6 (K15 Q R22)
def K17 (Q:QT) (R22:T22):KT:=left kp 26 (K16 Q R22)
def K18 (Q:QT) (R22:T22) (R26:T26):KT:=rnd ((kp.find 1000026).getD []) (E26 R26) (K17 Q R22)
def J8 (Q:QT) (a5:Pt) (n5 c5:Nat) (e5:Bool) (i3 o3:Nat) (a4:Pt) (n4 c4:Nat) (e4:Bool) (h:Zaa):Prop:=Den pg fn.ntmps (C [1,1,1,1,1,1]) [(5,.slice a5 n5 c5 e5),(3,.ptr (i3,o3)),(4,.slice a4 n4 c4 e4)] h (KR Q)
def L9 (Q:QT) (i3 o3:Nat) (a4:Pt) (n4 c4:Nat) (e4:Bool) (a5:Pt) (n5 c5:Nat) (e5:Bool) (a93:Pt) (n93 c93:Nat) (e93:Bool) (x94 x95:Int) (h:Zaa):Prop:=Zej (Den pg fn.ntmps (C [1,1,1,1,1,1,0,1,0,0])) ((kp.find 1000009).getD []) (K2 Q) [(3,.ptr (i3,o3)),(4,.slice a4 n4 c4 e4),(5,.slice a5 n5 c5 e5),(93,.slice a93 n93 c93 e93),(94,.int .i64 x94),(95,.int .i64 x95)] h
def J14 (Q:QT) (R9:T9) (a5:Pt) (n5 c5:Nat) (e5:Bool) (x9:Int) (i3 o3:Nat) (a4:Pt) (n4 c4:Nat) (e4:Bool) (i10 o10:Nat) (a93:Pt) (n93 c93:Nat) (e93:Bool) (x94 x95:Int) (h:Zaa):Prop:=Den pg fn.ntmps (C [1,1,1,1,1,1,0,1,0,0,1,1,0,0,1,1,1]) [(5,.slice a5 n5 c5 e5),(9,.int .i64 x9),(3,.ptr (i3,o3)),(4,.slice a4 n4 c4 e4),(10,.ptr (i10,o10)),(93,.slice a93 n93 c93 e93),(94,.int .i64 x94),(95,.int .i64 x95)] h (K5 Q R9)
def Yzc (Q:QT) (a4:Pt) (n4 c4:Nat) (e4:Bool) (a5:Pt) (n5 c5:Nat) (e5:Bool) (h:Zaa):Prop:=At (K1 Q) (.exit 0) [(4,.slice a4 n4 c4 e4),(5,.slice a5 n5 c5 e5),(2,.undef)] h
def L15 (Q:QT) (R9:T9) (i3 o3:Nat) (a4:Pt) (n4 c4:Nat) (e4:Bool) (a5:Pt) (n5 c5:Nat) (e5:Bool) (i10 o10:Nat) (a93:Pt) (n93 c93:Nat) (e93:Bool) (x94 x95:Int) (a119:Pt) (n119 c119:Nat) (e119:Bool) (x120 x121:Int) (h:Zaa):Prop:=Zej (Den pg fn.ntmps (C [1,1,1,1,1,1,0,1,0,0,1,1,0,0,1,1,1,1,0,0])) ((kp.find 1000015).getD []) (K7 Q R9) [(3,.ptr (i3,o3)),(4,.slice a4 n4 c4 e4),(5,.slice a5 n5 c5 e5),(10,.ptr (i10,o10)),(93,.slice a93 n93 c93 e93),(94,.int .i64 x94),(95,.int .i64 x95),(119,.slice a119 n119 c119 e119),(120,.int .i64 x120),(121,.int .i64 x121)] h
def L22 (Q:QT) (a5:Pt) (n5 c5:Nat) (e5:Bool) (a130:Pt) (n130 c130:Nat) (e130:Bool) (x131 x132:Int) (h:Zaa):Prop:=Zej (Den pg fn.ntmps (C [1,1,1,1,1,1,1,0,1,0,0])) ((kp.find 1000022).getD []) (K11 Q) [(5,.slice a5 n5 c5 e5),(130,.slice a130 n130 c130 e130),(131,.int .i64 x131),(132,.int .i64 x132)] h
def Yzo (Q:QT) (R9:T9) (x95 x94:Int) (a93:Pt) (n93 c93:Nat) (e93:Bool) (i3 o3:Nat) (a4:Pt) (n4 c4:Nat) (e4:Bool) (a5:Pt) (n5 c5:Nat) (e5:Bool) (h:Zaa):Prop:=At (K6 Q R9) (.exit 2) [(95,.int .i64 x95),(94,.int .i64 x94),(93,.slice a93 n93 c93 e93),(3,.ptr (i3,o3)),(4,.slice a4 n4 c4 e4),(5,.slice a5 n5 c5 e5),(2,.undef)] h
def L26 (Q:QT) (R22:T22) (a5:Pt) (n5 c5:Nat) (e5:Bool) (i16 o16:Nat) (x17:Bool) (a130:Pt) (n130 c130:Nat) (e130:Bool) (x131 x132:Int) (a136:Pt) (n136 c136:Nat) (e136:Bool) (x137 x138:Int) (h:Zaa):Prop:=Zej (Den pg fn.ntmps (C [1,1,1,1,1,1,1,0,1,0,0,1,1,0,0,1,1,0,1,0,0])) ((kp.find 1000026).getD []) (K17 Q R22) [(5,.slice a5 n5 c5 e5),(16,.ptr (i16,o16)),(17,.bool x17),(130,.slice a130 n130 c130 e130),(131,.int .i64 x131),(132,.int .i64 x132),(136,.slice a136 n136 c136 e136),(137,.int .i64 x137),(138,.int .i64 x138)] h
def Xak (Q:QT) (h:Zaa):Prop:=At (K10 Q) (.exit 4) [(2,.undef)] h
def J20 (Q:QT) (R9:T9) (x95 x94:Int) (a93:Pt) (n93 c93:Nat) (e93:Bool) (i3 o3:Nat) (a4:Pt) (n4 c4:Nat) (e4:Bool) (a5:Pt) (n5 c5:Nat) (e5:Bool) (h:Zaa):Prop:=Den pg fn.ntmps (C [1,1,1,1,1,1,0,1,0,0,1,1,1]) [(95,.int .i64 x95),(94,.int .i64 x94),(93,.slice a93 n93 c93 e93),(3,.ptr (i3,o3)),(4,.slice a4 n4 c4 e4),(5,.slice a5 n5 c5 e5)] h (K3 Q R9)
def J29 (Q:QT) (R22:T22) (R26:T26) (x138 x137:Int) (a136:Pt) (n136 c136:Nat) (e136 x17:Bool) (i16 o16:Nat) (x132 x131:Int) (a130:Pt) (n130 c130:Nat) (e130:Bool) (a5:Pt) (n5 c5:Nat) (e5:Bool) (h:Zaa):Prop:=Den pg fn.ntmps (C [1,1,1,1,1,1,1,0,1,0,0,1,1,0,0,1,1,0,1,0,0,1,1,1]) [(138,.int .i64 x138),(137,.int .i64 x137),(136,.slice a136 n136 c136 e136),(17,.bool x17),(16,.ptr (i16,o16)),(132,.int .i64 x132),(131,.int .i64 x131),(130,.slice a130 n130 c130 e130),(5,.slice a5 n5 c5 e5)] h (K18 Q R22 R26)
def Xag (Q:QT) (R22:T22) (x17:Bool) (x132 x131:Int) (a130:Pt) (n130 c130:Nat) (e130:Bool) (a5:Pt) (n5 c5:Nat) (e5:Bool) (h:Zaa):Prop:=At (K16 Q R22) (.exit 6) [(17,.bool x17),(132,.int .i64 x132),(131,.int .i64 x131),(130,.slice a130 n130 c130 e130),(5,.slice a5 n5 c5 e5)] h
theorem J8i (Q:QT) (a5:Pt) (n5 c5:Nat) (e5:Bool) (i3 o3:Nat) (a4:Pt) (n4 c4:Nat) (e4:Bool) (h:Zaa) (ht :
 L9 Q i3 o3 a4 n4 c4 e4 a5 n5 c5 e5 a5 n5 c5 e5 (((n5:Nat):Int)) 0 h):J8 Q a5 n5 c5 e5 i3 o3 a4 n4 c4 e4 h:=
 Zba (kp:=kp) (cast (by kernel_rfl) ht)
def L9t (Q:QT) (R9:T9) (i3 o3:Nat) (a4:Pt) (n4 c4:Nat) (e4:Bool) (a5:Pt) (n5 c5:Nat) (e5:Bool) (a93:Pt) (n93 c93:Nat) (e93:Bool) (x94 x95:Int) (h:Zaa):Prop:=
 bcase (decide ((x95:Int) < x94)) ((0≤(x95:Int)∧(x95:Int) < (n93:Nat))∧(Zbf a93 fun A B=>Zcd (Zbe h (.ptr (A,B + (Int.toNat x95) * 2)) 2) fun A=>Zai A fun A B=>Zbd A fun A=>Zai B fun B C=>Zbd B fun B=>Zbq C (Zcf (h ++ [.cells Zab [.str [],.str []] false]) fun C=>Zbt (Zbb C (.ptr (h.length,0)) [.str A,.str B]) fun A=>Zcd (Zbe A (.ptr (i3,o3)) 2) fun B=>Zai B fun B C=>xSl B fun B D E F=>Zai C fun C G=>xSl C fun C H I J=>Zbq G (Zcd (Zbe A (.ptr (h.length,0)) 2) fun G=>Zai G fun G K=>Zbd G fun G=>Zai K fun K L=>Zbd K fun K=>Zbq L (Zak pg Zll [.agg [.slice B D E F,.slice C H I J],.slice a4 n4 c4 e4,.agg [.str G,.str K]] A fun A B=>
 Zlf A fun A=>Zai A fun A C=>Zbd A fun A=>Zai C fun C D=>Zbd C fun C=>Zbq D (Zcd (Zbe B (.ptr (i3,o3)) 2) fun C=>Zai C fun C D=>xSl C fun C E F G=>Zai D fun D H=>xSl D fun D I J K=>Zbq H (Zcd (Zbe B (.ptr (h.length,0)) 2) fun H=>Zai H fun H L=>Zbd H fun H=>Zai L fun L M=>Zbd L fun L=>Zbq M (Zak pg Zra [.agg [.slice C E F G,.slice D I J K],.slice a4 n4 c4 e4,.agg [.str H,.str L]] B fun B C=>
 Zca B fun B=>bcase (!B) (Q (.bool false) C) (bcase (decide (((((List.length A:Nat):Int)):Int) > 2)) (Q (.bool false) C) (J14 Q R9 a5 n5 c5 e5 x95 i3 o3 a4 n4 c4 e4 h.length 0 a93 n93 c93 e93 x94 x95 C)))))))))) (Yzc Q a4 n4 c4 e4 a5 n5 c5 e5 h)
theorem Ybi (Q:QT) (R9:T9) (i3 o3:Nat) (a4:Pt) (n4 c4:Nat) (e4:Bool) (a5:Pt) (n5 c5:Nat) (e5:Bool) (a93:Pt) (n93 c93:Nat) (e93:Bool) (x94 x95:Int) (h:Zaa) (ht:L9t Q R9 i3 o3 a4 n4 c4 e4 a5 n5 c5 e5 a93 n93 c93 e93 x94 x95 h):Den pg fn.ntmps (C [1,1,1,1,1,1,0,1,0,0]) [(3,.ptr (i3,o3)),(4,.slice a4 n4 c4 e4),(5,.slice a5 n5 c5 e5),(93,.slice a93 n93 c93 e93),(94,.int .i64 x94),(95,.int .i64 x95)] h (K3 Q R9):=
 Zba (kp:=kp) (cast (by kernel_rfl) ht)
theorem L9ind (Q:QT) (i3 o3:Nat) (a4:Pt) (n4 c4:Nat) (e4:Bool) (a5:Pt) (n5 c5:Nat) (e5:Bool) (a93:Pt) (n93 c93:Nat) (e93:Bool) (x94:Int) {G:Type} (J:G→Int→Zaa→Prop) (m:G→Nat)
 (hr:∀ (g:G) (x95:Int) (h:Zaa),J g x95 h→∀ (R9:T9),(∀ g' (x95:Int) (h:Zaa),m g' < m g→J g' x95 h→R9 i3 o3 a4 n4 c4 e4 a5 n5 c5 e5 a93 n93 c93 e93 x94 x95 h)→L9t Q R9 i3 o3 a4 n4 c4 e4 a5 n5 c5 e5 a93 n93 c93 e93 x94 x95 h)
 (g:G) (x95:Int) (h:Zaa) (hj:J g x95 h):L9 Q i3 o3 a4 n4 c4 e4 a5 n5 c5 e5 a93 n93 c93 e93 x94 x95 h:=by
 let P:=fun (K:Int→Zaa→Prop) i3' o3' a4' n4' c4' e4' a5' n5' c5' e5' a93' n93' c93' e93' x94' x95 h=>i3=i3'∧o3=o3'∧a4=a4'∧n4=n4'∧c4=c4'∧e4=e4'∧a5=a5'∧n5=n5'∧c5=c5'∧e5=e5'∧a93=a93'∧n93=n93'∧c93=c93'∧e93=e93'∧x94=x94'∧K x95 h
 refine Zej.inv2 (fun g=>E9 (P (J g))) (fun g=>E9 (P fun x95 h=>∃ g',m g' < m g∧J g' x95 h)) m ?_ ?_ g ⟨rfl,rfl,rfl,rfl,rfl,rfl,rfl,rfl,rfl,rfl,rfl,rfl,rfl,rfl,rfl,hj⟩
 ·intro g env h hi
  obtain ⟨i3',o3',a4',n4',c4',e4',a5',n5',c5',e5',a93',n93',c93',e93',x94',x95,rfl,rfl,rfl,rfl,rfl,rfl,rfl,rfl,rfl,rfl,rfl,rfl,rfl,rfl,rfl,rfl,hj⟩:=Zny hi
  exact Ybi Q _ i3 o3 a4 n4 c4 e4 a5 n5 c5 e5 a93 n93 c93 e93 x94 x95 h (hr g x95 h hj (P fun x95 h=>∃ g',m g' < m g∧J g' x95 h) fun g' x95 h hlt hj=>⟨rfl,rfl,rfl,rfl,rfl,rfl,rfl,rfl,rfl,rfl,rfl,rfl,rfl,rfl,rfl,g',hlt,hj⟩)
 ·intro g env h hi
  obtain ⟨i3',o3',a4',n4',c4',e4',a5',n5',c5',e5',a93',n93',c93',e93',x94',x95,rfl,rfl,rfl,rfl,rfl,rfl,rfl,rfl,rfl,rfl,rfl,rfl,rfl,rfl,rfl,rfl,g',hlt,hj⟩:=Zny hi
  exact ⟨g',hlt,rfl,rfl,rfl,rfl,rfl,rfl,rfl,rfl,rfl,rfl,rfl,rfl,rfl,rfl,rfl,hj⟩
theorem J14i (Q:QT) (R9:T9) (a5:Pt) (n5 c5:Nat) (e5:Bool) (x9:Int) (i3 o3:Nat) (a4:Pt) (n4 c4:Nat) (e4:Bool) (i10 o10:Nat) (a93:Pt) (n93 c93:Nat) (e93:Bool) (x94 x95:Int) (h:Zaa) (ht :
 Zhu a5 n5 c5 e5 2 none (some (.int .i64 x9)) none fun A=>xSl A fun A B C D=>L15 Q R9 i3 o3 a4 n4 c4 e4 a5 n5 c5 e5 i10 o10 a93 n93 c93 e93 x94 x95 A B C D (((B:Nat):Int)) 0 h):J14 Q R9 a5 n5 c5 e5 x9 i3 o3 a4 n4 c4 e4 i10 o10 a93 n93 c93 e93 x94 x95 h:=
 Zba (kp:=kp) (cast (by kernel_rfl) ht)
theorem A9x0i (Q:QT) (a4:Pt) (n4 c4:Nat) (e4:Bool) (a5:Pt) (n5 c5:Nat) (e5:Bool) (h:Zaa) (ht :
 L22 Q a5 n5 c5 e5 a4 n4 c4 e4 (((n4:Nat):Int)) 0 h):Yzc Q a4 n4 c4 e4 a5 n5 c5 e5 h:=
 At.mk (cast (by kernel_rfl) ht)
def L15t (Q:QT) (R9:T9) (R15:T15) (i3 o3:Nat) (a4:Pt) (n4 c4:Nat) (e4:Bool) (a5:Pt) (n5 c5:Nat) (e5:Bool) (i10 o10:Nat) (a93:Pt) (n93 c93:Nat) (e93:Bool) (x94 x95:Int) (a119:Pt) (n119 c119:Nat) (e119:Bool) (x120 x121:Int) (h:Zaa):Prop:=
 bcase (decide ((x121:Int) < x120)) ((0≤(x121:Int)∧(x121:Int) < (n119:Nat))∧(Zbf a119 fun A B=>Zcd (Zbe h (.ptr (A,B + (Int.toNat x121) * 2)) 2) fun A=>Zai A fun A B=>Zbd A fun A=>Zai B fun B C=>Zbd B fun B=>Zbq C (Zcf (h ++ [.cells Zab [.str [],.str []] false]) fun C=>Zbt (Zbb C (.ptr (h.length,0)) [.str A,.str B]) fun A=>Zcd (Zbe A (.ptr (h.length,0)) 2) fun B=>Zai B fun B C=>Zbd B fun B=>Zai C fun C D=>Zbd C fun C=>Zbq D (Zcd (Zbe A (.ptr (i10,o10)) 2) fun D=>Zai D fun D E=>Zbd D fun D=>Zai E fun E F=>Zbd E fun E=>Zbq F (bcase ((decide (B=D)) && (decide (C=E))) (Q (.bool false) A) (R15 i3 o3 a4 n4 c4 e4 a5 n5 c5 e5 i10 o10 a93 n93 c93 e93 x94 x95 a119 n119 c119 e119 x120 (IntKind.wrap .i64 (x121 + 1)) A)))))) (Yzo Q R9 x95 x94 a93 n93 c93 e93 i3 o3 a4 n4 c4 e4 a5 n5 c5 e5 h)
theorem Ypt (Q:QT) (R9:T9) (R15:T15) (i3 o3:Nat) (a4:Pt) (n4 c4:Nat) (e4:Bool) (a5:Pt) (n5 c5:Nat) (e5:Bool) (i10 o10:Nat) (a93:Pt) (n93 c93:Nat) (e93:Bool) (x94 x95:Int) (a119:Pt) (n119 c119:Nat) (e119:Bool) (x120 x121:Int) (h:Zaa) (ht:L15t Q R9 R15 i3 o3 a4 n4 c4 e4 a5 n5 c5 e5 i10 o10 a93 n93 c93 e93 x94 x95 a119 n119 c119 e119 x120 x121 h):Den pg fn.ntmps (C [1,1,1,1,1,1,0,1,0,0,1,1,0,0,1,1,1,1,0,0]) [(3,.ptr (i3,o3)),(4,.slice a4 n4 c4 e4),(5,.slice a5 n5 c5 e5),(10,.ptr (i10,o10)),(93,.slice a93 n93 c93 e93),(94,.int .i64 x94),(95,.int .i64 x95),(119,.slice a119 n119 c119 e119),(120,.int .i64 x120),(121,.int .i64 x121)] h (K8 Q R9 R15):=
 Zba (kp:=kp) (cast (by kernel_rfl) ht)
theorem L15ind (Q:QT) (R9:T9) (i3 o3:Nat) (a4:Pt) (n4 c4:Nat) (e4:Bool) (a5:Pt) (n5 c5:Nat) (e5:Bool) (i10 o10:Nat) (a93:Pt) (n93 c93:Nat) (e93:Bool) (x94 x95:Int) (a119:Pt) (n119 c119:Nat) (e119:Bool) (x120:Int) {G:Type} (J:G→Int→Zaa→Prop) (m:G→Nat)
 (hr:∀ (g:G) (x121:Int) (h:Zaa),J g x121 h→∀ (R15:T15),(∀ g' (x121:Int) (h:Zaa),m g' < m g→J g' x121 h→R15 i3 o3 a4 n4 c4 e4 a5 n5 c5 e5 i10 o10 a93 n93 c93 e93 x94 x95 a119 n119 c119 e119 x120 x121 h)→L15t Q R9 R15 i3 o3 a4 n4 c4 e4 a5 n5 c5 e5 i10 o10 a93 n93 c93 e93 x94 x95 a119 n119 c119 e119 x120 x121 h)
 (g:G) (x121:Int) (h:Zaa) (hj:J g x121 h):L15 Q R9 i3 o3 a4 n4 c4 e4 a5 n5 c5 e5 i10 o10 a93 n93 c93 e93 x94 x95 a119 n119 c119 e119 x120 x121 h:=by
 let P:=fun (K:Int→Zaa→Prop) i3' o3' a4' n4' c4' e4' a5' n5' c5' e5' i10' o10' a93' n93' c93' e93' x94' x95' a119' n119' c119' e119' x120' x121 h=>i3=i3'∧o3=o3'∧a4=a4'∧n4=n4'∧c4=c4'∧e4=e4'∧a5=a5'∧n5=n5'∧c5=c5'∧e5=e5'∧i10=i10'∧o10=o10'∧a93=a93'∧n93=n93'∧c93=c93'∧e93=e93'∧x94=x94'∧x95=x95'∧a119=a119'∧n119=n119'∧c119=c119'∧e119=e119'∧x120=x120'∧K x121 h
 refine Zej.inv2 (fun g=>E15 (P (J g))) (fun g=>E15 (P fun x121 h=>∃ g',m g' < m g∧J g' x121 h)) m ?_ ?_ g ⟨rfl,rfl,rfl,rfl,rfl,rfl,rfl,rfl,rfl,rfl,rfl,rfl,rfl,rfl,rfl,rfl,rfl,rfl,rfl,rfl,rfl,rfl,rfl,hj⟩
 ·intro g env h hi
  obtain ⟨i3',o3',a4',n4',c4',e4',a5',n5',c5',e5',i10',o10',a93',n93',c93',e93',x94',x95',a119',n119',c119',e119',x120',x121,rfl,rfl,rfl,rfl,rfl,rfl,rfl,rfl,rfl,rfl,rfl,rfl,rfl,rfl,rfl,rfl,rfl,rfl,rfl,rfl,rfl,rfl,rfl,rfl,hj⟩:=Ybw hi
  exact Ypt Q R9 (P fun x121 h=>∃ g',m g' < m g∧J g' x121 h) i3 o3 a4 n4 c4 e4 a5 n5 c5 e5 i10 o10 a93 n93 c93 e93 x94 x95 a119 n119 c119 e119 x120 x121 h (hr g x121 h hj (P fun x121 h=>∃ g',m g' < m g∧J g' x121 h) fun g' x121 h hlt hj=>⟨rfl,rfl,rfl,rfl,rfl,rfl,rfl,rfl,rfl,rfl,rfl,rfl,rfl,rfl,rfl,rfl,rfl,rfl,rfl,rfl,rfl,rfl,rfl,g',hlt,hj⟩)
 ·intro g env h hi
  obtain ⟨i3',o3',a4',n4',c4',e4',a5',n5',c5',e5',i10',o10',a93',n93',c93',e93',x94',x95',a119',n119',c119',e119',x120',x121,rfl,rfl,rfl,rfl,rfl,rfl,rfl,rfl,rfl,rfl,rfl,rfl,rfl,rfl,rfl,rfl,rfl,rfl,rfl,rfl,rfl,rfl,rfl,rfl,g',hlt,hj⟩:=Ybw hi
  exact ⟨g',hlt,rfl,rfl,rfl,rfl,rfl,rfl,rfl,rfl,rfl,rfl,rfl,rfl,rfl,rfl,rfl,rfl,rfl,rfl,rfl,rfl,rfl,rfl,rfl,hj⟩
def L22t (Q:QT) (R22:T22) (a5:Pt) (n5 c5:Nat) (e5:Bool) (a130:Pt) (n130 c130:Nat) (e130:Bool) (x131 x132:Int) (h:Zaa):Prop:=
 bcase (decide ((x132:Int) < x131)) ((0≤(x132:Int)∧(x132:Int) < (n130:Nat))∧(Zbf a130 fun A B=>Zcd (Zbe h (.ptr (A,B + (Int.toNat x132) * 2)) 2) fun A=>Zai A fun A B=>Zbd A fun A=>Zai B fun B C=>Zbd B fun B=>Zbq C (Zcf (h ++ [.cells Zab [.str [],.str []] false]) fun C=>Zbt (Zbb C (.ptr (h.length,0)) [.str A,.str B]) fun A=>L26 Q R22 a5 n5 c5 e5 h.length 0 false a130 n130 c130 e130 x131 x132 a5 n5 c5 e5 (((n5:Nat):Int)) 0 A))) (Xak Q h)
theorem Xaj (Q:QT) (R22:T22) (a5:Pt) (n5 c5:Nat) (e5:Bool) (a130:Pt) (n130 c130:Nat) (e130:Bool) (x131 x132:Int) (h:Zaa) (ht:L22t Q R22 a5 n5 c5 e5 a130 n130 c130 e130 x131 x132 h):Den pg fn.ntmps (C [1,1,1,1,1,1,1,0,1,0,0]) [(5,.slice a5 n5 c5 e5),(130,.slice a130 n130 c130 e130),(131,.int .i64 x131),(132,.int .i64 x132)] h (K12 Q R22):=
 Zba (kp:=kp) (cast (by kernel_rfl) ht)
theorem L22ind (Q:QT) (a5:Pt) (n5 c5:Nat) (e5:Bool) (a130:Pt) (n130 c130:Nat) (e130:Bool) (x131:Int) {G:Type} (J:G→Int→Zaa→Prop) (m:G→Nat)
 (hr:∀ (g:G) (x132:Int) (h:Zaa),J g x132 h→∀ (R22:T22),(∀ g' (x132:Int) (h:Zaa),m g' < m g→J g' x132 h→R22 a5 n5 c5 e5 a130 n130 c130 e130 x131 x132 h)→L22t Q R22 a5 n5 c5 e5 a130 n130 c130 e130 x131 x132 h)
 (g:G) (x132:Int) (h:Zaa) (hj:J g x132 h):L22 Q a5 n5 c5 e5 a130 n130 c130 e130 x131 x132 h:=by
 let P:=fun (K:Int→Zaa→Prop) a5' n5' c5' e5' a130' n130' c130' e130' x131' x132 h=>a5=a5'∧n5=n5'∧c5=c5'∧e5=e5'∧a130=a130'∧n130=n130'∧c130=c130'∧e130=e130'∧x131=x131'∧K x132 h
 refine Zej.inv2 (fun g=>E22 (P (J g))) (fun g=>E22 (P fun x132 h=>∃ g',m g' < m g∧J g' x132 h)) m ?_ ?_ g ⟨rfl,rfl,rfl,rfl,rfl,rfl,rfl,rfl,rfl,hj⟩
 ·intro g env h hi
  obtain ⟨a5',n5',c5',e5',a130',n130',c130',e130',x131',x132,rfl,rfl,rfl,rfl,rfl,rfl,rfl,rfl,rfl,rfl,hj⟩:=Yqx hi
  exact Xaj Q _ a5 n5 c5 e5 a130 n130 c130 e130 x131 x132 h (hr g x132 h hj (P fun x132 h=>∃ g',m g' < m g∧J g' x132 h) fun g' x132 h hlt hj=>⟨rfl,rfl,rfl,rfl,rfl,rfl,rfl,rfl,rfl,g',hlt,hj⟩)
 ·intro g env h hi
  obtain ⟨a5',n5',c5',e5',a130',n130',c130',e130',x131',x132,rfl,rfl,rfl,rfl,rfl,rfl,rfl,rfl,rfl,rfl,g',hlt,hj⟩:=Yqx hi
  exact ⟨g',hlt,rfl,rfl,rfl,rfl,rfl,rfl,rfl,rfl,rfl,hj⟩
theorem A15x2i (Q:QT) (R9:T9) (x95 x94:Int) (a93:Pt) (n93 c93:Nat) (e93:Bool) (i3 o3:Nat) (a4:Pt) (n4 c4:Nat) (e4:Bool) (a5:Pt) (n5 c5:Nat) (e5:Bool) (h:Zaa) (ht :
 J20 Q R9 x95 x94 a93 n93 c93 e93 i3 o3 a4 n4 c4 e4 a5 n5 c5 e5 h):Yzo Q R9 x95 x94 a93 n93 c93 e93 i3 o3 a4 n4 c4 e4 a5 n5 c5 e5 h:=
 At.mk (cast (by kernel_rfl) ht)
def L26t (Q:QT) (R22:T22) (R26:T26) (a5:Pt) (n5 c5:Nat) (e5:Bool) (i16 o16:Nat) (x17:Bool) (a130:Pt) (n130 c130:Nat) (e130:Bool) (x131 x132:Int) (a136:Pt) (n136 c136:Nat) (e136:Bool) (x137 x138:Int) (h:Zaa):Prop:=
 bcase (decide ((x138:Int) < x137)) ((0≤(x138:Int)∧(x138:Int) < (n136:Nat))∧(Zbf a136 fun A B=>Zcd (Zbe h (.ptr (A,B + (Int.toNat x138) * 2)) 2) fun A=>Zai A fun A B=>Zbd A fun A=>Zai B fun B C=>Zbd B fun B=>Zbq C (Zcf (h ++ [.cells Zab [.str [],.str []] false]) fun C=>Zbt (Zbb C (.ptr (h.length,0)) [.str A,.str B]) fun A=>bcase x17 (J29 Q R22 R26 x138 x137 a136 n136 c136 e136 true i16 o16 x132 x131 a130 n130 c130 e130 a5 n5 c5 e5 A) (Zcd (Zbe A (.ptr (h.length,0)) 2) fun B=>Zai B fun B C=>Zbd B fun B=>Zai C fun C D=>Zbd C fun C=>Zbq D (Zcd (Zbe A (.ptr (i16,o16)) 2) fun D=>Zai D fun D E=>Zbd D fun D=>Zai E fun E F=>Zbd E fun E=>Zbq F (J29 Q R22 R26 x138 x137 a136 n136 c136 e136 ((decide (B=D)) && (decide (C=E))) i16 o16 x132 x131 a130 n130 c130 e130 a5 n5 c5 e5 A)))))) (Xag Q R22 x17 x132 x131 a130 n130 c130 e130 a5 n5 c5 e5 h)
theorem Yzg (Q:QT) (R22:T22) (R26:T26) (a5:Pt) (n5 c5:Nat) (e5:Bool) (i16 o16:Nat) (x17:Bool) (a130:Pt) (n130 c130:Nat) (e130:Bool) (x131 x132:Int) (a136:Pt) (n136 c136:Nat) (e136:Bool) (x137 x138:Int) (h:Zaa) (ht:L26t Q R22 R26 a5 n5 c5 e5 i16 o16 x17 a130 n130 c130 e130 x131 x132 a136 n136 c136 e136 x137 x138 h):Den pg fn.ntmps (C [1,1,1,1,1,1,1,0,1,0,0,1,1,0,0,1,1,0,1,0,0]) [(5,.slice a5 n5 c5 e5),(16,.ptr (i16,o16)),(17,.bool x17),(130,.slice a130 n130 c130 e130),(131,.int .i64 x131),(132,.int .i64 x132),(136,.slice a136 n136 c136 e136),(137,.int .i64 x137),(138,.int .i64 x138)] h (K18 Q R22 R26):=
 Zba (kp:=kp) (cast (by kernel_rfl) ht)
theorem L26ind (Q:QT) (R22:T22) (a5:Pt) (n5 c5:Nat) (e5:Bool) (i16 o16:Nat) (a130:Pt) (n130 c130:Nat) (e130:Bool) (x131 x132:Int) (a136:Pt) (n136 c136:Nat) (e136:Bool) (x137:Int) {G:Type} (J:G→Bool→Int→Zaa→Prop) (m:G→Nat)
 (hr:∀ (g:G) (x17:Bool) (x138:Int) (h:Zaa),J g x17 x138 h→∀ (R26:T26),(∀ g' (x17:Bool) (x138:Int) (h:Zaa),m g' < m g→J g' x17 x138 h→R26 a5 n5 c5 e5 i16 o16 x17 a130 n130 c130 e130 x131 x132 a136 n136 c136 e136 x137 x138 h)→L26t Q R22 R26 a5 n5 c5 e5 i16 o16 x17 a130 n130 c130 e130 x131 x132 a136 n136 c136 e136 x137 x138 h)
 (g:G) (x17:Bool) (x138:Int) (h:Zaa) (hj:J g x17 x138 h):L26 Q R22 a5 n5 c5 e5 i16 o16 x17 a130 n130 c130 e130 x131 x132 a136 n136 c136 e136 x137 x138 h:=by
 let P:=fun (K:Bool→Int→Zaa→Prop) a5' n5' c5' e5' i16' o16' x17 a130' n130' c130' e130' x131' x132' a136' n136' c136' e136' x137' x138 h=>a5=a5'∧n5=n5'∧c5=c5'∧e5=e5'∧i16=i16'∧o16=o16'∧a130=a130'∧n130=n130'∧c130=c130'∧e130=e130'∧x131=x131'∧x132=x132'∧a136=a136'∧n136=n136'∧c136=c136'∧e136=e136'∧x137=x137'∧K x17 x138 h
 refine Zej.inv2 (fun g=>E26 (P (J g))) (fun g=>E26 (P fun x17 x138 h=>∃ g',m g' < m g∧J g' x17 x138 h)) m ?_ ?_ g ⟨rfl,rfl,rfl,rfl,rfl,rfl,rfl,rfl,rfl,rfl,rfl,rfl,rfl,rfl,rfl,rfl,rfl,hj⟩
 ·intro g env h hi
  obtain ⟨a5',n5',c5',e5',i16',o16',x17,a130',n130',c130',e130',x131',x132',a136',n136',c136',e136',x137',x138,rfl,rfl,rfl,rfl,rfl,rfl,rfl,rfl,rfl,rfl,rfl,rfl,rfl,rfl,rfl,rfl,rfl,rfl,hj⟩:=Ytb hi
  exact Yzg Q R22 (P fun x17 x138 h=>∃ g',m g' < m g∧J g' x17 x138 h) a5 n5 c5 e5 i16 o16 x17 a130 n130 c130 e130 x131 x132 a136 n136 c136 e136 x137 x138 h (hr g x17 x138 h hj (P fun x17 x138 h=>∃ g',m g' < m g∧J g' x17 x138 h) fun g' x17 x138 h hlt hj=>⟨rfl,rfl,rfl,rfl,rfl,rfl,rfl,rfl,rfl,rfl,rfl,rfl,rfl,rfl,rfl,rfl,rfl,g',hlt,hj⟩)
 ·intro g env h hi
  obtain ⟨a5',n5',c5',e5',i16',o16',x17,a130',n130',c130',e130',x131',x132',a136',n136',c136',e136',x137',x138,rfl,rfl,rfl,rfl,rfl,rfl,rfl,rfl,rfl,rfl,rfl,rfl,rfl,rfl,rfl,rfl,rfl,rfl,g',hlt,hj⟩:=Ytb hi
  exact ⟨g',hlt,rfl,rfl,rfl,rfl,rfl,rfl,rfl,rfl,rfl,rfl,rfl,rfl,rfl,rfl,rfl,rfl,rfl,hj⟩
theorem A22x4i (Q:QT) (h:Zaa) (ht :
 Q (.bool true) h):Xak Q h:=
 At.mk (cast (by kernel_rfl) ht)
theorem J20i (Q:QT) (R9:T9) (x95 x94:Int) (a93:Pt) (n93 c93:Nat) (e93:Bool) (i3 o3:Nat) (a4:Pt) (n4 c4:Nat) (e4:Bool) (a5:Pt) (n5 c5:Nat) (e5:Bool) (h:Zaa) (ht :
 R9 i3 o3 a4 n4 c4 e4 a5 n5 c5 e5 a93 n93 c93 e93 x94 (IntKind.wrap .i64 (x95 + 1)) h):J20 Q R9 x95 x94 a93 n93 c93 e93 i3 o3 a4 n4 c4 e4 a5 n5 c5 e5 h:=
 Zba (kp:=kp) (cast (by kernel_rfl) ht)
theorem J29i (Q:QT) (R22:T22) (R26:T26) (x138 x137:Int) (a136:Pt) (n136 c136:Nat) (e136 x17:Bool) (i16 o16:Nat) (x132 x131:Int) (a130:Pt) (n130 c130:Nat) (e130:Bool) (a5:Pt) (n5 c5:Nat) (e5:Bool) (h:Zaa) (ht :
 R26 a5 n5 c5 e5 i16 o16 x17 a130 n130 c130 e130 x131 x132 a136 n136 c136 e136 x137 (IntKind.wrap .i64 (x138 + 1)) h):J29 Q R22 R26 x138 x137 a136 n136 c136 e136 x17 i16 o16 x132 x131 a130 n130 c130 e130 a5 n5 c5 e5 h:=
 Zba (kp:=kp) (cast (by kernel_rfl) ht)
theorem A26x6i (Q:QT) (R22:T22) (x17:Bool) (x132 x131:Int) (a130:Pt) (n130 c130:Nat) (e130:Bool) (a5:Pt) (n5 c5:Nat) (e5:Bool) (h:Zaa) (ht :
 bcase (!x17) (Q (.bool false) h) (R22 a5 n5 c5 e5 a130 n130 c130 e130 x131 (IntKind.wrap .i64 (x132 + 1)) h)):Xag Q R22 x17 x132 x131 a130 n130 c130 e130 a5 n5 c5 e5 h:=
 At.mk (cast (by kernel_rfl) ht)
theorem call (a0:Pt) (n0 c0:Nat) (e0:Bool) (h:Zaa) (Q:QT) (ht :
 bcase (decide (((((n0:Nat):Int)):Int) > 1048576)) (Q (.bool true) h) (Zak pg Zkm [.slice a0 n0 c0 e0] h fun A B=>
 Zlf A fun A=>Zai A fun A C=>Zqi A fun A=>Zai A fun A D=>xSl A fun A E F G=>Zai D fun D H=>xSl D fun D I J K=>Zbq H (Zai C fun C H=>xSl C fun C L M N=>Zbq H (Zcf (B ++ [.cells Zac [.slice none 0 0 true,.slice none 0 0 true] false]) fun H=>Zbt (Zbb H (.ptr (B.length,0)) [.slice A E F G,.slice D I J K]) fun A=>Zcd (Zbe A (.ptr (B.length,0)) 2) fun D=>Zai D fun D E=>xSl D fun D F G H=>Zai E fun E I=>xSl E fun E J K O=>Zbq I (Zak pg Zod [.agg [.slice D F G H,.slice E J K O],.slice C L M N] A fun A D=>
 Zlf A fun A=>Zai A fun A E=>xSl A fun A F G H=>Zai E fun E I=>Zca E fun E=>Zbq I (Zcd (Zbe D (.ptr (B.length,0)) 2) fun I=>Zai I fun I J=>xSl I fun I K O P=>Zai J fun J R=>xSl J fun J S T U=>Zbq R (Zak pg Zoh [.agg [.slice I K O P,.slice J S T U],.slice C L M N] D fun D I=>
 Zlf D fun D=>Zai D fun D J=>xSl D fun D K O P=>Zai J fun J R=>Zca J fun J=>Zbq R (Zak pg Zez [.slice A F G H,.slice D K O P] I fun I R=>
 Zca I fun I=>bcase (!I) ((Zbe R (.ptr (B.length,0)) 2=Zbe R (.ptr (B.length,0)) 2)∧(Zbe R (.ptr (B.length,0)) 2=Zbe R (.ptr (B.length,0)) 2)∧Zak pg Zez [.slice A F G H,.slice D K O P] R fun I S=>
 Zca I fun I=>bcase I (bcase (E == J) (Zcd (Zbe S (.ptr (B.length,0)) 2) fun I=>Zai I fun I T=>xSl I fun I U V W=>Zai T fun T X=>xSl T fun T Y Z a=>Zbq X (Zak pg Zcs [.agg [.slice I U V W,.slice T Y Z a],.slice C L M N] S fun I T=>
 Zca I fun I=>bcase (E == I) (Zcd (Zbe T (.ptr (B.length,0)) 2) fun I=>Zai I fun I U=>xSl I fun I V W X=>Zai U fun U Y=>xSl U fun U Z a b=>Zbq Y (Zcd (Zbe T (.ptr (B.length,0)) 2) fun Y=>Zai Y fun Y d=>xSl Y fun Y e f g=>Zai d fun d i=>xSl d fun d j k l=>Zbq i (Zak pg Zcs [.agg [.slice I V W X,.slice U Z a b],.slice C L M N] T fun I U=>
 Zca I fun I=>(Zbe U (.ptr (B.length,0)) 2=Zbe T (.ptr (B.length,0)) 2)∧Zak pg Zer [.agg [.slice Y e f g,.slice d j k l],.slice C L M N] U fun V W=>
 Zca V fun V=>(Zbe W (.ptr (B.length,0)) 2=Zbe U (.ptr (B.length,0)) 2)∧Q (.bool (I == V)) W))) ((Zbe T (.ptr (B.length,0)) 2=Zbe T (.ptr (B.length,0)) 2)∧(Zbe T (.ptr (B.length,0)) 2=Zbe T (.ptr (B.length,0)) 2)∧Q (.bool false) T))) ((Zbe S (.ptr (B.length,0)) 2=Zbe S (.ptr (B.length,0)) 2)∧(Zbe S (.ptr (B.length,0)) 2=Zbe S (.ptr (B.length,0)) 2)∧Q (.bool false) S)) ((Zbe S (.ptr (B.length,0)) 2=Zbe S (.ptr (B.length,0)) 2)∧(Zbe S (.ptr (B.length,0)) 2=Zbe S (.ptr (B.length,0)) 2)∧Q (.bool false) S)) (bcase (!(E == J)) ((Zbe R (.ptr (B.length,0)) 2=Zbe R (.ptr (B.length,0)) 2)∧(Zbe R (.ptr (B.length,0)) 2=Zbe R (.ptr (B.length,0)) 2)∧Zak pg Zez [.slice A F G H,.slice D K O P] R fun I S=>
 Zca I fun I=>bcase I (bcase (E == J) (Zcd (Zbe S (.ptr (B.length,0)) 2) fun I=>Zai I fun I T=>xSl I fun I U V W=>Zai T fun T X=>xSl T fun T Y Z a=>Zbq X (Zak pg Zcs [.agg [.slice I U V W,.slice T Y Z a],.slice C L M N] S fun I T=>
 Zca I fun I=>bcase (E == I) (Zcd (Zbe T (.ptr (B.length,0)) 2) fun I=>Zai I fun I U=>xSl I fun I V W X=>Zai U fun U Y=>xSl U fun U Z a b=>Zbq Y (Zcd (Zbe T (.ptr (B.length,0)) 2) fun Y=>Zai Y fun Y d=>xSl Y fun Y e f g=>Zai d fun d i=>xSl d fun d j k l=>Zbq i (Zak pg Zcs [.agg [.slice I V W X,.slice U Z a b],.slice C L M N] T fun I U=>
 Zca I fun I=>(Zbe U (.ptr (B.length,0)) 2=Zbe T (.ptr (B.length,0)) 2)∧Zak pg Zer [.agg [.slice Y e f g,.slice d j k l],.slice C L M N] U fun V W=>
 Zca V fun V=>(Zbe W (.ptr (B.length,0)) 2=Zbe U (.ptr (B.length,0)) 2)∧Q (.bool (I == V)) W))) ((Zbe T (.ptr (B.length,0)) 2=Zbe T (.ptr (B.length,0)) 2)∧(Zbe T (.ptr (B.length,0)) 2=Zbe T (.ptr (B.length,0)) 2)∧Q (.bool false) T))) ((Zbe S (.ptr (B.length,0)) 2=Zbe S (.ptr (B.length,0)) 2)∧(Zbe S (.ptr (B.length,0)) 2=Zbe S (.ptr (B.length,0)) 2)∧Q (.bool false) S)) ((Zbe S (.ptr (B.length,0)) 2=Zbe S (.ptr (B.length,0)) 2)∧(Zbe S (.ptr (B.length,0)) 2=Zbe S (.ptr (B.length,0)) 2)∧Q (.bool false) S)) (Zcd (Zbe R (.ptr (B.length,0)) 2) fun I=>Zai I fun I S=>xSl I fun I T U V=>Zai S fun S W=>xSl S fun S X Y Z=>Zbq W (Zak pg Zcs [.agg [.slice I T U V,.slice S X Y Z],.slice C L M N] R fun I R=>
 Zca I fun I=>bcase (!(E == I)) ((Zbe R (.ptr (B.length,0)) 2=Zbe R (.ptr (B.length,0)) 2)∧(Zbe R (.ptr (B.length,0)) 2=Zbe R (.ptr (B.length,0)) 2)∧Zak pg Zez [.slice A F G H,.slice D K O P] R fun I S=>
 Zca I fun I=>bcase I (bcase (E == J) (Zcd (Zbe S (.ptr (B.length,0)) 2) fun I=>Zai I fun I T=>xSl I fun I U V W=>Zai T fun T X=>xSl T fun T Y Z a=>Zbq X (Zak pg Zcs [.agg [.slice I U V W,.slice T Y Z a],.slice C L M N] S fun I T=>
 Zca I fun I=>bcase (E == I) (Zcd (Zbe T (.ptr (B.length,0)) 2) fun I=>Zai I fun I U=>xSl I fun I V W X=>Zai U fun U Y=>xSl U fun U Z a b=>Zbq Y (Zcd (Zbe T (.ptr (B.length,0)) 2) fun Y=>Zai Y fun Y d=>xSl Y fun Y e f g=>Zai d fun d i=>xSl d fun d j k l=>Zbq i (Zak pg Zcs [.agg [.slice I V W X,.slice U Z a b],.slice C L M N] T fun I U=>
 Zca I fun I=>(Zbe U (.ptr (B.length,0)) 2=Zbe T (.ptr (B.length,0)) 2)∧Zak pg Zer [.agg [.slice Y e f g,.slice d j k l],.slice C L M N] U fun V W=>
 Zca V fun V=>(Zbe W (.ptr (B.length,0)) 2=Zbe U (.ptr (B.length,0)) 2)∧Q (.bool (I == V)) W))) ((Zbe T (.ptr (B.length,0)) 2=Zbe T (.ptr (B.length,0)) 2)∧(Zbe T (.ptr (B.length,0)) 2=Zbe T (.ptr (B.length,0)) 2)∧Q (.bool false) T))) ((Zbe S (.ptr (B.length,0)) 2=Zbe S (.ptr (B.length,0)) 2)∧(Zbe S (.ptr (B.length,0)) 2=Zbe S (.ptr (B.length,0)) 2)∧Q (.bool false) S)) ((Zbe S (.ptr (B.length,0)) 2=Zbe S (.ptr (B.length,0)) 2)∧(Zbe S (.ptr (B.length,0)) 2=Zbe S (.ptr (B.length,0)) 2)∧Q (.bool false) S)) (Zcd (Zbe R (.ptr (B.length,0)) 2) fun I=>Zai I fun I S=>xSl I fun I T U V=>Zai S fun S W=>xSl S fun S X Y Z=>Zbq W (Zcd (Zbe R (.ptr (B.length,0)) 2) fun W=>Zai W fun W a=>xSl W fun W b d e=>Zai a fun a f=>xSl a fun a g i j=>Zbq f (Zak pg Zcs [.agg [.slice I T U V,.slice S X Y Z],.slice C L M N] R fun I S=>
 Zca I fun I=>(Zbe S (.ptr (B.length,0)) 2=Zbe R (.ptr (B.length,0)) 2)∧Zak pg Zer [.agg [.slice W b d e,.slice a g i j],.slice C L M N] S fun R T=>
 Zca R fun R=>(Zbe T (.ptr (B.length,0)) 2=Zbe S (.ptr (B.length,0)) 2)∧bcase (!(I == R)) (Zak pg Zez [.slice A F G H,.slice D K O P] T fun I R=>
 Zca I fun I=>bcase I (bcase (E == J) (Zcd (Zbe R (.ptr (B.length,0)) 2) fun I=>Zai I fun I S=>xSl I fun I U V W=>Zai S fun S X=>xSl S fun S Y Z a=>Zbq X (Zak pg Zcs [.agg [.slice I U V W,.slice S Y Z a],.slice C L M N] R fun I S=>
 Zca I fun I=>bcase (E == I) (Zcd (Zbe S (.ptr (B.length,0)) 2) fun I=>Zai I fun I U=>xSl I fun I V W X=>Zai U fun U Y=>xSl U fun U Z a b=>Zbq Y (Zcd (Zbe S (.ptr (B.length,0)) 2) fun Y=>Zai Y fun Y d=>xSl Y fun Y e f g=>Zai d fun d i=>xSl d fun d j k l=>Zbq i (Zak pg Zcs [.agg [.slice I V W X,.slice U Z a b],.slice C L M N] S fun I U=>
 Zca I fun I=>(Zbe U (.ptr (B.length,0)) 2=Zbe S (.ptr (B.length,0)) 2)∧Zak pg Zer [.agg [.slice Y e f g,.slice d j k l],.slice C L M N] U fun V W=>
 Zca V fun V=>(Zbe W (.ptr (B.length,0)) 2=Zbe U (.ptr (B.length,0)) 2)∧Q (.bool (I == V)) W))) ((Zbe S (.ptr (B.length,0)) 2=Zbe S (.ptr (B.length,0)) 2)∧(Zbe S (.ptr (B.length,0)) 2=Zbe S (.ptr (B.length,0)) 2)∧Q (.bool false) S))) ((Zbe R (.ptr (B.length,0)) 2=Zbe R (.ptr (B.length,0)) 2)∧(Zbe R (.ptr (B.length,0)) 2=Zbe R (.ptr (B.length,0)) 2)∧Q (.bool false) R)) ((Zbe R (.ptr (B.length,0)) 2=Zbe R (.ptr (B.length,0)) 2)∧(Zbe R (.ptr (B.length,0)) 2=Zbe R (.ptr (B.length,0)) 2)∧Q (.bool false) R)) (bcase (!E) (Zak pg Zez [.slice A F G H,.slice D K O P] T fun D I=>
 Zca D fun D=>bcase D (bcase (E == J) (Zcd (Zbe I (.ptr (B.length,0)) 2) fun D=>Zai D fun D J=>xSl D fun D K O P=>Zai J fun J R=>xSl J fun J S U V=>Zbq R (Zak pg Zcs [.agg [.slice D K O P,.slice J S U V],.slice C L M N] I fun D J=>
 Zca D fun D=>bcase (E == D) (Zcd (Zbe J (.ptr (B.length,0)) 2) fun D=>Zai D fun D E=>xSl D fun D K O P=>Zai E fun E R=>xSl E fun E S U V=>Zbq R (Zcd (Zbe J (.ptr (B.length,0)) 2) fun R=>Zai R fun R W=>xSl R fun R X Y Z=>Zai W fun W a=>xSl W fun W b d e=>Zbq a (Zak pg Zcs [.agg [.slice D K O P,.slice E S U V],.slice C L M N] J fun D E=>
 Zca D fun D=>(Zbe E (.ptr (B.length,0)) 2=Zbe J (.ptr (B.length,0)) 2)∧Zak pg Zer [.agg [.slice R X Y Z,.slice W b d e],.slice C L M N] E fun K O=>
 Zca K fun K=>(Zbe O (.ptr (B.length,0)) 2=Zbe E (.ptr (B.length,0)) 2)∧Q (.bool (D == K)) O))) ((Zbe J (.ptr (B.length,0)) 2=Zbe J (.ptr (B.length,0)) 2)∧(Zbe J (.ptr (B.length,0)) 2=Zbe J (.ptr (B.length,0)) 2)∧Q (.bool false) J))) ((Zbe I (.ptr (B.length,0)) 2=Zbe I (.ptr (B.length,0)) 2)∧(Zbe I (.ptr (B.length,0)) 2=Zbe I (.ptr (B.length,0)) 2)∧Q (.bool false) I)) ((Zbe I (.ptr (B.length,0)) 2=Zbe I (.ptr (B.length,0)) 2)∧(Zbe I (.ptr (B.length,0)) 2=Zbe I (.ptr (B.length,0)) 2)∧Q (.bool false) I)) (J8 Q A F G H B.length 0 C L M N T)))))))))))))))):Zak pg Zql [.slice a0 n0 c0 e0] h Q:=
 Zak.of_body kp (c:=cod fn) (fn:=fn) Go.Proofs.Tryz.func3 (by kernel_rfl) (by kernel_rfl) (Nat.le_of_ble_eq_true (by kernel_rfl))
  (cast (by kernel_rfl) ht)
end Zcg
end Go.Sim

set_option maxRecDepth 100000
set_option maxHeartbeats 0
set_option linter.unusedVariables false
namespace Go.Sim
open Go Go.RowKit
namespace Zfj
noncomputable abbrev fn:Func:=Go.Proofs.Tryz.f50
def kp:Zch:=[(3000003,[0,3,5]),(1000003,[0,3,5,8,9]),(3000008,[5]),(1000008,[0,3,5,25]),(4000011,[5])]
noncomputable def C (p:List Nat):Code:=(cod fn).sub p
def KR (Q:QT):KT:=Zfd pg fn.results.toList Q
abbrev T3:=Pt→Nat→Nat→Pt→Nat→Nat→Bool→Int→Int→Zaa→Prop
def E3 (R3:T3) (env:Env) (h:Zaa):Prop:=Zbu 0 env fun v env=>Zgn v fun a0=>Zbu 3 env fun v env=>Zgn v fun a=>Zbf a fun i3 o3=>Zbu 5 env fun v env=>xSl v fun a5 n5 c5 e5=>Zbu 8 env fun v env=>Zdz .i64 v fun x8=>Zbu 9 env fun v env=>Zdz .i64 v fun x9=>Zil env (R3 a0 i3 o3 a5 n5 c5 e5 x8 x9 h)
theorem Zgd {R3:T3} {env:Env} {h:Zaa} (hi:E3 R3 env h):∃ a0,∃ i3,∃ o3,∃ a5,∃ n5,∃ c5,∃ e5,∃ x8,∃ x9,env=[(0,.ptr a0),(3,.ptr (i3,o3)),(5,.slice a5 n5 c5 e5),(8,.int .i64 x8),(9,.int .i64 x9)]∧R3 a0 i3 o3 a5 n5 c5 e5 x8 x9 h:=by
 unfold E3 at hi
 have hi0:=hi
 clear hi
 obtain ⟨_,_,rfl,hi1⟩:=Zaf hi0
 obtain ⟨a0,rfl,hi2⟩:=Zbn hi1
 obtain ⟨_,_,rfl,hi3⟩:=Zaf hi2
 obtain ⟨a,rfl,hi4⟩:=Zbn hi3
 obtain ⟨i3,o3,rfl,hi5⟩:=Zbk hi4
 obtain ⟨_,_,rfl,hi6⟩:=Zaf hi5
 obtain ⟨a5,n5,c5,e5,rfl,hi7⟩:=Zbp hi6
 obtain ⟨_,_,rfl,hi8⟩:=Zaf hi7
 obtain ⟨x8,rfl,hi9⟩:=Zav hi8
 obtain ⟨_,_,rfl,hi10⟩:=Zaf hi9
 obtain ⟨x9,rfl,hi11⟩:=Zav hi10
 obtain ⟨rfl,hi12⟩:=Zbl hi11
 have hi:=hi12
 exact ⟨a0,i3,o3,a5,n5,c5,e5,x8,x9,rfl,hi⟩
abbrev T8:=Pt→Nat→Nat→Pt→Nat→Nat→Bool→Int→Zaa→Prop
def E8 (R8:T8) (env:Env) (h:Zaa):Prop:=Zbu 0 env fun v env=>Zgn v fun a0=>Zbu 3 env fun v env=>Zgn v fun a=>Zbf a fun i3 o3=>Zbu 5 env fun v env=>xSl v fun a5 n5 c5 e5=>Zbu 25 env fun v env=>Zdz .i64 v fun x25=>Zil env (R8 a0 i3 o3 a5 n5 c5 e5 x25 h)
theorem Zzd {R8:T8} {env:Env} {h:Zaa} (hi:E8 R8 env h):∃ a0,∃ i3,∃ o3,∃ a5,∃ n5,∃ c5,∃ e5,∃ x25,env=[(0,.ptr a0),(3,.ptr (i3,o3)),(5,.slice a5 n5 c5 e5),(25,.int .i64 x25)]∧R8 a0 i3 o3 a5 n5 c5 e5 x25 h:=by
 unfold E8 at hi
 have hi0:=hi
 clear hi
 obtain ⟨_,_,rfl,hi1⟩:=Zaf hi0
 obtain ⟨a0,rfl,hi2⟩:=Zbn hi1
 obtain ⟨_,_,rfl,hi3⟩:=Zaf hi2
 obtain ⟨a,rfl,hi4⟩:=Zbn hi3
 obtain ⟨i3,o3,rfl,hi5⟩:=Zbk hi4
 obtain ⟨_,_,rfl,hi6⟩:=Zaf hi5
 obtain ⟨a5,n5,c5,e5,rfl,hi7⟩:=Zbp hi6
 obtain ⟨_,_,rfl,hi8⟩:=Zaf hi7
 obtain ⟨x25,rfl,hi9⟩:=Zav hi8
 obtain ⟨rfl,hi10⟩:=Zbl hi9
 have hi:=hi10
 exact ⟨a0,i3,o3,a5,n5,c5,e5,x25,rfl,hi⟩
def K0 (Q:QT):KT:=andThen (fun env' h'=>(match kp.find 4000006 with | some ks=>Den pg fn.ntmps (C [1,1,1]) (env'.keep ks) h' (KR Q) | none=>den pg fn.ntmps kp (C [1,1,1]) env' h' (KR Q))) (KR Q)
def K1 (Q:QT):KT:=Zcj 0 (K0 Q)
def K2 (Q:QT):KT:=left kp 3 (K1 Q)
def K3 (Q:QT) (R3:T3):KT:=rnd ((kp.find 1000003).getD []) (E3 R3) (K2 Q)
def K4 (Q:QT):KT:=andThen (fun env' h'=>(match kp.find 4000011 with | some ks=>Den pg fn.ntmps (C [1,1,1,1]) (env'.keep ks) h' (KR Q) | none=>den pg fn.ntmps kp (C [1,1,1,1]) env' h' (KR Q))) (KR Q)
def K5 (Q:QT):KT:=Zcj 2 (K4 Q)
def K6 (Q:QT):KT:=left kp 8 (K5 Q)
def K7 (Q:QT) (R8:T8):KT:=rnd ((kp.find 1000008).getD []) (E8 R8) (K6 Q)
def L3 (Q:QT) (a0:Pt) (i3 o3:Nat) (a5:Pt) (n5 c5:Nat) (e5:Bool) (x8 x9:Int) (h:Zaa):Prop:=Zej (Den pg fn.ntmps (C [1,1,0,1,0,0])) ((kp.find 1000003).getD []) (K2 Q) [(0,.ptr a0),(3,.ptr (i3,o3)),(5,.slice a5 n5 c5 e5),(8,.int .i64 x8),(9,.int .i64 x9)] h
def Ztf (Q:QT) (a0:Pt) (i3 o3:Nat) (a5:Pt) (n5 c5:Nat) (e5:Bool) (h:Zaa):Prop:=At (K1 Q) (.exit 0) [(0,.ptr a0),(3,.ptr (i3,o3)),(5,.slice a5 n5 c5 e5)] h
def L8 (Q:QT) (a0:Pt) (i3 o3:Nat) (a5:Pt) (n5 c5:Nat) (e5:Bool) (x25:Int) (h:Zaa):Prop:=Zej (Den pg fn.ntmps (C [1,1,1,0,1,0,1,0,0])) ((kp.find 1000008).getD []) (K6 Q) [(0,.ptr a0),(3,.ptr (i3,o3)),(5,.slice a5 n5 c5 e5),(25,.int .i64 x25)] h
def J11 (Q:QT) (a5:Pt) (n5 c5:Nat) (e5:Bool) (h:Zaa):Prop:=Den pg fn.ntmps (C [1,1,1,1]) [(5,.slice a5 n5 c5 e5)] h (KR Q)
def Xai (Q:QT) (a5:Pt) (n5 c5:Nat) (e5:Bool) (h:Zaa):Prop:=At (K5 Q) (.exit 2) [(5,.slice a5 n5 c5 e5)] h
def L3t (Q:QT) (R3:T3) (a0:Pt) (i3 o3:Nat) (a5:Pt) (n5 c5:Nat) (e5:Bool) (x8 x9:Int) (h:Zaa):Prop:=
 bcase (decide ((x9:Int) < x8)) (Zcd (Zbe h (.ptr (i3,o3)) 2) fun A=>Zai A fun A B=>xSl A fun A C D E=>Zai B fun B F=>xSl B fun B G H I=>Zbq F (Zak pg Zjn [.ptr a0,.agg [.slice A C D E,.slice B G H I]] h fun A B=>
 Zbd A fun A=>Zcf (B ++ [.cells Zbi [.str [120],.str [121],.str [120],.str ([108,40,120,41]),.str [105],.str [122]] false]) fun C=>Zak pg Zck [.ptr a0,.slice (B.length,0) 6 6 true] C fun B C=>
 Zbd B fun B=>Zcf (C ++ [.cells Zab [.str A,.str B] false]) fun A=>Zci pg Zbo A (.slice a5 n5 c5 e5) (.slice (C.length,0) 1 1 true) fun A B=>xSl A fun A C D E=>R3 a0 i3 o3 A C D E x8 (IntKind.wrap .i64 (x9 + 1)) B)) (Ztf Q a0 i3 o3 a5 n5 c5 e5 h)
theorem Zoe (Q:QT) (R3:T3) (a0:Pt) (i3 o3:Nat) (a5:Pt) (n5 c5:Nat) (e5:Bool) (x8 x9:Int) (h:Zaa) (ht:L3t Q R3 a0 i3 o3 a5 n5 c5 e5 x8 x9 h):Den pg fn.ntmps (C [1,1,0,1,0,0]) [(0,.ptr a0),(3,.ptr (i3,o3)),(5,.slice a5 n5 c5 e5),(8,.int .i64 x8),(9,.int .i64 x9)] h (K3 Q R3):=
 Zba (kp:=kp) (cast (by kernel_rfl) ht)
theorem L3ind (Q:QT) (a0:Pt) (i3 o3:Nat) (x8:Int) {G:Type} (J:G→Pt→Nat→Nat→Bool→Int→Zaa→Prop) (m:G→Nat)
 (hr:∀ (g:G) (a5:Pt) (n5 c5:Nat) (e5:Bool) (x9:Int) (h:Zaa),J g a5 n5 c5 e5 x9 h→∀ (R3:T3),(∀ g' (a5:Pt) (n5 c5:Nat) (e5:Bool) (x9:Int) (h:Zaa),m g' < m g→J g' a5 n5 c5 e5 x9 h→R3 a0 i3 o3 a5 n5 c5 e5 x8 x9 h)→L3t Q R3 a0 i3 o3 a5 n5 c5 e5 x8 x9 h)
 (g:G) (a5:Pt) (n5 c5:Nat) (e5:Bool) (x9:Int) (h:Zaa) (hj:J g a5 n5 c5 e5 x9 h):L3 Q a0 i3 o3 a5 n5 c5 e5 x8 x9 h:=by
 let P:=fun (K:Pt→Nat→Nat→Bool→Int→Zaa→Prop) a0' i3' o3' a5 n5 c5 e5 x8' x9 h=>a0=a0'∧i3=i3'∧o3=o3'∧x8=x8'∧K a5 n5 c5 e5 x9 h
 refine Zej.inv2 (fun g=>E3 (P (J g))) (fun g=>E3 (P fun a5 n5 c5 e5 x9 h=>∃ g',m g' < m g∧J g' a5 n5 c5 e5 x9 h)) m ?_ ?_ g ⟨rfl,rfl,rfl,rfl,hj⟩
 ·intro g env h hi
  obtain ⟨a0',i3',o3',a5,n5,c5,e5,x8',x9,rfl,rfl,rfl,rfl,rfl,hj⟩:=Zgd hi
  exact Zoe Q _ a0 i3 o3 a5 n5 c5 e5 x8 x9 h (hr g a5 n5 c5 e5 x9 h hj (P fun a5 n5 c5 e5 x9 h=>∃ g',m g' < m g∧J g' a5 n5 c5 e5 x9 h) fun g' a5 n5 c5 e5 x9 h hlt hj=>⟨rfl,rfl,rfl,rfl,g',hlt,hj⟩)
 ·intro g env h hi
  obtain ⟨a0',i3',o3',a5,n5,c5,e5,x8',x9,rfl,rfl,rfl,rfl,rfl,g',hlt,hj⟩:=Zgd hi
  exact ⟨g',hlt,rfl,rfl,rfl,rfl,hj⟩
theorem A3x0i (Q:QT) (a0:Pt) (i3 o3:Nat) (a5:Pt) (n5 c5:Nat) (e5:Bool) (h:Zaa) (ht :
 Zak pg Zbh [.ptr a0,.int .i64 24] h fun A B=>
 Zec .i64 A fun A=>bcase ((A:Int) == 0) (L8 Q a0 i3 o3 a5 n5 c5 e5 0 B) (J11 Q a5 n5 c5 e5 B)):Ztf Q a0 i3 o3 a5 n5 c5 e5 h:=
 At.mk (cast (by kernel_rfl) ht)
def L8t (Q:QT) (R8:T8) (a0:Pt) (i3 o3:Nat) (a5:Pt) (n5 c5:Nat) (e5:Bool) (x25:Int) (h:Zaa):Prop:=
 bcase (decide ((x25:Int) < 6)) (Zcd (Zbe h (.ptr (i3,o3)) 2) fun A=>Zai A fun A B=>xSl A fun A C D E=>Zai B fun B F=>xSl B fun B G H I=>Zbq F (Zak pg Zjn [.ptr a0,.agg [.slice A C D E,.slice B G H I]] h fun A B=>
 Zbd A fun A=>Zcf (B ++ [.cells Zab [.str A,.str [120]] false]) fun A=>Zci pg Zbo A (.slice a5 n5 c5 e5) (.slice (B.length,0) 1 1 true) fun A B=>xSl A fun A C D E=>R8 a0 i3 o3 A C D E (IntKind.wrap .i64 (x25 + 1)) B)) (Xai Q a5 n5 c5 e5 h)
theorem Yts (Q:QT) (R8:T8) (a0:Pt) (i3 o3:Nat) (a5:Pt) (n5 c5:Nat) (e5:Bool) (x25:Int) (h:Zaa) (ht:L8t Q R8 a0 i3 o3 a5 n5 c5 e5 x25 h):Den pg fn.ntmps (C [1,1,1,0,1,0,1,0,0]) [(0,.ptr a0),(3,.ptr (i3,o3)),(5,.slice a5 n5 c5 e5),(25,.int .i64 x25)] h (K7 Q R8):=
 Zba (kp:=kp) (cast (by kernel_rfl) ht)
theorem L8ind (Q:QT) (a0:Pt) (i3 o3:Nat) {G:Type} (J:G→Pt→Nat→Nat→Bool→Int→Zaa→Prop) (m:G→Nat)
 (hr:∀ (g:G) (a5:Pt) (n5 c5:Nat) (e5:Bool) (x25:Int) (h:Zaa),J g a5 n5 c5 e5 x25 h→∀ (R8:T8),(∀ g' (a5:Pt) (n5 c5:Nat) (e5:Bool) (x25:Int) (h:Zaa),m g' < m g→J g' a5 n5 c5 e5 x25 h→R8 a0 i3 o3 a5 n5 c5 e5 x25 h)→L8t Q R8 a0 i3 o3 a5 n5 c5 e5 x25 h)
 (g:G) (a5:Pt) (n5 c5:Nat) (e5:Bool) (x25:Int) (h:Zaa) (hj:J g a5 n5 c5 e5 x25 h):L8 Q a0 i3 o3 a5 n5 c5 e5 x25 h:=by
 let P:=fun (K:Pt→Nat→Nat→Bool→Int→Zaa→Prop) a0' i3' o3' a5 n5 c5 e5 x25 h=>a0=a0'∧i3=i3'∧o3=o3'∧K a5 n5 c5 e5 x25 h
 refine Zej.inv2 (fun g=>E8 (P (J g))) (fun g=>E8 (P fun a5 n5 c5 e5 x25 h=>∃ g',m g' < m g∧J g' a5 n5 c5 e5 x25 h)) m ?_ ?_ g ⟨rfl,rfl,rfl,hj⟩
 ·intro g env h hi
  obtain ⟨a0',i3',o3',a5,n5,c5,e5,x25,rfl,rfl,rfl,rfl,hj⟩:=Zzd hi
  exact Yts Q _ a0 i3 o3 a5 n5 c5 e5 x25 h (hr g a5 n5 c5 e5 x25 h hj (P fun a5 n5 c5 e5 x25 h=>∃ g',m g' < m g∧J g' a5 n5 c5 e5 x25 h) fun g' a5 n5 c5 e5 x25 h hlt hj=>⟨rfl,rfl,rfl,g',hlt,hj⟩)
 ·intro g env h hi
  obtain ⟨a0',i3',o3',a5,n5,c5,e5,x25,rfl,rfl,rfl,rfl,g',hlt,hj⟩:=Zzd hi
  exact ⟨g',hlt,rfl,rfl,rfl,hj⟩
theorem J11i (Q:QT) (a5:Pt) (n5 c5:Nat) (e5:Bool) (h:Zaa) (ht :
 Q (.slice a5 n5 c5 e5) h):J11 Q a5 n5 c5 e5 h:=
 Zba (kp:=kp) (cast (by kernel_rfl) ht)
theorem A8x2i (Q:QT) (a5:Pt) (n5 c5:Nat) (e5:Bool) (h:Zaa) (ht :
 J11 Q a5 n5 c5 e5 h):Xai Q a5 n5 c5 e5 h:=
 At.mk (cast (by kernel_rfl) ht)
theorem call (a0 a1x0:Pt) (n1x0 c1x0:Nat) (e1x0:Bool) (a1x1:Pt) (n1x1 c1x1:Nat) (e1x1:Bool) (h:Zaa) (Q:QT) (ht :
 Zcf (h ++ [.cells Zac [.slice a1x0 n1x0 c1x0 e1x0,.slice a1x1 n1x1 c1x1 e1x1] false]) fun A=>Zcf (A ++ [.cells Zab [] false]) fun B=>Zak pg Zbh [.ptr a0,.int .i64 4] B fun B C=>
 Zec .i64 B fun B=>L3 Q a0 h.length 0 (A.length,0) 0 0 true B 0 C):Zak pg Zpt [.ptr a0,.agg [.slice a1x0 n1x0 c1x0 e1x0,.slice a1x1 n1x1 c1x1 e1x1]] h Q:=
 Zak.of_body kp (c:=cod fn) (fn:=fn) Go.Proofs.Tryz.func50 (by kernel_rfl) (by kernel_rfl) (Nat.le_of_ble_eq_true (by kernel_rfl))
  (cast (by kernel_rfl) ht)
end Zfj
namespace Zne
noncomputable abbrev fn:Func:=Go.Proofs.Tryz.f28
def kp:Zch:=[(2000003,[2,3])]
noncomputable def C (p:List Nat):Code:=(cod fn).sub p
def KR (Q:QT):KT:=Zfd pg fn.results.toList Q
theorem call (a0:Pt) (n0 c0:Nat) (e0:Bool) (h:Zaa) (Q:QT) (ht :
 Zcf (h ++ [.cells Zac [.slice none 0 0 true,.slice none 0 0 true] false]) fun A=>Zak pg Zkt [.slice a0 n0 c0 e0] A fun A B=>
 Zgn A fun A=>Zak pg Zpa [.ptr A] B fun B C=>
 Zqi B fun B=>Zai B fun B D=>xSl B fun B E F G=>Zai D fun D H=>xSl D fun D I J K=>Zbq H (Zcf (C ++ [.cells Zac [.slice none 0 0 true,.slice none 0 0 true] false]) fun H=>Zbt (Zbb H (.ptr (C.length,0)) [.slice B E F G,.slice D I J K]) fun B=>Zcd (Zbe B (.ptr (C.length,0)) 2) fun D=>Zai D fun D E=>xSl D fun D F G H=>Zai E fun E I=>xSl E fun E J K L=>Zbq I (Zcd (Zbe B (.ptr (C.length,0)) 2) fun I=>Zai I fun I M=>xSl I fun I N O P=>Zai M fun M R=>xSl M fun M S T U=>Zbq R ((Zbe B (.ptr (C.length,0)) 2=Zbe B (.ptr (C.length,0)) 2)∧Zak pg Zpt [.ptr A,.agg [.slice I N O P,.slice M S T U]] B fun A I=>
 xSl A fun A M N O=>(Zbe I (.ptr (C.length,0)) 2=Zbe B (.ptr (C.length,0)) 2)∧Zbt (Zbb I (.ptr (h.length,0)) [.slice D F G H,.slice E J K L]) fun B=>Zcd (Zbe B (.ptr (h.length,0)) 2) fun C=>Zai C fun C D=>xSl C fun C E F G=>Zai D fun D H=>xSl D fun D I J K=>Zbq H (Q (.tup [.agg [.slice C E F G,.slice D I J K],.slice A M N O]) B))))):Zak pg Zjd [.slice a0 n0 c0 e0] h Q:=
 Zak.of_body kp (c:=cod fn) (fn:=fn) Go.Proofs.Tryz.func28 (by kernel_rfl) (by kernel_rfl) (Nat.le_of_ble_eq_true (by kernel_rfl))
  (cast (by kernel_rfl) ht)
end Zne
namespace Zoq
noncomputable abbrev fn:Func:=Go.Proofs.Tryz.f7
def kp:Zch:=[]
noncomputable def C (p:List Nat):Code:=(cod fn).sub p
def KR (Q:QT):KT:=Zfd pg fn.results.toList Q
theorem call (a0:Pt) (n0 c0:Nat) (e0:Bool) (h:Zaa) (Q:QT) (ht :
 Zcf (h ++ [.cells Zac [.slice none 0 0 true,.slice none 0 0 true] false]) fun A=>Zak pg Zjd [.slice a0 n0 c0 e0] A fun A B=>
 Zlf A fun A=>Zai A fun A C=>Zqi A fun A=>Zai A fun A D=>xSl A fun A E F G=>Zai D fun D H=>xSl D fun D I J K=>Zbq H (Zai C fun C H=>xSl C fun C L M N=>Zbq H (Zbt (Zbb B (.ptr (h.length,0)) [.slice A E F G,.slice D I J K]) fun A=>Zcd (Zbe A (.ptr (h.length,0)) 2) fun B=>Zai B fun B D=>xSl B fun B E F G=>Zai D fun D H=>xSl D fun D I J K=>Zbq H (Q (.tup [.agg [.slice B E F G,.slice D I J K],.slice C L M N]) A)))):Zak pg Zkm [.slice a0 n0 c0 e0] h Q:=
 Zak.of_body kp (c:=cod fn) (fn:=fn) Go.Proofs.Tryz.func7 (by kernel_rfl) (by kernel_rfl) (Nat.le_of_ble_eq_true (by kernel_rfl))
  (cast (by kernel_rfl) ht)
end Zoq
end Go.Sim

set_option maxRecDepth 100000
set_option maxHeartbeats 0
set_option linter.unusedVariables false
namespace Go.Sim
open Go Go.RowKit
namespace Zkd
noncomputable abbrev fn:Func:=Go.Proofs.Tryz.f40
def kp:Zch:=[(2000004,[4,6,0,2,3]),(2000005,[2,3]),(4000006,[0,5,4,2,3]),(4000008,[4,5,2,3]),(2000008,[2,3])]
noncomputable def C (p:List Nat):Code:=(cod fn).sub p
def KR (Q:QT):KT:=Zfd pg fn.results.toList Q
def J6 (Q:QT) (a0:Pt) (i5 o5 i4 o4 i2 o2 i3 o3:Nat) (h:Zaa):Prop:=Den pg fn.ntmps (C [1,1,1,1]) [(0,.ptr a0),(5,.ptr (i5,o5)),(4,.ptr (i4,o4)),(2,.ptr (i2,o2)),(3,.ptr (i3,o3))] h (KR Q)
def J8 (Q:QT) (i4 o4 i5 o5 i2 o2 i3 o3:Nat) (h:Zaa):Prop:=Den pg fn.ntmps (C [1,1,1,1,1]) [(4,.ptr (i4,o4)),(5,.ptr (i5,o5)),(2,.ptr (i2,o2)),(3,.ptr (i3,o3))] h (KR Q)
theorem J6i (Q:QT) (a0:Pt) (i5 o5 i4 o4 i2 o2 i3 o3:Nat) (h:Zaa) (ht :
 Zak pg Zbh [.ptr a0,.int .i64 20] h fun A B=>
 Zec .i64 A fun A=>bcase ((A:Int) == 0) (Zak pg Zuh [.ptr a0] B fun A C=>
 Zbd A fun A=>Zbt (Zbb C (.ptr (i5,o5 + 1)) [.str A]) fun A=>J8 Q i4 o4 i5 o5 i2 o2 i3 o3 A) (J8 Q i4 o4 i5 o5 i2 o2 i3 o3 B)):J6 Q a0 i5 o5 i4 o4 i2 o2 i3 o3 h:=
 Zba (kp:=kp) (cast (by kernel_rfl) ht)
theorem J8i (Q:QT) (i4 o4 i5 o5 i2 o2 i3 o3:Nat) (h:Zaa) (ht :
 Zcd (Zbe h (.ptr (i4,o4)) 2) fun A=>Zai A fun A B=>xSl A fun A C D E=>Zai B fun B F=>xSl B fun B G H I=>Zbq F (Zcd (Zbe h (.ptr (i5,o5)) 2) fun F=>Zai F fun F J=>Zbd F fun F=>Zai J fun J K=>Zbd J fun J=>Zbq K (Zbt (Zbb h (.ptr (i2,o2)) [.slice A C D E,.slice B G H I]) fun A=>(Zbe A (.ptr (i5,o5)) 2=Zbe h (.ptr (i5,o5)) 2)∧Zbt (Zbb A (.ptr (i3,o3)) [.str F,.str J]) fun A=>Zcd (Zbe A (.ptr (i2,o2)) 2) fun B=>Zai B fun B C=>xSl B fun B D E F=>Zai C fun C G=>xSl C fun C H I J=>Zbq G (Zcd (Zbe A (.ptr (i3,o3)) 2) fun G=>Zai G fun G K=>Zbd G fun G=>Zai K fun K L=>Zbd K fun K=>Zbq L (Q (.tup [.agg [.slice B D E F,.slice C H I J],.agg [.str G,.str K]]) A))))):J8 Q i4 o4 i5 o5 i2 o2 i3 o3 h:=
 Zba (kp:=kp) (cast (by kernel_rfl) ht)
theorem call (a0:Pt) (h:Zaa) (Q:QT) (ht :
 Zcf (h ++ [.cells Zac [.slice none 0 0 true,.slice none 0 0 true] false]) fun A=>Zcf (A ++ [.cells Zab [.str [],.str []] false]) fun B=>Zak pg Zpa [.ptr a0] B fun B C=>
 Zqi B fun B=>Zai B fun B D=>xSl B fun B E F G=>Zai D fun D H=>xSl D fun D I J K=>Zbq H (Zcf (C ++ [.cells Zac [.slice none 0 0 true,.slice none 0 0 true] false]) fun H=>Zbt (Zbb H (.ptr (C.length,0)) [.slice B E F G,.slice D I J K]) fun B=>Zcd (Zbe B (.ptr (C.length,0)) 2) fun D=>Zai D fun D E=>xSl D fun D F G H=>Zai E fun E I=>xSl E fun E J K L=>Zbq I (Zak pg Zjn [.ptr a0,.agg [.slice D F G H,.slice E J K L]] B fun B D=>
 Zbd B fun B=>Zak pg Zbh [.ptr a0,.int .i64 4] D fun D E=>
 Zec .i64 D fun D=>Zak pg Zbh [.ptr a0,.int .i64 4] E fun E F=>
 Zec .i64 E fun E=>Zak pg Zfx [.ptr a0,.int .i64 D,.bool (decide ((E:Int) > 0))] F fun D E=>
 Zbd D fun D=>Zcf (E ++ [.cells Zab [.str [],.str []] false]) fun F=>Zbt (Zbb F (.ptr (E.length,0)) [.str B,.str D]) fun B=>xSl (Zag B (.ptr (C.length,0 + 1))) fun D D F F=>bcase (decide (((((D:Nat):Int)):Int) > 0)) (Zak pg Zbh [.ptr a0,.int .i64 2] B fun D F=>
 Zec .i64 D fun D=>bcase ((D:Int) == 0) (xSl (Zag F (.ptr (C.length,0 + 1))) fun D G H H=>xSl (Zag F (.ptr (C.length,0 + 1))) fun H H I I=>(Zak pg Zbh [.ptr a0,.int .i64 (((H:Nat):Int))] F fun I J=>
 Zec .i64 I fun I=>(Zag J (.ptr (C.length,0 + 1))=Zag F (.ptr (C.length,0 + 1)))∧(Zag J (.ptr (C.length,0 + 1))=Zag F (.ptr (C.length,0 + 1)))∧(0≤(I:Int)∧(I:Int) < (G:Nat))∧(Zbf D fun K L=>Zcd (Zbe J (.ptr (K,L + (Int.toNat I) * 3)) 3) fun M=>Zai M fun M N=>Zbd M fun M=>Zai N fun N O=>Zbd N fun N=>Zai O fun O P=>xSl O fun O R S T=>Zbq P (Zcf (J ++ [.cells Zad [.str [],.str [],.slice none 0 0 true] false]) fun P=>(Zbe P (.ptr (K,L + (Int.toNat I) * 3)) 3=Zbe J (.ptr (K,L + (Int.toNat I) * 3)) 3)∧(Zag P (.ptr (C.length,0 + 1))=Zag J (.ptr (C.length,0 + 1)))∧(Zag P (.ptr (C.length,0 + 1))=Zag J (.ptr (C.length,0 + 1)))∧Zbt (Zbb P (.ptr (J.length,0)) [.str M,.str N,.slice O R S T]) fun I=>Zcd (Zbe I (.ptr (C.length,0)) 2) fun K=>Zai K fun K L=>xSl K fun K M N O=>Zai L fun L P=>xSl L fun L R S T=>Zbq P (Zbd (Zag I (.ptr (J.length,0 + 0 + 0))) fun P=>Zbd (Zag I (.ptr (J.length,0 + 0 + 1))) fun U=>(Zag I (.ptr (J.length,0 + 0 + 0))=Zag I (.ptr (J.length,0 + 0 + 0)))∧(Zbe I (.ptr (C.length,0)) 2=Zbe I (.ptr (C.length,0)) 2)∧Zak pg Zmg [.ptr a0,.str U] I fun U V=>
 Zbd U fun U=>(Zag V (.ptr (J.length,0 + 0 + 0))=Zag I (.ptr (J.length,0 + 0 + 0)))∧(Zbe V (.ptr (C.length,0)) 2=Zbe I (.ptr (C.length,0)) 2)∧Zbt (Zbb V (.ptr (h.length,0)) [.slice K M N O,.slice L R S T]) fun I=>(Zag I (.ptr (J.length,0 + 0 + 0))=Zag V (.ptr (J.length,0 + 0 + 0)))∧Zbt (Zbb I (.ptr (A.length,0)) [.str P,.str U]) fun I=>Zcd (Zbe I (.ptr (h.length,0)) 2) fun J=>Zai J fun J K=>xSl J fun J L M N=>Zai K fun K O=>xSl K fun K P R S=>Zbq O (Zcd (Zbe I (.ptr (A.length,0)) 2) fun O=>Zai O fun O T=>Zbd O fun O=>Zai T fun T U=>Zbd T fun T=>Zbq U (Q (.tup [.agg [.slice J L M N,.slice K P R S],.agg [.str O,.str T]]) I))))))∧(Zcf (F ++ [.cells Zad [.str [],.str [],.slice none 0 0 true] false]) fun I=>(Zag I (.ptr (C.length,0 + 1))=Zag F (.ptr (C.length,0 + 1)))∧(Zag I (.ptr (C.length,0 + 1))=Zag F (.ptr (C.length,0 + 1)))∧Zak pg Zbh [.ptr a0,.int .i64 (((H:Nat):Int))] I fun H J=>
 Zec .i64 H fun H=>(Zag J (.ptr (C.length,0 + 1))=Zag I (.ptr (C.length,0 + 1)))∧(Zag J (.ptr (C.length,0 + 1))=Zag I (.ptr (C.length,0 + 1)))∧(0≤(H:Int)∧(H:Int) < (G:Nat))∧(Zbf D fun D G=>Zcd (Zbe J (.ptr (D,G + (Int.toNat H) * 3)) 3) fun D=>Zai D fun D G=>Zbd D fun D=>Zai G fun G H=>Zbd G fun G=>Zai H fun H I=>xSl H fun H K L M=>Zbq I ((Zag J (.ptr (C.length,0 + 1))=Zag J (.ptr (C.length,0 + 1)))∧(Zag J (.ptr (C.length,0 + 1))=Zag J (.ptr (C.length,0 + 1)))∧Zbt (Zbb J (.ptr (F.length,0)) [.str D,.str G,.slice H K L M]) fun D=>Zcd (Zbe D (.ptr (C.length,0)) 2) fun G=>Zai G fun G H=>xSl G fun G I J K=>Zai H fun H L=>xSl H fun H M N O=>Zbq L (Zbd (Zag D (.ptr (F.length,0 + 0 + 0))) fun L=>Zbd (Zag D (.ptr (F.length,0 + 0 + 1))) fun P=>(Zag D (.ptr (F.length,0 + 0 + 0))=Zag D (.ptr (F.length,0 + 0 + 0)))∧(Zbe D (.ptr (C.length,0)) 2=Zbe D (.ptr (C.length,0)) 2)∧Zak pg Zmg [.ptr a0,.str P] D fun P R=>
 Zbd P fun P=>(Zag R (.ptr (F.length,0 + 0 + 0))=Zag D (.ptr (F.length,0 + 0 + 0)))∧(Zbe R (.ptr (C.length,0)) 2=Zbe D (.ptr (C.length,0)) 2)∧Zbt (Zbb R (.ptr (h.length,0)) [.slice G I J K,.slice H M N O]) fun D=>(Zag D (.ptr (F.length,0 + 0 + 0))=Zag R (.ptr (F.length,0 + 0 + 0)))∧Zbt (Zbb D (.ptr (A.length,0)) [.str L,.str P]) fun D=>Zcd (Zbe D (.ptr (h.length,0)) 2) fun G=>Zai G fun G H=>xSl G fun G I J K=>Zai H fun H L=>xSl H fun H M N O=>Zbq L (Zcd (Zbe D (.ptr (A.length,0)) 2) fun L=>Zai L fun L P=>Zbd L fun L=>Zai P fun P R=>Zbd P fun P=>Zbq R (Q (.tup [.agg [.slice G I J K,.slice H M N O],.agg [.str L,.str P]]) D))))))) (J6 Q a0 E.length 0 C.length 0 h.length 0 A.length 0 F)) (J6 Q a0 E.length 0 C.length 0 h.length 0 A.length 0 B)))):Zak pg Zpe [.ptr a0] h Q:=
 Zak.of_body kp (c:=cod fn) (fn:=fn) Go.Proofs.Tryz.func40 (by kernel_rfl) (by kernel_rfl) (Nat.le_of_ble_eq_true (by kernel_rfl))
  (cast (by kernel_rfl) ht)
end Zkd
end Go.Sim

set_option maxRecDepth 100000
set_option maxHeartbeats 0
set_option linter.unusedVariables false
namespace Go.Sim
open Go Go.RowKit
namespace Zjq
noncomputable abbrev fn:Func:=Go.Proofs.Tryz.f82
def kp:Zch:=[(3000008,[3,4]),(1000008,[3,4,50]),(4000011,[3,4])]
noncomputable def C (p:List Nat):Code:=(cod fn).sub p
def KR (Q:QT):KT:=Zfd pg fn.results.toList Q
abbrev T8:=Nat→Nat→Nat→Nat→Int→Zaa→Prop
def E8 (R8:T8) (env:Env) (h:Zaa):Prop:=Zbu 3 env fun v env=>Zgn v fun a=>Zbf a fun i3 o3=>Zbu 4 env fun v env=>Zgn v fun a=>Zbf a fun i4 o4=>Zbu 50 env fun v env=>Zdz .i64 v fun x50=>Zil env (R8 i3 o3 i4 o4 x50 h)
theorem Zzd {R8:T8} {env:Env} {h:Zaa} (hi:E8 R8 env h):∃ i3,∃ o3,∃ i4,∃ o4,∃ x50,env=[(3,.ptr (i3,o3)),(4,.ptr (i4,o4)),(50,.int .i64 x50)]∧R8 i3 o3 i4 o4 x50 h:=by
 unfold E8 at hi
 have hi0:=hi
 clear hi
 obtain ⟨_,_,rfl,hi1⟩:=Zaf hi0
 obtain ⟨a,rfl,hi2⟩:=Zbn hi1
 obtain ⟨i3,o3,rfl,hi3⟩:=Zbk hi2
 obtain ⟨_,_,rfl,hi4⟩:=Zaf hi3
 obtain ⟨a,rfl,hi5⟩:=Zbn hi4
 obtain ⟨i4,o4,rfl,hi6⟩:=Zbk hi5
 obtain ⟨_,_,rfl,hi7⟩:=Zaf hi6
 obtain ⟨x50,rfl,hi8⟩:=Zav hi7
 obtain ⟨rfl,hi9⟩:=Zbl hi8
 have hi:=hi9
 exact ⟨i3,o3,i4,o4,x50,rfl,hi⟩
def K0 (Q:QT):KT:=andThen (fun env' h'=>(match kp.find 4000011 with | some ks=>Den pg fn.ntmps (C [1,1]) (env'.keep ks) h' (KR Q) | none=>den pg fn.ntmps kp (C [1,1]) env' h' (KR Q))) (KR Q)
def K1 (Q:QT):KT:=Zcj 0 (K0 Q)
def K2 (Q:QT):KT:=Zcj 1 (K1 Q)
def K3 (Q:QT):KT:=left kp 8 (K2 Q)
def K4 (Q:QT) (R8:T8):KT:=rnd ((kp.find 1000008).getD []) (E8 R8) (K3 Q)
def J11 (Q:QT) (i3 o3 i4 o4:Nat) (h:Zaa):Prop:=Den pg fn.ntmps (C [1,1]) [(3,.ptr (i3,o3)),(4,.ptr (i4,o4))] h (KR Q)
def L8 (Q:QT) (i3 o3 i4 o4:Nat) (x50:Int) (h:Zaa):Prop:=Zej (Den pg fn.ntmps (C [1,0,1,0,1,1,1,1,1,0,1,0,0])) ((kp.find 1000008).getD []) (K3 Q) [(3,.ptr (i3,o3)),(4,.ptr (i4,o4)),(50,.int .i64 x50)] h
def Xbr (Q:QT) (i3 o3 i4 o4:Nat) (h:Zaa):Prop:=At (K2 Q) (.exit 1) [(3,.ptr (i3,o3)),(4,.ptr (i4,o4))] h
theorem J11i (Q:QT) (i3 o3 i4 o4:Nat) (h:Zaa) (ht :
 Zcd (Zbe h (.ptr (i3,o3)) 2) fun A=>Zai A fun A B=>xSl A fun A C D E=>Zai B fun B F=>xSl B fun B G H I=>Zbq F (Zbt (Zbb h (.ptr (i4,o4)) [.slice A C D E,.slice B G H I]) fun A=>Zcd (Zbe A (.ptr (i4,o4)) 2) fun B=>Zai B fun B C=>xSl B fun B D E F=>Zai C fun C G=>xSl C fun C H I J=>Zbq G (Q (.agg [.slice B D E F,.slice C H I J]) A))):J11 Q i3 o3 i4 o4 h:=
 Zba (kp:=kp) (cast (by kernel_rfl) ht)
def L8t (Q:QT) (R8:T8) (i3 o3 i4 o4:Nat) (x50:Int) (h:Zaa):Prop:=
 bcase (decide ((x50:Int) < 10)) (Zcf (h ++ [.cells Zad [] false]) fun A=>xSl (Zag A (.ptr (i3,o3 + 1))) fun B C D E=>Zci pg Zfq A (.slice (h.length,0) 0 0 true) (.slice B C D E) fun A B=>xSl A fun A C D E=>Zcf (B ++ [.cells Zab [] false]) fun F=>Zcf (F ++ [.cells Zad [.str [69],.str [105],.slice (B.length,0) 0 0 true] false]) fun B=>Zci pg Zfq B (.slice A C D E) (.slice (F.length,0) 1 1 true) fun A B=>xSl A fun A C D E=>Zbt (Zbb B (.ptr (i3,o3 + 1)) [.slice A C D E]) fun A=>R8 i3 o3 i4 o4 (IntKind.wrap .i64 (x50 + 1)) A) (Xbr Q i3 o3 i4 o4 h)
theorem Yts (Q:QT) (R8:T8) (i3 o3 i4 o4:Nat) (x50:Int) (h:Zaa) (ht:L8t Q R8 i3 o3 i4 o4 x50 h):Den pg fn.ntmps (C [1,0,1,0,1,1,1,1,1,0,1,0,0]) [(3,.ptr (i3,o3)),(4,.ptr (i4,o4)),(50,.int .i64 x50)] h (K4 Q R8):=
 Zba (kp:=kp) (cast (by kernel_rfl) ht)
theorem L8ind (Q:QT) (i3 o3 i4 o4:Nat) {G:Type} (J:G→Int→Zaa→Prop) (m:G→Nat)
 (hr:∀ (g:G) (x50:Int) (h:Zaa),J g x50 h→∀ (R8:T8),(∀ g' (x50:Int) (h:Zaa),m g' < m g→J g' x50 h→R8 i3 o3 i4 o4 x50 h)→L8t Q R8 i3 o3 i4 o4 x50 h)
 (g:G) (x50:Int) (h:Zaa) (hj:J g x50 h):L8 Q i3 o3 i4 o4 x50 h:=by
 let P:=fun (K:Int→Zaa→Prop) i3' o3' i4' o4' x50 h=>i3=i3'∧o3=o3'∧i4=i4'∧o4=o4'∧K x50 h
 refine Zej.inv2 (fun g=>E8 (P (J g))) (fun g=>E8 (P fun x50 h=>∃ g',m g' < m g∧J g' x50 h)) m ?_ ?_ g ⟨rfl,rfl,rfl,rfl,hj⟩
 ·intro g env h hi
  obtain ⟨i3',o3',i4',o4',x50,rfl,rfl,rfl,rfl,rfl,hj⟩:=Zzd hi
  exact Yts Q _ i3 o3 i4 o4 x50 h (hr g x50 h hj (P fun x50 h=>∃ g',m g' < m g∧J g' x50 h) fun g' x50 h hlt hj=>⟨rfl,rfl,rfl,rfl,g',hlt,hj⟩)
 ·intro g env h hi
  obtain ⟨i3',o3',i4',o4',x50,rfl,rfl,rfl,rfl,rfl,g',hlt,hj⟩:=Zzd hi
  exact ⟨g',hlt,rfl,rfl,rfl,rfl,hj⟩
theorem A8x1i (Q:QT) (i3 o3 i4 o4:Nat) (h:Zaa) (ht :
 J11 Q i3 o3 i4 o4 h):Xbr Q i3 o3 i4 o4 h:=
 At.mk (cast (by kernel_rfl) ht)
theorem call (a0 a1x0:Pt) (n1x0 c1x0:Nat) (e1x0:Bool) (a1x1:Pt) (n1x1 c1x1:Nat) (e1x1:Bool) (h:Zaa) (Q:QT) (ht :
 Zcf (h ++ [.cells Zac [.slice a1x0 n1x0 c1x0 e1x0,.slice a1x1 n1x1 c1x1 e1x1] false]) fun A=>Zcf (A ++ [.cells Zac [.slice none 0 0 true,.slice none 0 0 true] false]) fun B=>Zak pg Zbh [.ptr a0,.int .i64 36] B fun B C=>
 Zec .i64 B fun B=>bcase ((B:Int) == 0) (Zcf (C ++ [.cells Zbj [] false]) fun D=>xSl (Zag D (.ptr (h.length,0 + 0))) fun E F G H=>Zci pg Zkx D (.slice (C.length,0) 0 0 true) (.slice E F G H) fun D E=>xSl D fun D F G H=>Zcf (E ++ [.cells Zbi [.str [69],.str [73],.str [],.str [72]] false]) fun I=>Zak pg Zck [.ptr a0,.slice (E.length,0) 4 4 true] I fun E I=>
 Zbd E fun E=>Zcf (I ++ [.cells Zbi [.str [],.str [69],.str [72],.str [90]] false]) fun J=>Zak pg Zck [.ptr a0,.slice (I.length,0) 4 4 true] J fun I J=>
 Zbd I fun I=>Zcf (J ++ [.cells Zbj [.str E,.str I] false]) fun E=>Zci pg Zkx E (.slice D F G H) (.slice (J.length,0) 1 1 true) fun D E=>xSl D fun D F G H=>Zbt (Zbb E (.ptr (h.length,0 + 0)) [.slice D F G H]) fun D=>J11 Q h.length 0 A.length 0 D) (bcase ((B:Int) == 1) (Zcf (C ++ [.cells Zad [] false]) fun D=>xSl (Zag D (.ptr (h.length,0 + 1))) fun E F G H=>Zci pg Zfq D (.slice (C.length,0) 0 0 true) (.slice E F G H) fun D E=>xSl D fun D F G H=>Zcf (E ++ [.cells Zbi [.str [69],.str [72],.str [65]] false]) fun I=>Zak pg Zck [.ptr a0,.slice (E.length,0) 3 3 true] I fun E I=>
 Zbd E fun E=>Zcf (I ++ [.cells Zbi [.str [120],.str [113],.str [105],.str ([108,40,120,41])] false]) fun J=>Zak pg Zck [.ptr a0,.slice (I.length,0) 4 4 true] J fun I J=>
 Zbd I fun I=>Zcf (J ++ [.cells Zbi [.str [69],.str [65],.str [72]] false]) fun K=>Zak pg Zck [.ptr a0,.slice (J.length,0) 3 3 true] K fun J K=>
 Zbd J fun J=>Zcf (K ++ [.cells Zbi [.str [121],.str [105],.str [113]] false]) fun L=>Zak pg Zck [.ptr a0,.slice (K.length,0) 3 3 true] L fun K L=>
 Zbd K fun K=>Zcf (L ++ [.cells Zab [.str J,.str K] false]) fun J=>Zcf (J ++ [.cells Zad [.str E,.str I,.slice (L.length,0) 1 1 true] false]) fun E=>Zci pg Zfq E (.slice D F G H) (.slice (J.length,0) 1 1 true) fun D E=>xSl D fun D F G H=>Zbt (Zbb E (.ptr (h.length,0 + 1)) [.slice D F G H]) fun D=>J11 Q h.length 0 A.length 0 D) (bcase ((B:Int) == 2) (L8 Q h.length 0 A.length 0 0 C) (J11 Q h.length 0 A.length 0 C)))):Zak pg Ztk [.ptr a0,.agg [.slice a1x0 n1x0 c1x0 e1x0,.slice a1x1 n1x1 c1x1 e1x1]] h Q:=
 Zak.of_body kp (c:=cod fn) (fn:=fn) Go.Proofs.Tryz.func82 (by kernel_rfl) (by kernel_rfl) (Nat.le_of_ble_eq_true (by kernel_rfl))
  (cast (by kernel_rfl) ht)
end Zjq
namespace Zxj
noncomputable abbrev fn:Func:=Go.Proofs.Tryz.f49
def kp:Zch:=[]
noncomputable def C (p:List Nat):Code:=(cod fn).sub p
def KR (Q:QT):KT:=Zfd pg fn.results.toList Q
theorem call (a0:Pt) (h:Zaa) (Q:QT) (ht :
 Zcf (h ++ [.cells Zac [.slice none 0 0 true,.slice none 0 0 true] false]) fun A=>Zak pg Zsb [.ptr a0] A fun A B=>
 Zqi A fun A=>Zai A fun A C=>xSl A fun A D E F=>Zai C fun C G=>xSl C fun C H I J=>Zbq G (Zak pg Ztk [.ptr a0,.agg [.slice A D E F,.slice C H I J]] B fun A B=>
 Zqi A fun A=>Zai A fun A C=>xSl A fun A D E F=>Zai C fun C G=>xSl C fun C H I J=>Zbq G (Zbt (Zbb B (.ptr (h.length,0)) [.slice A D E F,.slice C H I J]) fun A=>Zcd (Zbe A (.ptr (h.length,0)) 2) fun B=>Zai B fun B C=>xSl B fun B D E F=>Zai C fun C G=>xSl C fun C H I J=>Zbq G (Q (.agg [.slice B D E F,.slice C H I J]) A)))):Zak pg Zpa [.ptr a0] h Q:=
 Zak.of_body kp (c:=cod fn) (fn:=fn) Go.Proofs.Tryz.func49 (by kernel_rfl) (by kernel_rfl) (Nat.le_of_ble_eq_true (by kernel_rfl))
  (cast (by kernel_rfl) ht)
end Zxj
namespace Zqa
noncomputable abbrev fn:Func:=Go.Proofs.Tryz.f69
def kp:Zch:=[(4000003,[3,0]),(2000003,[4])]
noncomputable def C (p:List Nat):Code:=(cod fn).sub p
def KR (Q:QT):KT:=Zfd pg fn.results.toList Q
def J3 (Q:QT) (i3 o3:Nat) (a0:Pt) (h:Zaa):Prop:=Den pg fn.ntmps (C [1,1]) [(3,.ptr (i3,o3)),(0,.ptr a0)] h (KR Q)
theorem J3i (Q:QT) (i3 o3:Nat) (a0:Pt) (h:Zaa) (ht :
 xSl (Zag h (.ptr (i3,o3 + 0))) fun A B C C=>xSl (Zag h (.ptr (i3,o3 + 0))) fun C C D D=>(Zag h (.ptr (i3,o3 + 0))=Zag h (.ptr (i3,o3 + 0)))∧Zak pg Zbh [.ptr a0,.int .i64 (((C:Nat):Int))] h fun C D=>
 Zec .i64 C fun C=>(Zag D (.ptr (i3,o3 + 0))=Zag h (.ptr (i3,o3 + 0)))∧(0≤(C:Int)∧(C:Int) < (B:Nat))∧(Zbf A fun A B=>Zbd (Zag D (.ptr (A,B + (Int.toNat C) * 2 + 0))) fun A=>(Zag D (.ptr (i3,o3 + 0))=Zag D (.ptr (i3,o3 + 0)))∧Q (.str A) D)):J3 Q i3 o3 a0 h:=
 Zba (kp:=kp) (cast (by kernel_rfl) ht)
theorem call (a0 a1x0:Pt) (n1x0 c1x0:Nat) (e1x0:Bool) (a1x1:Pt) (n1x1 c1x1:Nat) (e1x1:Bool) (h:Zaa) (Q:QT) (ht :
 Zcf (h ++ [.cells Zac [.slice a1x0 n1x0 c1x0 e1x0,.slice a1x1 n1x1 c1x1 e1x1] false]) fun A=>xSl (Zag A (.ptr (h.length,0 + 0))) fun B B C C=>bcase ((((B:Nat):Int):Int) == 0) (Zcf (A ++ [.cells Zbi [.str [69],.str [90],.str [],.str ([69,79])] false]) fun B=>Zak pg Zck [.ptr a0,.slice (A.length,0) 4 4 true] B fun B C=>
 Zbd B fun B=>Q (.str B) C) (Zak pg Zbh [.ptr a0,.int .i64 16] A fun A B=>
 Zec .i64 A fun A=>bcase ((A:Int) == 0) (Zcf (B ++ [.cells Zbi [.str [69],.str [90],.str [],.str ([69,79])] false]) fun A=>Zak pg Zck [.ptr a0,.slice (B.length,0) 4 4 true] A fun A C=>
 Zbd A fun A=>Q (.str A) C) (J3 Q h.length 0 a0 B))):Zak pg Zjn [.ptr a0,.agg [.slice a1x0 n1x0 c1x0 e1x0,.slice a1x1 n1x1 c1x1 e1x1]] h Q:=
 Zak.of_body kp (c:=cod fn) (fn:=fn) Go.Proofs.Tryz.func69 (by kernel_rfl) (by kernel_rfl) (Nat.le_of_ble_eq_true (by kernel_rfl))
  (cast (by kernel_rfl) ht)
end Zqa
end Go.Sim

set_option maxRecDepth 100000
set_option maxHeartbeats 0
set_option linter.unusedVariables false
namespace Go.Sim
open Go Go.RowKit
namespace Zly
noncomputable abbrev fn:Func:=Go.Proofs.Tryz.f83
def kp:Zch:=[(3000005,[3,2]),(1000005,[0,2,3,20,21]),(2000006,[21,20,3,0,2])]
noncomputable def C (p:List Nat):Code:=(cod fn).sub p
def KR (Q:QT):KT:=Zfd pg fn.results.toList Q
abbrev T5:=Pt→Nat→Nat→Nat→Nat→Int→Int→Zaa→Prop
def E5 (R5:T5) (env:Env) (h:Zaa):Prop:=Zbu 0 env fun v env=>Zgn v fun a0=>Zbu 2 env fun v env=>Zgn v fun a=>Zbf a fun i2 o2=>Zbu 3 env fun v env=>Zgn v fun a=>Zbf a fun i3 o3=>Zbu 20 env fun v env=>Zdz .i64 v fun x20=>Zbu 21 env fun v env=>Zdz .i64 v fun x21=>Zil env (R5 a0 i2 o2 i3 o3 x20 x21 h)
theorem Zik {R5:T5} {env:Env} {h:Zaa} (hi:E5 R5 env h):∃ a0,∃ i2,∃ o2,∃ i3,∃ o3,∃ x20,∃ x21,env=[(0,.ptr a0),(2,.ptr (i2,o2)),(3,.ptr (i3,o3)),(20,.int .i64 x20),(21,.int .i64 x21)]∧R5 a0 i2 o2 i3 o3 x20 x21 h:=by
 unfold E5 at hi
 have hi0:=hi
 clear hi
 obtain ⟨_,_,rfl,hi1⟩:=Zaf hi0
 obtain ⟨a0,rfl,hi2⟩:=Zbn hi1
 obtain ⟨_,_,rfl,hi3⟩:=Zaf hi2
 obtain ⟨a,rfl,hi4⟩:=Zbn hi3
 obtain ⟨i2,o2,rfl,hi5⟩:=Zbk hi4
 obtain ⟨_,_,rfl,hi6⟩:=Zaf hi5
 obtain ⟨a,rfl,hi7⟩:=Zbn hi6
 obtain ⟨i3,o3,rfl,hi8⟩:=Zbk hi7
 obtain ⟨_,_,rfl,hi9⟩:=Zaf hi8
 obtain ⟨x20,rfl,hi10⟩:=Zav hi9
 obtain ⟨_,_,rfl,hi11⟩:=Zaf hi10
 obtain ⟨x21,rfl,hi12⟩:=Zav hi11
 obtain ⟨rfl,hi13⟩:=Zbl hi12
 have hi:=hi13
 exact ⟨a0,i2,o2,i3,o3,x20,x21,rfl,hi⟩
def K0 (Q:QT):KT:=andThen (fun env' h'=>(match kp.find 4000008 with | some ks=>Den pg fn.ntmps (C [1,1,1,1]) (env'.keep ks) h' (KR Q) | none=>den pg fn.ntmps kp (C [1,1,1,1]) env' h' (KR Q))) (KR Q)
def K1 (Q:QT):KT:=Zcj 0 (K0 Q)
def K2 (Q:QT):KT:=left kp 5 (K1 Q)
def K3 (Q:QT) (R5:T5):KT:=rnd ((kp.find 1000005).getD []) (E5 R5) (K2 Q)
def L5 (Q:QT) (a0:Pt) (i2 o2 i3 o3:Nat) (x20 x21:Int) (h:Zaa):Prop:=Zej (Den pg fn.ntmps (C [1,1,1,0,1,0,0])) ((kp.find 1000005).getD []) (K2 Q) [(0,.ptr a0),(2,.ptr (i2,o2)),(3,.ptr (i3,o3)),(20,.int .i64 x20),(21,.int .i64 x21)] h
def A5x0 (Q:QT) (i3 o3 i2 o2:Nat) (h:Zaa):Prop:=At (K1 Q) (.exit 0) [(3,.ptr (i3,o3)),(2,.ptr (i2,o2))] h
def L5t (Q:QT) (R5:T5) (a0:Pt) (i2 o2 i3 o3:Nat) (x20 x21:Int) (h:Zaa):Prop:=
 bcase (decide ((x21:Int) < x20)) (xSl (Zag h (.ptr (i3,o3 + 1))) fun A B C D=>Zcd (Zbe h (.ptr (i3,o3)) 2) fun E=>Zai E fun E F=>xSl E fun E G H I=>Zai F fun F J=>xSl F fun F K L M=>Zbq J ((Zag h (.ptr (i3,o3 + 1))=Zag h (.ptr (i3,o3 + 1)))∧Zak pg Zju [.ptr a0,.agg [.slice E G H I,.slice F K L M]] h fun E F=>
 Zqi E fun E=>Zai E fun E G=>Zbd E fun E=>Zai G fun G H=>Zbd G fun G=>Zai H fun H I=>xSl H fun H J K L=>Zbq I ((Zag F (.ptr (i3,o3 + 1))=Zag h (.ptr (i3,o3 + 1)))∧Zcf (F ++ [.cells Zad [.str E,.str G,.slice H J K L] false]) fun E=>(Zag E (.ptr (i3,o3 + 1))=Zag F (.ptr (i3,o3 + 1)))∧Zci pg Zfq E (.slice A B C D) (.slice (F.length,0) 1 1 true) fun A B=>xSl A fun A C D E=>Zbt (Zbb B (.ptr (i3,o3 + 1)) [.slice A C D E]) fun A=>R5 a0 i2 o2 i3 o3 x20 (IntKind.wrap .i64 (x21 + 1)) A))) (A5x0 Q i3 o3 i2 o2 h)
theorem Ztv (Q:QT) (R5:T5) (a0:Pt) (i2 o2 i3 o3:Nat) (x20 x21:Int) (h:Zaa) (ht:L5t Q R5 a0 i2 o2 i3 o3 x20 x21 h):Den pg fn.ntmps (C [1,1,1,0,1,0,0]) [(0,.ptr a0),(2,.ptr (i2,o2)),(3,.ptr (i3,o3)),(20,.int .i64 x20),(21,.int .i64 x21)] h (K3 Q R5):=
 Zba (kp:=kp) (cast (by kernel_rfl) ht)
theorem L5ind (Q:QT) (a0:Pt) (i2 o2 i3 o3:Nat) (x20:Int) {G:Type} (J:G→Int→Zaa→Prop) (m:G→Nat)
 (hr:∀ (g:G) (x21:Int) (h:Zaa),J g x21 h→∀ (R5:T5),(∀ g' (x21:Int) (h:Zaa),m g' < m g→J g' x21 h→R5 a0 i2 o2 i3 o3 x20 x21 h)→L5t Q R5 a0 i2 o2 i3 o3 x20 x21 h)
 (g:G) (x21:Int) (h:Zaa) (hj:J g x21 h):L5 Q a0 i2 o2 i3 o3 x20 x21 h:=by
 let P:=fun (K:Int→Zaa→Prop) a0' i2' o2' i3' o3' x20' x21 h=>a0=a0'∧i2=i2'∧o2=o2'∧i3=i3'∧o3=o3'∧x20=x20'∧K x21 h
 refine Zej.inv2 (fun g=>E5 (P (J g))) (fun g=>E5 (P fun x21 h=>∃ g',m g' < m g∧J g' x21 h)) m ?_ ?_ g ⟨rfl,rfl,rfl,rfl,rfl,rfl,hj⟩
 ·intro g env h hi
  obtain ⟨a0',i2',o2',i3',o3',x20',x21,rfl,rfl,rfl,rfl,rfl,rfl,rfl,hj⟩:=Zik hi
  exact Ztv Q _ a0 i2 o2 i3 o3 x20 x21 h (hr g x21 h hj (P fun x21 h=>∃ g',m g' < m g∧J g' x21 h) fun g' x21 h hlt hj=>⟨rfl,rfl,rfl,rfl,rfl,rfl,g',hlt,hj⟩)
 ·intro g env h hi
  obtain ⟨a0',i2',o2',i3',o3',x20',x21,rfl,rfl,rfl,rfl,rfl,rfl,rfl,g',hlt,hj⟩:=Zik hi
  exact ⟨g',hlt,rfl,rfl,rfl,rfl,rfl,rfl,hj⟩
theorem A5x0i (Q:QT) (i3 o3 i2 o2:Nat) (h:Zaa) (ht :
 Zcd (Zbe h (.ptr (i3,o3)) 2) fun A=>Zai A fun A B=>xSl A fun A C D E=>Zai B fun B F=>xSl B fun B G H I=>Zbq F (Zbt (Zbb h (.ptr (i2,o2)) [.slice A C D E,.slice B G H I]) fun A=>Zcd (Zbe A (.ptr (i2,o2)) 2) fun B=>Zai B fun B C=>xSl B fun B D E F=>Zai C fun C G=>xSl C fun C H I J=>Zbq G (Q (.agg [.slice B D E F,.slice C H I J]) A))):A5x0 Q i3 o3 i2 o2 h:=
 At.mk (cast (by kernel_rfl) ht)
theorem call (a0:Pt) (h:Zaa) (Q:QT) (ht :
 Zcf (h ++ [.cells Zac [.slice none 0 0 true,.slice none 0 0 true] false]) fun A=>Zak pg Zbh [.ptr a0,.int .i64 2] A fun A B=>
 Zec .i64 A fun A=>bcase ((A:Int) == 0) (Zak pg Zbh [.ptr a0,.int .i64 9] B fun A C=>
 Zec .i64 A fun A=>Zak pg Zqw [.int .i64 A] C fun A C=>
 Zqi A fun A=>Zai A fun A D=>xSl A fun A E F G=>Zai D fun D H=>xSl D fun D I J K=>Zbq H (Zbt (Zbb C (.ptr (h.length,0)) [.slice A E F G,.slice D I J K]) fun A=>Zcd (Zbe A (.ptr (h.length,0)) 2) fun C=>Zai C fun C D=>xSl C fun C E F G=>Zai D fun D H=>xSl D fun D I J K=>Zbq H (Q (.agg [.slice C E F G,.slice D I J K]) A))) (Zcf (B ++ [.cells Zbi [.str [69],.str ([69,32,79,60,69]),.str ([65,32,66]),.str ([65,32,66,60,65,32,67,60,65,66]),.str ([69,32,79,60,69,32,83])] false]) fun A=>Zak pg Zck [.ptr a0,.slice (B.length,0) 5 5 true] A fun A B=>
 Zbd A fun A=>Zak pg Zkb [.str A] B fun A B=>
 Zlf A fun A=>Zai A fun A C=>Zqi A fun A=>Zai A fun A D=>xSl A fun A E F G=>Zai D fun D H=>xSl D fun D I J K=>Zbq H (Zai C fun C H=>Zca C fun C=>Zbq H (Zcf (B ++ [.cells Zac [.slice none 0 0 true,.slice none 0 0 true] false]) fun C=>Zbt (Zbb C (.ptr (B.length,0)) [.slice A E F G,.slice D I J K]) fun A=>Zak pg Zbh [.ptr a0,.int .i64 6] A fun A C=>
 Zec .i64 A fun A=>L5 Q a0 h.length 0 B.length 0 (IntKind.wrap .i64 (1 + A)) 0 C)))):Zak pg Zsb [.ptr a0] h Q:=
 Zak.of_body kp (c:=cod fn) (fn:=fn) Go.Proofs.Tryz.func83 (by kernel_rfl) (by kernel_rfl) (Nat.le_of_ble_eq_true (by kernel_rfl))
  (cast (by kernel_rfl) ht)
end Zly
end Go.Sim
