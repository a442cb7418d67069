/- A part of the proof of a statement of this seat: see the text that holds the theorem. No condition. -/
import Derived.Test.YtlljbdepamknoaaNm
set_option linter.unusedVariables false
set_option linter.unusedSimpArgs false
set_option linter.all false
set_option maxRecDepth 100000
set_option linter.unusedVariables false
namespace Go.Sim
open Go Go.RowKit
namespace Zfg
noncomputable abbrev fn : Func := Go.Proofs.Try.f18
def kp : Zcg := [(4000003, [2, 1, 4])]
noncomputable def C (p : List Nat) : Code := (cod fn).sub p
def KR (Q : QT) : KT := Zex pg fn.results.toList Q
def J3 (Q : QT) (i2 o2 : Nat) (x1 : Int) (i4 o4 : Nat) (h : Zaa) : Prop := Den pg fn.ntmps (C [1, 1]) [(2, .ptr (some (i2, o2))), (1, .int .i64 x1), (4, .ptr (some (i4, o4)))] h (KR Q)
theorem J3i (Q : QT) (i2 o2 : Nat) (x1 : Int) (i4 o4 : Nat) (h : Zaa) (ht :
 Zdg (Zbw h (.ptr (some (i2, o2))) 2) fun K64 => Zak K64 fun C65 Z66 => xSl (some C65) fun A67 N68 C69 E70 => Zak Z66 fun C71 Z72 => xSl (some C71) fun A73 N74 C75 E76 => Zct Z72 (Zae pg Zjs [.agg [.slice A67 N68 C69 E70, .slice A73 N74 C75 E76], .int .i64 x1] h fun V77 H78 =>
 Zoc V77 fun K79 => Zak K79 fun C80 Z81 => xSl (some C80) fun A82 N83 C84 E85 => Zak Z81 fun C86 Z87 => xSl (some C86) fun A88 N89 C90 E91 => Zct Z87 (Zcb (Zbc H78 (.ptr (some (i4, o4))) [.slice A82 N83 C84 E85, .slice A88 N89 C90 E91]) fun H92 => Zdg (Zbw H92 (.ptr (some (i4, o4))) 2) fun K93 => Zak K93 fun C94 Z95 => xSl (some C94) fun A96 N97 C98 E99 => Zak Z95 fun C100 Z101 => xSl (some C100) fun A102 N103 C104 E105 => Zct Z101 (Q (.tup [.agg [.slice A96 N97 C98 E99, .slice A102 N103 C104 E105], .bool true]) H92)))) : J3 Q i2 o2 x1 i4 o4 h :=
  Zbh (kp := kp) (cast (by kernel_rfl) ht)
theorem call (a0x0 : Pt) (n0x0 c0x0 : Nat) (e0x0 : Bool) (a0x1 : Pt) (n0x1 c0x1 : Nat) (e0x1 : Bool) (x1 : Int) (h : Zaa) (Q : QT) (ht :
 Zdw (h ++ [.cells Zac [.slice a0x0 n0x0 c0x0 e0x0, .slice a0x1 n0x1 c0x1 e0x1] false]) fun H0 => Zdw (H0 ++ [.cells Zac [.slice none 0 0 true, .slice none 0 0 true] false]) fun H1 => Zdg (Zbw H1 (.ptr (some (h.length, 0))) 2) fun K2 => Zak K2 fun C3 Z4 => xSl (some C3) fun A5 N6 C7 E8 => Zak Z4 fun C9 Z10 => xSl (some C9) fun A11 N12 C13 E14 => Zct Z10 (Zae pg Zhq [.agg [.slice A5 N6 C7 E8, .slice A11 N12 C13 E14]] H1 fun V15 H16 =>
 Zcv (some V15) fun B17 => bcase (!B17) (Zcb (Zbc H16 (.ptr (some (H0.length, 0))) [.slice none 0 0 true, .slice none 0 0 true]) fun H18 => Zdg (Zbw H18 (.ptr (some (H0.length, 0))) 2) fun K19 => Zak K19 fun C20 Z21 => xSl (some C20) fun A22 N23 C24 E25 => Zak Z21 fun C26 Z27 => xSl (some C26) fun A28 N29 C30 E31 => Zct Z27 (Q (.tup [.agg [.slice A22 N23 C24 E25, .slice A28 N29 C30 E31], .bool false]) H18)) (bcase (decide ((x1 : Int) < 0)) (Zcb (Zbc H16 (.ptr (some (H0.length, 0))) [.slice none 0 0 true, .slice none 0 0 true]) fun H32 => Zdg (Zbw H32 (.ptr (some (H0.length, 0))) 2) fun K33 => Zak K33 fun C34 Z35 => xSl (some C34) fun A36 N37 C38 E39 => Zak Z35 fun C40 Z41 => xSl (some C40) fun A42 N43 C44 E45 => Zct Z41 (Q (.tup [.agg [.slice A36 N37 C38 E39, .slice A42 N43 C44 E45], .bool false]) H32)) (xSl (Zai H16 (.ptr (some (h.length, 0 + 1)))) fun A46 N47 C48 E49 => bcase (decide ((x1 : Int) ≥ (((N47 : Nat) : Int)))) (Zcb (Zbc H16 (.ptr (some (H0.length, 0))) [.slice none 0 0 true, .slice none 0 0 true]) fun H50 => Zdg (Zbw H50 (.ptr (some (H0.length, 0))) 2) fun K51 => Zak K51 fun C52 Z53 => xSl (some C52) fun A54 N55 C56 E57 => Zak Z53 fun C58 Z59 => xSl (some C58) fun A60 N61 C62 E63 => Zct Z59 (Q (.tup [.agg [.slice A54 N55 C56 E57, .slice A60 N61 C62 E63], .bool false]) H50)) (J3 Q h.length 0 x1 H0.length 0 H16))))) : Zae pg Zdz [.agg [.slice a0x0 n0x0 c0x0 e0x0, .slice a0x1 n0x1 c0x1 e0x1], .int .i64 x1] h Q :=
  Zae.of_body kp (c := cod fn) (fn := fn) Go.Proofs.Try.func18 (by kernel_rfl) (by kernel_rfl) (Nat.le_of_ble_eq_true (by kernel_rfl))
    (cast (by kernel_rfl) ht)
end Zfg
namespace Zdy
noncomputable abbrev fn : Func := Go.Proofs.Try.f50
def kp : Zcg := [(4000004, [2, 1, 4])]
noncomputable def C (p : List Nat) : Code := (cod fn).sub p
def KR (Q : QT) : KT := Zex pg fn.results.toList Q
def J4 (Q : QT) (i2 o2 : Nat) (x1 : Int) (i4 o4 : Nat) (h : Zaa) : Prop := Den pg fn.ntmps (C [1, 1, 1]) [(2, .ptr (some (i2, o2))), (1, .int .i64 x1), (4, .ptr (some (i4, o4)))] h (KR Q)
theorem J4i (Q : QT) (i2 o2 : Nat) (x1 : Int) (i4 o4 : Nat) (h : Zaa) (ht :
 Zdg (Zbw h (.ptr (some (i2, o2))) 2) fun K82 => Zak K82 fun C83 Z84 => xSl (some C83) fun A85 N86 C87 E88 => Zak Z84 fun C89 Z90 => xSl (some C89) fun A91 N92 C93 E94 => Zct Z90 (Zae pg Zig [.agg [.slice A85 N86 C87 E88, .slice A91 N92 C93 E94], .int .i64 x1] h fun V95 H96 =>
 Zoc V95 fun K97 => Zak K97 fun C98 Z99 => xSl (some C98) fun A100 N101 C102 E103 => Zak Z99 fun C104 Z105 => xSl (some C104) fun A106 N107 C108 E109 => Zct Z105 (Zcb (Zbc H96 (.ptr (some (i4, o4))) [.slice A100 N101 C102 E103, .slice A106 N107 C108 E109]) fun H110 => Zdg (Zbw H110 (.ptr (some (i4, o4))) 2) fun K111 => Zak K111 fun C112 Z113 => xSl (some C112) fun A114 N115 C116 E117 => Zak Z113 fun C118 Z119 => xSl (some C118) fun A120 N121 C122 E123 => Zct Z119 (Q (.tup [.agg [.slice A114 N115 C116 E117, .slice A120 N121 C122 E123], .bool true]) H110)))) : J4 Q i2 o2 x1 i4 o4 h :=
  Zbh (kp := kp) (cast (by kernel_rfl) ht)
theorem call (a0x0 : Pt) (n0x0 c0x0 : Nat) (e0x0 : Bool) (a0x1 : Pt) (n0x1 c0x1 : Nat) (e0x1 : Bool) (x1 : Int) (h : Zaa) (Q : QT) (ht :
 Zdw (h ++ [.cells Zac [.slice a0x0 n0x0 c0x0 e0x0, .slice a0x1 n0x1 c0x1 e0x1] false]) fun H0 => Zdw (H0 ++ [.cells Zac [.slice none 0 0 true, .slice none 0 0 true] false]) fun H1 => Zdg (Zbw H1 (.ptr (some (h.length, 0))) 2) fun K2 => Zak K2 fun C3 Z4 => xSl (some C3) fun A5 N6 C7 E8 => Zak Z4 fun C9 Z10 => xSl (some C9) fun A11 N12 C13 E14 => Zct Z10 (Zae pg Zfh [.agg [.slice A5 N6 C7 E8, .slice A11 N12 C13 E14]] H1 fun V15 H16 =>
 Zoc V15 fun K17 => Zak K17 fun C18 Z19 => xSl (some C18) fun A20 N21 C22 E23 => Zak Z19 fun C24 Z25 => xSl (some C24) fun A26 N27 C28 E29 => Zct Z25 (Zcb (Zbc H16 (.ptr (some (h.length, 0))) [.slice A20 N21 C22 E23, .slice A26 N27 C28 E29]) fun H30 => Zdg (Zbw H30 (.ptr (some (h.length, 0))) 2) fun K31 => Zak K31 fun C32 Z33 => xSl (some C32) fun A34 N35 C36 E37 => Zak Z33 fun C38 Z39 => xSl (some C38) fun A40 N41 C42 E43 => Zct Z39 (Zae pg Zhp [.agg [.slice A34 N35 C36 E37, .slice A40 N41 C42 E43]] H30 fun V44 H45 =>
 Zcv (some V44) fun B46 => bcase (!B46) (Zcb (Zbc H45 (.ptr (some (H0.length, 0))) [.slice none 0 0 true, .slice none 0 0 true]) fun H47 => Zdg (Zbw H47 (.ptr (some (H0.length, 0))) 2) fun K48 => Zak K48 fun C49 Z50 => xSl (some C49) fun A51 N52 C53 E54 => Zak Z50 fun C55 Z56 => xSl (some C55) fun A57 N58 C59 E60 => Zct Z56 (Q (.tup [.agg [.slice A51 N52 C53 E54, .slice A57 N58 C59 E60], .bool false]) H47)) (xSl (Zai H45 (.ptr (some (h.length, 0 + 1)))) fun A61 N62 C63 E64 => Zae pg Ziq [.int .i64 x1, .int .i64 0, .int .i64 (IntKind.wrap .i64 ((((N62 : Nat) : Int)) - 1))] H45 fun V65 H66 =>
 Zcv (some V65) fun B67 => bcase (!B67) (Zcb (Zbc H66 (.ptr (some (H0.length, 0))) [.slice none 0 0 true, .slice none 0 0 true]) fun H68 => Zdg (Zbw H68 (.ptr (some (H0.length, 0))) 2) fun K69 => Zak K69 fun C70 Z71 => xSl (some C70) fun A72 N73 C74 E75 => Zak Z71 fun C76 Z77 => xSl (some C76) fun A78 N79 C80 E81 => Zct Z77 (Q (.tup [.agg [.slice A72 N73 C74 E75, .slice A78 N79 C80 E81], .bool false]) H68)) (J4 Q h.length 0 x1 H0.length 0 H66)))))) : Zae pg Zdx [.agg [.slice a0x0 n0x0 c0x0 e0x0, .slice a0x1 n0x1 c0x1 e0x1], .int .i64 x1] h Q :=
  Zae.of_body kp (c := cod fn) (fn := fn) Go.Proofs.Try.func50 (by kernel_rfl) (by kernel_rfl) (Nat.le_of_ble_eq_true (by kernel_rfl))
    (cast (by kernel_rfl) ht)
end Zdy
namespace Zhf
noncomputable abbrev fn : Func := Go.Proofs.Try.f17
def kp : Zcg := []
noncomputable def C (p : List Nat) : Code := (cod fn).sub p
def KR (Q : QT) : KT := Zex pg fn.results.toList Q
theorem call (a0x0 : Pt) (n0x0 c0x0 : Nat) (e0x0 : Bool) (a0x1 : Pt) (n0x1 c0x1 : Nat) (e0x1 : Bool) (x1 : Int) (h : Zaa) (Q : QT) (ht :
 Zdw (h ++ [.cells Zac [.slice a0x0 n0x0 c0x0 e0x0, .slice a0x1 n0x1 c0x1 e0x1] false]) fun H0 => Zdw (H0 ++ [.cells Zac [.slice none 0 0 true, .slice none 0 0 true] false]) fun H1 => Zdg (Zbw H1 (.ptr (some (h.length, 0))) 2) fun K2 => Zak K2 fun C3 Z4 => xSl (some C3) fun A5 N6 C7 E8 => Zak Z4 fun C9 Z10 => xSl (some C9) fun A11 N12 C13 E14 => Zct Z10 (Zae pg Zdx [.agg [.slice A5 N6 C7 E8, .slice A11 N12 C13 E14], .int .i64 x1] H1 fun V15 H16 =>
 Zys V15 fun K17 => Zak K17 fun C18 Z19 => Zoc C18 fun K20 => Zak K20 fun C21 Z22 => xSl (some C21) fun A23 N24 C25 E26 => Zak Z22 fun C27 Z28 => xSl (some C27) fun A29 N30 C31 E32 => Zct Z28 (Zak Z19 fun C33 Z34 => Zcv (some C33) fun B35 => Zct Z34 (Zdw (H16 ++ [.cells Zac [.slice none 0 0 true, .slice none 0 0 true] false]) fun H36 => Zcb (Zbc H36 (.ptr (some (H16.length, 0))) [.slice A23 N24 C25 E26, .slice A29 N30 C31 E32]) fun H37 => Zdg (Zbw H37 (.ptr (some (H16.length, 0))) 2) fun K38 => Zak K38 fun C39 Z40 => xSl (some C39) fun A41 N42 C43 E44 => Zak Z40 fun C45 Z46 => xSl (some C45) fun A47 N48 C49 E50 => Zct Z46 (Zae pg Zfh [.agg [.slice A41 N42 C43 E44, .slice A47 N48 C49 E50]] H37 fun V51 H52 =>
 Zoc V51 fun K53 => Zak K53 fun C54 Z55 => xSl (some C54) fun A56 N57 C58 E59 => Zak Z55 fun C60 Z61 => xSl (some C60) fun A62 N63 C64 E65 => Zct Z61 (Zcb (Zbc H52 (.ptr (some (H0.length, 0))) [.slice A56 N57 C58 E59, .slice A62 N63 C64 E65]) fun H66 => Zdg (Zbw H66 (.ptr (some (H0.length, 0))) 2) fun K67 => Zak K67 fun C68 Z69 => xSl (some C68) fun A70 N71 C72 E73 => Zak Z69 fun C74 Z75 => xSl (some C74) fun A76 N77 C78 E79 => Zct Z75 (Q (.tup [.agg [.slice A70 N71 C72 E73, .slice A76 N77 C78 E79], .bool B35]) H66))))))) : Zae pg Zff [.agg [.slice a0x0 n0x0 c0x0 e0x0, .slice a0x1 n0x1 c0x1 e0x1], .int .i64 x1] h Q :=
  Zae.of_body kp (c := cod fn) (fn := fn) Go.Proofs.Try.func17 (by kernel_rfl) (by kernel_rfl) (Nat.le_of_ble_eq_true (by kernel_rfl))
    (cast (by kernel_rfl) ht)
end Zhf
namespace Zco
noncomputable abbrev fn : Func := Go.Proofs.Try.f4
def kp : Zcg := [(4000010, [8, 2, 9, 6, 10, 7, 1]), (2000010, [49, 8, 9, 6, 10, 7, 2, 1]), (4000016, [9, 2, 1, 6, 7]), (4000027, [9, 12])]
noncomputable def C (p : List Nat) : Code := (cod fn).sub p
def KR (Q : QT) : KT := Zex pg fn.results.toList Q
def J10 (Q : QT) (i8 o8 i2 o2 i9 o9 i6 o6 : Nat) (x10 x7 : Bool) (x1 : Int) (h : Zaa) : Prop := Den pg fn.ntmps (C [1, 1, 1, 1, 1, 1, 1, 1]) [(8, .ptr (some (i8, o8))), (2, .ptr (some (i2, o2))), (9, .ptr (some (i9, o9))), (6, .ptr (some (i6, o6))), (10, .bool x10), (7, .bool x7), (1, .int .i64 x1)] h (KR Q)
def J16 (Q : QT) (i9 o9 i2 o2 : Nat) (x1 : Int) (i6 o6 : Nat) (x7 : Bool) (h : Zaa) : Prop := Den pg fn.ntmps (C [1, 1, 1, 1, 1, 1, 1, 1, 1, 1, 1, 1]) [(9, .ptr (some (i9, o9))), (2, .ptr (some (i2, o2))), (1, .int .i64 x1), (6, .ptr (some (i6, o6))), (7, .bool x7)] h (KR Q)
def J27 (Q : QT) (i9 o9 : Nat) (x12 : Int) (h : Zaa) : Prop := Den pg fn.ntmps (C [1, 1, 1, 1, 1, 1, 1, 1, 1, 1, 1, 1, 1, 1, 1, 1, 1, 1, 1, 1]) [(9, .ptr (some (i9, o9))), (12, .int .i64 x12)] h (KR Q)
theorem J10i (Q : QT) (i8 o8 i2 o2 i9 o9 i6 o6 : Nat) (x10 x7 : Bool) (x1 : Int) (h : Zaa) (ht :
 Zdg (Zbw h (.ptr (some (i8, o8))) 2) fun K163 => Zak K163 fun C164 Z165 => xSl (some C164) fun A166 N167 C168 E169 => Zak Z165 fun C170 Z171 => xSl (some C170) fun A172 N173 C174 E175 => Zct Z171 (Zdg (Zbw h (.ptr (some (i2, o2))) 2) fun K176 => Zak K176 fun C177 Z178 => xSl (some C177) fun A179 N180 C181 E182 => Zak Z178 fun C183 Z184 => xSl (some C183) fun A185 N186 C187 E188 => Zct Z184 ((Zbw h (.ptr (some (i8, o8))) 2 = Zbw h (.ptr (some (i8, o8))) 2) ∧ Zae pg Zfe [.agg [.slice A179 N180 C181 E182, .slice A185 N186 C187 E188]] h fun V189 H190 =>
 Zoc V189 fun K191 => Zak K191 fun C192 Z193 => xSl (some C192) fun A194 N195 C196 E197 => Zak Z193 fun C198 Z199 => xSl (some C198) fun A200 N201 C202 E203 => Zct Z199 ((Zbw H190 (.ptr (some (i8, o8))) 2 = Zbw h (.ptr (some (i8, o8))) 2) ∧ Zae pg Zfc [.agg [.slice A166 N167 C168 E169, .slice A172 N173 C174 E175], .agg [.slice A194 N195 C196 E197, .slice A200 N201 C202 E203]] H190 fun V204 H205 =>
 Zcv (some V204) fun B206 => bcase (!B206) (Q (.bool false) H205) (Zdg (Zbw H205 (.ptr (some (i8, o8))) 2) fun K207 => Zak K207 fun C208 Z209 => xSl (some C208) fun A210 N211 C212 E213 => Zak Z209 fun C214 Z215 => xSl (some C214) fun A216 N217 C218 E219 => Zct Z215 (Zae pg Zev [.agg [.slice A210 N211 C212 E213, .slice A216 N217 C218 E219], .int .i64 1] H205 fun V220 H221 =>
 Zgn .i64 (some V220) fun X222 => bcase (decide ((X222 : Int) < 0)) (Q (.bool false) H221) (Zdg (Zbw H221 (.ptr (some (i9, o9))) 2) fun K223 => Zak K223 fun C224 Z225 => xSl (some C224) fun A226 N227 C228 E229 => Zak Z225 fun C230 Z231 => xSl (some C230) fun A232 N233 C234 E235 => Zct Z231 (Zdg (Zbw H221 (.ptr (some (i6, o6))) 2) fun K236 => Zak K236 fun C237 Z238 => xSl (some C237) fun A239 N240 C241 E242 => Zak Z238 fun C243 Z244 => xSl (some C243) fun A245 N246 C247 E248 => Zct Z244 (Zae pg Zfc [.agg [.slice A226 N227 C228 E229, .slice A232 N233 C234 E235], .agg [.slice A239 N240 C241 E242, .slice A245 N246 C247 E248]] H221 fun V249 H250 =>
 Zcv (some V249) fun B251 => bcase (!B251) (Q (.bool false) H250) (bcase (!(x10 == x7)) (Q (.bool false) H250) (J16 Q i9 o9 i2 o2 x1 i6 o6 x7 H250))))))))))) : J10 Q i8 o8 i2 o2 i9 o9 i6 o6 x10 x7 x1 h :=
  Zbh (kp := kp) (cast (by kernel_rfl) ht)
theorem J16i (Q : QT) (i9 o9 i2 o2 : Nat) (x1 : Int) (i6 o6 : Nat) (x7 : Bool) (h : Zaa) (ht :
 Zdg (Zbw h (.ptr (some (i9, o9))) 2) fun K252 => Zak K252 fun C253 Z254 => xSl (some C253) fun A255 N256 C257 E258 => Zak Z254 fun C259 Z260 => xSl (some C259) fun A261 N262 C263 E264 => Zct Z260 (Zae pg Zev [.agg [.slice A255 N256 C257 E258, .slice A261 N262 C263 E264], .int .i64 1] h fun V265 H266 =>
 Zgn .i64 (some V265) fun X267 => Zdg (Zbw H266 (.ptr (some (i9, o9))) 2) fun K268 => Zak K268 fun C269 Z270 => xSl (some C269) fun A271 N272 C273 E274 => Zak Z270 fun C275 Z276 => xSl (some C275) fun A277 N278 C279 E280 => Zct Z276 (Zae pg Zgh [.agg [.slice A271 N272 C273 E274, .slice A277 N278 C279 E280], .int .i64 1] H266 fun V281 H282 =>
 Zgn .i64 (some V281) fun X283 => bcase (decide ((X283 : Int) < 0)) (Q (.bool false) H282) (bcase (!((X283 : Int) == X267)) (Q (.bool false) H282) (Zdg (Zbw H282 (.ptr (some (i2, o2))) 2) fun K284 => Zak K284 fun C285 Z286 => xSl (some C285) fun A287 N288 C289 E290 => Zak Z286 fun C291 Z292 => xSl (some C291) fun A293 N294 C295 E296 => Zct Z292 (Zae pg Zfe [.agg [.slice A287 N288 C289 E290, .slice A293 N294 C295 E296]] H282 fun V297 H298 =>
 Zoc V297 fun K299 => Zak K299 fun C300 Z301 => xSl (some C300) fun A302 N303 C304 E305 => Zak Z301 fun C306 Z307 => xSl (some C306) fun A308 N309 C310 E311 => Zct Z307 (Zae pg Zdz [.agg [.slice A302 N303 C304 E305, .slice A308 N309 C310 E311], .int .i64 x1] H298 fun V312 H313 =>
 Zys V312 fun K314 => Zak K314 fun C315 Z316 => Zoc C315 fun K317 => Zak K317 fun C318 Z319 => xSl (some C318) fun A320 N321 C322 E323 => Zak Z319 fun C324 Z325 => xSl (some C324) fun A326 N327 C328 E329 => Zct Z325 (Zak Z316 fun C330 Z331 => Zcv (some C330) fun B332 => Zct Z331 (Zdw (H313 ++ [.cells Zac [.slice none 0 0 true, .slice none 0 0 true] false]) fun H333 => Zcb (Zbc H333 (.ptr (some (H313.length, 0))) [.slice A320 N321 C322 E323, .slice A326 N327 C328 E329]) fun H334 => Zdg (Zbw H334 (.ptr (some (H313.length, 0))) 2) fun K335 => Zak K335 fun C336 Z337 => xSl (some C336) fun A338 N339 C340 E341 => Zak Z337 fun C342 Z343 => xSl (some C342) fun A344 N345 C346 E347 => Zct Z343 (Zdg (Zbw H334 (.ptr (some (i6, o6))) 2) fun K348 => Zak K348 fun C349 Z350 => xSl (some C349) fun A351 N352 C353 E354 => Zak Z350 fun C355 Z356 => xSl (some C355) fun A357 N358 C359 E360 => Zct Z356 (Zae pg Zfc [.agg [.slice A338 N339 C340 E341, .slice A344 N345 C346 E347], .agg [.slice A351 N352 C353 E354, .slice A357 N358 C359 E360]] H334 fun V361 H362 =>
 Zcv (some V361) fun B363 => bcase (!B363) (Q (.bool false) H362) (bcase (!(B332 == x7)) (Q (.bool false) H362) (J27 Q i9 o9 X267 H362))))))))))))) : J16 Q i9 o9 i2 o2 x1 i6 o6 x7 h :=
  Zbh (kp := kp) (cast (by kernel_rfl) ht)
theorem J27i (Q : QT) (i9 o9 : Nat) (x12 : Int) (h : Zaa) (ht :
 Zdg (Zbw h (.ptr (some (i9, o9))) 2) fun K364 => Zak K364 fun C365 Z366 => xSl (some C365) fun A367 N368 C369 E370 => Zak Z366 fun C371 Z372 => xSl (some C371) fun A373 N374 C375 E376 => Zct Z372 (Zae pg Zgh [.agg [.slice A367 N368 C369 E370, .slice A373 N374 C375 E376], .int .i64 1] h fun V377 H378 =>
 Zgn .i64 (some V377) fun X379 => bcase (decide ((X379 : Int) < 0)) (Q (.bool false) H378) (bcase (!((X379 : Int) == x12)) (Q (.bool false) H378) (Q (.bool true) H378)))) : J27 Q i9 o9 x12 h :=
  Zbh (kp := kp) (cast (by kernel_rfl) ht)
theorem call (a0x0 : Pt) (n0x0 c0x0 : Nat) (e0x0 : Bool) (a0x1 : Pt) (n0x1 c0x1 : Nat) (e0x1 : Bool) (x1 : Int) (h : Zaa) (Q : QT) (ht :
 Zdw (h ++ [.cells Zdf [.slice a0x0 n0x0 c0x0 e0x0, .slice a0x1 n0x1 c0x1 e0x1] false]) fun H0 => Zdg (Zbw H0 (.ptr (some (h.length, 0))) 2) fun K1 => Zak K1 fun C2 Z3 => xSl (some C2) fun A4 N5 C6 E7 => Zak Z3 fun C8 Z9 => xSl (some C8) fun A10 N11 C12 E13 => Zct Z9 (Zae pg Zjr [.agg [.slice A4 N5 C6 E7, .slice A10 N11 C12 E13], .int .i64 1048576] H0 fun V14 H15 =>
 Zgn .i64 (some V14) fun X16 => bcase (decide ((X16 : Int) < 0)) (Q (.bool true) H15) (Zdg (Zbw H15 (.ptr (some (h.length, 0))) 2) fun K17 => Zak K17 fun C18 Z19 => xSl (some C18) fun A20 N21 C22 E23 => Zak Z19 fun C24 Z25 => xSl (some C24) fun A26 N27 C28 E29 => Zct Z25 (Zae pg Zfe [.agg [.slice A20 N21 C22 E23, .slice A26 N27 C28 E29]] H15 fun V30 H31 =>
 Zoc V30 fun K32 => Zak K32 fun C33 Z34 => xSl (some C33) fun A35 N36 C37 E38 => Zak Z34 fun C39 Z40 => xSl (some C39) fun A41 N42 C43 E44 => Zct Z40 (Zae pg Zff [.agg [.slice A35 N36 C37 E38, .slice A41 N42 C43 E44], .int .i64 x1] H31 fun V45 H46 =>
 Zys V45 fun K47 => Zak K47 fun C48 Z49 => Zoc C48 fun K50 => Zak K50 fun C51 Z52 => xSl (some C51) fun A53 N54 C55 E56 => Zak Z52 fun C57 Z58 => xSl (some C57) fun A59 N60 C61 E62 => Zct Z58 (Zak Z49 fun C63 Z64 => Zcv (some C63) fun B65 => Zct Z64 (Zdw (H46 ++ [.cells Zac [.slice none 0 0 true, .slice none 0 0 true] false]) fun H66 => Zcb (Zbc H66 (.ptr (some (H46.length, 0))) [.slice A53 N54 C55 E56, .slice A59 N60 C61 E62]) fun H67 => Zdg (Zbw H67 (.ptr (some (h.length, 0))) 2) fun K68 => Zak K68 fun C69 Z70 => xSl (some C69) fun A71 N72 C73 E74 => Zak Z70 fun C75 Z76 => xSl (some C75) fun A77 N78 C79 E80 => Zct Z76 (Zae pg Zfe [.agg [.slice A71 N72 C73 E74, .slice A77 N78 C79 E80]] H67 fun V81 H82 =>
 Zoc V81 fun K83 => Zak K83 fun C84 Z85 => xSl (some C84) fun A86 N87 C88 E89 => Zak Z85 fun C90 Z91 => xSl (some C90) fun A92 N93 C94 E95 => Zct Z91 (Zdw (H82 ++ [.cells Zac [.slice none 0 0 true, .slice none 0 0 true] false]) fun H96 => Zcb (Zbc H96 (.ptr (some (H82.length, 0))) [.slice A86 N87 C88 E89, .slice A92 N93 C94 E95]) fun H97 => Zdg (Zbw H97 (.ptr (some (H82.length, 0))) 2) fun K98 => Zak K98 fun C99 Z100 => xSl (some C99) fun A101 N102 C103 E104 => Zak Z100 fun C105 Z106 => xSl (some C105) fun A107 N108 C109 E110 => Zct Z106 (Zae pg Zdz [.agg [.slice A101 N102 C103 E104, .slice A107 N108 C109 E110], .int .i64 x1] H97 fun V111 H112 =>
 Zys V111 fun K113 => Zak K113 fun C114 Z115 => Zoc C114 fun K116 => Zak K116 fun C117 Z118 => xSl (some C117) fun A119 N120 C121 E122 => Zak Z118 fun C123 Z124 => xSl (some C123) fun A125 N126 C127 E128 => Zct Z124 (Zak Z115 fun C129 Z130 => Zcv (some C129) fun B131 => Zct Z130 (Zdw (H112 ++ [.cells Zac [.slice none 0 0 true, .slice none 0 0 true] false]) fun H132 => Zcb (Zbc H132 (.ptr (some (H112.length, 0))) [.slice A119 N120 C121 E122, .slice A125 N126 C127 E128]) fun H133 => Zdg (Zbw H133 (.ptr (some (H112.length, 0))) 2) fun K134 => Zak K134 fun C135 Z136 => xSl (some C135) fun A137 N138 C139 E140 => Zak Z136 fun C141 Z142 => xSl (some C141) fun A143 N144 C145 E146 => Zct Z142 (Zdg (Zbw H133 (.ptr (some (H46.length, 0))) 2) fun K147 => Zak K147 fun C148 Z149 => xSl (some C148) fun A150 N151 C152 E153 => Zak Z149 fun C154 Z155 => xSl (some C154) fun A156 N157 C158 E159 => Zct Z155 (Zae pg Zfc [.agg [.slice A137 N138 C139 E140, .slice A143 N144 C145 E146], .agg [.slice A150 N151 C152 E153, .slice A156 N157 C158 E159]] H133 fun V160 H161 =>
 Zcv (some V160) fun B162 => bcase (!B162) (Q (.bool false) H161) (bcase (!(B131 == B65)) (Q (.bool false) H161) (J10 Q H82.length 0 h.length 0 H112.length 0 H46.length 0 B131 B65 x1 H161)))))))))))))))) : Zae pg Zez [.agg [.slice a0x0 n0x0 c0x0 e0x0, .slice a0x1 n0x1 c0x1 e0x1], .int .i64 x1] h Q :=
  Zae.of_body kp (c := cod fn) (fn := fn) Go.Proofs.Try.func4 (by kernel_rfl) (by kernel_rfl) (Nat.le_of_ble_eq_true (by kernel_rfl))
    (cast (by kernel_rfl) ht)
end Zco
end Go.Sim

set_option maxRecDepth 100000
set_option linter.unusedVariables false
namespace Go.Sim
open Go Go.RowKit
namespace Zds
noncomputable abbrev fn : Func := Go.Proofs.Try.f49
def kp : Zcg := [(3000002, [1, 4]), (1000002, [0, 1, 5]), (2000004, [20, 1, 0, 5]), (2000007, [31, 1, 0, 5])]
noncomputable def C (p : List Nat) : Code := (cod fn).sub p
def KR (Q : QT) : KT := Zex pg fn.results.toList Q
abbrev T2 := Pt → Nat → Nat → Bool → Int → Int → Zaa → Prop
def E2 (R2 : T2) (env : Env) (h : Zaa) : Prop := Zcq 0 env fun v env => xSl (some v) fun a0 n0 c0 e0 => Zcq 1 env fun v env => Zfb .i64 v fun x1 => Zcq 5 env fun v env => Zfb .i64 v fun x5 => Zld env (R2 a0 n0 c0 e0 x1 x5 h)
theorem Zdd {R2 : T2} {env : Env} {h : Zaa} (hi : E2 R2 env h) : ∃ a0, ∃ n0, ∃ c0, ∃ e0, ∃ x1, ∃ x5, env = [(0, .slice a0 n0 c0 e0), (1, .int .i64 x1), (5, .int .i64 x5)] ∧ R2 a0 n0 c0 e0 x1 x5 h := by
  unfold E2 at hi
  have hi0 := hi
  clear hi
  obtain ⟨_, _, rfl, hi1⟩ := Zad hi0
  obtain ⟨a0, n0, c0, e0, rfl, hi2⟩ := Zbo hi1
  obtain ⟨_, _, rfl, hi3⟩ := Zad hi2
  obtain ⟨x1, rfl, hi4⟩ := Zas hi3
  obtain ⟨_, _, rfl, hi5⟩ := Zad hi4
  obtain ⟨x5, rfl, hi6⟩ := Zas hi5
  obtain ⟨rfl, hi7⟩ := Zbm hi6
  have hi := hi7
  exact ⟨a0, n0, c0, e0, x1, x5, rfl, hi⟩
def K0 (Q : QT) : KT := andThen (fun env' h' => (match kp.find 4000013 with | some ks => Den pg fn.ntmps (C [1, 1]) (env'.keep ks) h' (KR Q) | none => den pg fn.ntmps kp (C [1, 1]) env' h' (KR Q))) (KR Q)
def K1 (Q : QT) : KT := Zda 0 (K0 Q)
def K2 (Q : QT) : KT := left kp 2 (K1 Q)
def K3 (Q : QT) (R2 : T2) : KT := rnd ((kp.find 1000002).getD []) (E2 R2) (K2 Q)
def L2 (Q : QT) (a0 : Pt) (n0 c0 : Nat) (e0 : Bool) (x1 x5 : Int) (h : Zaa) : Prop := Zes (Den pg fn.ntmps (C [1, 0, 1, 0, 0])) ((kp.find 1000002).getD []) (K2 Q) [(0, .slice a0 n0 c0 e0), (1, .int .i64 x1), (5, .int .i64 x5)] h
def Zkd (Q : QT) (x1 : Int) (h : Zaa) : Prop := At (K1 Q) (.exit 0) [(1, .int .i64 x1), (4, .undef)] h
def L2t (Q : QT) (R2 : T2) (a0 : Pt) (n0 c0 : Nat) (e0 : Bool) (x1 x5 : Int) (h : Zaa) : Prop :=
 bcase (decide ((x5 : Int) < (((n0 : Nat) : Int)))) ((0 ≤ (x5 : Int) ∧ (x5 : Int) < (n0 : Nat)) ∧ (Zbu a0 fun I0 O1 => Zbs (Zai h (.ptr (some (I0, O1 + (Int.toNat x5) * 3 + 0 + 0)))) fun S2 => Zae pg Zce [.int .i64 x1] h fun V3 H4 =>
 Zbs (some V3) fun S5 => (Zai H4 (.ptr (some (I0, O1 + (Int.toNat x5) * 3 + 0 + 0))) = Zai h (.ptr (some (I0, O1 + (Int.toNat x5) * 3 + 0 + 0)))) ∧ bcase (!(decide (S2 = S5))) (Q (.int .i64 (-1)) H4) ((0 ≤ (x5 : Int) ∧ (x5 : Int) < (n0 : Nat)) ∧ (Zbu a0 fun I6 O7 => Zbs (Zai H4 (.ptr (some (I6, O7 + (Int.toNat x5) * 3 + 0 + 1)))) fun S8 => Zae pg Zce [.int .i64 (IntKind.wrap .i64 (x1 + 1))] H4 fun V9 H10 =>
 Zbs (some V9) fun S11 => (Zai H10 (.ptr (some (I6, O7 + (Int.toNat x5) * 3 + 0 + 1))) = Zai H4 (.ptr (some (I6, O7 + (Int.toNat x5) * 3 + 0 + 1)))) ∧ bcase (!(decide (S8 = S11))) (Q (.int .i64 (-1)) H10) ((0 ≤ (x5 : Int) ∧ (x5 : Int) < (n0 : Nat)) ∧ (Zbu a0 fun I12 O13 => xSl (Zai H10 (.ptr (some (I12, O13 + (Int.toNat x5) * 3 + 2)))) fun A14 N15 C16 E17 => Zae pg Zic [.slice A14 N15 C16 E17, .int .i64 (IntKind.wrap .i64 ((IntKind.wrap .i64 (x1 + 1)) + 1))] H10 fun V18 H19 =>
 Zgn .i64 (some V18) fun X20 => bcase (decide ((X20 : Int) < 0)) (Q (.int .i64 (-1)) H19) (R2 a0 n0 c0 e0 X20 (IntKind.wrap .i64 (x5 + 1)) H19))))))) (Zkd Q x1 h)
theorem Zhj (Q : QT) (R2 : T2) (a0 : Pt) (n0 c0 : Nat) (e0 : Bool) (x1 x5 : Int) (h : Zaa) (ht : L2t Q R2 a0 n0 c0 e0 x1 x5 h) : Den pg fn.ntmps (C [1, 0, 1, 0, 0]) [(0, .slice a0 n0 c0 e0), (1, .int .i64 x1), (5, .int .i64 x5)] h (K3 Q R2) :=
  Zbh (kp := kp) (cast (by kernel_rfl) ht)
theorem L2ind (Q : QT) (a0 : Pt) (n0 c0 : Nat) (e0 : Bool) {G : Type} (J : G → Int → Int → Zaa → Prop) (m : G → Nat)
 (hr : ∀ (g : G) (x1 x5 : Int) (h : Zaa), J g x1 x5 h → ∀ (R2 : T2), (∀ g' (x1 x5 : Int) (h : Zaa), m g' < m g → J g' x1 x5 h → R2 a0 n0 c0 e0 x1 x5 h) → L2t Q R2 a0 n0 c0 e0 x1 x5 h)
 (g : G) (x1 x5 : Int) (h : Zaa) (hj : J g x1 x5 h) : L2 Q a0 n0 c0 e0 x1 x5 h := by
  refine Zes.inv2 (fun g => E2 fun a0' n0' c0' e0' x1 x5 h => a0 = a0' ∧ n0 = n0' ∧ c0 = c0' ∧ e0 = e0' ∧ J g x1 x5 h) (fun g => E2 fun a0' n0' c0' e0' x1 x5 h => a0 = a0' ∧ n0 = n0' ∧ c0 = c0' ∧ e0 = e0' ∧ ∃ g', m g' < m g ∧ J g' x1 x5 h) m ?_ ?_ g ⟨rfl, rfl, rfl, rfl, hj⟩
  · intro g env h hi
    obtain ⟨a0', n0', c0', e0', x1, x5, rfl, rfl, rfl, rfl, rfl, hj⟩ := Zdd hi
    exact Zhj Q _ a0 n0 c0 e0 x1 x5 h (hr g x1 x5 h hj (fun a0' n0' c0' e0' x1 x5 h => a0 = a0' ∧ n0 = n0' ∧ c0 = c0' ∧ e0 = e0' ∧ ∃ g', m g' < m g ∧ J g' x1 x5 h) fun g' x1 x5 h hlt hj => ⟨rfl, rfl, rfl, rfl, g', hlt, hj⟩)
  · intro g env h hi
    obtain ⟨a0', n0', c0', e0', x1, x5, rfl, rfl, rfl, rfl, rfl, g', hlt, hj⟩ := Zdd hi
    exact ⟨g', hlt, rfl, rfl, rfl, rfl, hj⟩
theorem A2x0i (Q : QT) (x1 : Int) (h : Zaa) (ht :
 Q (.int .i64 x1) h) : Zkd Q x1 h :=
  At.mk (cast (by kernel_rfl) ht)
theorem call (a0 : Pt) (n0 c0 : Nat) (e0 : Bool) (x1 : Int) (h : Zaa) (Q : QT) (ht :
 L2 Q a0 n0 c0 e0 x1 0 h) : Zae pg Zfw [.slice a0 n0 c0 e0, .int .i64 x1] h Q :=
  Zae.of_body kp (c := cod fn) (fn := fn) Go.Proofs.Try.func49 (by kernel_rfl) (by kernel_rfl) (Nat.le_of_ble_eq_true (by kernel_rfl))
    (cast (by kernel_rfl) ht)
end Zds
namespace Zlh
noncomputable abbrev fn : Func := Go.Proofs.Try.f16
def kp : Zcg := []
noncomputable def C (p : List Nat) : Code := (cod fn).sub p
def KR (Q : QT) : KT := Zex pg fn.results.toList Q
theorem call (a0x0 : Pt) (n0x0 c0x0 : Nat) (e0x0 : Bool) (a0x1 : Pt) (n0x1 c0x1 : Nat) (e0x1 : Bool) (x1 : Int) (h : Zaa) (Q : QT) (ht :
 Zdw (h ++ [.cells Zac [.slice a0x0 n0x0 c0x0 e0x0, .slice a0x1 n0x1 c0x1 e0x1] false]) fun H0 => xSl (Zai H0 (.ptr (some (h.length, 0 + 0)))) fun A1 N2 C3 E4 => Zae pg Zhn [.slice A1 N2 C3 E4, .int .i64 x1] H0 fun V5 H6 =>
 Zgn .i64 (some V5) fun X7 => bcase (decide ((X7 : Int) < 0)) (Q (.int .i64 (-1)) H6) (xSl (Zai H6 (.ptr (some (h.length, 0 + 1)))) fun A8 N9 C10 E11 => Zae pg Zfw [.slice A8 N9 C10 E11, .int .i64 X7] H6 fun V12 H13 =>
 Zgn .i64 (some V12) fun X14 => bcase (decide ((X14 : Int) < 0)) (Q (.int .i64 (-1)) H13) (Q (.int .i64 X14) H13))) : Zae pg Zgh [.agg [.slice a0x0 n0x0 c0x0 e0x0, .slice a0x1 n0x1 c0x1 e0x1], .int .i64 x1] h Q :=
  Zae.of_body kp (c := cod fn) (fn := fn) Go.Proofs.Try.func16 (by kernel_rfl) (by kernel_rfl) (Nat.le_of_ble_eq_true (by kernel_rfl))
    (cast (by kernel_rfl) ht)
end Zlh
end Go.Sim

set_option maxRecDepth 100000
set_option linter.unusedVariables false
namespace Go.Sim
open Go Go.RowKit
namespace Zmo
noncomputable abbrev fn : Func := Go.Proofs.Try.f51
def kp : Zcg := []
noncomputable def C (p : List Nat) : Code := (cod fn).sub p
def KR (Q : QT) : KT := Zex pg fn.results.toList Q
theorem call (a0x0 : Pt) (n0x0 c0x0 : Nat) (e0x0 : Bool) (a0x1 : Pt) (n0x1 c0x1 : Nat) (e0x1 : Bool) (x1 : Int) (h : Zaa) (Q : QT) (ht :
 Zdw (h ++ [.cells Zac [.slice a0x0 n0x0 c0x0 e0x0, .slice a0x1 n0x1 c0x1 e0x1] false]) fun H0 => Zdw (H0 ++ [.cells Zac [.slice none 0 0 true, .slice none 0 0 true] false]) fun H1 => Zdg (Zbw H1 (.ptr (some (h.length, 0))) 2) fun K2 => Zak K2 fun C3 Z4 => xSl (some C3) fun A5 N6 C7 E8 => Zak Z4 fun C9 Z10 => xSl (some C9) fun A11 N12 C13 E14 => Zct Z10 (Zae pg Zkx [.agg [.slice A5 N6 C7 E8, .slice A11 N12 C13 E14]] H1 fun V15 H16 =>
 Zoc V15 fun K17 => Zak K17 fun C18 Z19 => xSl (some C18) fun A20 N21 C22 E23 => Zak Z19 fun C24 Z25 => xSl (some C24) fun A26 N27 C28 E29 => Zct Z25 (Zdw (H16 ++ [.cells Zac [.slice none 0 0 true, .slice none 0 0 true] false]) fun H30 => Zcb (Zbc H30 (.ptr (some (H16.length, 0))) [.slice A20 N21 C22 E23, .slice A26 N27 C28 E29]) fun H31 => xSl (Zai H31 (.ptr (some (H16.length, 0 + 1)))) fun A32 N33 C34 E35 => Zae pg Zcj [.slice A32 N33 C34 E35, .int .i64 x1, .int .i64 (IntKind.wrap .i64 (x1 + 1))] H31 fun V36 H37 =>
 xSl (some V36) fun A38 N39 C40 E41 => Zcb (Zbc H37 (.ptr (some (H16.length, 0 + 1))) [.slice A38 N39 C40 E41]) fun H42 => Zdg (Zbw H42 (.ptr (some (H16.length, 0))) 2) fun K43 => Zak K43 fun C44 Z45 => xSl (some C44) fun A46 N47 C48 E49 => Zak Z45 fun C50 Z51 => xSl (some C50) fun A52 N53 C54 E55 => Zct Z51 (Zcb (Zbc H42 (.ptr (some (H0.length, 0))) [.slice A46 N47 C48 E49, .slice A52 N53 C54 E55]) fun H56 => Zdg (Zbw H56 (.ptr (some (H0.length, 0))) 2) fun K57 => Zak K57 fun C58 Z59 => xSl (some C58) fun A60 N61 C62 E63 => Zak Z59 fun C64 Z65 => xSl (some C64) fun A66 N67 C68 E69 => Zct Z65 (Q (.agg [.slice A60 N61 C62 E63, .slice A66 N67 C68 E69]) H56))))) : Zae pg Zjs [.agg [.slice a0x0 n0x0 c0x0 e0x0, .slice a0x1 n0x1 c0x1 e0x1], .int .i64 x1] h Q :=
  Zae.of_body kp (c := cod fn) (fn := fn) Go.Proofs.Try.func51 (by kernel_rfl) (by kernel_rfl) (Nat.le_of_ble_eq_true (by kernel_rfl))
    (cast (by kernel_rfl) ht)
end Zmo
namespace Zlg
noncomputable abbrev fn : Func := Go.Proofs.Try.f79
def kp : Zcg := [(2000001, [4])]
noncomputable def C (p : List Nat) : Code := (cod fn).sub p
def KR (Q : QT) : KT := Zex pg fn.results.toList Q
theorem call (a0x0 : Pt) (n0x0 c0x0 : Nat) (e0x0 : Bool) (a0x1 : Pt) (n0x1 c0x1 : Nat) (e0x1 : Bool) (x1 : Int) (h : Zaa) (Q : QT) (ht :
 Zdw (h ++ [.cells Zac [.slice a0x0 n0x0 c0x0 e0x0, .slice a0x1 n0x1 c0x1 e0x1] false]) fun H0 => Zdw (H0 ++ [.cells Zac [.slice none 0 0 true, .slice none 0 0 true] false]) fun H1 => xSl (Zai H1 (.ptr (some (h.length, 0 + 0)))) fun A2 N3 C4 E5 => xSl (Zai H1 (.ptr (some (h.length, 0 + 1)))) fun A6 N7 C8 E9 => Zep A6 N7 C8 E9 3 none (some (.int .i64 x1)) none fun V10 => xSl (some V10) fun A11 N12 C13 E14 => xSl (Zai H1 (.ptr (some (h.length, 0 + 1)))) fun A15 N16 C17 E18 => Zep A15 N16 C17 E18 3 (some (.int .i64 (IntKind.wrap .i64 (x1 + 1)))) none none fun V19 => xSl (some V19) fun A20 N21 C22 E23 => Zdw (H1 ++ [.cells Zab [] false]) fun H24 => (Zai H24 (.ptr (some (h.length, 0 + 1))) = Zai H1 (.ptr (some (h.length, 0 + 1)))) ∧ (Zai H24 (.ptr (some (h.length, 0 + 1))) = Zai H1 (.ptr (some (h.length, 0 + 1)))) ∧ (Zai H24 (.ptr (some (h.length, 0 + 0))) = Zai H1 (.ptr (some (h.length, 0 + 0)))) ∧ Zcy pg Zca H24 (.slice (some (H1.length, 0)) 0 0 true) (.slice A11 N12 C13 E14) fun V25 H26 => xSl (some V25) fun A27 N28 C29 E30 => (Zai H26 (.ptr (some (h.length, 0 + 1))) = Zai H24 (.ptr (some (h.length, 0 + 1)))) ∧ (Zai H26 (.ptr (some (h.length, 0 + 1))) = Zai H24 (.ptr (some (h.length, 0 + 1)))) ∧ (Zai H26 (.ptr (some (h.length, 0 + 0))) = Zai H24 (.ptr (some (h.length, 0 + 0)))) ∧ Zcy pg Zca H26 (.slice A27 N28 C29 E30) (.slice A20 N21 C22 E23) fun V31 H32 => xSl (some V31) fun A33 N34 C35 E36 => (Zai H32 (.ptr (some (h.length, 0 + 1))) = Zai H26 (.ptr (some (h.length, 0 + 1)))) ∧ (Zai H32 (.ptr (some (h.length, 0 + 1))) = Zai H26 (.ptr (some (h.length, 0 + 1)))) ∧ (Zai H32 (.ptr (some (h.length, 0 + 0))) = Zai H26 (.ptr (some (h.length, 0 + 0)))) ∧ Zcb (Zbc H32 (.ptr (some (H0.length, 0))) [.slice A2 N3 C4 E5, .slice A33 N34 C35 E36]) fun H37 => Zdg (Zbw H37 (.ptr (some (H0.length, 0))) 2) fun K38 => Zak K38 fun C39 Z40 => xSl (some C39) fun A41 N42 C43 E44 => Zak Z40 fun C45 Z46 => xSl (some C45) fun A47 N48 C49 E50 => Zct Z46 (Q (.agg [.slice A41 N42 C43 E44, .slice A47 N48 C49 E50]) H37)) : Zae pg Zig [.agg [.slice a0x0 n0x0 c0x0 e0x0, .slice a0x1 n0x1 c0x1 e0x1], .int .i64 x1] h Q :=
  Zae.of_body kp (c := cod fn) (fn := fn) Go.Proofs.Try.func79 (by kernel_rfl) (by kernel_rfl) (Nat.le_of_ble_eq_true (by kernel_rfl))
    (cast (by kernel_rfl) ht)
end Zlg
end Go.Sim

set_option maxRecDepth 100000
set_option linter.unusedVariables false
namespace Go.Sim
open Go Go.RowKit
namespace Zde
noncomputable abbrev fn : Func := Go.Proofs.Try.f80
def kp : Zcg := [(2000005, [0, 7])]
noncomputable def C (p : List Nat) : Code := (cod fn).sub p
def KR (Q : QT) : KT := Zex pg fn.results.toList Q
theorem call (a0 : Pt) (n0 c0 : Nat) (e0 : Bool) (x1 x2 : Int) (h : Zaa) (Q : QT) (ht :
 Zep a0 n0 c0 e0 3 (some (.int .i64 x1)) (some (.int .i64 x2)) (some (.int .i64 (((n0 : Nat) : Int)))) fun V0 => xSl (some V0) fun A1 N2 C3 E4 => bcase ((x1 : Int) == x2) (Q (.slice a0 n0 c0 e0) h) (Zep a0 n0 c0 e0 3 none (some (.int .i64 x1)) none fun V5 => xSl (some V5) fun A6 N7 C8 E9 => Zep a0 n0 c0 e0 3 (some (.int .i64 x2)) none none fun V10 => xSl (some V10) fun A11 N12 C13 E14 => Zcy pg Zca h (.slice A6 N7 C8 E9) (.slice A11 N12 C13 E14) fun V15 H16 => xSl (some V15) fun A17 N18 C19 E20 => Zep A17 N18 C19 E20 3 (some (.int .i64 (((N18 : Nat) : Int)))) (some (.int .i64 (((n0 : Nat) : Int)))) none fun V21 => xSl (some V21) fun A22 N23 C24 E25 => Zqj pg Zca H16 (.slice A22 N23 C24 E25) fun V26 H27 => Q (.slice A17 N18 C19 E20) H27)) : Zae pg Zcj [.slice a0 n0 c0 e0, .int .i64 x1, .int .i64 x2] h Q :=
  Zae.of_body kp (c := cod fn) (fn := fn) Go.Proofs.Try.func80 (by kernel_rfl) (by kernel_rfl) (Nat.le_of_ble_eq_true (by kernel_rfl))
    (cast (by kernel_rfl) ht)
end Zde
end Go.Sim

set_option maxRecDepth 100000
set_option linter.unusedVariables false
namespace Go.Sim
open Go Go.RowKit
namespace Zdp
noncomputable abbrev fn : Func := Go.Proofs.Try.f70
def kp : Zcg := []
noncomputable def C (p : List Nat) : Code := (cod fn).sub p
def KR (Q : QT) : KT := Zex pg fn.results.toList Q
theorem call (a0 : Pt) (n0 c0 : Nat) (e0 : Bool) (h : Zaa) (Q : QT) (ht :
 (a0 = none → e0 = true) ∧ (bcase (Option.isNone a0) (Q (.slice none 0 0 true) h) (Zdw (h ++ [.cells Zan [] false]) fun H0 => Zcy pg Zhw H0 (.slice (some (h.length, 0)) 0 0 true) (.slice a0 n0 c0 e0) fun V1 H2 => xSl (some V1) fun A3 N4 C5 E6 => Q (.slice A3 N4 C5 E6) H2))) : Zae pg Zcs [.slice a0 n0 c0 e0] h Q :=
  Zae.of_body kp (c := cod fn) (fn := fn) Go.Proofs.Try.func70 (by kernel_rfl) (by kernel_rfl) (Nat.le_of_ble_eq_true (by kernel_rfl))
    (cast (by kernel_rfl) ht)
end Zdp
namespace Zhe
noncomputable abbrev fn : Func := Go.Proofs.Try.f38
def kp : Zcg := [(3000003, [3, 2]), (1000003, [2, 3, 11, 12, 13])]
noncomputable def C (p : List Nat) : Code := (cod fn).sub p
def KR (Q : QT) : KT := Zex pg fn.results.toList Q
abbrev T3 := Nat → Nat → Nat → Nat → Pt → Nat → Nat → Bool → Int → Int → Zaa → Prop
def E3 (R3 : T3) (env : Env) (h : Zaa) : Prop := Zcq 2 env fun v env => Znk (some v) fun a => Zbu a fun i2 o2 => Zcq 3 env fun v env => Znk (some v) fun a => Zbu a fun i3 o3 => Zcq 11 env fun v env => xSl (some v) fun a11 n11 c11 e11 => Zcq 12 env fun v env => Zfb .i64 v fun x12 => Zcq 13 env fun v env => Zfb .i64 v fun x13 => Zld env (R3 i2 o2 i3 o3 a11 n11 c11 e11 x12 x13 h)
theorem Zgq {R3 : T3} {env : Env} {h : Zaa} (hi : E3 R3 env h) : ∃ i2, ∃ o2, ∃ i3, ∃ o3, ∃ a11, ∃ n11, ∃ c11, ∃ e11, ∃ x12, ∃ x13, env = [(2, .ptr (some (i2, o2))), (3, .ptr (some (i3, o3))), (11, .slice a11 n11 c11 e11), (12, .int .i64 x12), (13, .int .i64 x13)] ∧ R3 i2 o2 i3 o3 a11 n11 c11 e11 x12 x13 h := by
  unfold E3 at hi
  have hi0 := hi
  clear hi
  obtain ⟨_, _, rfl, hi1⟩ := Zad hi0
  obtain ⟨a, rfl, hi2⟩ := Zdn hi1
  obtain ⟨i2, o2, rfl, hi3⟩ := Zcm hi2
  obtain ⟨_, _, rfl, hi4⟩ := Zad hi3
  obtain ⟨a, rfl, hi5⟩ := Zdn hi4
  obtain ⟨i3, o3, rfl, hi6⟩ := Zcm hi5
  obtain ⟨_, _, rfl, hi7⟩ := Zad hi6
  obtain ⟨a11, n11, c11, e11, rfl, hi8⟩ := Zbo hi7
  obtain ⟨_, _, rfl, hi9⟩ := Zad hi8
  obtain ⟨x12, rfl, hi10⟩ := Zas hi9
  obtain ⟨_, _, rfl, hi11⟩ := Zad hi10
  obtain ⟨x13, rfl, hi12⟩ := Zas hi11
  obtain ⟨rfl, hi13⟩ := Zbm hi12
  have hi := hi13
  exact ⟨i2, o2, i3, o3, a11, n11, c11, e11, x12, x13, rfl, hi⟩
def K0 (Q : QT) : KT := andThen (fun env' h' => (match kp.find 4000008 with | some ks => Den pg fn.ntmps (C [1, 1, 1]) (env'.keep ks) h' (KR Q) | none => den pg fn.ntmps kp (C [1, 1, 1]) env' h' (KR Q))) (KR Q)
def K1 (Q : QT) : KT := Zda 0 (K0 Q)
def K2 (Q : QT) : KT := left kp 3 (K1 Q)
def K3 (Q : QT) (R3 : T3) : KT := rnd ((kp.find 1000003).getD []) (E3 R3) (K2 Q)
def L3 (Q : QT) (i2 o2 i3 o3 : Nat) (a11 : Pt) (n11 c11 : Nat) (e11 : Bool) (x12 x13 : Int) (h : Zaa) : Prop := Zes (Den pg fn.ntmps (C [1, 1, 0, 1, 0, 0])) ((kp.find 1000003).getD []) (K2 Q) [(2, .ptr (some (i2, o2))), (3, .ptr (some (i3, o3))), (11, .slice a11 n11 c11 e11), (12, .int .i64 x12), (13, .int .i64 x13)] h
def Zrw (Q : QT) (i3 o3 i2 o2 : Nat) (h : Zaa) : Prop := At (K1 Q) (.exit 0) [(3, .ptr (some (i3, o3))), (2, .ptr (some (i2, o2)))] h
def L3t (Q : QT) (R3 : T3) (i2 o2 i3 o3 : Nat) (a11 : Pt) (n11 c11 : Nat) (e11 : Bool) (x12 x13 : Int) (h : Zaa) : Prop :=
 bcase (decide ((x13 : Int) < x12)) ((0 ≤ (x13 : Int) ∧ (x13 : Int) < (n11 : Nat)) ∧ (Zbu a11 fun I18 O19 => Zdg (Zbw h (.ptr (some (I18, O19 + (Int.toNat x13) * 3))) 3) fun K20 => Zak K20 fun C21 Z22 => Zbs (some C21) fun S23 => Zak Z22 fun C24 Z25 => Zbs (some C24) fun S26 => Zak Z25 fun C27 Z28 => xSl (some C27) fun A29 N30 C31 E32 => Zct Z28 (Zdw (h ++ [.cells Zab [.str [], .str [], .slice none 0 0 true] false]) fun H33 => Zcb (Zbc H33 (.ptr (some (h.length, 0))) [.str S23, .str S26, .slice A29 N30 C31 E32]) fun H34 => xSl (Zai H34 (.ptr (some (h.length, 0 + 2)))) fun A35 N36 C37 E38 => Zae pg Zcx [.slice A35 N36 C37 E38] H34 fun V39 H40 =>
 xSl (some V39) fun A41 N42 C43 E44 => Zcb (Zbc H40 (.ptr (some (h.length, 0 + 2))) [.slice A41 N42 C43 E44]) fun H45 => xSl (Zai H45 (.ptr (some (i3, o3 + 1)))) fun A46 N47 C48 E49 => Zdg (Zbw H45 (.ptr (some (h.length, 0))) 3) fun K50 => Zak K50 fun C51 Z52 => Zbs (some C51) fun S53 => Zak Z52 fun C54 Z55 => Zbs (some C54) fun S56 => Zak Z55 fun C57 Z58 => xSl (some C57) fun A59 N60 C61 E62 => Zct Z58 (Zdw (H45 ++ [.cells Zab [.str S53, .str S56, .slice A59 N60 C61 E62] false]) fun H63 => Zcy pg Zca H63 (.slice A46 N47 C48 E49) (.slice (some (H45.length, 0)) 1 1 true) fun V64 H65 => xSl (some V64) fun A66 N67 C68 E69 => Zcb (Zbc H65 (.ptr (some (i3, o3 + 1))) [.slice A66 N67 C68 E69]) fun H70 => R3 i2 o2 i3 o3 a11 n11 c11 e11 x12 (IntKind.wrap .i64 (x13 + 1)) H70)))) (Zrw Q i3 o3 i2 o2 h)
theorem Zob (Q : QT) (R3 : T3) (i2 o2 i3 o3 : Nat) (a11 : Pt) (n11 c11 : Nat) (e11 : Bool) (x12 x13 : Int) (h : Zaa) (ht : L3t Q R3 i2 o2 i3 o3 a11 n11 c11 e11 x12 x13 h) : Den pg fn.ntmps (C [1, 1, 0, 1, 0, 0]) [(2, .ptr (some (i2, o2))), (3, .ptr (some (i3, o3))), (11, .slice a11 n11 c11 e11), (12, .int .i64 x12), (13, .int .i64 x13)] h (K3 Q R3) :=
  Zbh (kp := kp) (cast (by kernel_rfl) ht)
theorem L3ind (Q : QT) (i2 o2 i3 o3 : Nat) (a11 : Pt) (n11 c11 : Nat) (e11 : Bool) (x12 : Int) {G : Type} (J : G → Int → Zaa → Prop) (m : G → Nat)
 (hr : ∀ (g : G) (x13 : Int) (h : Zaa), J g x13 h → ∀ (R3 : T3), (∀ g' (x13 : Int) (h : Zaa), m g' < m g → J g' x13 h → R3 i2 o2 i3 o3 a11 n11 c11 e11 x12 x13 h) → L3t Q R3 i2 o2 i3 o3 a11 n11 c11 e11 x12 x13 h)
 (g : G) (x13 : Int) (h : Zaa) (hj : J g x13 h) : L3 Q i2 o2 i3 o3 a11 n11 c11 e11 x12 x13 h := by
  refine Zes.inv2 (fun g => E3 fun i2' o2' i3' o3' a11' n11' c11' e11' x12' x13 h => i2 = i2' ∧ o2 = o2' ∧ i3 = i3' ∧ o3 = o3' ∧ a11 = a11' ∧ n11 = n11' ∧ c11 = c11' ∧ e11 = e11' ∧ x12 = x12' ∧ J g x13 h) (fun g => E3 fun i2' o2' i3' o3' a11' n11' c11' e11' x12' x13 h => i2 = i2' ∧ o2 = o2' ∧ i3 = i3' ∧ o3 = o3' ∧ a11 = a11' ∧ n11 = n11' ∧ c11 = c11' ∧ e11 = e11' ∧ x12 = x12' ∧ ∃ g', m g' < m g ∧ J g' x13 h) m ?_ ?_ g ⟨rfl, rfl, rfl, rfl, rfl, rfl, rfl, rfl, rfl, hj⟩
  · intro g env h hi
    obtain ⟨i2', o2', i3', o3', a11', n11', c11', e11', x12', x13, rfl, rfl, rfl, rfl, rfl, rfl, rfl, rfl, rfl, rfl, hj⟩ := Zgq hi
    exact Zob Q _ i2 o2 i3 o3 a11 n11 c11 e11 x12 x13 h (hr g x13 h hj (fun i2' o2' i3' o3' a11' n11' c11' e11' x12' x13 h => i2 = i2' ∧ o2 = o2' ∧ i3 = i3' ∧ o3 = o3' ∧ a11 = a11' ∧ n11 = n11' ∧ c11 = c11' ∧ e11 = e11' ∧ x12 = x12' ∧ ∃ g', m g' < m g ∧ J g' x13 h) fun g' x13 h hlt hj => ⟨rfl, rfl, rfl, rfl, rfl, rfl, rfl, rfl, rfl, g', hlt, hj⟩)
  · intro g env h hi
    obtain ⟨i2', o2', i3', o3', a11', n11', c11', e11', x12', x13, rfl, rfl, rfl, rfl, rfl, rfl, rfl, rfl, rfl, rfl, g', hlt, hj⟩ := Zgq hi
    exact ⟨g', hlt, rfl, rfl, rfl, rfl, rfl, rfl, rfl, rfl, rfl, hj⟩
theorem A3x0i (Q : QT) (i3 o3 i2 o2 : Nat) (h : Zaa) (ht :
 Zdg (Zbw h (.ptr (some (i3, o3))) 2) fun K71 => Zak K71 fun C72 Z73 => xSl (some C72) fun A74 N75 C76 E77 => Zak Z73 fun C78 Z79 => xSl (some C78) fun A80 N81 C82 E83 => Zct Z79 (Zcb (Zbc h (.ptr (some (i2, o2))) [.slice A74 N75 C76 E77, .slice A80 N81 C82 E83]) fun H84 => Zdg (Zbw H84 (.ptr (some (i2, o2))) 2) fun K85 => Zak K85 fun C86 Z87 => xSl (some C86) fun A88 N89 C90 E91 => Zak Z87 fun C92 Z93 => xSl (some C92) fun A94 N95 C96 E97 => Zct Z93 (Q (.agg [.slice A88 N89 C90 E91, .slice A94 N95 C96 E97]) H84))) : Zrw Q i3 o3 i2 o2 h :=
  At.mk (cast (by kernel_rfl) ht)
theorem call (a0x0 : Pt) (n0x0 c0x0 : Nat) (e0x0 : Bool) (a0x1 : Pt) (n0x1 c0x1 : Nat) (e0x1 : Bool) (h : Zaa) (Q : QT) (ht :
 Zdw (h ++ [.cells Zac [.slice a0x0 n0x0 c0x0 e0x0, .slice a0x1 n0x1 c0x1 e0x1] false]) fun H0 => Zdw (H0 ++ [.cells Zac [.slice none 0 0 true, .slice none 0 0 true] false]) fun H1 => xSl (Zai H1 (.ptr (some (h.length, 0 + 0)))) fun A2 N3 C4 E5 => Zae pg Zcs [.slice A2 N3 C4 E5] H1 fun V6 H7 =>
 xSl (some V6) fun A8 N9 C10 E11 => Zdw (H7 ++ [.cells Zac [.slice none 0 0 true, .slice none 0 0 true] false]) fun H12 => Zcb (Zbc H12 (.ptr (some (H7.length, 0))) [.slice A8 N9 C10 E11, .slice none 0 0 true]) fun H13 => xSl (Zai H13 (.ptr (some (h.length, 0 + 1)))) fun A14 N15 C16 E17 => L3 Q H0.length 0 H7.length 0 A14 N15 C16 E17 (((N15 : Nat) : Int)) 0 H13) : Zae pg Zkx [.agg [.slice a0x0 n0x0 c0x0 e0x0, .slice a0x1 n0x1 c0x1 e0x1]] h Q :=
  Zae.of_body kp (c := cod fn) (fn := fn) Go.Proofs.Try.func38 (by kernel_rfl) (by kernel_rfl) (Nat.le_of_ble_eq_true (by kernel_rfl))
    (cast (by kernel_rfl) ht)
end Zhe
end Go.Sim

set_option maxRecDepth 100000
set_option linter.unusedVariables false
namespace Go.Sim
open Go Go.RowKit
namespace Zdv
noncomputable abbrev fn : Func := Go.Proofs.Try.f39
def kp : Zcg := []
noncomputable def C (p : List Nat) : Code := (cod fn).sub p
def KR (Q : QT) : KT := Zex pg fn.results.toList Q
theorem call (a0 : Pt) (n0 c0 : Nat) (e0 : Bool) (h : Zaa) (Q : QT) (ht :
 (a0 = none → e0 = true) ∧ (bcase (Option.isNone a0) (Q (.slice none 0 0 true) h) (Zdw (h ++ [.cells Zao [] false]) fun H0 => Zcy pg Zkr H0 (.slice (some (h.length, 0)) 0 0 true) (.slice a0 n0 c0 e0) fun V1 H2 => xSl (some V1) fun A3 N4 C5 E6 => Q (.slice A3 N4 C5 E6) H2))) : Zae pg Zcx [.slice a0 n0 c0 e0] h Q :=
  Zae.of_body kp (c := cod fn) (fn := fn) Go.Proofs.Try.func39 (by kernel_rfl) (by kernel_rfl) (Nat.le_of_ble_eq_true (by kernel_rfl))
    (cast (by kernel_rfl) ht)
end Zdv
end Go.Sim

set_option maxRecDepth 100000
set_option linter.unusedVariables false
namespace Go.Sim
open Go Go.RowKit
end Go.Sim

set_option maxRecDepth 100000
set_option linter.unusedVariables false
namespace Go.Sim
open Go Go.RowKit
end Go.Sim

set_option maxRecDepth 100000
set_option linter.unusedVariables false
namespace Go.Sim
open Go Go.RowKit
end Go.Sim

set_option maxRecDepth 100000
set_option linter.unusedVariables false
namespace Go.Sim
open Go Go.RowKit
end Go.Sim

set_option maxRecDepth 100000
set_option linter.unusedVariables false
namespace Go.Sim
open Go Go.RowKit
end Go.Sim

set_option maxRecDepth 100000
set_option linter.unusedVariables false
namespace Go.Sim
open Go Go.RowKit
namespace Zed
noncomputable abbrev fn : Func := Go.Proofs.Try.f35
def kp : Zcg := [(3000003, [3]), (1000003, [0, 3, 4])]
noncomputable def C (p : List Nat) : Code := (cod fn).sub p
def KR (Q : QT) : KT := Zex pg fn.results.toList Q
abbrev T3 := Pt → Nat → Nat → Bool → Pt → Nat → Nat → Bool → Int → Zaa → Prop
def E3 (R3 : T3) (env : Env) (h : Zaa) : Prop := Zcq 0 env fun v env => xSl (some v) fun a0 n0 c0 e0 => Zcq 3 env fun v env => xSl (some v) fun a3 n3 c3 e3 => Zcq 4 env fun v env => Zfb .i64 v fun x4 => Zld env (R3 a0 n0 c0 e0 a3 n3 c3 e3 x4 h)
theorem Zgq {R3 : T3} {env : Env} {h : Zaa} (hi : E3 R3 env h) : ∃ a0, ∃ n0, ∃ c0, ∃ e0, ∃ a3, ∃ n3, ∃ c3, ∃ e3, ∃ x4, env = [(0, .slice a0 n0 c0 e0), (3, .slice a3 n3 c3 e3), (4, .int .i64 x4)] ∧ R3 a0 n0 c0 e0 a3 n3 c3 e3 x4 h := by
  unfold E3 at hi
  have hi0 := hi
  clear hi
  obtain ⟨_, _, rfl, hi1⟩ := Zad hi0
  obtain ⟨a0, n0, c0, e0, rfl, hi2⟩ := Zbo hi1
  obtain ⟨_, _, rfl, hi3⟩ := Zad hi2
  obtain ⟨a3, n3, c3, e3, rfl, hi4⟩ := Zbo hi3
  obtain ⟨_, _, rfl, hi5⟩ := Zad hi4
  obtain ⟨x4, rfl, hi6⟩ := Zas hi5
  obtain ⟨rfl, hi7⟩ := Zbm hi6
  have hi := hi7
  exact ⟨a0, n0, c0, e0, a3, n3, c3, e3, x4, rfl, hi⟩
def K0 (Q : QT) : KT := andThen (fun env' h' => (match kp.find 4000006 with | some ks => Den pg fn.ntmps (C [1, 1, 1]) (env'.keep ks) h' (KR Q) | none => den pg fn.ntmps kp (C [1, 1, 1]) env' h' (KR Q))) (KR Q)
def K1 (Q : QT) : KT := Zda 0 (K0 Q)
def K2 (Q : QT) : KT := left kp 3 (K1 Q)
def K3 (Q : QT) (R3 : T3) : KT := rnd ((kp.find 1000003).getD []) (E3 R3) (K2 Q)
def L3 (Q : QT) (a0 : Pt) (n0 c0 : Nat) (e0 : Bool) (a3 : Pt) (n3 c3 : Nat) (e3 : Bool) (x4 : Int) (h : Zaa) : Prop := Zes (Den pg fn.ntmps (C [1, 1, 0, 1, 0, 0])) ((kp.find 1000003).getD []) (K2 Q) [(0, .slice a0 n0 c0 e0), (3, .slice a3 n3 c3 e3), (4, .int .i64 x4)] h
def Zrw (Q : QT) (a3 : Pt) (n3 c3 : Nat) (e3 : Bool) (h : Zaa) : Prop := At (K1 Q) (.exit 0) [(3, .slice a3 n3 c3 e3)] h
def L3t (Q : QT) (R3 : T3) (a0 : Pt) (n0 c0 : Nat) (e0 : Bool) (a3 : Pt) (n3 c3 : Nat) (e3 : Bool) (x4 : Int) (h : Zaa) : Prop :=
 bcase (decide ((x4 : Int) < (((n0 : Nat) : Int)))) ((0 ≤ (x4 : Int) ∧ (x4 : Int) < (n0 : Nat)) ∧ (Zbu a0 fun I1 O2 => Zdg (Zbw h (.ptr (some (I1, O2 + (Int.toNat x4) * 3))) 3) fun K3 => Zak K3 fun C4 Z5 => Zbs (some C4) fun S6 => Zak Z5 fun C7 Z8 => Zbs (some C7) fun S9 => Zak Z8 fun C10 Z11 => xSl (some C10) fun A12 N13 C14 E15 => Zct Z11 (Zae pg Zhk [.agg [.str S6, .str S9, .slice A12 N13 C14 E15]] h fun V16 H17 =>
 Zoc V16 fun K18 => Zak K18 fun C19 Z20 => Zbs (some C19) fun S21 => Zak Z20 fun C22 Z23 => Zbs (some C22) fun S24 => Zak Z23 fun C25 Z26 => xSl (some C25) fun A27 N28 C29 E30 => Zct Z26 ((0 ≤ (x4 : Int) ∧ (x4 : Int) < (n3 : Nat)) ∧ (Zbu a3 fun I31 O32 => Zcb (Zbc H17 (.ptr (some (I31, O32 + (Int.toNat x4) * 3))) [.str S21, .str S24, .slice A27 N28 C29 E30]) fun H33 => R3 a0 n0 c0 e0 a3 n3 c3 e3 (IntKind.wrap .i64 (x4 + 1)) H33))))) (Zrw Q a3 n3 c3 e3 h)
theorem Zob (Q : QT) (R3 : T3) (a0 : Pt) (n0 c0 : Nat) (e0 : Bool) (a3 : Pt) (n3 c3 : Nat) (e3 : Bool) (x4 : Int) (h : Zaa) (ht : L3t Q R3 a0 n0 c0 e0 a3 n3 c3 e3 x4 h) : Den pg fn.ntmps (C [1, 1, 0, 1, 0, 0]) [(0, .slice a0 n0 c0 e0), (3, .slice a3 n3 c3 e3), (4, .int .i64 x4)] h (K3 Q R3) :=
  Zbh (kp := kp) (cast (by kernel_rfl) ht)
theorem L3ind (Q : QT) (a0 : Pt) (n0 c0 : Nat) (e0 : Bool) (a3 : Pt) (n3 c3 : Nat) (e3 : Bool) {G : Type} (J : G → Int → Zaa → Prop) (m : G → Nat)
 (hr : ∀ (g : G) (x4 : Int) (h : Zaa), J g x4 h → ∀ (R3 : T3), (∀ g' (x4 : Int) (h : Zaa), m g' < m g → J g' x4 h → R3 a0 n0 c0 e0 a3 n3 c3 e3 x4 h) → L3t Q R3 a0 n0 c0 e0 a3 n3 c3 e3 x4 h)
 (g : G) (x4 : Int) (h : Zaa) (hj : J g x4 h) : L3 Q a0 n0 c0 e0 a3 n3 c3 e3 x4 h := by
  refine Zes.inv2 (fun g => E3 fun a0' n0' c0' e0' a3' n3' c3' e3' x4 h => a0 = a0' ∧ n0 = n0' ∧ c0 = c0' ∧ e0 = e0' ∧ a3 = a3' ∧ n3 = n3' ∧ c3 = c3' ∧ e3 = e3' ∧ J g x4 h) (fun g => E3 fun a0' n0' c0' e0' a3' n3' c3' e3' x4 h => a0 = a0' ∧ n0 = n0' ∧ c0 = c0' ∧ e0 = e0' ∧ a3 = a3' ∧ n3 = n3' ∧ c3 = c3' ∧ e3 = e3' ∧ ∃ g', m g' < m g ∧ J g' x4 h) m ?_ ?_ g ⟨rfl, rfl, rfl, rfl, rfl, rfl, rfl, rfl, hj⟩
  · intro g env h hi
    obtain ⟨a0', n0', c0', e0', a3', n3', c3', e3', x4, rfl, rfl, rfl, rfl, rfl, rfl, rfl, rfl, rfl, hj⟩ := Zgq hi
    exact Zob Q _ a0 n0 c0 e0 a3 n3 c3 e3 x4 h (hr g x4 h hj (fun a0' n0' c0' e0' a3' n3' c3' e3' x4 h => a0 = a0' ∧ n0 = n0' ∧ c0 = c0' ∧ e0 = e0' ∧ a3 = a3' ∧ n3 = n3' ∧ c3 = c3' ∧ e3 = e3' ∧ ∃ g', m g' < m g ∧ J g' x4 h) fun g' x4 h hlt hj => ⟨rfl, rfl, rfl, rfl, rfl, rfl, rfl, rfl, g', hlt, hj⟩)
  · intro g env h hi
    obtain ⟨a0', n0', c0', e0', a3', n3', c3', e3', x4, rfl, rfl, rfl, rfl, rfl, rfl, rfl, rfl, rfl, g', hlt, hj⟩ := Zgq hi
    exact ⟨g', hlt, rfl, rfl, rfl, rfl, rfl, rfl, rfl, rfl, hj⟩
theorem A3x0i (Q : QT) (a3 : Pt) (n3 c3 : Nat) (e3 : Bool) (h : Zaa) (ht :
 Q (.slice a3 n3 c3 e3) h) : Zrw Q a3 n3 c3 e3 h :=
  At.mk (cast (by kernel_rfl) ht)
theorem call (a0 : Pt) (n0 c0 : Nat) (e0 : Bool) (h : Zaa) (Q : QT) (ht :
 IntKind.i64 = IntKind.i64 ∧ (IntKind.i64 = IntKind.i64 ∧ ((0 ≤ ((((n0 : Nat) : Int)) : Int) ∧ ((((n0 : Nat) : Int)) : Int) ≤ (((n0 : Nat) : Int)) ∧ ((((n0 : Nat) : Int)) : Int) * (((56 : Nat) : Int) + 1) ≤ 140737488355328) ∧ (Zdw (h ++ [.cells Zab (reps (Int.toNat ((((n0 : Nat) : Int)))) [.str [], .str [], .slice none 0 0 true]) false]) fun H0 => L3 Q a0 n0 c0 e0 (some (h.length, 0)) (Int.toNat ((((n0 : Nat) : Int)))) (Int.toNat ((((n0 : Nat) : Int)))) true 0 H0)))) : Zae pg Zgz [.slice a0 n0 c0 e0] h Q :=
  Zae.of_body kp (c := cod fn) (fn := fn) Go.Proofs.Try.func35 (by kernel_rfl) (by kernel_rfl) (Nat.le_of_ble_eq_true (by kernel_rfl))
    (cast (by kernel_rfl) ht)
end Zed
namespace Zmq
noncomputable abbrev fn : Func := Go.Proofs.Try.f9
def kp : Zcg := []
noncomputable def C (p : List Nat) : Code := (cod fn).sub p
def KR (Q : QT) : KT := Zex pg fn.results.toList Q
theorem call (a0x0 : Pt) (n0x0 c0x0 : Nat) (e0x0 : Bool) (a0x1 : Pt) (n0x1 c0x1 : Nat) (e0x1 : Bool) (h : Zaa) (Q : QT) (ht :
 Zdw (h ++ [.cells Zdf [.slice a0x0 n0x0 c0x0 e0x0, .slice a0x1 n0x1 c0x1 e0x1] false]) fun H0 => Zdw (H0 ++ [.cells Zac [.slice none 0 0 true, .slice none 0 0 true] false]) fun H1 => Zdw (H1 ++ [.cells Zac [.slice none 0 0 true, .slice none 0 0 true] false]) fun H2 => xSl (Zai H2 (.ptr (some (h.length, 0 + 0)))) fun A3 N4 C5 E6 => Zae pg Ziu [.slice A3 N4 C5 E6] H2 fun V7 H8 =>
 xSl (some V7) fun A9 N10 C11 E12 => Zcb (Zbc H8 (.ptr (some (H1.length, 0 + 0))) [.slice A9 N10 C11 E12]) fun H13 => xSl (Zai H13 (.ptr (some (h.length, 0 + 1)))) fun A14 N15 C16 E17 => Zae pg Zgz [.slice A14 N15 C16 E17] H13 fun V18 H19 =>
 xSl (some V18) fun A20 N21 C22 E23 => Zcb (Zbc H19 (.ptr (some (H1.length, 0 + 1))) [.slice A20 N21 C22 E23]) fun H24 => Zdg (Zbw H24 (.ptr (some (H1.length, 0))) 2) fun K25 => Zak K25 fun C26 Z27 => xSl (some C26) fun A28 N29 C30 E31 => Zak Z27 fun C32 Z33 => xSl (some C32) fun A34 N35 C36 E37 => Zct Z33 (Zcb (Zbc H24 (.ptr (some (H0.length, 0))) [.slice A28 N29 C30 E31, .slice A34 N35 C36 E37]) fun H38 => Zdg (Zbw H38 (.ptr (some (H0.length, 0))) 2) fun K39 => Zak K39 fun C40 Z41 => xSl (some C40) fun A42 N43 C44 E45 => Zak Z41 fun C46 Z47 => xSl (some C46) fun A48 N49 C50 E51 => Zct Z47 (Q (.agg [.slice A42 N43 C44 E45, .slice A48 N49 C50 E51]) H38))) : Zae pg Zfe [.agg [.slice a0x0 n0x0 c0x0 e0x0, .slice a0x1 n0x1 c0x1 e0x1]] h Q :=
  Zae.of_body kp (c := cod fn) (fn := fn) Go.Proofs.Try.func9 (by kernel_rfl) (by kernel_rfl) (Nat.le_of_ble_eq_true (by kernel_rfl))
    (cast (by kernel_rfl) ht)
end Zmq
namespace Zkg
noncomputable abbrev fn : Func := Go.Proofs.Try.f13
def kp : Zcg := []
noncomputable def C (p : List Nat) : Code := (cod fn).sub p
def KR (Q : QT) : KT := Zex pg fn.results.toList Q
theorem call (x0x0 x0x1 : List Nat) (a0x2 : Pt) (n0x2 c0x2 : Nat) (e0x2 : Bool) (x1x0 x1x1 : List Nat) (a1x2 : Pt) (n1x2 c1x2 : Nat) (e1x2 : Bool) (h : Zaa) (Q : QT) (ht :
 Zdw (h ++ [.cells Zab [.str x0x0, .str x0x1, .slice a0x2 n0x2 c0x2 e0x2] false]) fun H0 => Zdw (H0 ++ [.cells Zab [.str x1x0, .str x1x1, .slice a1x2 n1x2 c1x2 e1x2] false]) fun H1 => Zdg (Zbw H1 (.ptr (some (h.length, 0 + 0))) 2) fun K2 => Zak K2 fun C3 Z4 => Zbs (some C3) fun S5 => Zak Z4 fun C6 Z7 => Zbs (some C6) fun S8 => Zct Z7 (Zdg (Zbw H1 (.ptr (some (H0.length, 0 + 0))) 2) fun K9 => Zak K9 fun C10 Z11 => Zbs (some C10) fun S12 => Zak Z11 fun C13 Z14 => Zbs (some C13) fun S15 => Zct Z14 (Zae pg Zin [.agg [.str S5, .str S8], .agg [.str S12, .str S15]] H1 fun V16 H17 =>
 Zcv (some V16) fun B18 => bcase (!B18) (Q (.bool false) H17) (xSl (Zai H17 (.ptr (some (h.length, 0 + 2)))) fun A19 N20 C21 E22 => xSl (Zai H17 (.ptr (some (H0.length, 0 + 2)))) fun A23 N24 C25 E26 => Zae pg Zjp [.slice A19 N20 C21 E22, .slice A23 N24 C25 E26] H17 fun V27 H28 =>
 Zcv (some V27) fun B29 => bcase (!B29) (Q (.bool false) H28) (Q (.bool true) H28))))) : Zae pg Zhm [.agg [.str x0x0, .str x0x1, .slice a0x2 n0x2 c0x2 e0x2], .agg [.str x1x0, .str x1x1, .slice a1x2 n1x2 c1x2 e1x2]] h Q :=
  Zae.of_body kp (c := cod fn) (fn := fn) Go.Proofs.Try.func13 (by kernel_rfl) (by kernel_rfl) (Nat.le_of_ble_eq_true (by kernel_rfl))
    (cast (by kernel_rfl) ht)
end Zkg
namespace Zef
noncomputable abbrev fn : Func := Go.Proofs.Try.f42
def kp : Zcg := [(3000004, [4]), (1000004, [0, 1, 5]), (2000006, [26, 5, 0, 1])]
noncomputable def C (p : List Nat) : Code := (cod fn).sub p
def KR (Q : QT) : KT := Zex pg fn.results.toList Q
abbrev T4 := Pt → Nat → Nat → Bool → Pt → Nat → Nat → Bool → Int → Zaa → Prop
def E4 (R4 : T4) (env : Env) (h : Zaa) : Prop := Zcq 0 env fun v env => xSl (some v) fun a0 n0 c0 e0 => Zcq 1 env fun v env => xSl (some v) fun a1 n1 c1 e1 => Zcq 5 env fun v env => Zfb .i64 v fun x5 => Zld env (R4 a0 n0 c0 e0 a1 n1 c1 e1 x5 h)
theorem Zia {R4 : T4} {env : Env} {h : Zaa} (hi : E4 R4 env h) : ∃ a0, ∃ n0, ∃ c0, ∃ e0, ∃ a1, ∃ n1, ∃ c1, ∃ e1, ∃ x5, env = [(0, .slice a0 n0 c0 e0), (1, .slice a1 n1 c1 e1), (5, .int .i64 x5)] ∧ R4 a0 n0 c0 e0 a1 n1 c1 e1 x5 h := by
  unfold E4 at hi
  have hi0 := hi
  clear hi
  obtain ⟨_, _, rfl, hi1⟩ := Zad hi0
  obtain ⟨a0, n0, c0, e0, rfl, hi2⟩ := Zbo hi1
  obtain ⟨_, _, rfl, hi3⟩ := Zad hi2
  obtain ⟨a1, n1, c1, e1, rfl, hi4⟩ := Zbo hi3
  obtain ⟨_, _, rfl, hi5⟩ := Zad hi4
  obtain ⟨x5, rfl, hi6⟩ := Zas hi5
  obtain ⟨rfl, hi7⟩ := Zbm hi6
  have hi := hi7
  exact ⟨a0, n0, c0, e0, a1, n1, c1, e1, x5, rfl, hi⟩
def K0 (Q : QT) : KT := andThen (fun env' h' => (match kp.find 4000008 with | some ks => Den pg fn.ntmps (C [1, 1, 1]) (env'.keep ks) h' (KR Q) | none => den pg fn.ntmps kp (C [1, 1, 1]) env' h' (KR Q))) (KR Q)
def K1 (Q : QT) : KT := Zda 0 (K0 Q)
def K2 (Q : QT) : KT := left kp 4 (K1 Q)
def K3 (Q : QT) (R4 : T4) : KT := rnd ((kp.find 1000004).getD []) (E4 R4) (K2 Q)
def L4 (Q : QT) (a0 : Pt) (n0 c0 : Nat) (e0 : Bool) (a1 : Pt) (n1 c1 : Nat) (e1 : Bool) (x5 : Int) (h : Zaa) : Prop := Zes (Den pg fn.ntmps (C [1, 1, 0, 1, 0, 0])) ((kp.find 1000004).getD []) (K2 Q) [(0, .slice a0 n0 c0 e0), (1, .slice a1 n1 c1 e1), (5, .int .i64 x5)] h
def Ztm (Q : QT) (h : Zaa) : Prop := At (K1 Q) (.exit 0) [(4, .undef)] h
def L4t (Q : QT) (R4 : T4) (a0 : Pt) (n0 c0 : Nat) (e0 : Bool) (a1 : Pt) (n1 c1 : Nat) (e1 : Bool) (x5 : Int) (h : Zaa) : Prop :=
 bcase (decide ((x5 : Int) < (((n0 : Nat) : Int)))) ((0 ≤ (x5 : Int) ∧ (x5 : Int) < (n0 : Nat)) ∧ (Zbu a0 fun I0 O1 => (0 ≤ (x5 : Int) ∧ (x5 : Int) < (n1 : Nat)) ∧ (Zbu a1 fun I2 O3 => Zdg (Zbw h (.ptr (some (I0, O1 + (Int.toNat x5) * 3))) 3) fun K4 => Zak K4 fun C5 Z6 => Zbs (some C5) fun S7 => Zak Z6 fun C8 Z9 => Zbs (some C8) fun S10 => Zak Z9 fun C11 Z12 => xSl (some C11) fun A13 N14 C15 E16 => Zct Z12 (Zdg (Zbw h (.ptr (some (I2, O3 + (Int.toNat x5) * 3))) 3) fun K17 => Zak K17 fun C18 Z19 => Zbs (some C18) fun S20 => Zak Z19 fun C21 Z22 => Zbs (some C21) fun S23 => Zak Z22 fun C24 Z25 => xSl (some C24) fun A26 N27 C28 E29 => Zct Z25 ((Zbw h (.ptr (some (I0, O1 + (Int.toNat x5) * 3))) 3 = Zbw h (.ptr (some (I0, O1 + (Int.toNat x5) * 3))) 3) ∧ Zae pg Zhm [.agg [.str S7, .str S10, .slice A13 N14 C15 E16], .agg [.str S20, .str S23, .slice A26 N27 C28 E29]] h fun V30 H31 =>
 Zcv (some V30) fun B32 => bcase (!B32) (Q (.bool false) H31) (R4 a0 n0 c0 e0 a1 n1 c1 e1 (IntKind.wrap .i64 (x5 + 1)) H31)))))) (Ztm Q h)
theorem Zpt (Q : QT) (R4 : T4) (a0 : Pt) (n0 c0 : Nat) (e0 : Bool) (a1 : Pt) (n1 c1 : Nat) (e1 : Bool) (x5 : Int) (h : Zaa) (ht : L4t Q R4 a0 n0 c0 e0 a1 n1 c1 e1 x5 h) : Den pg fn.ntmps (C [1, 1, 0, 1, 0, 0]) [(0, .slice a0 n0 c0 e0), (1, .slice a1 n1 c1 e1), (5, .int .i64 x5)] h (K3 Q R4) :=
  Zbh (kp := kp) (cast (by kernel_rfl) ht)
theorem L4ind (Q : QT) (a0 : Pt) (n0 c0 : Nat) (e0 : Bool) (a1 : Pt) (n1 c1 : Nat) (e1 : Bool) {G : Type} (J : G → Int → Zaa → Prop) (m : G → Nat)
 (hr : ∀ (g : G) (x5 : Int) (h : Zaa), J g x5 h → ∀ (R4 : T4), (∀ g' (x5 : Int) (h : Zaa), m g' < m g → J g' x5 h → R4 a0 n0 c0 e0 a1 n1 c1 e1 x5 h) → L4t Q R4 a0 n0 c0 e0 a1 n1 c1 e1 x5 h)
 (g : G) (x5 : Int) (h : Zaa) (hj : J g x5 h) : L4 Q a0 n0 c0 e0 a1 n1 c1 e1 x5 h := by
  refine Zes.inv2 (fun g => E4 fun a0' n0' c0' e0' a1' n1' c1' e1' x5 h => a0 = a0' ∧ n0 = n0' ∧ c0 = c0' ∧ e0 = e0' ∧ a1 = a1' ∧ n1 = n1' ∧ c1 = c1' ∧ e1 = e1' ∧ J g x5 h) (fun g => E4 fun a0' n0' c0' e0' a1' n1' c1' e1' x5 h => a0 = a0' ∧ n0 = n0' ∧ c0 = c0' ∧ e0 = e0' ∧ a1 = a1' ∧ n1 = n1' ∧ c1 = c1' ∧ e1 = e1' ∧ ∃ g', m g' < m g ∧ J g' x5 h) m ?_ ?_ g ⟨rfl, rfl, rfl, rfl, rfl, rfl, rfl, rfl, hj⟩
  · intro g env h hi
    obtain ⟨a0', n0', c0', e0', a1', n1', c1', e1', x5, rfl, rfl, rfl, rfl, rfl, rfl, rfl, rfl, rfl, hj⟩ := Zia hi
    exact Zpt Q _ a0 n0 c0 e0 a1 n1 c1 e1 x5 h (hr g x5 h hj (fun a0' n0' c0' e0' a1' n1' c1' e1' x5 h => a0 = a0' ∧ n0 = n0' ∧ c0 = c0' ∧ e0 = e0' ∧ a1 = a1' ∧ n1 = n1' ∧ c1 = c1' ∧ e1 = e1' ∧ ∃ g', m g' < m g ∧ J g' x5 h) fun g' x5 h hlt hj => ⟨rfl, rfl, rfl, rfl, rfl, rfl, rfl, rfl, g', hlt, hj⟩)
  · intro g env h hi
    obtain ⟨a0', n0', c0', e0', a1', n1', c1', e1', x5, rfl, rfl, rfl, rfl, rfl, rfl, rfl, rfl, rfl, g', hlt, hj⟩ := Zia hi
    exact ⟨g', hlt, rfl, rfl, rfl, rfl, rfl, rfl, rfl, rfl, hj⟩
theorem A4x0i (Q : QT) (h : Zaa) (ht :
 Q (.bool true) h) : Ztm Q h :=
  At.mk (cast (by kernel_rfl) ht)
theorem call (a0 : Pt) (n0 c0 : Nat) (e0 : Bool) (a1 : Pt) (n1 c1 : Nat) (e1 : Bool) (h : Zaa) (Q : QT) (ht :
 bcase (!((((n0 : Nat) : Int) : Int) == (((n1 : Nat) : Int)))) (Q (.bool false) h) (L4 Q a0 n0 c0 e0 a1 n1 c1 e1 0 h)) : Zae pg Zgx [.slice a0 n0 c0 e0, .slice a1 n1 c1 e1] h Q :=
  Zae.of_body kp (c := cod fn) (fn := fn) Go.Proofs.Try.func42 (by kernel_rfl) (by kernel_rfl) (Nat.le_of_ble_eq_true (by kernel_rfl))
    (cast (by kernel_rfl) ht)
end Zef
namespace Zmn
noncomputable abbrev fn : Func := Go.Proofs.Try.f12
def kp : Zcg := []
noncomputable def C (p : List Nat) : Code := (cod fn).sub p
def KR (Q : QT) : KT := Zex pg fn.results.toList Q
theorem call (a0x0 : Pt) (n0x0 c0x0 : Nat) (e0x0 : Bool) (a0x1 : Pt) (n0x1 c0x1 : Nat) (e0x1 : Bool) (a1x0 : Pt) (n1x0 c1x0 : Nat) (e1x0 : Bool) (a1x1 : Pt) (n1x1 c1x1 : Nat) (e1x1 : Bool) (h : Zaa) (Q : QT) (ht :
 Zdw (h ++ [.cells Zac [.slice a0x0 n0x0 c0x0 e0x0, .slice a0x1 n0x1 c0x1 e0x1] false]) fun H0 => Zdw (H0 ++ [.cells Zac [.slice a1x0 n1x0 c1x0 e1x0, .slice a1x1 n1x1 c1x1 e1x1] false]) fun H1 => xSl (Zai H1 (.ptr (some (h.length, 0 + 0)))) fun A2 N3 C4 E5 => xSl (Zai H1 (.ptr (some (H0.length, 0 + 0)))) fun A6 N7 C8 E9 => Zae pg Zja [.slice A2 N3 C4 E5, .slice A6 N7 C8 E9] H1 fun V10 H11 =>
 Zcv (some V10) fun B12 => bcase (!B12) (Q (.bool false) H11) (xSl (Zai H11 (.ptr (some (h.length, 0 + 1)))) fun A13 N14 C15 E16 => xSl (Zai H11 (.ptr (some (H0.length, 0 + 1)))) fun A17 N18 C19 E20 => Zae pg Zgx [.slice A13 N14 C15 E16, .slice A17 N18 C19 E20] H11 fun V21 H22 =>
 Zcv (some V21) fun B23 => bcase (!B23) (Q (.bool false) H22) (Q (.bool true) H22))) : Zae pg Zfc [.agg [.slice a0x0 n0x0 c0x0 e0x0, .slice a0x1 n0x1 c0x1 e0x1], .agg [.slice a1x0 n1x0 c1x0 e1x0, .slice a1x1 n1x1 c1x1 e1x1]] h Q :=
  Zae.of_body kp (c := cod fn) (fn := fn) Go.Proofs.Try.func12 (by kernel_rfl) (by kernel_rfl) (Nat.le_of_ble_eq_true (by kernel_rfl))
    (cast (by kernel_rfl) ht)
end Zmn
end Go.Sim

set_option maxRecDepth 100000
set_option linter.unusedVariables false
namespace Go.Sim
open Go Go.RowKit
namespace Zkc
noncomputable abbrev fn : Func := Go.Proofs.Try.f7
def kp : Zcg := []
noncomputable def C (p : List Nat) : Code := (cod fn).sub p
def KR (Q : QT) : KT := Zex pg fn.results.toList Q
theorem call (x0x0 x0x1 : List Nat) (a0x2 : Pt) (n0x2 c0x2 : Nat) (e0x2 : Bool) (x1 : Int) (h : Zaa) (Q : QT) (ht :
 Zdw (h ++ [.cells Zdm [.str x0x0, .str x0x1, .slice a0x2 n0x2 c0x2 e0x2] false]) fun H0 => Zdg (Zbw H0 (.ptr (some (h.length, 0 + 0))) 2) fun K1 => Zak K1 fun C2 Z3 => Zbs (some C2) fun S4 => Zak Z3 fun C5 Z6 => Zbs (some C5) fun S7 => Zct Z6 (Zae pg Zik [.agg [.str S4, .str S7], .int .i64 x1] H0 fun V8 H9 =>
 Zgn .i64 (some V8) fun X10 => bcase (decide ((X10 : Int) < 0)) (Q (.int .i64 (-1)) H9) (xSl (Zai H9 (.ptr (some (h.length, 0 + 2)))) fun A11 N12 C13 E14 => Zae pg Zjm [.slice A11 N12 C13 E14, .int .i64 X10] H9 fun V15 H16 =>
 Zgn .i64 (some V15) fun X17 => bcase (decide ((X17 : Int) < 0)) (Q (.int .i64 (-1)) H16) (Q (.int .i64 X17) H16)))) : Zae pg Zhl [.agg [.str x0x0, .str x0x1, .slice a0x2 n0x2 c0x2 e0x2], .int .i64 x1] h Q :=
  Zae.of_body kp (c := cod fn) (fn := fn) Go.Proofs.Try.func7 (by kernel_rfl) (by kernel_rfl) (Nat.le_of_ble_eq_true (by kernel_rfl))
    (cast (by kernel_rfl) ht)
end Zkc
namespace Zec
noncomputable abbrev fn : Func := Go.Proofs.Try.f29
def kp : Zcg := [(3000005, [1, 4]), (1000005, [0, 1, 5])]
noncomputable def C (p : List Nat) : Code := (cod fn).sub p
def KR (Q : QT) : KT := Zex pg fn.results.toList Q
abbrev T5 := Pt → Nat → Nat → Bool → Int → Int → Zaa → Prop
def E5 (R5 : T5) (env : Env) (h : Zaa) : Prop := Zcq 0 env fun v env => xSl (some v) fun a0 n0 c0 e0 => Zcq 1 env fun v env => Zfb .i64 v fun x1 => Zcq 5 env fun v env => Zfb .i64 v fun x5 => Zld env (R5 a0 n0 c0 e0 x1 x5 h)
theorem Zjh {R5 : T5} {env : Env} {h : Zaa} (hi : E5 R5 env h) : ∃ a0, ∃ n0, ∃ c0, ∃ e0, ∃ x1, ∃ x5, env = [(0, .slice a0 n0 c0 e0), (1, .int .i64 x1), (5, .int .i64 x5)] ∧ R5 a0 n0 c0 e0 x1 x5 h := by
  unfold E5 at hi
  have hi0 := hi
  clear hi
  obtain ⟨_, _, rfl, hi1⟩ := Zad hi0
  obtain ⟨a0, n0, c0, e0, rfl, hi2⟩ := Zbo hi1
  obtain ⟨_, _, rfl, hi3⟩ := Zad hi2
  obtain ⟨x1, rfl, hi4⟩ := Zas hi3
  obtain ⟨_, _, rfl, hi5⟩ := Zad hi4
  obtain ⟨x5, rfl, hi6⟩ := Zas hi5
  obtain ⟨rfl, hi7⟩ := Zbm hi6
  have hi := hi7
  exact ⟨a0, n0, c0, e0, x1, x5, rfl, hi⟩
def K0 (Q : QT) : KT := andThen (fun env' h' => (match kp.find 4000010 with | some ks => Den pg fn.ntmps (C [1, 1, 1, 1]) (env'.keep ks) h' (KR Q) | none => den pg fn.ntmps kp (C [1, 1, 1, 1]) env' h' (KR Q))) (KR Q)
def K1 (Q : QT) : KT := Zda 0 (K0 Q)
def K2 (Q : QT) : KT := left kp 5 (K1 Q)
def K3 (Q : QT) (R5 : T5) : KT := rnd ((kp.find 1000005).getD []) (E5 R5) (K2 Q)
def L5 (Q : QT) (a0 : Pt) (n0 c0 : Nat) (e0 : Bool) (x1 x5 : Int) (h : Zaa) : Prop := Zes (Den pg fn.ntmps (C [1, 1, 1, 0, 1, 0, 0])) ((kp.find 1000005).getD []) (K2 Q) [(0, .slice a0 n0 c0 e0), (1, .int .i64 x1), (5, .int .i64 x5)] h
def A5x0 (Q : QT) (x1 : Int) (h : Zaa) : Prop := At (K1 Q) (.exit 0) [(1, .int .i64 x1), (4, .undef)] h
def L5t (Q : QT) (R5 : T5) (a0 : Pt) (n0 c0 : Nat) (e0 : Bool) (x1 x5 : Int) (h : Zaa) : Prop :=
 bcase (decide ((x5 : Int) < (((n0 : Nat) : Int)))) ((0 ≤ (x5 : Int) ∧ (x5 : Int) < (n0 : Nat)) ∧ (Zbu a0 fun I0 O1 => Zdg (Zbw h (.ptr (some (I0, O1 + (Int.toNat x5) * 3))) 3) fun K2 => Zak K2 fun C3 Z4 => Zbs (some C3) fun S5 => Zak Z4 fun C6 Z7 => Zbs (some C6) fun S8 => Zak Z7 fun C9 Z10 => xSl (some C9) fun A11 N12 C13 E14 => Zct Z10 (Zae pg Zhl [.agg [.str S5, .str S8, .slice A11 N12 C13 E14], .int .i64 x1] h fun V15 H16 =>
 Zgn .i64 (some V15) fun X17 => bcase (decide ((X17 : Int) < 0)) (Q (.int .i64 (-1)) H16) (R5 a0 n0 c0 e0 X17 (IntKind.wrap .i64 (x5 + 1)) H16)))) (A5x0 Q x1 h)
theorem Zsp (Q : QT) (R5 : T5) (a0 : Pt) (n0 c0 : Nat) (e0 : Bool) (x1 x5 : Int) (h : Zaa) (ht : L5t Q R5 a0 n0 c0 e0 x1 x5 h) : Den pg fn.ntmps (C [1, 1, 1, 0, 1, 0, 0]) [(0, .slice a0 n0 c0 e0), (1, .int .i64 x1), (5, .int .i64 x5)] h (K3 Q R5) :=
  Zbh (kp := kp) (cast (by kernel_rfl) ht)
theorem L5ind (Q : QT) (a0 : Pt) (n0 c0 : Nat) (e0 : Bool) {G : Type} (J : G → Int → Int → Zaa → Prop) (m : G → Nat)
 (hr : ∀ (g : G) (x1 x5 : Int) (h : Zaa), J g x1 x5 h → ∀ (R5 : T5), (∀ g' (x1 x5 : Int) (h : Zaa), m g' < m g → J g' x1 x5 h → R5 a0 n0 c0 e0 x1 x5 h) → L5t Q R5 a0 n0 c0 e0 x1 x5 h)
 (g : G) (x1 x5 : Int) (h : Zaa) (hj : J g x1 x5 h) : L5 Q a0 n0 c0 e0 x1 x5 h := by
  refine Zes.inv2 (fun g => E5 fun a0' n0' c0' e0' x1 x5 h => a0 = a0' ∧ n0 = n0' ∧ c0 = c0' ∧ e0 = e0' ∧ J g x1 x5 h) (fun g => E5 fun a0' n0' c0' e0' x1 x5 h => a0 = a0' ∧ n0 = n0' ∧ c0 = c0' ∧ e0 = e0' ∧ ∃ g', m g' < m g ∧ J g' x1 x5 h) m ?_ ?_ g ⟨rfl, rfl, rfl, rfl, hj⟩
  · intro g env h hi
    obtain ⟨a0', n0', c0', e0', x1, x5, rfl, rfl, rfl, rfl, rfl, hj⟩ := Zjh hi
    exact Zsp Q _ a0 n0 c0 e0 x1 x5 h (hr g x1 x5 h hj (fun a0' n0' c0' e0' x1 x5 h => a0 = a0' ∧ n0 = n0' ∧ c0 = c0' ∧ e0 = e0' ∧ ∃ g', m g' < m g ∧ J g' x1 x5 h) fun g' x1 x5 h hlt hj => ⟨rfl, rfl, rfl, rfl, g', hlt, hj⟩)
  · intro g env h hi
    obtain ⟨a0', n0', c0', e0', x1, x5, rfl, rfl, rfl, rfl, rfl, g', hlt, hj⟩ := Zjh hi
    exact ⟨g', hlt, rfl, rfl, rfl, rfl, hj⟩
theorem A5x0i (Q : QT) (x1 : Int) (h : Zaa) (ht :
 Q (.int .i64 x1) h) : A5x0 Q x1 h :=
  At.mk (cast (by kernel_rfl) ht)
theorem call (a0 : Pt) (n0 c0 : Nat) (e0 : Bool) (x1 : Int) (h : Zaa) (Q : QT) (ht :
 bcase (decide (((IntKind.wrap .i64 (x1 - (((n0 : Nat) : Int)))) : Int) < 0)) (Q (.int .i64 (-1)) h) (L5 Q a0 n0 c0 e0 (IntKind.wrap .i64 (x1 - (((n0 : Nat) : Int)))) 0 h)) : Zae pg Zgy [.slice a0 n0 c0 e0, .int .i64 x1] h Q :=
  Zae.of_body kp (c := cod fn) (fn := fn) Go.Proofs.Try.func29 (by kernel_rfl) (by kernel_rfl) (Nat.le_of_ble_eq_true (by kernel_rfl))
    (cast (by kernel_rfl) ht)
end Zec
namespace Zmv
noncomputable abbrev fn : Func := Go.Proofs.Try.f6
def kp : Zcg := []
noncomputable def C (p : List Nat) : Code := (cod fn).sub p
def KR (Q : QT) : KT := Zex pg fn.results.toList Q
theorem call (a0x0 : Pt) (n0x0 c0x0 : Nat) (e0x0 : Bool) (a0x1 : Pt) (n0x1 c0x1 : Nat) (e0x1 : Bool) (x1 : Int) (h : Zaa) (Q : QT) (ht :
 Zdw (h ++ [.cells Zdf [.slice a0x0 n0x0 c0x0 e0x0, .slice a0x1 n0x1 c0x1 e0x1] false]) fun H0 => xSl (Zai H0 (.ptr (some (h.length, 0 + 0)))) fun A1 N2 C3 E4 => Zae pg Zit [.slice A1 N2 C3 E4, .int .i64 x1] H0 fun V5 H6 =>
 Zgn .i64 (some V5) fun X7 => bcase (decide ((X7 : Int) < 0)) (Q (.int .i64 (-1)) H6) (xSl (Zai H6 (.ptr (some (h.length, 0 + 1)))) fun A8 N9 C10 E11 => Zae pg Zgy [.slice A8 N9 C10 E11, .int .i64 X7] H6 fun V12 H13 =>
 Zgn .i64 (some V12) fun X14 => bcase (decide ((X14 : Int) < 0)) (Q (.int .i64 (-1)) H13) (Q (.int .i64 X14) H13))) : Zae pg Zjr [.agg [.slice a0x0 n0x0 c0x0 e0x0, .slice a0x1 n0x1 c0x1 e0x1], .int .i64 x1] h Q :=
  Zae.of_body kp (c := cod fn) (fn := fn) Go.Proofs.Try.func6 (by kernel_rfl) (by kernel_rfl) (Nat.le_of_ble_eq_true (by kernel_rfl))
    (cast (by kernel_rfl) ht)
end Zmv
namespace Zkh
noncomputable abbrev fn : Func := Go.Proofs.Try.f10
def kp : Zcg := []
noncomputable def C (p : List Nat) : Code := (cod fn).sub p
def KR (Q : QT) : KT := Zex pg fn.results.toList Q
theorem call (x0x0 x0x1 : List Nat) (a0x2 : Pt) (n0x2 c0x2 : Nat) (e0x2 : Bool) (h : Zaa) (Q : QT) (ht :
 Zdw (h ++ [.cells Zdm [.str x0x0, .str x0x1, .slice a0x2 n0x2 c0x2 e0x2] false]) fun H0 => Zdw (H0 ++ [.cells Zab [.str [], .str [], .slice none 0 0 true] false]) fun H1 => Zdw (H1 ++ [.cells Zab [.str [], .str [], .slice none 0 0 true] false]) fun H2 => Zdg (Zbw H2 (.ptr (some (h.length, 0 + 0))) 2) fun K3 => Zak K3 fun C4 Z5 => Zbs (some C4) fun S6 => Zak Z5 fun C7 Z8 => Zbs (some C7) fun S9 => Zct Z8 (Zae pg Zij [.agg [.str S6, .str S9]] H2 fun V10 H11 =>
 Zoc V10 fun K12 => Zak K12 fun C13 Z14 => Zbs (some C13) fun S15 => Zak Z14 fun C16 Z17 => Zbs (some C16) fun S18 => Zct Z17 (Zcb (Zbc H11 (.ptr (some (H1.length, 0 + 0))) [.str S15, .str S18]) fun H19 => xSl (Zai H19 (.ptr (some (h.length, 0 + 2)))) fun A20 N21 C22 E23 => Zae pg Zju [.slice A20 N21 C22 E23] H19 fun V24 H25 =>
 xSl (some V24) fun A26 N27 C28 E29 => Zcb (Zbc H25 (.ptr (some (H1.length, 0 + 2))) [.slice A26 N27 C28 E29]) fun H30 => Zdg (Zbw H30 (.ptr (some (H1.length, 0))) 3) fun K31 => Zak K31 fun C32 Z33 => Zbs (some C32) fun S34 => Zak Z33 fun C35 Z36 => Zbs (some C35) fun S37 => Zak Z36 fun C38 Z39 => xSl (some C38) fun A40 N41 C42 E43 => Zct Z39 (Zcb (Zbc H30 (.ptr (some (H0.length, 0))) [.str S34, .str S37, .slice A40 N41 C42 E43]) fun H44 => Zdg (Zbw H44 (.ptr (some (H0.length, 0))) 3) fun K45 => Zak K45 fun C46 Z47 => Zbs (some C46) fun S48 => Zak Z47 fun C49 Z50 => Zbs (some C49) fun S51 => Zak Z50 fun C52 Z53 => xSl (some C52) fun A54 N55 C56 E57 => Zct Z53 (Q (.agg [.str S48, .str S51, .slice A54 N55 C56 E57]) H44))))) : Zae pg Zhk [.agg [.str x0x0, .str x0x1, .slice a0x2 n0x2 c0x2 e0x2]] h Q :=
  Zae.of_body kp (c := cod fn) (fn := fn) Go.Proofs.Try.func10 (by kernel_rfl) (by kernel_rfl) (Nat.le_of_ble_eq_true (by kernel_rfl))
    (cast (by kernel_rfl) ht)
end Zkh
end Go.Sim
