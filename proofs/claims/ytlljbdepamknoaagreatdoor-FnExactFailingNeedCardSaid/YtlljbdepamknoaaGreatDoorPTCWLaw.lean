/- A part of the proof of a statement of this seat: see the text that holds the theorem. No condition. -/
import Derived.Test.YtlljbdepamknoaaGreatDoorNm
set_option linter.unusedVariables false
set_option linter.unusedSimpArgs false
set_option linter.all false
set_option maxRecDepth 100000
set_option linter.unusedVariables false
namespace Go.Sim
open Go Go.RowKit
namespace Zet
noncomputable abbrev fn : Func := Go.Proofs.Tryz.f4
def kp : Zcf := [(2000008, [2, 3, 6, 7]), (2000010, [9, 6, 10, 7, 8, 2]), (4000013, [8, 2]), (2000013, [51])]
noncomputable def C (p : List Nat) : Code := (cod fn).sub p
def KR (Q : QT) : KT := Zfc pg fn.results.toList Q
def J13 (Q : QT) (i8 o8 i2 o2 : Nat) (h : Zaa) : Prop := Den pg fn.ntmps (C [1, 1, 1, 1, 1, 1, 1, 1, 1, 1]) [(8, .ptr (some (i8, o8))), (2, .ptr (some (i2, o2)))] h (KR Q)
theorem J13i (Q : QT) (i8 o8 i2 o2 : Nat) (h : Zaa) (ht :
 Zce (Zaw h (.ptr (some (i8, o8))) 2) fun K853 => Zad K853 fun C854 Z855 => xSl (some C854) fun A856 N857 C858 E859 => Zad Z855 fun C860 Z861 => xSl (some C860) fun A862 N863 C864 E865 => Zbl Z861 (Zce (Zaw h (.ptr (some (i2, o2))) 2) fun K866 => Zad K866 fun C867 Z868 => xSl (some C867) fun A869 N870 C871 E872 => Zad Z868 fun C873 Z874 => xSl (some C873) fun A875 N876 C877 E878 => Zbl Z874 ((Zaw h (.ptr (some (i8, o8))) 2 = Zaw h (.ptr (some (i8, o8))) 2) ∧ Zag pg Zdu [.agg [.slice A869 N870 C871 E872, .slice A875 N876 C877 E878]] h fun V879 H880 =>
 Zic V879 fun K881 => Zad K881 fun C882 Z883 => xSl (some C882) fun A884 N885 C886 E887 => Zad Z883 fun C888 Z889 => xSl (some C888) fun A890 N891 C892 E893 => Zbl Z889 ((Zaw H880 (.ptr (some (i8, o8))) 2 = Zaw h (.ptr (some (i8, o8))) 2) ∧ Zag pg Znf [.agg [.slice A856 N857 C858 E859, .slice A862 N863 C864 E865], .agg [.slice A884 N885 C886 E887, .slice A890 N891 C892 E893]] H880 fun V894 H895 =>
 Zbr (some V894) fun B896 => bcase (!B896) (Q (.bool false) H895) (Q (.bool true) H895))))) : J13 Q i8 o8 i2 o2 h :=
  Zbe (kp := kp) (cast (by kernel_rfl) ht)
theorem call (a0x0 : Pt) (n0x0 c0x0 : Nat) (e0x0 : Bool) (a0x1 : Pt) (n0x1 c0x1 : Nat) (e0x1 : Bool) (x1x0 x1x1 : List Nat) (h : Zaa) (Q : QT) (ht :
 Zck (h ++ [.cells Zen [.slice a0x0 n0x0 c0x0 e0x0, .slice a0x1 n0x1 c0x1 e0x1] false]) fun H0 => Zck (H0 ++ [.cells Zja [.str x1x0, .str x1x1] false]) fun H1 => Zce (Zaw H1 (.ptr (some (h.length, 0))) 2) fun K2 => Zad K2 fun C3 Z4 => xSl (some C3) fun A5 N6 C7 E8 => Zad Z4 fun C9 Z10 => xSl (some C9) fun A11 N12 C13 E14 => Zbl Z10 (Zag pg Zlc [.agg [.slice A5 N6 C7 E8, .slice A11 N12 C13 E14], .int .i64 1048576] H1 fun V15 H16 =>
 Zem .i64 (some V15) fun X17 => bcase (decide ((X17 : Int) < 0)) (Q (.bool true) H16) (Zce (Zaw H16 (.ptr (some (H0.length, 0))) 2) fun K18 => Zad K18 fun C19 Z20 => Zaz (some C19) fun S21 => Zad Z20 fun C22 Z23 => Zaz (some C22) fun S24 => Zbl Z23 (Zag pg Zib [.agg [.str S21, .str S24], .int .i64 X17] H16 fun V25 H26 =>
 Zem .i64 (some V25) fun X27 => bcase (decide ((X27 : Int) < 0)) (Q (.bool true) H26) (Zce (Zaw H26 (.ptr (some (h.length, 0))) 2) fun K28 => Zad K28 fun C29 Z30 => xSl (some C29) fun A31 N32 C33 E34 => Zad Z30 fun C35 Z36 => xSl (some C35) fun A37 N38 C39 E40 => Zbl Z36 (Zce (Zaw H26 (.ptr (some (H0.length, 0))) 2) fun K41 => Zad K41 fun C42 Z43 => Zaz (some C42) fun S44 => Zad Z43 fun C45 Z46 => Zaz (some C45) fun S47 => Zbl Z46 ((Zag pg Zdu [.agg [.slice A31 N32 C33 E34, .slice A37 N38 C39 E40]] H26 fun V48 H49 =>
 Zic V48 fun K50 => Zad K50 fun C51 Z52 => xSl (some C51) fun A53 N54 C55 E56 => Zad Z52 fun C57 Z58 => xSl (some C57) fun A59 N60 C61 E62 => Zbl Z58 ((Zaw H49 (.ptr (some (H0.length, 0))) 2 = Zaw H26 (.ptr (some (H0.length, 0))) 2) ∧ (Zag pg Zcm [.agg [.str S44, .str S47]] H49 fun V63 H64 =>
 Zic V63 fun K65 => Zad K65 fun C66 Z67 => Zaz (some C66) fun S68 => Zad Z67 fun C69 Z70 => Zaz (some C69) fun S71 => Zbl Z70 ((Zaw H64 (.ptr (some (h.length, 0))) 2 = Zaw H49 (.ptr (some (h.length, 0))) 2) ∧ (Zag pg Zdf [.agg [.slice A53 N54 C55 E56, .slice A59 N60 C61 E62], .agg [.str S68, .str S71]] H64 fun V72 H73 =>
 Zjg V72 fun K74 => Zad K74 fun C75 Z76 => Zic C75 fun K77 => Zad K77 fun C78 Z79 => Zaz (some C78) fun S80 => Zad Z79 fun C81 Z82 => Zaz (some C81) fun S83 => Zbl Z82 (Zad Z76 fun C84 Z85 => Zbr (some C84) fun B86 => Zbl Z85 ((Zaw H73 (.ptr (some (H0.length, 0))) 2 = Zaw H64 (.ptr (some (H0.length, 0))) 2) ∧ (Zaw H73 (.ptr (some (h.length, 0))) 2 = Zaw H64 (.ptr (some (h.length, 0))) 2) ∧ Zck (H73 ++ [.cells Zab [.str [], .str []] false]) fun H87 => (Zaw H87 (.ptr (some (H0.length, 0))) 2 = Zaw H73 (.ptr (some (H0.length, 0))) 2) ∧ (Zaw H87 (.ptr (some (h.length, 0))) 2 = Zaw H73 (.ptr (some (h.length, 0))) 2) ∧ Zbw (Zbc H87 (.ptr (some (H73.length, 0))) [.str S80, .str S83]) fun H88 => Zce (Zaw H88 (.ptr (some (h.length, 0))) 2) fun K89 => Zad K89 fun C90 Z91 => xSl (some C90) fun A92 N93 C94 E95 => Zad Z91 fun C96 Z97 => xSl (some C96) fun A98 N99 C100 E101 => Zbl Z97 (Zag pg Zdu [.agg [.slice A92 N93 C94 E95, .slice A98 N99 C100 E101]] H88 fun V102 H103 =>
 Zic V102 fun K104 => Zad K104 fun C105 Z106 => xSl (some C105) fun A107 N108 C109 E110 => Zad Z106 fun C111 Z112 => xSl (some C111) fun A113 N114 C115 E116 => Zbl Z112 (Zck (H103 ++ [.cells Zal [.slice none 0 0 true, .slice none 0 0 true] false]) fun H117 => Zbw (Zbc H117 (.ptr (some (H103.length, 0))) [.slice A107 N108 C109 E110, .slice A113 N114 C115 E116]) fun H118 => Zce (Zaw H118 (.ptr (some (H103.length, 0))) 2) fun K119 => Zad K119 fun C120 Z121 => xSl (some C120) fun A122 N123 C124 E125 => Zad Z121 fun C126 Z127 => xSl (some C126) fun A128 N129 C130 E131 => Zbl Z127 (Zce (Zaw H118 (.ptr (some (H0.length, 0))) 2) fun K132 => Zad K132 fun C133 Z134 => Zaz (some C133) fun S135 => Zad Z134 fun C136 Z137 => Zaz (some C136) fun S138 => Zbl Z137 ((Zag pg Zcm [.agg [.str S135, .str S138]] H118 fun V139 H140 =>
 Zic V139 fun K141 => Zad K141 fun C142 Z143 => Zaz (some C142) fun S144 => Zad Z143 fun C145 Z146 => Zaz (some C145) fun S147 => Zbl Z146 ((Zaw H140 (.ptr (some (H103.length, 0))) 2 = Zaw H118 (.ptr (some (H103.length, 0))) 2) ∧ (Zag pg Zbx [.agg [.slice A122 N123 C124 E125, .slice A128 N129 C130 E131], .agg [.str S144, .str S147]] H140 fun V148 H149 =>
 Zjg V148 fun K150 => Zad K150 fun C151 Z152 => Zic C151 fun K153 => Zad K153 fun C154 Z155 => Zaz (some C154) fun S156 => Zad Z155 fun C157 Z158 => Zaz (some C157) fun S159 => Zbl Z158 (Zad Z152 fun C160 Z161 => Zbr (some C160) fun B162 => Zbl Z161 ((Zaw H149 (.ptr (some (H0.length, 0))) 2 = Zaw H140 (.ptr (some (H0.length, 0))) 2) ∧ Zck (H149 ++ [.cells Zab [.str [], .str []] false]) fun H163 => (Zaw H163 (.ptr (some (H0.length, 0))) 2 = Zaw H149 (.ptr (some (H0.length, 0))) 2) ∧ (Zaw H163 (.ptr (some (H103.length, 0))) 2 = Zaw H149 (.ptr (some (H103.length, 0))) 2) ∧ Zbw (Zbc H163 (.ptr (some (H149.length, 0))) [.str S156, .str S159]) fun H164 => Zce (Zaw H164 (.ptr (some (H149.length, 0))) 2) fun K165 => Zad K165 fun C166 Z167 => Zaz (some C166) fun S168 => Zad Z167 fun C169 Z170 => Zaz (some C169) fun S171 => Zbl Z170 (Zce (Zaw H164 (.ptr (some (H73.length, 0))) 2) fun K172 => Zad K172 fun C173 Z174 => Zaz (some C173) fun S175 => Zad Z174 fun C176 Z177 => Zaz (some C176) fun S178 => Zbl Z177 (Zag pg Zdb [.agg [.str S168, .str S171], .agg [.str S175, .str S178]] H164 fun V179 H180 =>
 Zbr (some V179) fun B181 => bcase (!B181) (Q (.bool false) H180) (bcase (!(B162 == B86)) (Q (.bool false) H180) (J13 Q H103.length 0 h.length 0 H180))))))) ∧ (Zck (H140 ++ [.cells Zab [.str [], .str []] false]) fun H182 => (Zaw H182 (.ptr (some (H0.length, 0))) 2 = Zaw H140 (.ptr (some (H0.length, 0))) 2) ∧ (Zaw H182 (.ptr (some (H103.length, 0))) 2 = Zaw H140 (.ptr (some (H103.length, 0))) 2) ∧ Zag pg Zbx [.agg [.slice A122 N123 C124 E125, .slice A128 N129 C130 E131], .agg [.str S144, .str S147]] H182 fun V183 H184 =>
 Zjg V183 fun K185 => Zad K185 fun C186 Z187 => Zic C186 fun K188 => Zad K188 fun C189 Z190 => Zaz (some C189) fun S191 => Zad Z190 fun C192 Z193 => Zaz (some C192) fun S194 => Zbl Z193 (Zad Z187 fun C195 Z196 => Zbr (some C195) fun B197 => Zbl Z196 ((Zaw H184 (.ptr (some (H0.length, 0))) 2 = Zaw H182 (.ptr (some (H0.length, 0))) 2) ∧ Zbw (Zbc H184 (.ptr (some (H140.length, 0))) [.str S191, .str S194]) fun H198 => Zce (Zaw H198 (.ptr (some (H140.length, 0))) 2) fun K199 => Zad K199 fun C200 Z201 => Zaz (some C200) fun S202 => Zad Z201 fun C203 Z204 => Zaz (some C203) fun S205 => Zbl Z204 (Zce (Zaw H198 (.ptr (some (H73.length, 0))) 2) fun K206 => Zad K206 fun C207 Z208 => Zaz (some C207) fun S209 => Zad Z208 fun C210 Z211 => Zaz (some C210) fun S212 => Zbl Z211 (Zag pg Zdb [.agg [.str S202, .str S205], .agg [.str S209, .str S212]] H198 fun V213 H214 =>
 Zbr (some V213) fun B215 => bcase (!B215) (Q (.bool false) H214) (bcase (!(B197 == B86)) (Q (.bool false) H214) (J13 Q H103.length 0 h.length 0 H214))))))))) ∧ (Zck (H118 ++ [.cells Zab [.str [], .str []] false]) fun H216 => (Zaw H216 (.ptr (some (H0.length, 0))) 2 = Zaw H118 (.ptr (some (H0.length, 0))) 2) ∧ (Zaw H216 (.ptr (some (H103.length, 0))) 2 = Zaw H118 (.ptr (some (H103.length, 0))) 2) ∧ Zag pg Zcm [.agg [.str S135, .str S138]] H216 fun V217 H218 =>
 Zic V217 fun K219 => Zad K219 fun C220 Z221 => Zaz (some C220) fun S222 => Zad Z221 fun C223 Z224 => Zaz (some C223) fun S225 => Zbl Z224 ((Zaw H218 (.ptr (some (H103.length, 0))) 2 = Zaw H216 (.ptr (some (H103.length, 0))) 2) ∧ Zag pg Zbx [.agg [.slice A122 N123 C124 E125, .slice A128 N129 C130 E131], .agg [.str S222, .str S225]] H218 fun V226 H227 =>
 Zjg V226 fun K228 => Zad K228 fun C229 Z230 => Zic C229 fun K231 => Zad K231 fun C232 Z233 => Zaz (some C232) fun S234 => Zad Z233 fun C235 Z236 => Zaz (some C235) fun S237 => Zbl Z236 (Zad Z230 fun C238 Z239 => Zbr (some C238) fun B240 => Zbl Z239 ((Zaw H227 (.ptr (some (H0.length, 0))) 2 = Zaw H218 (.ptr (some (H0.length, 0))) 2) ∧ Zbw (Zbc H227 (.ptr (some (H118.length, 0))) [.str S234, .str S237]) fun H241 => Zce (Zaw H241 (.ptr (some (H118.length, 0))) 2) fun K242 => Zad K242 fun C243 Z244 => Zaz (some C243) fun S245 => Zad Z244 fun C246 Z247 => Zaz (some C246) fun S248 => Zbl Z247 (Zce (Zaw H241 (.ptr (some (H73.length, 0))) 2) fun K249 => Zad K249 fun C250 Z251 => Zaz (some C250) fun S252 => Zad Z251 fun C253 Z254 => Zaz (some C253) fun S255 => Zbl Z254 (Zag pg Zdb [.agg [.str S245, .str S248], .agg [.str S252, .str S255]] H241 fun V256 H257 =>
 Zbr (some V256) fun B258 => bcase (!B258) (Q (.bool false) H257) (bcase (!(B240 == B86)) (Q (.bool false) H257) (J13 Q H103.length 0 h.length 0 H257))))))))))))))) ∧ (Zck (H64 ++ [.cells Zab [.str [], .str []] false]) fun H259 => (Zaw H259 (.ptr (some (H0.length, 0))) 2 = Zaw H64 (.ptr (some (H0.length, 0))) 2) ∧ (Zaw H259 (.ptr (some (h.length, 0))) 2 = Zaw H64 (.ptr (some (h.length, 0))) 2) ∧ Zag pg Zdf [.agg [.slice A53 N54 C55 E56, .slice A59 N60 C61 E62], .agg [.str S68, .str S71]] H259 fun V260 H261 =>
 Zjg V260 fun K262 => Zad K262 fun C263 Z264 => Zic C263 fun K265 => Zad K265 fun C266 Z267 => Zaz (some C266) fun S268 => Zad Z267 fun C269 Z270 => Zaz (some C269) fun S271 => Zbl Z270 (Zad Z264 fun C272 Z273 => Zbr (some C272) fun B274 => Zbl Z273 ((Zaw H261 (.ptr (some (H0.length, 0))) 2 = Zaw H259 (.ptr (some (H0.length, 0))) 2) ∧ (Zaw H261 (.ptr (some (h.length, 0))) 2 = Zaw H259 (.ptr (some (h.length, 0))) 2) ∧ Zbw (Zbc H261 (.ptr (some (H64.length, 0))) [.str S268, .str S271]) fun H275 => Zce (Zaw H275 (.ptr (some (h.length, 0))) 2) fun K276 => Zad K276 fun C277 Z278 => xSl (some C277) fun A279 N280 C281 E282 => Zad Z278 fun C283 Z284 => xSl (some C283) fun A285 N286 C287 E288 => Zbl Z284 (Zag pg Zdu [.agg [.slice A279 N280 C281 E282, .slice A285 N286 C287 E288]] H275 fun V289 H290 =>
 Zic V289 fun K291 => Zad K291 fun C292 Z293 => xSl (some C292) fun A294 N295 C296 E297 => Zad Z293 fun C298 Z299 => xSl (some C298) fun A300 N301 C302 E303 => Zbl Z299 (Zck (H290 ++ [.cells Zal [.slice none 0 0 true, .slice none 0 0 true] false]) fun H304 => Zbw (Zbc H304 (.ptr (some (H290.length, 0))) [.slice A294 N295 C296 E297, .slice A300 N301 C302 E303]) fun H305 => Zce (Zaw H305 (.ptr (some (H290.length, 0))) 2) fun K306 => Zad K306 fun C307 Z308 => xSl (some C307) fun A309 N310 C311 E312 => Zad Z308 fun C313 Z314 => xSl (some C313) fun A315 N316 C317 E318 => Zbl Z314 (Zce (Zaw H305 (.ptr (some (H0.length, 0))) 2) fun K319 => Zad K319 fun C320 Z321 => Zaz (some C320) fun S322 => Zad Z321 fun C323 Z324 => Zaz (some C323) fun S325 => Zbl Z324 ((Zag pg Zcm [.agg [.str S322, .str S325]] H305 fun V326 H327 =>
 Zic V326 fun K328 => Zad K328 fun C329 Z330 => Zaz (some C329) fun S331 => Zad Z330 fun C332 Z333 => Zaz (some C332) fun S334 => Zbl Z333 ((Zaw H327 (.ptr (some (H290.length, 0))) 2 = Zaw H305 (.ptr (some (H290.length, 0))) 2) ∧ (Zag pg Zbx [.agg [.slice A309 N310 C311 E312, .slice A315 N316 C317 E318], .agg [.str S331, .str S334]] H327 fun V335 H336 =>
 Zjg V335 fun K337 => Zad K337 fun C338 Z339 => Zic C338 fun K340 => Zad K340 fun C341 Z342 => Zaz (some C341) fun S343 => Zad Z342 fun C344 Z345 => Zaz (some C344) fun S346 => Zbl Z345 (Zad Z339 fun C347 Z348 => Zbr (some C347) fun B349 => Zbl Z348 ((Zaw H336 (.ptr (some (H0.length, 0))) 2 = Zaw H327 (.ptr (some (H0.length, 0))) 2) ∧ Zck (H336 ++ [.cells Zab [.str [], .str []] false]) fun H350 => (Zaw H350 (.ptr (some (H0.length, 0))) 2 = Zaw H336 (.ptr (some (H0.length, 0))) 2) ∧ (Zaw H350 (.ptr (some (H290.length, 0))) 2 = Zaw H336 (.ptr (some (H290.length, 0))) 2) ∧ Zbw (Zbc H350 (.ptr (some (H336.length, 0))) [.str S343, .str S346]) fun H351 => Zce (Zaw H351 (.ptr (some (H336.length, 0))) 2) fun K352 => Zad K352 fun C353 Z354 => Zaz (some C353) fun S355 => Zad Z354 fun C356 Z357 => Zaz (some C356) fun S358 => Zbl Z357 (Zce (Zaw H351 (.ptr (some (H64.length, 0))) 2) fun K359 => Zad K359 fun C360 Z361 => Zaz (some C360) fun S362 => Zad Z361 fun C363 Z364 => Zaz (some C363) fun S365 => Zbl Z364 (Zag pg Zdb [.agg [.str S355, .str S358], .agg [.str S362, .str S365]] H351 fun V366 H367 =>
 Zbr (some V366) fun B368 => bcase (!B368) (Q (.bool false) H367) (bcase (!(B349 == B274)) (Q (.bool false) H367) (J13 Q H290.length 0 h.length 0 H367))))))) ∧ (Zck (H327 ++ [.cells Zab [.str [], .str []] false]) fun H369 => (Zaw H369 (.ptr (some (H0.length, 0))) 2 = Zaw H327 (.ptr (some (H0.length, 0))) 2) ∧ (Zaw H369 (.ptr (some (H290.length, 0))) 2 = Zaw H327 (.ptr (some (H290.length, 0))) 2) ∧ Zag pg Zbx [.agg [.slice A309 N310 C311 E312, .slice A315 N316 C317 E318], .agg [.str S331, .str S334]] H369 fun V370 H371 =>
 Zjg V370 fun K372 => Zad K372 fun C373 Z374 => Zic C373 fun K375 => Zad K375 fun C376 Z377 => Zaz (some C376) fun S378 => Zad Z377 fun C379 Z380 => Zaz (some C379) fun S381 => Zbl Z380 (Zad Z374 fun C382 Z383 => Zbr (some C382) fun B384 => Zbl Z383 ((Zaw H371 (.ptr (some (H0.length, 0))) 2 = Zaw H369 (.ptr (some (H0.length, 0))) 2) ∧ Zbw (Zbc H371 (.ptr (some (H327.length, 0))) [.str S378, .str S381]) fun H385 => Zce (Zaw H385 (.ptr (some (H327.length, 0))) 2) fun K386 => Zad K386 fun C387 Z388 => Zaz (some C387) fun S389 => Zad Z388 fun C390 Z391 => Zaz (some C390) fun S392 => Zbl Z391 (Zce (Zaw H385 (.ptr (some (H64.length, 0))) 2) fun K393 => Zad K393 fun C394 Z395 => Zaz (some C394) fun S396 => Zad Z395 fun C397 Z398 => Zaz (some C397) fun S399 => Zbl Z398 (Zag pg Zdb [.agg [.str S389, .str S392], .agg [.str S396, .str S399]] H385 fun V400 H401 =>
 Zbr (some V400) fun B402 => bcase (!B402) (Q (.bool false) H401) (bcase (!(B384 == B274)) (Q (.bool false) H401) (J13 Q H290.length 0 h.length 0 H401))))))))) ∧ (Zck (H305 ++ [.cells Zab [.str [], .str []] false]) fun H403 => (Zaw H403 (.ptr (some (H0.length, 0))) 2 = Zaw H305 (.ptr (some (H0.length, 0))) 2) ∧ (Zaw H403 (.ptr (some (H290.length, 0))) 2 = Zaw H305 (.ptr (some (H290.length, 0))) 2) ∧ Zag pg Zcm [.agg [.str S322, .str S325]] H403 fun V404 H405 =>
 Zic V404 fun K406 => Zad K406 fun C407 Z408 => Zaz (some C407) fun S409 => Zad Z408 fun C410 Z411 => Zaz (some C410) fun S412 => Zbl Z411 ((Zaw H405 (.ptr (some (H290.length, 0))) 2 = Zaw H403 (.ptr (some (H290.length, 0))) 2) ∧ Zag pg Zbx [.agg [.slice A309 N310 C311 E312, .slice A315 N316 C317 E318], .agg [.str S409, .str S412]] H405 fun V413 H414 =>
 Zjg V413 fun K415 => Zad K415 fun C416 Z417 => Zic C416 fun K418 => Zad K418 fun C419 Z420 => Zaz (some C419) fun S421 => Zad Z420 fun C422 Z423 => Zaz (some C422) fun S424 => Zbl Z423 (Zad Z417 fun C425 Z426 => Zbr (some C425) fun B427 => Zbl Z426 ((Zaw H414 (.ptr (some (H0.length, 0))) 2 = Zaw H405 (.ptr (some (H0.length, 0))) 2) ∧ Zbw (Zbc H414 (.ptr (some (H305.length, 0))) [.str S421, .str S424]) fun H428 => Zce (Zaw H428 (.ptr (some (H305.length, 0))) 2) fun K429 => Zad K429 fun C430 Z431 => Zaz (some C430) fun S432 => Zad Z431 fun C433 Z434 => Zaz (some C433) fun S435 => Zbl Z434 (Zce (Zaw H428 (.ptr (some (H64.length, 0))) 2) fun K436 => Zad K436 fun C437 Z438 => Zaz (some C437) fun S439 => Zad Z438 fun C440 Z441 => Zaz (some C440) fun S442 => Zbl Z441 (Zag pg Zdb [.agg [.str S432, .str S435], .agg [.str S439, .str S442]] H428 fun V443 H444 =>
 Zbr (some V443) fun B445 => bcase (!B445) (Q (.bool false) H444) (bcase (!(B427 == B274)) (Q (.bool false) H444) (J13 Q H290.length 0 h.length 0 H444))))))))))))))))) ∧ (Zck (H49 ++ [.cells Zab [.str [], .str []] false]) fun H446 => (Zaw H446 (.ptr (some (H0.length, 0))) 2 = Zaw H49 (.ptr (some (H0.length, 0))) 2) ∧ (Zaw H446 (.ptr (some (h.length, 0))) 2 = Zaw H49 (.ptr (some (h.length, 0))) 2) ∧ Zag pg Zcm [.agg [.str S44, .str S47]] H446 fun V447 H448 =>
 Zic V447 fun K449 => Zad K449 fun C450 Z451 => Zaz (some C450) fun S452 => Zad Z451 fun C453 Z454 => Zaz (some C453) fun S455 => Zbl Z454 ((Zaw H448 (.ptr (some (h.length, 0))) 2 = Zaw H446 (.ptr (some (h.length, 0))) 2) ∧ Zag pg Zdf [.agg [.slice A53 N54 C55 E56, .slice A59 N60 C61 E62], .agg [.str S452, .str S455]] H448 fun V456 H457 =>
 Zjg V456 fun K458 => Zad K458 fun C459 Z460 => Zic C459 fun K461 => Zad K461 fun C462 Z463 => Zaz (some C462) fun S464 => Zad Z463 fun C465 Z466 => Zaz (some C465) fun S467 => Zbl Z466 (Zad Z460 fun C468 Z469 => Zbr (some C468) fun B470 => Zbl Z469 ((Zaw H457 (.ptr (some (H0.length, 0))) 2 = Zaw H448 (.ptr (some (H0.length, 0))) 2) ∧ (Zaw H457 (.ptr (some (h.length, 0))) 2 = Zaw H448 (.ptr (some (h.length, 0))) 2) ∧ Zbw (Zbc H457 (.ptr (some (H49.length, 0))) [.str S464, .str S467]) fun H471 => Zce (Zaw H471 (.ptr (some (h.length, 0))) 2) fun K472 => Zad K472 fun C473 Z474 => xSl (some C473) fun A475 N476 C477 E478 => Zad Z474 fun C479 Z480 => xSl (some C479) fun A481 N482 C483 E484 => Zbl Z480 (Zag pg Zdu [.agg [.slice A475 N476 C477 E478, .slice A481 N482 C483 E484]] H471 fun V485 H486 =>
 Zic V485 fun K487 => Zad K487 fun C488 Z489 => xSl (some C488) fun A490 N491 C492 E493 => Zad Z489 fun C494 Z495 => xSl (some C494) fun A496 N497 C498 E499 => Zbl Z495 (Zck (H486 ++ [.cells Zal [.slice none 0 0 true, .slice none 0 0 true] false]) fun H500 => Zbw (Zbc H500 (.ptr (some (H486.length, 0))) [.slice A490 N491 C492 E493, .slice A496 N497 C498 E499]) fun H501 => Zce (Zaw H501 (.ptr (some (H486.length, 0))) 2) fun K502 => Zad K502 fun C503 Z504 => xSl (some C503) fun A505 N506 C507 E508 => Zad Z504 fun C509 Z510 => xSl (some C509) fun A511 N512 C513 E514 => Zbl Z510 (Zce (Zaw H501 (.ptr (some (H0.length, 0))) 2) fun K515 => Zad K515 fun C516 Z517 => Zaz (some C516) fun S518 => Zad Z517 fun C519 Z520 => Zaz (some C519) fun S521 => Zbl Z520 ((Zag pg Zcm [.agg [.str S518, .str S521]] H501 fun V522 H523 =>
 Zic V522 fun K524 => Zad K524 fun C525 Z526 => Zaz (some C525) fun S527 => Zad Z526 fun C528 Z529 => Zaz (some C528) fun S530 => Zbl Z529 ((Zaw H523 (.ptr (some (H486.length, 0))) 2 = Zaw H501 (.ptr (some (H486.length, 0))) 2) ∧ (Zag pg Zbx [.agg [.slice A505 N506 C507 E508, .slice A511 N512 C513 E514], .agg [.str S527, .str S530]] H523 fun V531 H532 =>
 Zjg V531 fun K533 => Zad K533 fun C534 Z535 => Zic C534 fun K536 => Zad K536 fun C537 Z538 => Zaz (some C537) fun S539 => Zad Z538 fun C540 Z541 => Zaz (some C540) fun S542 => Zbl Z541 (Zad Z535 fun C543 Z544 => Zbr (some C543) fun B545 => Zbl Z544 ((Zaw H532 (.ptr (some (H0.length, 0))) 2 = Zaw H523 (.ptr (some (H0.length, 0))) 2) ∧ Zck (H532 ++ [.cells Zab [.str [], .str []] false]) fun H546 => (Zaw H546 (.ptr (some (H0.length, 0))) 2 = Zaw H532 (.ptr (some (H0.length, 0))) 2) ∧ (Zaw H546 (.ptr (some (H486.length, 0))) 2 = Zaw H532 (.ptr (some (H486.length, 0))) 2) ∧ Zbw (Zbc H546 (.ptr (some (H532.length, 0))) [.str S539, .str S542]) fun H547 => Zce (Zaw H547 (.ptr (some (H532.length, 0))) 2) fun K548 => Zad K548 fun C549 Z550 => Zaz (some C549) fun S551 => Zad Z550 fun C552 Z553 => Zaz (some C552) fun S554 => Zbl Z553 (Zce (Zaw H547 (.ptr (some (H49.length, 0))) 2) fun K555 => Zad K555 fun C556 Z557 => Zaz (some C556) fun S558 => Zad Z557 fun C559 Z560 => Zaz (some C559) fun S561 => Zbl Z560 (Zag pg Zdb [.agg [.str S551, .str S554], .agg [.str S558, .str S561]] H547 fun V562 H563 =>
 Zbr (some V562) fun B564 => bcase (!B564) (Q (.bool false) H563) (bcase (!(B545 == B470)) (Q (.bool false) H563) (J13 Q H486.length 0 h.length 0 H563))))))) ∧ (Zck (H523 ++ [.cells Zab [.str [], .str []] false]) fun H565 => (Zaw H565 (.ptr (some (H0.length, 0))) 2 = Zaw H523 (.ptr (some (H0.length, 0))) 2) ∧ (Zaw H565 (.ptr (some (H486.length, 0))) 2 = Zaw H523 (.ptr (some (H486.length, 0))) 2) ∧ Zag pg Zbx [.agg [.slice A505 N506 C507 E508, .slice A511 N512 C513 E514], .agg [.str S527, .str S530]] H565 fun V566 H567 =>
 Zjg V566 fun K568 => Zad K568 fun C569 Z570 => Zic C569 fun K571 => Zad K571 fun C572 Z573 => Zaz (some C572) fun S574 => Zad Z573 fun C575 Z576 => Zaz (some C575) fun S577 => Zbl Z576 (Zad Z570 fun C578 Z579 => Zbr (some C578) fun B580 => Zbl Z579 ((Zaw H567 (.ptr (some (H0.length, 0))) 2 = Zaw H565 (.ptr (some (H0.length, 0))) 2) ∧ Zbw (Zbc H567 (.ptr (some (H523.length, 0))) [.str S574, .str S577]) fun H581 => Zce (Zaw H581 (.ptr (some (H523.length, 0))) 2) fun K582 => Zad K582 fun C583 Z584 => Zaz (some C583) fun S585 => Zad Z584 fun C586 Z587 => Zaz (some C586) fun S588 => Zbl Z587 (Zce (Zaw H581 (.ptr (some (H49.length, 0))) 2) fun K589 => Zad K589 fun C590 Z591 => Zaz (some C590) fun S592 => Zad Z591 fun C593 Z594 => Zaz (some C593) fun S595 => Zbl Z594 (Zag pg Zdb [.agg [.str S585, .str S588], .agg [.str S592, .str S595]] H581 fun V596 H597 =>
 Zbr (some V596) fun B598 => bcase (!B598) (Q (.bool false) H597) (bcase (!(B580 == B470)) (Q (.bool false) H597) (J13 Q H486.length 0 h.length 0 H597))))))))) ∧ (Zck (H501 ++ [.cells Zab [.str [], .str []] false]) fun H599 => (Zaw H599 (.ptr (some (H0.length, 0))) 2 = Zaw H501 (.ptr (some (H0.length, 0))) 2) ∧ (Zaw H599 (.ptr (some (H486.length, 0))) 2 = Zaw H501 (.ptr (some (H486.length, 0))) 2) ∧ Zag pg Zcm [.agg [.str S518, .str S521]] H599 fun V600 H601 =>
 Zic V600 fun K602 => Zad K602 fun C603 Z604 => Zaz (some C603) fun S605 => Zad Z604 fun C606 Z607 => Zaz (some C606) fun S608 => Zbl Z607 ((Zaw H601 (.ptr (some (H486.length, 0))) 2 = Zaw H599 (.ptr (some (H486.length, 0))) 2) ∧ Zag pg Zbx [.agg [.slice A505 N506 C507 E508, .slice A511 N512 C513 E514], .agg [.str S605, .str S608]] H601 fun V609 H610 =>
 Zjg V609 fun K611 => Zad K611 fun C612 Z613 => Zic C612 fun K614 => Zad K614 fun C615 Z616 => Zaz (some C615) fun S617 => Zad Z616 fun C618 Z619 => Zaz (some C618) fun S620 => Zbl Z619 (Zad Z613 fun C621 Z622 => Zbr (some C621) fun B623 => Zbl Z622 ((Zaw H610 (.ptr (some (H0.length, 0))) 2 = Zaw H601 (.ptr (some (H0.length, 0))) 2) ∧ Zbw (Zbc H610 (.ptr (some (H501.length, 0))) [.str S617, .str S620]) fun H624 => Zce (Zaw H624 (.ptr (some (H501.length, 0))) 2) fun K625 => Zad K625 fun C626 Z627 => Zaz (some C626) fun S628 => Zad Z627 fun C629 Z630 => Zaz (some C629) fun S631 => Zbl Z630 (Zce (Zaw H624 (.ptr (some (H49.length, 0))) 2) fun K632 => Zad K632 fun C633 Z634 => Zaz (some C633) fun S635 => Zad Z634 fun C636 Z637 => Zaz (some C636) fun S638 => Zbl Z637 (Zag pg Zdb [.agg [.str S628, .str S631], .agg [.str S635, .str S638]] H624 fun V639 H640 =>
 Zbr (some V639) fun B641 => bcase (!B641) (Q (.bool false) H640) (bcase (!(B623 == B470)) (Q (.bool false) H640) (J13 Q H486.length 0 h.length 0 H640)))))))))))))))))) ∧ (Zck (H26 ++ [.cells Zab [.str [], .str []] false]) fun H642 => (Zaw H642 (.ptr (some (H0.length, 0))) 2 = Zaw H26 (.ptr (some (H0.length, 0))) 2) ∧ (Zaw H642 (.ptr (some (h.length, 0))) 2 = Zaw H26 (.ptr (some (h.length, 0))) 2) ∧ Zag pg Zdu [.agg [.slice A31 N32 C33 E34, .slice A37 N38 C39 E40]] H642 fun V643 H644 =>
 Zic V643 fun K645 => Zad K645 fun C646 Z647 => xSl (some C646) fun A648 N649 C650 E651 => Zad Z647 fun C652 Z653 => xSl (some C652) fun A654 N655 C656 E657 => Zbl Z653 ((Zaw H644 (.ptr (some (H0.length, 0))) 2 = Zaw H642 (.ptr (some (H0.length, 0))) 2) ∧ Zag pg Zcm [.agg [.str S44, .str S47]] H644 fun V658 H659 =>
 Zic V658 fun K660 => Zad K660 fun C661 Z662 => Zaz (some C661) fun S663 => Zad Z662 fun C664 Z665 => Zaz (some C664) fun S666 => Zbl Z665 ((Zaw H659 (.ptr (some (h.length, 0))) 2 = Zaw H644 (.ptr (some (h.length, 0))) 2) ∧ Zag pg Zdf [.agg [.slice A648 N649 C650 E651, .slice A654 N655 C656 E657], .agg [.str S663, .str S666]] H659 fun V667 H668 =>
 Zjg V667 fun K669 => Zad K669 fun C670 Z671 => Zic C670 fun K672 => Zad K672 fun C673 Z674 => Zaz (some C673) fun S675 => Zad Z674 fun C676 Z677 => Zaz (some C676) fun S678 => Zbl Z677 (Zad Z671 fun C679 Z680 => Zbr (some C679) fun B681 => Zbl Z680 ((Zaw H668 (.ptr (some (H0.length, 0))) 2 = Zaw H659 (.ptr (some (H0.length, 0))) 2) ∧ (Zaw H668 (.ptr (some (h.length, 0))) 2 = Zaw H659 (.ptr (some (h.length, 0))) 2) ∧ Zbw (Zbc H668 (.ptr (some (H26.length, 0))) [.str S675, .str S678]) fun H682 => Zce (Zaw H682 (.ptr (some (h.length, 0))) 2) fun K683 => Zad K683 fun C684 Z685 => xSl (some C684) fun A686 N687 C688 E689 => Zad Z685 fun C690 Z691 => xSl (some C690) fun A692 N693 C694 E695 => Zbl Z691 (Zag pg Zdu [.agg [.slice A686 N687 C688 E689, .slice A692 N693 C694 E695]] H682 fun V696 H697 =>
 Zic V696 fun K698 => Zad K698 fun C699 Z700 => xSl (some C699) fun A701 N702 C703 E704 => Zad Z700 fun C705 Z706 => xSl (some C705) fun A707 N708 C709 E710 => Zbl Z706 (Zck (H697 ++ [.cells Zal [.slice none 0 0 true, .slice none 0 0 true] false]) fun H711 => Zbw (Zbc H711 (.ptr (some (H697.length, 0))) [.slice A701 N702 C703 E704, .slice A707 N708 C709 E710]) fun H712 => Zce (Zaw H712 (.ptr (some (H697.length, 0))) 2) fun K713 => Zad K713 fun C714 Z715 => xSl (some C714) fun A716 N717 C718 E719 => Zad Z715 fun C720 Z721 => xSl (some C720) fun A722 N723 C724 E725 => Zbl Z721 (Zce (Zaw H712 (.ptr (some (H0.length, 0))) 2) fun K726 => Zad K726 fun C727 Z728 => Zaz (some C727) fun S729 => Zad Z728 fun C730 Z731 => Zaz (some C730) fun S732 => Zbl Z731 ((Zag pg Zcm [.agg [.str S729, .str S732]] H712 fun V733 H734 =>
 Zic V733 fun K735 => Zad K735 fun C736 Z737 => Zaz (some C736) fun S738 => Zad Z737 fun C739 Z740 => Zaz (some C739) fun S741 => Zbl Z740 ((Zaw H734 (.ptr (some (H697.length, 0))) 2 = Zaw H712 (.ptr (some (H697.length, 0))) 2) ∧ (Zag pg Zbx [.agg [.slice A716 N717 C718 E719, .slice A722 N723 C724 E725], .agg [.str S738, .str S741]] H734 fun V742 H743 =>
 Zjg V742 fun K744 => Zad K744 fun C745 Z746 => Zic C745 fun K747 => Zad K747 fun C748 Z749 => Zaz (some C748) fun S750 => Zad Z749 fun C751 Z752 => Zaz (some C751) fun S753 => Zbl Z752 (Zad Z746 fun C754 Z755 => Zbr (some C754) fun B756 => Zbl Z755 ((Zaw H743 (.ptr (some (H0.length, 0))) 2 = Zaw H734 (.ptr (some (H0.length, 0))) 2) ∧ Zck (H743 ++ [.cells Zab [.str [], .str []] false]) fun H757 => (Zaw H757 (.ptr (some (H0.length, 0))) 2 = Zaw H743 (.ptr (some (H0.length, 0))) 2) ∧ (Zaw H757 (.ptr (some (H697.length, 0))) 2 = Zaw H743 (.ptr (some (H697.length, 0))) 2) ∧ Zbw (Zbc H757 (.ptr (some (H743.length, 0))) [.str S750, .str S753]) fun H758 => Zce (Zaw H758 (.ptr (some (H743.length, 0))) 2) fun K759 => Zad K759 fun C760 Z761 => Zaz (some C760) fun S762 => Zad Z761 fun C763 Z764 => Zaz (some C763) fun S765 => Zbl Z764 (Zce (Zaw H758 (.ptr (some (H26.length, 0))) 2) fun K766 => Zad K766 fun C767 Z768 => Zaz (some C767) fun S769 => Zad Z768 fun C770 Z771 => Zaz (some C770) fun S772 => Zbl Z771 (Zag pg Zdb [.agg [.str S762, .str S765], .agg [.str S769, .str S772]] H758 fun V773 H774 =>
 Zbr (some V773) fun B775 => bcase (!B775) (Q (.bool false) H774) (bcase (!(B756 == B681)) (Q (.bool false) H774) (J13 Q H697.length 0 h.length 0 H774))))))) ∧ (Zck (H734 ++ [.cells Zab [.str [], .str []] false]) fun H776 => (Zaw H776 (.ptr (some (H0.length, 0))) 2 = Zaw H734 (.ptr (some (H0.length, 0))) 2) ∧ (Zaw H776 (.ptr (some (H697.length, 0))) 2 = Zaw H734 (.ptr (some (H697.length, 0))) 2) ∧ Zag pg Zbx [.agg [.slice A716 N717 C718 E719, .slice A722 N723 C724 E725], .agg [.str S738, .str S741]] H776 fun V777 H778 =>
 Zjg V777 fun K779 => Zad K779 fun C780 Z781 => Zic C780 fun K782 => Zad K782 fun C783 Z784 => Zaz (some C783) fun S785 => Zad Z784 fun C786 Z787 => Zaz (some C786) fun S788 => Zbl Z787 (Zad Z781 fun C789 Z790 => Zbr (some C789) fun B791 => Zbl Z790 ((Zaw H778 (.ptr (some (H0.length, 0))) 2 = Zaw H776 (.ptr (some (H0.length, 0))) 2) ∧ Zbw (Zbc H778 (.ptr (some (H734.length, 0))) [.str S785, .str S788]) fun H792 => Zce (Zaw H792 (.ptr (some (H734.length, 0))) 2) fun K793 => Zad K793 fun C794 Z795 => Zaz (some C794) fun S796 => Zad Z795 fun C797 Z798 => Zaz (some C797) fun S799 => Zbl Z798 (Zce (Zaw H792 (.ptr (some (H26.length, 0))) 2) fun K800 => Zad K800 fun C801 Z802 => Zaz (some C801) fun S803 => Zad Z802 fun C804 Z805 => Zaz (some C804) fun S806 => Zbl Z805 (Zag pg Zdb [.agg [.str S796, .str S799], .agg [.str S803, .str S806]] H792 fun V807 H808 =>
 Zbr (some V807) fun B809 => bcase (!B809) (Q (.bool false) H808) (bcase (!(B791 == B681)) (Q (.bool false) H808) (J13 Q H697.length 0 h.length 0 H808))))))))) ∧ (Zck (H712 ++ [.cells Zab [.str [], .str []] false]) fun H810 => (Zaw H810 (.ptr (some (H0.length, 0))) 2 = Zaw H712 (.ptr (some (H0.length, 0))) 2) ∧ (Zaw H810 (.ptr (some (H697.length, 0))) 2 = Zaw H712 (.ptr (some (H697.length, 0))) 2) ∧ Zag pg Zcm [.agg [.str S729, .str S732]] H810 fun V811 H812 =>
 Zic V811 fun K813 => Zad K813 fun C814 Z815 => Zaz (some C814) fun S816 => Zad Z815 fun C817 Z818 => Zaz (some C817) fun S819 => Zbl Z818 ((Zaw H812 (.ptr (some (H697.length, 0))) 2 = Zaw H810 (.ptr (some (H697.length, 0))) 2) ∧ Zag pg Zbx [.agg [.slice A716 N717 C718 E719, .slice A722 N723 C724 E725], .agg [.str S816, .str S819]] H812 fun V820 H821 =>
 Zjg V820 fun K822 => Zad K822 fun C823 Z824 => Zic C823 fun K825 => Zad K825 fun C826 Z827 => Zaz (some C826) fun S828 => Zad Z827 fun C829 Z830 => Zaz (some C829) fun S831 => Zbl Z830 (Zad Z824 fun C832 Z833 => Zbr (some C832) fun B834 => Zbl Z833 ((Zaw H821 (.ptr (some (H0.length, 0))) 2 = Zaw H812 (.ptr (some (H0.length, 0))) 2) ∧ Zbw (Zbc H821 (.ptr (some (H712.length, 0))) [.str S828, .str S831]) fun H835 => Zce (Zaw H835 (.ptr (some (H712.length, 0))) 2) fun K836 => Zad K836 fun C837 Z838 => Zaz (some C837) fun S839 => Zad Z838 fun C840 Z841 => Zaz (some C840) fun S842 => Zbl Z841 (Zce (Zaw H835 (.ptr (some (H26.length, 0))) 2) fun K843 => Zad K843 fun C844 Z845 => Zaz (some C844) fun S846 => Zad Z845 fun C847 Z848 => Zaz (some C847) fun S849 => Zbl Z848 (Zag pg Zdb [.agg [.str S839, .str S842], .agg [.str S846, .str S849]] H835 fun V850 H851 =>
 Zbr (some V850) fun B852 => bcase (!B852) (Q (.bool false) H851) (bcase (!(B834 == B681)) (Q (.bool false) H851) (J13 Q H697.length 0 h.length 0 H851)))))))))))))))))))))))) : Zag pg Zgb [.agg [.slice a0x0 n0x0 c0x0 e0x0, .slice a0x1 n0x1 c0x1 e0x1], .agg [.str x1x0, .str x1x1]] h Q :=
  Zag.of_body kp (c := cod fn) (fn := fn) Go.Proofs.Tryz.func4 (by kernel_rfl) (by kernel_rfl) (Nat.le_of_ble_eq_true (by kernel_rfl))
    (cast (by kernel_rfl) ht)
end Zet
end Go.Sim

set_option maxRecDepth 100000
set_option linter.unusedVariables false
namespace Go.Sim
open Go Go.RowKit
end Go.Sim

set_option maxRecDepth 100000
set_option linter.unusedVariables false
namespace Go.Sim
open Go Go.RowKit
namespace Zfx
noncomputable abbrev fn : Func := Go.Proofs.Tryz.f33
def kp : Zcf := [(3000003, [3]), (1000003, [0, 3, 4])]
noncomputable def C (p : List Nat) : Code := (cod fn).sub p
def KR (Q : QT) : KT := Zfc pg fn.results.toList Q
abbrev T3 := Pt → Nat → Nat → Bool → Pt → Nat → Nat → Bool → Int → Zaa → Prop
def E3 (R3 : T3) (env : Env) (h : Zaa) : Prop := Zca 0 env fun v env => xSl (some v) fun a0 n0 c0 e0 => Zca 3 env fun v env => xSl (some v) fun a3 n3 c3 e3 => Zca 4 env fun v env => Zep .i64 v fun x4 => Zlf env (R3 a0 n0 c0 e0 a3 n3 c3 e3 x4 h)
theorem Zey {R3 : T3} {env : Env} {h : Zaa} (hi : E3 R3 env h) : ∃ a0, ∃ n0, ∃ c0, ∃ e0, ∃ a3, ∃ n3, ∃ c3, ∃ e3, ∃ x4, env = [(0, .slice a0 n0 c0 e0), (3, .slice a3 n3 c3 e3), (4, .int .i64 x4)] ∧ R3 a0 n0 c0 e0 a3 n3 c3 e3 x4 h := by
  unfold E3 at hi
  have hi0 := hi
  clear hi
  obtain ⟨_, _, rfl, hi1⟩ := Zac hi0
  obtain ⟨a0, n0, c0, e0, rfl, hi2⟩ := Zbi hi1
  obtain ⟨_, _, rfl, hi3⟩ := Zac hi2
  obtain ⟨a3, n3, c3, e3, rfl, hi4⟩ := Zbi hi3
  obtain ⟨_, _, rfl, hi5⟩ := Zac hi4
  obtain ⟨x4, rfl, hi6⟩ := Zat hi5
  obtain ⟨rfl, hi7⟩ := Zbq hi6
  have hi := hi7
  exact ⟨a0, n0, c0, e0, a3, n3, c3, e3, x4, rfl, hi⟩
def K0 (Q : QT) : KT := andThen (fun env' h' => (match kp.find 4000006 with | some ks => Den pg fn.ntmps (C [1, 1, 1]) (env'.keep ks) h' (KR Q) | none => den pg fn.ntmps kp (C [1, 1, 1]) env' h' (KR Q))) (KR Q)
def K1 (Q : QT) : KT := Zct 0 (K0 Q)
def K2 (Q : QT) : KT := Zij kp 3 (K1 Q)
def K3 (Q : QT) (R3 : T3) : KT := rnd ((kp.find 1000003).getD []) (E3 R3) (K2 Q)
def L3 (Q : QT) (a0 : Pt) (n0 c0 : Nat) (e0 : Bool) (a3 : Pt) (n3 c3 : Nat) (e3 : Bool) (x4 : Int) (h : Zaa) : Prop := Zes (Den pg fn.ntmps (C [1, 1, 0, 1, 0, 0])) ((kp.find 1000003).getD []) (K2 Q) [(0, .slice a0 n0 c0 e0), (3, .slice a3 n3 c3 e3), (4, .int .i64 x4)] h
def Zpu (Q : QT) (a3 : Pt) (n3 c3 : Nat) (e3 : Bool) (h : Zaa) : Prop := At (K1 Q) (.exit 0) [(3, .slice a3 n3 c3 e3)] h
def L3t (Q : QT) (R3 : T3) (a0 : Pt) (n0 c0 : Nat) (e0 : Bool) (a3 : Pt) (n3 c3 : Nat) (e3 : Bool) (x4 : Int) (h : Zaa) : Prop :=
 bcase (decide ((x4 : Int) < (((n0 : Nat) : Int)))) ((0 ≤ (x4 : Int) ∧ (x4 : Int) < (n0 : Nat)) ∧ (Zbf a0 fun I1 O2 => Zce (Zaw h (.ptr (some (I1, O2 + (Int.toNat x4) * 3))) 3) fun K3 => Zad K3 fun C4 Z5 => Zaz (some C4) fun S6 => Zad Z5 fun C7 Z8 => Zaz (some C7) fun S9 => Zad Z8 fun C10 Z11 => xSl (some C10) fun A12 N13 C14 E15 => Zbl Z11 (Zag pg Zky [.agg [.str S6, .str S9, .slice A12 N13 C14 E15]] h fun V16 H17 =>
 Zic V16 fun K18 => Zad K18 fun C19 Z20 => Zaz (some C19) fun S21 => Zad Z20 fun C22 Z23 => Zaz (some C22) fun S24 => Zad Z23 fun C25 Z26 => xSl (some C25) fun A27 N28 C29 E30 => Zbl Z26 ((0 ≤ (x4 : Int) ∧ (x4 : Int) < (n3 : Nat)) ∧ (Zbf a3 fun I31 O32 => Zbw (Zbc H17 (.ptr (some (I31, O32 + (Int.toNat x4) * 3))) [.str S21, .str S24, .slice A27 N28 C29 E30]) fun H33 => R3 a0 n0 c0 e0 a3 n3 c3 e3 (IntKind.wrap .i64 (x4 + 1)) H33))))) (Zpu Q a3 n3 c3 e3 h)
theorem Zmg (Q : QT) (R3 : T3) (a0 : Pt) (n0 c0 : Nat) (e0 : Bool) (a3 : Pt) (n3 c3 : Nat) (e3 : Bool) (x4 : Int) (h : Zaa) (ht : L3t Q R3 a0 n0 c0 e0 a3 n3 c3 e3 x4 h) : Den pg fn.ntmps (C [1, 1, 0, 1, 0, 0]) [(0, .slice a0 n0 c0 e0), (3, .slice a3 n3 c3 e3), (4, .int .i64 x4)] h (K3 Q R3) :=
  Zbe (kp := kp) (cast (by kernel_rfl) ht)
theorem L3ind (Q : QT) (a0 : Pt) (n0 c0 : Nat) (e0 : Bool) (a3 : Pt) (n3 c3 : Nat) (e3 : Bool) {G : Type} (J : G → Int → Zaa → Prop) (m : G → Nat)
 (hr : ∀ (g : G) (x4 : Int) (h : Zaa), J g x4 h → ∀ (R3 : T3), (∀ g' (x4 : Int) (h : Zaa), m g' < m g → J g' x4 h → R3 a0 n0 c0 e0 a3 n3 c3 e3 x4 h) → L3t Q R3 a0 n0 c0 e0 a3 n3 c3 e3 x4 h)
 (g : G) (x4 : Int) (h : Zaa) (hj : J g x4 h) : L3 Q a0 n0 c0 e0 a3 n3 c3 e3 x4 h := by
  refine Zes.inv2 (fun g => E3 fun a0' n0' c0' e0' a3' n3' c3' e3' x4 h => a0 = a0' ∧ n0 = n0' ∧ c0 = c0' ∧ e0 = e0' ∧ a3 = a3' ∧ n3 = n3' ∧ c3 = c3' ∧ e3 = e3' ∧ J g x4 h) (fun g => E3 fun a0' n0' c0' e0' a3' n3' c3' e3' x4 h => a0 = a0' ∧ n0 = n0' ∧ c0 = c0' ∧ e0 = e0' ∧ a3 = a3' ∧ n3 = n3' ∧ c3 = c3' ∧ e3 = e3' ∧ ∃ g', m g' < m g ∧ J g' x4 h) m ?_ ?_ g ⟨rfl, rfl, rfl, rfl, rfl, rfl, rfl, rfl, hj⟩
  · intro g env h hi
    obtain ⟨a0', n0', c0', e0', a3', n3', c3', e3', x4, rfl, rfl, rfl, rfl, rfl, rfl, rfl, rfl, rfl, hj⟩ := Zey hi
    exact Zmg Q _ a0 n0 c0 e0 a3 n3 c3 e3 x4 h (hr g x4 h hj (fun a0' n0' c0' e0' a3' n3' c3' e3' x4 h => a0 = a0' ∧ n0 = n0' ∧ c0 = c0' ∧ e0 = e0' ∧ a3 = a3' ∧ n3 = n3' ∧ c3 = c3' ∧ e3 = e3' ∧ ∃ g', m g' < m g ∧ J g' x4 h) fun g' x4 h hlt hj => ⟨rfl, rfl, rfl, rfl, rfl, rfl, rfl, rfl, g', hlt, hj⟩)
  · intro g env h hi
    obtain ⟨a0', n0', c0', e0', a3', n3', c3', e3', x4, rfl, rfl, rfl, rfl, rfl, rfl, rfl, rfl, rfl, g', hlt, hj⟩ := Zey hi
    exact ⟨g', hlt, rfl, rfl, rfl, rfl, rfl, rfl, rfl, rfl, hj⟩
theorem A3x0i (Q : QT) (a3 : Pt) (n3 c3 : Nat) (e3 : Bool) (h : Zaa) (ht :
 Q (.slice a3 n3 c3 e3) h) : Zpu Q a3 n3 c3 e3 h :=
  At.mk (cast (by kernel_rfl) ht)
theorem call (a0 : Pt) (n0 c0 : Nat) (e0 : Bool) (h : Zaa) (Q : QT) (ht :
 IntKind.i64 = IntKind.i64 ∧ (IntKind.i64 = IntKind.i64 ∧ ((0 ≤ ((((n0 : Nat) : Int)) : Int) ∧ ((((n0 : Nat) : Int)) : Int) ≤ (((n0 : Nat) : Int)) ∧ ((((n0 : Nat) : Int)) : Int) * (((56 : Nat) : Int) + 1) ≤ 140737488355328) ∧ (Zck (h ++ [.cells Zao (reps (Int.toNat ((((n0 : Nat) : Int)))) [.str [], .str [], .slice none 0 0 true]) false]) fun H0 => L3 Q a0 n0 c0 e0 (some (h.length, 0)) (Int.toNat ((((n0 : Nat) : Int)))) (Int.toNat ((((n0 : Nat) : Int)))) true 0 H0)))) : Zag pg Zkb [.slice a0 n0 c0 e0] h Q :=
  Zag.of_body kp (c := cod fn) (fn := fn) Go.Proofs.Tryz.func33 (by kernel_rfl) (by kernel_rfl) (Nat.le_of_ble_eq_true (by kernel_rfl))
    (cast (by kernel_rfl) ht)
end Zfx
namespace Zrf
noncomputable abbrev fn : Func := Go.Proofs.Tryz.f11
def kp : Zcf := []
noncomputable def C (p : List Nat) : Code := (cod fn).sub p
def KR (Q : QT) : KT := Zfc pg fn.results.toList Q
theorem call (a0x0 : Pt) (n0x0 c0x0 : Nat) (e0x0 : Bool) (a0x1 : Pt) (n0x1 c0x1 : Nat) (e0x1 : Bool) (h : Zaa) (Q : QT) (ht :
 Zck (h ++ [.cells Zen [.slice a0x0 n0x0 c0x0 e0x0, .slice a0x1 n0x1 c0x1 e0x1] false]) fun H0 => Zck (H0 ++ [.cells Zal [.slice none 0 0 true, .slice none 0 0 true] false]) fun H1 => Zck (H1 ++ [.cells Zal [.slice none 0 0 true, .slice none 0 0 true] false]) fun H2 => xSl (Zae H2 (.ptr (some (h.length, 0 + 0)))) fun A3 N4 C5 E6 => Zag pg Zmd [.slice A3 N4 C5 E6] H2 fun V7 H8 =>
 xSl (some V7) fun A9 N10 C11 E12 => Zbw (Zbc H8 (.ptr (some (H1.length, 0 + 0))) [.slice A9 N10 C11 E12]) fun H13 => xSl (Zae H13 (.ptr (some (h.length, 0 + 1)))) fun A14 N15 C16 E17 => Zag pg Zkb [.slice A14 N15 C16 E17] H13 fun V18 H19 =>
 xSl (some V18) fun A20 N21 C22 E23 => Zbw (Zbc H19 (.ptr (some (H1.length, 0 + 1))) [.slice A20 N21 C22 E23]) fun H24 => Zce (Zaw H24 (.ptr (some (H1.length, 0))) 2) fun K25 => Zad K25 fun C26 Z27 => xSl (some C26) fun A28 N29 C30 E31 => Zad Z27 fun C32 Z33 => xSl (some C32) fun A34 N35 C36 E37 => Zbl Z33 (Zbw (Zbc H24 (.ptr (some (H0.length, 0))) [.slice A28 N29 C30 E31, .slice A34 N35 C36 E37]) fun H38 => Zce (Zaw H38 (.ptr (some (H0.length, 0))) 2) fun K39 => Zad K39 fun C40 Z41 => xSl (some C40) fun A42 N43 C44 E45 => Zad Z41 fun C46 Z47 => xSl (some C46) fun A48 N49 C50 E51 => Zbl Z47 (Q (.agg [.slice A42 N43 C44 E45, .slice A48 N49 C50 E51]) H38))) : Zag pg Zdu [.agg [.slice a0x0 n0x0 c0x0 e0x0, .slice a0x1 n0x1 c0x1 e0x1]] h Q :=
  Zag.of_body kp (c := cod fn) (fn := fn) Go.Proofs.Tryz.func11 (by kernel_rfl) (by kernel_rfl) (Nat.le_of_ble_eq_true (by kernel_rfl))
    (cast (by kernel_rfl) ht)
end Zrf
namespace Zod
noncomputable abbrev fn : Func := Go.Proofs.Tryz.f61
def kp : Zcf := []
noncomputable def C (p : List Nat) : Code := (cod fn).sub p
def KR (Q : QT) : KT := Zfc pg fn.results.toList Q
theorem call (x0x0 x0x1 : List Nat) (a0x2 : Pt) (n0x2 c0x2 : Nat) (e0x2 : Bool) (x1x0 x1x1 : List Nat) (a1x2 : Pt) (n1x2 c1x2 : Nat) (e1x2 : Bool) (h : Zaa) (Q : QT) (ht :
 Zck (h ++ [.cells Zao [.str x0x0, .str x0x1, .slice a0x2 n0x2 c0x2 e0x2] false]) fun H0 => Zck (H0 ++ [.cells Zao [.str x1x0, .str x1x1, .slice a1x2 n1x2 c1x2 e1x2] false]) fun H1 => Zce (Zaw H1 (.ptr (some (h.length, 0 + 0))) 2) fun K2 => Zad K2 fun C3 Z4 => Zaz (some C3) fun S5 => Zad Z4 fun C6 Z7 => Zaz (some C6) fun S8 => Zbl Z7 (Zce (Zaw H1 (.ptr (some (H0.length, 0 + 0))) 2) fun K9 => Zad K9 fun C10 Z11 => Zaz (some C10) fun S12 => Zad Z11 fun C13 Z14 => Zaz (some C13) fun S15 => Zbl Z14 (Zag pg Zdb [.agg [.str S5, .str S8], .agg [.str S12, .str S15]] H1 fun V16 H17 =>
 Zbr (some V16) fun B18 => bcase (!B18) (Q (.bool false) H17) (xSl (Zae H17 (.ptr (some (h.length, 0 + 2)))) fun A19 N20 C21 E22 => xSl (Zae H17 (.ptr (some (H0.length, 0 + 2)))) fun A23 N24 C25 E26 => Zag pg Znm [.slice A19 N20 C21 E22, .slice A23 N24 C25 E26] H17 fun V27 H28 =>
 Zbr (some V27) fun B29 => bcase (!B29) (Q (.bool false) H28) (Q (.bool true) H28))))) : Zag pg Zkt [.agg [.str x0x0, .str x0x1, .slice a0x2 n0x2 c0x2 e0x2], .agg [.str x1x0, .str x1x1, .slice a1x2 n1x2 c1x2 e1x2]] h Q :=
  Zag.of_body kp (c := cod fn) (fn := fn) Go.Proofs.Tryz.func61 (by kernel_rfl) (by kernel_rfl) (Nat.le_of_ble_eq_true (by kernel_rfl))
    (cast (by kernel_rfl) ht)
end Zod
namespace Zfy
noncomputable abbrev fn : Func := Go.Proofs.Tryz.f37
def kp : Zcf := [(3000004, [4]), (1000004, [0, 1, 5]), (2000006, [26, 5, 0, 1])]
noncomputable def C (p : List Nat) : Code := (cod fn).sub p
def KR (Q : QT) : KT := Zfc pg fn.results.toList Q
abbrev T4 := Pt → Nat → Nat → Bool → Pt → Nat → Nat → Bool → Int → Zaa → Prop
def E4 (R4 : T4) (env : Env) (h : Zaa) : Prop := Zca 0 env fun v env => xSl (some v) fun a0 n0 c0 e0 => Zca 1 env fun v env => xSl (some v) fun a1 n1 c1 e1 => Zca 5 env fun v env => Zep .i64 v fun x5 => Zlf env (R4 a0 n0 c0 e0 a1 n1 c1 e1 x5 h)
theorem Zle {R4 : T4} {env : Env} {h : Zaa} (hi : E4 R4 env h) : ∃ a0, ∃ n0, ∃ c0, ∃ e0, ∃ a1, ∃ n1, ∃ c1, ∃ e1, ∃ x5, env = [(0, .slice a0 n0 c0 e0), (1, .slice a1 n1 c1 e1), (5, .int .i64 x5)] ∧ R4 a0 n0 c0 e0 a1 n1 c1 e1 x5 h := by
  unfold E4 at hi
  have hi0 := hi
  clear hi
  obtain ⟨_, _, rfl, hi1⟩ := Zac hi0
  obtain ⟨a0, n0, c0, e0, rfl, hi2⟩ := Zbi hi1
  obtain ⟨_, _, rfl, hi3⟩ := Zac hi2
  obtain ⟨a1, n1, c1, e1, rfl, hi4⟩ := Zbi hi3
  obtain ⟨_, _, rfl, hi5⟩ := Zac hi4
  obtain ⟨x5, rfl, hi6⟩ := Zat hi5
  obtain ⟨rfl, hi7⟩ := Zbq hi6
  have hi := hi7
  exact ⟨a0, n0, c0, e0, a1, n1, c1, e1, x5, rfl, hi⟩
def K0 (Q : QT) : KT := andThen (fun env' h' => (match kp.find 4000008 with | some ks => Den pg fn.ntmps (C [1, 1, 1]) (env'.keep ks) h' (KR Q) | none => den pg fn.ntmps kp (C [1, 1, 1]) env' h' (KR Q))) (KR Q)
def K1 (Q : QT) : KT := Zct 0 (K0 Q)
def K2 (Q : QT) : KT := Zij kp 4 (K1 Q)
def K3 (Q : QT) (R4 : T4) : KT := rnd ((kp.find 1000004).getD []) (E4 R4) (K2 Q)
def L4 (Q : QT) (a0 : Pt) (n0 c0 : Nat) (e0 : Bool) (a1 : Pt) (n1 c1 : Nat) (e1 : Bool) (x5 : Int) (h : Zaa) : Prop := Zes (Den pg fn.ntmps (C [1, 1, 0, 1, 0, 0])) ((kp.find 1000004).getD []) (K2 Q) [(0, .slice a0 n0 c0 e0), (1, .slice a1 n1 c1 e1), (5, .int .i64 x5)] h
def Ybe (Q : QT) (h : Zaa) : Prop := At (K1 Q) (.exit 0) [(4, .undef)] h
def L4t (Q : QT) (R4 : T4) (a0 : Pt) (n0 c0 : Nat) (e0 : Bool) (a1 : Pt) (n1 c1 : Nat) (e1 : Bool) (x5 : Int) (h : Zaa) : Prop :=
 bcase (decide ((x5 : Int) < (((n0 : Nat) : Int)))) ((0 ≤ (x5 : Int) ∧ (x5 : Int) < (n0 : Nat)) ∧ (Zbf a0 fun I0 O1 => (0 ≤ (x5 : Int) ∧ (x5 : Int) < (n1 : Nat)) ∧ (Zbf a1 fun I2 O3 => Zce (Zaw h (.ptr (some (I0, O1 + (Int.toNat x5) * 3))) 3) fun K4 => Zad K4 fun C5 Z6 => Zaz (some C5) fun S7 => Zad Z6 fun C8 Z9 => Zaz (some C8) fun S10 => Zad Z9 fun C11 Z12 => xSl (some C11) fun A13 N14 C15 E16 => Zbl Z12 (Zce (Zaw h (.ptr (some (I2, O3 + (Int.toNat x5) * 3))) 3) fun K17 => Zad K17 fun C18 Z19 => Zaz (some C18) fun S20 => Zad Z19 fun C21 Z22 => Zaz (some C21) fun S23 => Zad Z22 fun C24 Z25 => xSl (some C24) fun A26 N27 C28 E29 => Zbl Z25 ((Zaw h (.ptr (some (I0, O1 + (Int.toNat x5) * 3))) 3 = Zaw h (.ptr (some (I0, O1 + (Int.toNat x5) * 3))) 3) ∧ Zag pg Zkt [.agg [.str S7, .str S10, .slice A13 N14 C15 E16], .agg [.str S20, .str S23, .slice A26 N27 C28 E29]] h fun V30 H31 =>
 Zbr (some V30) fun B32 => bcase (!B32) (Q (.bool false) H31) (R4 a0 n0 c0 e0 a1 n1 c1 e1 (IntKind.wrap .i64 (x5 + 1)) H31)))))) (Ybe Q h)
theorem Zwp (Q : QT) (R4 : T4) (a0 : Pt) (n0 c0 : Nat) (e0 : Bool) (a1 : Pt) (n1 c1 : Nat) (e1 : Bool) (x5 : Int) (h : Zaa) (ht : L4t Q R4 a0 n0 c0 e0 a1 n1 c1 e1 x5 h) : Den pg fn.ntmps (C [1, 1, 0, 1, 0, 0]) [(0, .slice a0 n0 c0 e0), (1, .slice a1 n1 c1 e1), (5, .int .i64 x5)] h (K3 Q R4) :=
  Zbe (kp := kp) (cast (by kernel_rfl) ht)
theorem L4ind (Q : QT) (a0 : Pt) (n0 c0 : Nat) (e0 : Bool) (a1 : Pt) (n1 c1 : Nat) (e1 : Bool) {G : Type} (J : G → Int → Zaa → Prop) (m : G → Nat)
 (hr : ∀ (g : G) (x5 : Int) (h : Zaa), J g x5 h → ∀ (R4 : T4), (∀ g' (x5 : Int) (h : Zaa), m g' < m g → J g' x5 h → R4 a0 n0 c0 e0 a1 n1 c1 e1 x5 h) → L4t Q R4 a0 n0 c0 e0 a1 n1 c1 e1 x5 h)
 (g : G) (x5 : Int) (h : Zaa) (hj : J g x5 h) : L4 Q a0 n0 c0 e0 a1 n1 c1 e1 x5 h := by
  refine Zes.inv2 (fun g => E4 fun a0' n0' c0' e0' a1' n1' c1' e1' x5 h => a0 = a0' ∧ n0 = n0' ∧ c0 = c0' ∧ e0 = e0' ∧ a1 = a1' ∧ n1 = n1' ∧ c1 = c1' ∧ e1 = e1' ∧ J g x5 h) (fun g => E4 fun a0' n0' c0' e0' a1' n1' c1' e1' x5 h => a0 = a0' ∧ n0 = n0' ∧ c0 = c0' ∧ e0 = e0' ∧ a1 = a1' ∧ n1 = n1' ∧ c1 = c1' ∧ e1 = e1' ∧ ∃ g', m g' < m g ∧ J g' x5 h) m ?_ ?_ g ⟨rfl, rfl, rfl, rfl, rfl, rfl, rfl, rfl, hj⟩
  · intro g env h hi
    obtain ⟨a0', n0', c0', e0', a1', n1', c1', e1', x5, rfl, rfl, rfl, rfl, rfl, rfl, rfl, rfl, rfl, hj⟩ := Zle hi
    exact Zwp Q _ a0 n0 c0 e0 a1 n1 c1 e1 x5 h (hr g x5 h hj (fun a0' n0' c0' e0' a1' n1' c1' e1' x5 h => a0 = a0' ∧ n0 = n0' ∧ c0 = c0' ∧ e0 = e0' ∧ a1 = a1' ∧ n1 = n1' ∧ c1 = c1' ∧ e1 = e1' ∧ ∃ g', m g' < m g ∧ J g' x5 h) fun g' x5 h hlt hj => ⟨rfl, rfl, rfl, rfl, rfl, rfl, rfl, rfl, g', hlt, hj⟩)
  · intro g env h hi
    obtain ⟨a0', n0', c0', e0', a1', n1', c1', e1', x5, rfl, rfl, rfl, rfl, rfl, rfl, rfl, rfl, rfl, g', hlt, hj⟩ := Zle hi
    exact ⟨g', hlt, rfl, rfl, rfl, rfl, rfl, rfl, rfl, rfl, hj⟩
theorem A4x0i (Q : QT) (h : Zaa) (ht :
 Q (.bool true) h) : Ybe Q h :=
  At.mk (cast (by kernel_rfl) ht)
theorem call (a0 : Pt) (n0 c0 : Nat) (e0 : Bool) (a1 : Pt) (n1 c1 : Nat) (e1 : Bool) (h : Zaa) (Q : QT) (ht :
 bcase (!((((n0 : Nat) : Int) : Int) == (((n1 : Nat) : Int)))) (Q (.bool false) h) (L4 Q a0 n0 c0 e0 a1 n1 c1 e1 0 h)) : Zag pg Zjj [.slice a0 n0 c0 e0, .slice a1 n1 c1 e1] h Q :=
  Zag.of_body kp (c := cod fn) (fn := fn) Go.Proofs.Tryz.func37 (by kernel_rfl) (by kernel_rfl) (Nat.le_of_ble_eq_true (by kernel_rfl))
    (cast (by kernel_rfl) ht)
end Zfy
namespace Zrb
noncomputable abbrev fn : Func := Go.Proofs.Tryz.f14
def kp : Zcf := []
noncomputable def C (p : List Nat) : Code := (cod fn).sub p
def KR (Q : QT) : KT := Zfc pg fn.results.toList Q
theorem call (a0x0 : Pt) (n0x0 c0x0 : Nat) (e0x0 : Bool) (a0x1 : Pt) (n0x1 c0x1 : Nat) (e0x1 : Bool) (a1x0 : Pt) (n1x0 c1x0 : Nat) (e1x0 : Bool) (a1x1 : Pt) (n1x1 c1x1 : Nat) (e1x1 : Bool) (h : Zaa) (Q : QT) (ht :
 Zck (h ++ [.cells Zal [.slice a0x0 n0x0 c0x0 e0x0, .slice a0x1 n0x1 c0x1 e0x1] false]) fun H0 => Zck (H0 ++ [.cells Zal [.slice a1x0 n1x0 c1x0 e1x0, .slice a1x1 n1x1 c1x1 e1x1] false]) fun H1 => xSl (Zae H1 (.ptr (some (h.length, 0 + 0)))) fun A2 N3 C4 E5 => xSl (Zae H1 (.ptr (some (H0.length, 0 + 0)))) fun A6 N7 C8 E9 => Zag pg Zmo [.slice A2 N3 C4 E5, .slice A6 N7 C8 E9] H1 fun V10 H11 =>
 Zbr (some V10) fun B12 => bcase (!B12) (Q (.bool false) H11) (xSl (Zae H11 (.ptr (some (h.length, 0 + 1)))) fun A13 N14 C15 E16 => xSl (Zae H11 (.ptr (some (H0.length, 0 + 1)))) fun A17 N18 C19 E20 => Zag pg Zjj [.slice A13 N14 C15 E16, .slice A17 N18 C19 E20] H11 fun V21 H22 =>
 Zbr (some V21) fun B23 => bcase (!B23) (Q (.bool false) H22) (Q (.bool true) H22))) : Zag pg Znf [.agg [.slice a0x0 n0x0 c0x0 e0x0, .slice a0x1 n0x1 c0x1 e0x1], .agg [.slice a1x0 n1x0 c1x0 e1x0, .slice a1x1 n1x1 c1x1 e1x1]] h Q :=
  Zag.of_body kp (c := cod fn) (fn := fn) Go.Proofs.Tryz.func14 (by kernel_rfl) (by kernel_rfl) (Nat.le_of_ble_eq_true (by kernel_rfl))
    (cast (by kernel_rfl) ht)
end Zrb
end Go.Sim

set_option maxRecDepth 100000
set_option linter.unusedVariables false
namespace Go.Sim
open Go Go.RowKit
namespace Zny
noncomputable abbrev fn : Func := Go.Proofs.Tryz.f49
def kp : Zcf := []
noncomputable def C (p : List Nat) : Code := (cod fn).sub p
def KR (Q : QT) : KT := Zfc pg fn.results.toList Q
theorem call (x0x0 x0x1 : List Nat) (a0x2 : Pt) (n0x2 c0x2 : Nat) (e0x2 : Bool) (x1 : Int) (h : Zaa) (Q : QT) (ht :
 Zck (h ++ [.cells Zev [.str x0x0, .str x0x1, .slice a0x2 n0x2 c0x2 e0x2] false]) fun H0 => Zce (Zaw H0 (.ptr (some (h.length, 0 + 0))) 2) fun K1 => Zad K1 fun C2 Z3 => Zaz (some C2) fun S4 => Zad Z3 fun C5 Z6 => Zaz (some C5) fun S7 => Zbl Z6 (Zag pg Zib [.agg [.str S4, .str S7], .int .i64 x1] H0 fun V8 H9 =>
 Zem .i64 (some V8) fun X10 => bcase (decide ((X10 : Int) < 0)) (Q (.int .i64 (-1)) H9) (xSl (Zae H9 (.ptr (some (h.length, 0 + 2)))) fun A11 N12 C13 E14 => Zag pg Znj [.slice A11 N12 C13 E14, .int .i64 X10] H9 fun V15 H16 =>
 Zem .i64 (some V15) fun X17 => bcase (decide ((X17 : Int) < 0)) (Q (.int .i64 (-1)) H16) (Q (.int .i64 X17) H16)))) : Zag pg Zkq [.agg [.str x0x0, .str x0x1, .slice a0x2 n0x2 c0x2 e0x2], .int .i64 x1] h Q :=
  Zag.of_body kp (c := cod fn) (fn := fn) Go.Proofs.Tryz.func49 (by kernel_rfl) (by kernel_rfl) (Nat.le_of_ble_eq_true (by kernel_rfl))
    (cast (by kernel_rfl) ht)
end Zny
namespace Zfu
noncomputable abbrev fn : Func := Go.Proofs.Tryz.f29
def kp : Zcf := [(3000005, [1, 4]), (1000005, [0, 1, 5])]
noncomputable def C (p : List Nat) : Code := (cod fn).sub p
def KR (Q : QT) : KT := Zfc pg fn.results.toList Q
abbrev T5 := Pt → Nat → Nat → Bool → Int → Int → Zaa → Prop
def E5 (R5 : T5) (env : Env) (h : Zaa) : Prop := Zca 0 env fun v env => xSl (some v) fun a0 n0 c0 e0 => Zca 1 env fun v env => Zep .i64 v fun x1 => Zca 5 env fun v env => Zep .i64 v fun x5 => Zlf env (R5 a0 n0 c0 e0 x1 x5 h)
theorem Zjf {R5 : T5} {env : Env} {h : Zaa} (hi : E5 R5 env h) : ∃ a0, ∃ n0, ∃ c0, ∃ e0, ∃ x1, ∃ x5, env = [(0, .slice a0 n0 c0 e0), (1, .int .i64 x1), (5, .int .i64 x5)] ∧ R5 a0 n0 c0 e0 x1 x5 h := by
  unfold E5 at hi
  have hi0 := hi
  clear hi
  obtain ⟨_, _, rfl, hi1⟩ := Zac hi0
  obtain ⟨a0, n0, c0, e0, rfl, hi2⟩ := Zbi hi1
  obtain ⟨_, _, rfl, hi3⟩ := Zac hi2
  obtain ⟨x1, rfl, hi4⟩ := Zat hi3
  obtain ⟨_, _, rfl, hi5⟩ := Zac hi4
  obtain ⟨x5, rfl, hi6⟩ := Zat hi5
  obtain ⟨rfl, hi7⟩ := Zbq hi6
  have hi := hi7
  exact ⟨a0, n0, c0, e0, x1, x5, rfl, hi⟩
def K0 (Q : QT) : KT := andThen (fun env' h' => (match kp.find 4000010 with | some ks => Den pg fn.ntmps (C [1, 1, 1, 1]) (env'.keep ks) h' (KR Q) | none => den pg fn.ntmps kp (C [1, 1, 1, 1]) env' h' (KR Q))) (KR Q)
def K1 (Q : QT) : KT := Zct 0 (K0 Q)
def K2 (Q : QT) : KT := Zij kp 5 (K1 Q)
def K3 (Q : QT) (R5 : T5) : KT := rnd ((kp.find 1000005).getD []) (E5 R5) (K2 Q)
def L5 (Q : QT) (a0 : Pt) (n0 c0 : Nat) (e0 : Bool) (x1 x5 : Int) (h : Zaa) : Prop := Zes (Den pg fn.ntmps (C [1, 1, 1, 0, 1, 0, 0])) ((kp.find 1000005).getD []) (K2 Q) [(0, .slice a0 n0 c0 e0), (1, .int .i64 x1), (5, .int .i64 x5)] h
def A5x0 (Q : QT) (x1 : Int) (h : Zaa) : Prop := At (K1 Q) (.exit 0) [(1, .int .i64 x1), (4, .undef)] h
def L5t (Q : QT) (R5 : T5) (a0 : Pt) (n0 c0 : Nat) (e0 : Bool) (x1 x5 : Int) (h : Zaa) : Prop :=
 bcase (decide ((x5 : Int) < (((n0 : Nat) : Int)))) ((0 ≤ (x5 : Int) ∧ (x5 : Int) < (n0 : Nat)) ∧ (Zbf a0 fun I0 O1 => Zce (Zaw h (.ptr (some (I0, O1 + (Int.toNat x5) * 3))) 3) fun K2 => Zad K2 fun C3 Z4 => Zaz (some C3) fun S5 => Zad Z4 fun C6 Z7 => Zaz (some C6) fun S8 => Zad Z7 fun C9 Z10 => xSl (some C9) fun A11 N12 C13 E14 => Zbl Z10 (Zag pg Zkq [.agg [.str S5, .str S8, .slice A11 N12 C13 E14], .int .i64 x1] h fun V15 H16 =>
 Zem .i64 (some V15) fun X17 => bcase (decide ((X17 : Int) < 0)) (Q (.int .i64 (-1)) H16) (R5 a0 n0 c0 e0 X17 (IntKind.wrap .i64 (x5 + 1)) H16)))) (A5x0 Q x1 h)
theorem Zuc (Q : QT) (R5 : T5) (a0 : Pt) (n0 c0 : Nat) (e0 : Bool) (x1 x5 : Int) (h : Zaa) (ht : L5t Q R5 a0 n0 c0 e0 x1 x5 h) : Den pg fn.ntmps (C [1, 1, 1, 0, 1, 0, 0]) [(0, .slice a0 n0 c0 e0), (1, .int .i64 x1), (5, .int .i64 x5)] h (K3 Q R5) :=
  Zbe (kp := kp) (cast (by kernel_rfl) ht)
theorem L5ind (Q : QT) (a0 : Pt) (n0 c0 : Nat) (e0 : Bool) {G : Type} (J : G → Int → Int → Zaa → Prop) (m : G → Nat)
 (hr : ∀ (g : G) (x1 x5 : Int) (h : Zaa), J g x1 x5 h → ∀ (R5 : T5), (∀ g' (x1 x5 : Int) (h : Zaa), m g' < m g → J g' x1 x5 h → R5 a0 n0 c0 e0 x1 x5 h) → L5t Q R5 a0 n0 c0 e0 x1 x5 h)
 (g : G) (x1 x5 : Int) (h : Zaa) (hj : J g x1 x5 h) : L5 Q a0 n0 c0 e0 x1 x5 h := by
  refine Zes.inv2 (fun g => E5 fun a0' n0' c0' e0' x1 x5 h => a0 = a0' ∧ n0 = n0' ∧ c0 = c0' ∧ e0 = e0' ∧ J g x1 x5 h) (fun g => E5 fun a0' n0' c0' e0' x1 x5 h => a0 = a0' ∧ n0 = n0' ∧ c0 = c0' ∧ e0 = e0' ∧ ∃ g', m g' < m g ∧ J g' x1 x5 h) m ?_ ?_ g ⟨rfl, rfl, rfl, rfl, hj⟩
  · intro g env h hi
    obtain ⟨a0', n0', c0', e0', x1, x5, rfl, rfl, rfl, rfl, rfl, hj⟩ := Zjf hi
    exact Zuc Q _ a0 n0 c0 e0 x1 x5 h (hr g x1 x5 h hj (fun a0' n0' c0' e0' x1 x5 h => a0 = a0' ∧ n0 = n0' ∧ c0 = c0' ∧ e0 = e0' ∧ ∃ g', m g' < m g ∧ J g' x1 x5 h) fun g' x1 x5 h hlt hj => ⟨rfl, rfl, rfl, rfl, g', hlt, hj⟩)
  · intro g env h hi
    obtain ⟨a0', n0', c0', e0', x1, x5, rfl, rfl, rfl, rfl, rfl, g', hlt, hj⟩ := Zjf hi
    exact ⟨g', hlt, rfl, rfl, rfl, rfl, hj⟩
theorem A5x0i (Q : QT) (x1 : Int) (h : Zaa) (ht :
 Q (.int .i64 x1) h) : A5x0 Q x1 h :=
  At.mk (cast (by kernel_rfl) ht)
theorem call (a0 : Pt) (n0 c0 : Nat) (e0 : Bool) (x1 : Int) (h : Zaa) (Q : QT) (ht :
 bcase (decide (((IntKind.wrap .i64 (x1 - (((n0 : Nat) : Int)))) : Int) < 0)) (Q (.int .i64 (-1)) h) (L5 Q a0 n0 c0 e0 (IntKind.wrap .i64 (x1 - (((n0 : Nat) : Int)))) 0 h)) : Zag pg Zjq [.slice a0 n0 c0 e0, .int .i64 x1] h Q :=
  Zag.of_body kp (c := cod fn) (fn := fn) Go.Proofs.Tryz.func29 (by kernel_rfl) (by kernel_rfl) (Nat.le_of_ble_eq_true (by kernel_rfl))
    (cast (by kernel_rfl) ht)
end Zfu
namespace Zrh
noncomputable abbrev fn : Func := Go.Proofs.Tryz.f8
def kp : Zcf := []
noncomputable def C (p : List Nat) : Code := (cod fn).sub p
def KR (Q : QT) : KT := Zfc pg fn.results.toList Q
theorem call (a0x0 : Pt) (n0x0 c0x0 : Nat) (e0x0 : Bool) (a0x1 : Pt) (n0x1 c0x1 : Nat) (e0x1 : Bool) (x1 : Int) (h : Zaa) (Q : QT) (ht :
 Zck (h ++ [.cells Zen [.slice a0x0 n0x0 c0x0 e0x0, .slice a0x1 n0x1 c0x1 e0x1] false]) fun H0 => xSl (Zae H0 (.ptr (some (h.length, 0 + 0)))) fun A1 N2 C3 E4 => Zag pg Zmc [.slice A1 N2 C3 E4, .int .i64 x1] H0 fun V5 H6 =>
 Zem .i64 (some V5) fun X7 => bcase (decide ((X7 : Int) < 0)) (Q (.int .i64 (-1)) H6) (xSl (Zae H6 (.ptr (some (h.length, 0 + 1)))) fun A8 N9 C10 E11 => Zag pg Zjq [.slice A8 N9 C10 E11, .int .i64 X7] H6 fun V12 H13 =>
 Zem .i64 (some V12) fun X14 => bcase (decide ((X14 : Int) < 0)) (Q (.int .i64 (-1)) H13) (Q (.int .i64 X14) H13))) : Zag pg Zlc [.agg [.slice a0x0 n0x0 c0x0 e0x0, .slice a0x1 n0x1 c0x1 e0x1], .int .i64 x1] h Q :=
  Zag.of_body kp (c := cod fn) (fn := fn) Go.Proofs.Tryz.func8 (by kernel_rfl) (by kernel_rfl) (Nat.le_of_ble_eq_true (by kernel_rfl))
    (cast (by kernel_rfl) ht)
end Zrh
namespace Znq
noncomputable abbrev fn : Func := Go.Proofs.Tryz.f56
def kp : Zcf := []
noncomputable def C (p : List Nat) : Code := (cod fn).sub p
def KR (Q : QT) : KT := Zfc pg fn.results.toList Q
theorem call (x0x0 x0x1 : List Nat) (a0x2 : Pt) (n0x2 c0x2 : Nat) (e0x2 : Bool) (h : Zaa) (Q : QT) (ht :
 Zck (h ++ [.cells Zev [.str x0x0, .str x0x1, .slice a0x2 n0x2 c0x2 e0x2] false]) fun H0 => Zck (H0 ++ [.cells Zao [.str [], .str [], .slice none 0 0 true] false]) fun H1 => Zck (H1 ++ [.cells Zao [.str [], .str [], .slice none 0 0 true] false]) fun H2 => Zce (Zaw H2 (.ptr (some (h.length, 0 + 0))) 2) fun K3 => Zad K3 fun C4 Z5 => Zaz (some C4) fun S6 => Zad Z5 fun C7 Z8 => Zaz (some C7) fun S9 => Zbl Z8 (Zag pg Zcm [.agg [.str S6, .str S9]] H2 fun V10 H11 =>
 Zic V10 fun K12 => Zad K12 fun C13 Z14 => Zaz (some C13) fun S15 => Zad Z14 fun C16 Z17 => Zaz (some C16) fun S18 => Zbl Z17 (Zbw (Zbc H11 (.ptr (some (H1.length, 0 + 0))) [.str S15, .str S18]) fun H19 => xSl (Zae H19 (.ptr (some (h.length, 0 + 2)))) fun A20 N21 C22 E23 => Zag pg Znk [.slice A20 N21 C22 E23] H19 fun V24 H25 =>
 xSl (some V24) fun A26 N27 C28 E29 => Zbw (Zbc H25 (.ptr (some (H1.length, 0 + 2))) [.slice A26 N27 C28 E29]) fun H30 => Zce (Zaw H30 (.ptr (some (H1.length, 0))) 3) fun K31 => Zad K31 fun C32 Z33 => Zaz (some C32) fun S34 => Zad Z33 fun C35 Z36 => Zaz (some C35) fun S37 => Zad Z36 fun C38 Z39 => xSl (some C38) fun A40 N41 C42 E43 => Zbl Z39 (Zbw (Zbc H30 (.ptr (some (H0.length, 0))) [.str S34, .str S37, .slice A40 N41 C42 E43]) fun H44 => Zce (Zaw H44 (.ptr (some (H0.length, 0))) 3) fun K45 => Zad K45 fun C46 Z47 => Zaz (some C46) fun S48 => Zad Z47 fun C49 Z50 => Zaz (some C49) fun S51 => Zad Z50 fun C52 Z53 => xSl (some C52) fun A54 N55 C56 E57 => Zbl Z53 (Q (.agg [.str S48, .str S51, .slice A54 N55 C56 E57]) H44))))) : Zag pg Zky [.agg [.str x0x0, .str x0x1, .slice a0x2 n0x2 c0x2 e0x2]] h Q :=
  Zag.of_body kp (c := cod fn) (fn := fn) Go.Proofs.Tryz.func56 (by kernel_rfl) (by kernel_rfl) (Nat.le_of_ble_eq_true (by kernel_rfl))
    (cast (by kernel_rfl) ht)
end Znq
end Go.Sim

set_option maxRecDepth 100000
set_option linter.unusedVariables false
namespace Go.Sim
open Go Go.RowKit
namespace Zrr
noncomputable abbrev fn : Func := Go.Proofs.Tryz.f48
def kp : Zcf := []
noncomputable def C (p : List Nat) : Code := (cod fn).sub p
def KR (Q : QT) : KT := Zfc pg fn.results.toList Q
theorem call (x0x0 x0x1 : List Nat) (x1 : Int) (h : Zaa) (Q : QT) (ht :
 Zck (h ++ [.cells Zqf [.str x0x0, .str x0x1] false]) fun H0 => Zaz (Zae H0 (.ptr (some (h.length, 0 + 0)))) fun S1 => bcase (decide (((IntKind.wrap .i64 (x1 - (((List.length S1 : Nat) : Int)))) : Int) < 0)) (Q (.int .i64 (-1)) H0) (Zaz (Zae H0 (.ptr (some (h.length, 0 + 1)))) fun S2 => bcase (decide (((IntKind.wrap .i64 ((IntKind.wrap .i64 (x1 - (((List.length S1 : Nat) : Int)))) - (((List.length S2 : Nat) : Int)))) : Int) < 0)) (Q (.int .i64 (-1)) H0) (Q (.int .i64 (IntKind.wrap .i64 ((IntKind.wrap .i64 (x1 - (((List.length S1 : Nat) : Int)))) - (((List.length S2 : Nat) : Int))))) H0))) : Zag pg Znl [.agg [.str x0x0, .str x0x1], .int .i64 x1] h Q :=
  Zag.of_body kp (c := cod fn) (fn := fn) Go.Proofs.Tryz.func48 (by kernel_rfl) (by kernel_rfl) (Nat.le_of_ble_eq_true (by kernel_rfl))
    (cast (by kernel_rfl) ht)
end Zrr
namespace Zre
noncomputable abbrev fn : Func := Go.Proofs.Tryz.f60
def kp : Zcf := []
noncomputable def C (p : List Nat) : Code := (cod fn).sub p
def KR (Q : QT) : KT := Zfc pg fn.results.toList Q
theorem call (x0x0 x0x1 x1x0 x1x1 : List Nat) (h : Zaa) (Q : QT) (ht :
 Zck (h ++ [.cells Zbz [.str x0x0, .str x0x1] false]) fun H0 => Zck (H0 ++ [.cells Zbz [.str x1x0, .str x1x1] false]) fun H1 => Zaz (Zae H1 (.ptr (some (h.length, 0 + 0)))) fun S2 => Zaz (Zae H1 (.ptr (some (H0.length, 0 + 0)))) fun S3 => bcase (!(decide (S2 = S3))) (Q (.bool false) H1) (Zaz (Zae H1 (.ptr (some (h.length, 0 + 1)))) fun S4 => Zaz (Zae H1 (.ptr (some (H0.length, 0 + 1)))) fun S5 => bcase (!(decide (S4 = S5))) (Q (.bool false) H1) (Q (.bool true) H1))) : Zag pg Zne [.agg [.str x0x0, .str x0x1], .agg [.str x1x0, .str x1x1]] h Q :=
  Zag.of_body kp (c := cod fn) (fn := fn) Go.Proofs.Tryz.func60 (by kernel_rfl) (by kernel_rfl) (Nat.le_of_ble_eq_true (by kernel_rfl))
    (cast (by kernel_rfl) ht)
end Zre
namespace Zru
noncomputable abbrev fn : Func := Go.Proofs.Tryz.f55
def kp : Zcf := []
noncomputable def C (p : List Nat) : Code := (cod fn).sub p
def KR (Q : QT) : KT := Zfc pg fn.results.toList Q
theorem call (x0x0 x0x1 : List Nat) (h : Zaa) (Q : QT) (ht :
 Zck (h ++ [.cells Zqf [.str x0x0, .str x0x1] false]) fun H0 => Zck (H0 ++ [.cells Zbz [.str [], .str []] false]) fun H1 => Zck (H1 ++ [.cells Zbz [.str [], .str []] false]) fun H2 => Zaz (Zae H2 (.ptr (some (h.length, 0 + 0)))) fun S3 => Zbw (Zbc H2 (.ptr (some (H1.length, 0 + 0))) [.str S3]) fun H4 => Zaz (Zae H4 (.ptr (some (h.length, 0 + 1)))) fun S5 => Zbw (Zbc H4 (.ptr (some (H1.length, 0 + 1))) [.str S5]) fun H6 => Zce (Zaw H6 (.ptr (some (H1.length, 0))) 2) fun K7 => Zad K7 fun C8 Z9 => Zaz (some C8) fun S10 => Zad Z9 fun C11 Z12 => Zaz (some C11) fun S13 => Zbl Z12 (Zbw (Zbc H6 (.ptr (some (H0.length, 0))) [.str S10, .str S13]) fun H14 => Zce (Zaw H14 (.ptr (some (H0.length, 0))) 2) fun K15 => Zad K15 fun C16 Z17 => Zaz (some C16) fun S18 => Zad Z17 fun C19 Z20 => Zaz (some C19) fun S21 => Zbl Z20 (Q (.agg [.str S18, .str S21]) H14))) : Zag pg Zno [.agg [.str x0x0, .str x0x1]] h Q :=
  Zag.of_body kp (c := cod fn) (fn := fn) Go.Proofs.Tryz.func55 (by kernel_rfl) (by kernel_rfl) (Nat.le_of_ble_eq_true (by kernel_rfl))
    (cast (by kernel_rfl) ht)
end Zru
namespace Zhi
noncomputable abbrev fn : Func := Go.Proofs.Tryz.f28
def kp : Zcf := [(3000005, [1, 4]), (1000005, [0, 1, 5])]
noncomputable def C (p : List Nat) : Code := (cod fn).sub p
def KR (Q : QT) : KT := Zfc pg fn.results.toList Q
abbrev T5 := Pt → Nat → Nat → Bool → Int → Int → Zaa → Prop
def E5 (R5 : T5) (env : Env) (h : Zaa) : Prop := Zca 0 env fun v env => xSl (some v) fun a0 n0 c0 e0 => Zca 1 env fun v env => Zep .i64 v fun x1 => Zca 5 env fun v env => Zep .i64 v fun x5 => Zlf env (R5 a0 n0 c0 e0 x1 x5 h)
theorem Zjf {R5 : T5} {env : Env} {h : Zaa} (hi : E5 R5 env h) : ∃ a0, ∃ n0, ∃ c0, ∃ e0, ∃ x1, ∃ x5, env = [(0, .slice a0 n0 c0 e0), (1, .int .i64 x1), (5, .int .i64 x5)] ∧ R5 a0 n0 c0 e0 x1 x5 h := by
  unfold E5 at hi
  have hi0 := hi
  clear hi
  obtain ⟨_, _, rfl, hi1⟩ := Zac hi0
  obtain ⟨a0, n0, c0, e0, rfl, hi2⟩ := Zbi hi1
  obtain ⟨_, _, rfl, hi3⟩ := Zac hi2
  obtain ⟨x1, rfl, hi4⟩ := Zat hi3
  obtain ⟨_, _, rfl, hi5⟩ := Zac hi4
  obtain ⟨x5, rfl, hi6⟩ := Zat hi5
  obtain ⟨rfl, hi7⟩ := Zbq hi6
  have hi := hi7
  exact ⟨a0, n0, c0, e0, x1, x5, rfl, hi⟩
def K0 (Q : QT) : KT := andThen (fun env' h' => (match kp.find 4000010 with | some ks => Den pg fn.ntmps (C [1, 1, 1, 1]) (env'.keep ks) h' (KR Q) | none => den pg fn.ntmps kp (C [1, 1, 1, 1]) env' h' (KR Q))) (KR Q)
def K1 (Q : QT) : KT := Zct 0 (K0 Q)
def K2 (Q : QT) : KT := Zij kp 5 (K1 Q)
def K3 (Q : QT) (R5 : T5) : KT := rnd ((kp.find 1000005).getD []) (E5 R5) (K2 Q)
def L5 (Q : QT) (a0 : Pt) (n0 c0 : Nat) (e0 : Bool) (x1 x5 : Int) (h : Zaa) : Prop := Zes (Den pg fn.ntmps (C [1, 1, 1, 0, 1, 0, 0])) ((kp.find 1000005).getD []) (K2 Q) [(0, .slice a0 n0 c0 e0), (1, .int .i64 x1), (5, .int .i64 x5)] h
def A5x0 (Q : QT) (x1 : Int) (h : Zaa) : Prop := At (K1 Q) (.exit 0) [(1, .int .i64 x1), (4, .undef)] h
def L5t (Q : QT) (R5 : T5) (a0 : Pt) (n0 c0 : Nat) (e0 : Bool) (x1 x5 : Int) (h : Zaa) : Prop :=
 bcase (decide ((x5 : Int) < (((n0 : Nat) : Int)))) ((0 ≤ (x5 : Int) ∧ (x5 : Int) < (n0 : Nat)) ∧ (Zbf a0 fun I0 O1 => Zce (Zaw h (.ptr (some (I0, O1 + (Int.toNat x5) * 2))) 2) fun K2 => Zad K2 fun C3 Z4 => Zaz (some C3) fun S5 => Zad Z4 fun C6 Z7 => Zaz (some C6) fun S8 => Zbl Z7 (Zag pg Znl [.agg [.str S5, .str S8], .int .i64 x1] h fun V9 H10 =>
 Zem .i64 (some V9) fun X11 => bcase (decide ((X11 : Int) < 0)) (Q (.int .i64 (-1)) H10) (R5 a0 n0 c0 e0 X11 (IntKind.wrap .i64 (x5 + 1)) H10)))) (A5x0 Q x1 h)
theorem Zuc (Q : QT) (R5 : T5) (a0 : Pt) (n0 c0 : Nat) (e0 : Bool) (x1 x5 : Int) (h : Zaa) (ht : L5t Q R5 a0 n0 c0 e0 x1 x5 h) : Den pg fn.ntmps (C [1, 1, 1, 0, 1, 0, 0]) [(0, .slice a0 n0 c0 e0), (1, .int .i64 x1), (5, .int .i64 x5)] h (K3 Q R5) :=
  Zbe (kp := kp) (cast (by kernel_rfl) ht)
theorem L5ind (Q : QT) (a0 : Pt) (n0 c0 : Nat) (e0 : Bool) {G : Type} (J : G → Int → Int → Zaa → Prop) (m : G → Nat)
 (hr : ∀ (g : G) (x1 x5 : Int) (h : Zaa), J g x1 x5 h → ∀ (R5 : T5), (∀ g' (x1 x5 : Int) (h : Zaa), m g' < m g → J g' x1 x5 h → R5 a0 n0 c0 e0 x1 x5 h) → L5t Q R5 a0 n0 c0 e0 x1 x5 h)
 (g : G) (x1 x5 : Int) (h : Zaa) (hj : J g x1 x5 h) : L5 Q a0 n0 c0 e0 x1 x5 h := by
  refine Zes.inv2 (fun g => E5 fun a0' n0' c0' e0' x1 x5 h => a0 = a0' ∧ n0 = n0' ∧ c0 = c0' ∧ e0 = e0' ∧ J g x1 x5 h) (fun g => E5 fun a0' n0' c0' e0' x1 x5 h => a0 = a0' ∧ n0 = n0' ∧ c0 = c0' ∧ e0 = e0' ∧ ∃ g', m g' < m g ∧ J g' x1 x5 h) m ?_ ?_ g ⟨rfl, rfl, rfl, rfl, hj⟩
  · intro g env h hi
    obtain ⟨a0', n0', c0', e0', x1, x5, rfl, rfl, rfl, rfl, rfl, hj⟩ := Zjf hi
    exact Zuc Q _ a0 n0 c0 e0 x1 x5 h (hr g x1 x5 h hj (fun a0' n0' c0' e0' x1 x5 h => a0 = a0' ∧ n0 = n0' ∧ c0 = c0' ∧ e0 = e0' ∧ ∃ g', m g' < m g ∧ J g' x1 x5 h) fun g' x1 x5 h hlt hj => ⟨rfl, rfl, rfl, rfl, g', hlt, hj⟩)
  · intro g env h hi
    obtain ⟨a0', n0', c0', e0', x1, x5, rfl, rfl, rfl, rfl, rfl, g', hlt, hj⟩ := Zjf hi
    exact ⟨g', hlt, rfl, rfl, rfl, rfl, hj⟩
theorem A5x0i (Q : QT) (x1 : Int) (h : Zaa) (ht :
 Q (.int .i64 x1) h) : A5x0 Q x1 h :=
  At.mk (cast (by kernel_rfl) ht)
theorem call (a0 : Pt) (n0 c0 : Nat) (e0 : Bool) (x1 : Int) (h : Zaa) (Q : QT) (ht :
 bcase (decide (((IntKind.wrap .i64 (x1 - (((n0 : Nat) : Int)))) : Int) < 0)) (Q (.int .i64 (-1)) h) (L5 Q a0 n0 c0 e0 (IntKind.wrap .i64 (x1 - (((n0 : Nat) : Int)))) 0 h)) : Zag pg Zmc [.slice a0 n0 c0 e0, .int .i64 x1] h Q :=
  Zag.of_body kp (c := cod fn) (fn := fn) Go.Proofs.Tryz.func28 (by kernel_rfl) (by kernel_rfl) (Nat.le_of_ble_eq_true (by kernel_rfl))
    (cast (by kernel_rfl) ht)
end Zhi
namespace Zhj
noncomputable abbrev fn : Func := Go.Proofs.Tryz.f32
def kp : Zcf := [(3000003, [3]), (1000003, [0, 3, 4])]
noncomputable def C (p : List Nat) : Code := (cod fn).sub p
def KR (Q : QT) : KT := Zfc pg fn.results.toList Q
abbrev T3 := Pt → Nat → Nat → Bool → Pt → Nat → Nat → Bool → Int → Zaa → Prop
def E3 (R3 : T3) (env : Env) (h : Zaa) : Prop := Zca 0 env fun v env => xSl (some v) fun a0 n0 c0 e0 => Zca 3 env fun v env => xSl (some v) fun a3 n3 c3 e3 => Zca 4 env fun v env => Zep .i64 v fun x4 => Zlf env (R3 a0 n0 c0 e0 a3 n3 c3 e3 x4 h)
theorem Zey {R3 : T3} {env : Env} {h : Zaa} (hi : E3 R3 env h) : ∃ a0, ∃ n0, ∃ c0, ∃ e0, ∃ a3, ∃ n3, ∃ c3, ∃ e3, ∃ x4, env = [(0, .slice a0 n0 c0 e0), (3, .slice a3 n3 c3 e3), (4, .int .i64 x4)] ∧ R3 a0 n0 c0 e0 a3 n3 c3 e3 x4 h := by
  unfold E3 at hi
  have hi0 := hi
  clear hi
  obtain ⟨_, _, rfl, hi1⟩ := Zac hi0
  obtain ⟨a0, n0, c0, e0, rfl, hi2⟩ := Zbi hi1
  obtain ⟨_, _, rfl, hi3⟩ := Zac hi2
  obtain ⟨a3, n3, c3, e3, rfl, hi4⟩ := Zbi hi3
  obtain ⟨_, _, rfl, hi5⟩ := Zac hi4
  obtain ⟨x4, rfl, hi6⟩ := Zat hi5
  obtain ⟨rfl, hi7⟩ := Zbq hi6
  have hi := hi7
  exact ⟨a0, n0, c0, e0, a3, n3, c3, e3, x4, rfl, hi⟩
def K0 (Q : QT) : KT := andThen (fun env' h' => (match kp.find 4000006 with | some ks => Den pg fn.ntmps (C [1, 1, 1]) (env'.keep ks) h' (KR Q) | none => den pg fn.ntmps kp (C [1, 1, 1]) env' h' (KR Q))) (KR Q)
def K1 (Q : QT) : KT := Zct 0 (K0 Q)
def K2 (Q : QT) : KT := Zij kp 3 (K1 Q)
def K3 (Q : QT) (R3 : T3) : KT := rnd ((kp.find 1000003).getD []) (E3 R3) (K2 Q)
def L3 (Q : QT) (a0 : Pt) (n0 c0 : Nat) (e0 : Bool) (a3 : Pt) (n3 c3 : Nat) (e3 : Bool) (x4 : Int) (h : Zaa) : Prop := Zes (Den pg fn.ntmps (C [1, 1, 0, 1, 0, 0])) ((kp.find 1000003).getD []) (K2 Q) [(0, .slice a0 n0 c0 e0), (3, .slice a3 n3 c3 e3), (4, .int .i64 x4)] h
def Zpu (Q : QT) (a3 : Pt) (n3 c3 : Nat) (e3 : Bool) (h : Zaa) : Prop := At (K1 Q) (.exit 0) [(3, .slice a3 n3 c3 e3)] h
def L3t (Q : QT) (R3 : T3) (a0 : Pt) (n0 c0 : Nat) (e0 : Bool) (a3 : Pt) (n3 c3 : Nat) (e3 : Bool) (x4 : Int) (h : Zaa) : Prop :=
 bcase (decide ((x4 : Int) < (((n0 : Nat) : Int)))) ((0 ≤ (x4 : Int) ∧ (x4 : Int) < (n0 : Nat)) ∧ (Zbf a0 fun I1 O2 => Zce (Zaw h (.ptr (some (I1, O2 + (Int.toNat x4) * 2))) 2) fun K3 => Zad K3 fun C4 Z5 => Zaz (some C4) fun S6 => Zad Z5 fun C7 Z8 => Zaz (some C7) fun S9 => Zbl Z8 (Zag pg Zno [.agg [.str S6, .str S9]] h fun V10 H11 =>
 Zic V10 fun K12 => Zad K12 fun C13 Z14 => Zaz (some C13) fun S15 => Zad Z14 fun C16 Z17 => Zaz (some C16) fun S18 => Zbl Z17 ((0 ≤ (x4 : Int) ∧ (x4 : Int) < (n3 : Nat)) ∧ (Zbf a3 fun I19 O20 => Zbw (Zbc H11 (.ptr (some (I19, O20 + (Int.toNat x4) * 2))) [.str S15, .str S18]) fun H21 => R3 a0 n0 c0 e0 a3 n3 c3 e3 (IntKind.wrap .i64 (x4 + 1)) H21))))) (Zpu Q a3 n3 c3 e3 h)
theorem Zmg (Q : QT) (R3 : T3) (a0 : Pt) (n0 c0 : Nat) (e0 : Bool) (a3 : Pt) (n3 c3 : Nat) (e3 : Bool) (x4 : Int) (h : Zaa) (ht : L3t Q R3 a0 n0 c0 e0 a3 n3 c3 e3 x4 h) : Den pg fn.ntmps (C [1, 1, 0, 1, 0, 0]) [(0, .slice a0 n0 c0 e0), (3, .slice a3 n3 c3 e3), (4, .int .i64 x4)] h (K3 Q R3) :=
  Zbe (kp := kp) (cast (by kernel_rfl) ht)
theorem L3ind (Q : QT) (a0 : Pt) (n0 c0 : Nat) (e0 : Bool) (a3 : Pt) (n3 c3 : Nat) (e3 : Bool) {G : Type} (J : G → Int → Zaa → Prop) (m : G → Nat)
 (hr : ∀ (g : G) (x4 : Int) (h : Zaa), J g x4 h → ∀ (R3 : T3), (∀ g' (x4 : Int) (h : Zaa), m g' < m g → J g' x4 h → R3 a0 n0 c0 e0 a3 n3 c3 e3 x4 h) → L3t Q R3 a0 n0 c0 e0 a3 n3 c3 e3 x4 h)
 (g : G) (x4 : Int) (h : Zaa) (hj : J g x4 h) : L3 Q a0 n0 c0 e0 a3 n3 c3 e3 x4 h := by
  refine Zes.inv2 (fun g => E3 fun a0' n0' c0' e0' a3' n3' c3' e3' x4 h => a0 = a0' ∧ n0 = n0' ∧ c0 = c0' ∧ e0 = e0' ∧ a3 = a3' ∧ n3 = n3' ∧ c3 = c3' ∧ e3 = e3' ∧ J g x4 h) (fun g => E3 fun a0' n0' c0' e0' a3' n3' c3' e3' x4 h => a0 = a0' ∧ n0 = n0' ∧ c0 = c0' ∧ e0 = e0' ∧ a3 = a3' ∧ n3 = n3' ∧ c3 = c3' ∧ e3 = e3' ∧ ∃ g', m g' < m g ∧ J g' x4 h) m ?_ ?_ g ⟨rfl, rfl, rfl, rfl, rfl, rfl, rfl, rfl, hj⟩
  · intro g env h hi
    obtain ⟨a0', n0', c0', e0', a3', n3', c3', e3', x4, rfl, rfl, rfl, rfl, rfl, rfl, rfl, rfl, rfl, hj⟩ := Zey hi
    exact Zmg Q _ a0 n0 c0 e0 a3 n3 c3 e3 x4 h (hr g x4 h hj (fun a0' n0' c0' e0' a3' n3' c3' e3' x4 h => a0 = a0' ∧ n0 = n0' ∧ c0 = c0' ∧ e0 = e0' ∧ a3 = a3' ∧ n3 = n3' ∧ c3 = c3' ∧ e3 = e3' ∧ ∃ g', m g' < m g ∧ J g' x4 h) fun g' x4 h hlt hj => ⟨rfl, rfl, rfl, rfl, rfl, rfl, rfl, rfl, g', hlt, hj⟩)
  · intro g env h hi
    obtain ⟨a0', n0', c0', e0', a3', n3', c3', e3', x4, rfl, rfl, rfl, rfl, rfl, rfl, rfl, rfl, rfl, g', hlt, hj⟩ := Zey hi
    exact ⟨g', hlt, rfl, rfl, rfl, rfl, rfl, rfl, rfl, rfl, hj⟩
theorem A3x0i (Q : QT) (a3 : Pt) (n3 c3 : Nat) (e3 : Bool) (h : Zaa) (ht :
 Q (.slice a3 n3 c3 e3) h) : Zpu Q a3 n3 c3 e3 h :=
  At.mk (cast (by kernel_rfl) ht)
theorem call (a0 : Pt) (n0 c0 : Nat) (e0 : Bool) (h : Zaa) (Q : QT) (ht :
 IntKind.i64 = IntKind.i64 ∧ (IntKind.i64 = IntKind.i64 ∧ ((0 ≤ ((((n0 : Nat) : Int)) : Int) ∧ ((((n0 : Nat) : Int)) : Int) ≤ (((n0 : Nat) : Int)) ∧ ((((n0 : Nat) : Int)) : Int) * (((32 : Nat) : Int) + 1) ≤ 140737488355328) ∧ (Zck (h ++ [.cells Zbz (reps (Int.toNat ((((n0 : Nat) : Int)))) [.str [], .str []]) false]) fun H0 => L3 Q a0 n0 c0 e0 (some (h.length, 0)) (Int.toNat ((((n0 : Nat) : Int)))) (Int.toNat ((((n0 : Nat) : Int)))) true 0 H0)))) : Zag pg Zmd [.slice a0 n0 c0 e0] h Q :=
  Zag.of_body kp (c := cod fn) (fn := fn) Go.Proofs.Tryz.func32 (by kernel_rfl) (by kernel_rfl) (Nat.le_of_ble_eq_true (by kernel_rfl))
    (cast (by kernel_rfl) ht)
end Zhj
namespace Zhp
noncomputable abbrev fn : Func := Go.Proofs.Tryz.f36
def kp : Zcf := [(3000004, [4]), (1000004, [0, 1, 5]), (2000006, [26, 5, 0, 1])]
noncomputable def C (p : List Nat) : Code := (cod fn).sub p
def KR (Q : QT) : KT := Zfc pg fn.results.toList Q
abbrev T4 := Pt → Nat → Nat → Bool → Pt → Nat → Nat → Bool → Int → Zaa → Prop
def E4 (R4 : T4) (env : Env) (h : Zaa) : Prop := Zca 0 env fun v env => xSl (some v) fun a0 n0 c0 e0 => Zca 1 env fun v env => xSl (some v) fun a1 n1 c1 e1 => Zca 5 env fun v env => Zep .i64 v fun x5 => Zlf env (R4 a0 n0 c0 e0 a1 n1 c1 e1 x5 h)
theorem Zle {R4 : T4} {env : Env} {h : Zaa} (hi : E4 R4 env h) : ∃ a0, ∃ n0, ∃ c0, ∃ e0, ∃ a1, ∃ n1, ∃ c1, ∃ e1, ∃ x5, env = [(0, .slice a0 n0 c0 e0), (1, .slice a1 n1 c1 e1), (5, .int .i64 x5)] ∧ R4 a0 n0 c0 e0 a1 n1 c1 e1 x5 h := by
  unfold E4 at hi
  have hi0 := hi
  clear hi
  obtain ⟨_, _, rfl, hi1⟩ := Zac hi0
  obtain ⟨a0, n0, c0, e0, rfl, hi2⟩ := Zbi hi1
  obtain ⟨_, _, rfl, hi3⟩ := Zac hi2
  obtain ⟨a1, n1, c1, e1, rfl, hi4⟩ := Zbi hi3
  obtain ⟨_, _, rfl, hi5⟩ := Zac hi4
  obtain ⟨x5, rfl, hi6⟩ := Zat hi5
  obtain ⟨rfl, hi7⟩ := Zbq hi6
  have hi := hi7
  exact ⟨a0, n0, c0, e0, a1, n1, c1, e1, x5, rfl, hi⟩
def K0 (Q : QT) : KT := andThen (fun env' h' => (match kp.find 4000008 with | some ks => Den pg fn.ntmps (C [1, 1, 1]) (env'.keep ks) h' (KR Q) | none => den pg fn.ntmps kp (C [1, 1, 1]) env' h' (KR Q))) (KR Q)
def K1 (Q : QT) : KT := Zct 0 (K0 Q)
def K2 (Q : QT) : KT := Zij kp 4 (K1 Q)
def K3 (Q : QT) (R4 : T4) : KT := rnd ((kp.find 1000004).getD []) (E4 R4) (K2 Q)
def L4 (Q : QT) (a0 : Pt) (n0 c0 : Nat) (e0 : Bool) (a1 : Pt) (n1 c1 : Nat) (e1 : Bool) (x5 : Int) (h : Zaa) : Prop := Zes (Den pg fn.ntmps (C [1, 1, 0, 1, 0, 0])) ((kp.find 1000004).getD []) (K2 Q) [(0, .slice a0 n0 c0 e0), (1, .slice a1 n1 c1 e1), (5, .int .i64 x5)] h
def Ybe (Q : QT) (h : Zaa) : Prop := At (K1 Q) (.exit 0) [(4, .undef)] h
def L4t (Q : QT) (R4 : T4) (a0 : Pt) (n0 c0 : Nat) (e0 : Bool) (a1 : Pt) (n1 c1 : Nat) (e1 : Bool) (x5 : Int) (h : Zaa) : Prop :=
 bcase (decide ((x5 : Int) < (((n0 : Nat) : Int)))) ((0 ≤ (x5 : Int) ∧ (x5 : Int) < (n0 : Nat)) ∧ (Zbf a0 fun I0 O1 => (0 ≤ (x5 : Int) ∧ (x5 : Int) < (n1 : Nat)) ∧ (Zbf a1 fun I2 O3 => Zce (Zaw h (.ptr (some (I0, O1 + (Int.toNat x5) * 2))) 2) fun K4 => Zad K4 fun C5 Z6 => Zaz (some C5) fun S7 => Zad Z6 fun C8 Z9 => Zaz (some C8) fun S10 => Zbl Z9 (Zce (Zaw h (.ptr (some (I2, O3 + (Int.toNat x5) * 2))) 2) fun K11 => Zad K11 fun C12 Z13 => Zaz (some C12) fun S14 => Zad Z13 fun C15 Z16 => Zaz (some C15) fun S17 => Zbl Z16 ((Zaw h (.ptr (some (I0, O1 + (Int.toNat x5) * 2))) 2 = Zaw h (.ptr (some (I0, O1 + (Int.toNat x5) * 2))) 2) ∧ Zag pg Zne [.agg [.str S7, .str S10], .agg [.str S14, .str S17]] h fun V18 H19 =>
 Zbr (some V18) fun B20 => bcase (!B20) (Q (.bool false) H19) (R4 a0 n0 c0 e0 a1 n1 c1 e1 (IntKind.wrap .i64 (x5 + 1)) H19)))))) (Ybe Q h)
theorem Zwp (Q : QT) (R4 : T4) (a0 : Pt) (n0 c0 : Nat) (e0 : Bool) (a1 : Pt) (n1 c1 : Nat) (e1 : Bool) (x5 : Int) (h : Zaa) (ht : L4t Q R4 a0 n0 c0 e0 a1 n1 c1 e1 x5 h) : Den pg fn.ntmps (C [1, 1, 0, 1, 0, 0]) [(0, .slice a0 n0 c0 e0), (1, .slice a1 n1 c1 e1), (5, .int .i64 x5)] h (K3 Q R4) :=
  Zbe (kp := kp) (cast (by kernel_rfl) ht)
theorem L4ind (Q : QT) (a0 : Pt) (n0 c0 : Nat) (e0 : Bool) (a1 : Pt) (n1 c1 : Nat) (e1 : Bool) {G : Type} (J : G → Int → Zaa → Prop) (m : G → Nat)
 (hr : ∀ (g : G) (x5 : Int) (h : Zaa), J g x5 h → ∀ (R4 : T4), (∀ g' (x5 : Int) (h : Zaa), m g' < m g → J g' x5 h → R4 a0 n0 c0 e0 a1 n1 c1 e1 x5 h) → L4t Q R4 a0 n0 c0 e0 a1 n1 c1 e1 x5 h)
 (g : G) (x5 : Int) (h : Zaa) (hj : J g x5 h) : L4 Q a0 n0 c0 e0 a1 n1 c1 e1 x5 h := by
  refine Zes.inv2 (fun g => E4 fun a0' n0' c0' e0' a1' n1' c1' e1' x5 h => a0 = a0' ∧ n0 = n0' ∧ c0 = c0' ∧ e0 = e0' ∧ a1 = a1' ∧ n1 = n1' ∧ c1 = c1' ∧ e1 = e1' ∧ J g x5 h) (fun g => E4 fun a0' n0' c0' e0' a1' n1' c1' e1' x5 h => a0 = a0' ∧ n0 = n0' ∧ c0 = c0' ∧ e0 = e0' ∧ a1 = a1' ∧ n1 = n1' ∧ c1 = c1' ∧ e1 = e1' ∧ ∃ g', m g' < m g ∧ J g' x5 h) m ?_ ?_ g ⟨rfl, rfl, rfl, rfl, rfl, rfl, rfl, rfl, hj⟩
  · intro g env h hi
    obtain ⟨a0', n0', c0', e0', a1', n1', c1', e1', x5, rfl, rfl, rfl, rfl, rfl, rfl, rfl, rfl, rfl, hj⟩ := Zle hi
    exact Zwp Q _ a0 n0 c0 e0 a1 n1 c1 e1 x5 h (hr g x5 h hj (fun a0' n0' c0' e0' a1' n1' c1' e1' x5 h => a0 = a0' ∧ n0 = n0' ∧ c0 = c0' ∧ e0 = e0' ∧ a1 = a1' ∧ n1 = n1' ∧ c1 = c1' ∧ e1 = e1' ∧ ∃ g', m g' < m g ∧ J g' x5 h) fun g' x5 h hlt hj => ⟨rfl, rfl, rfl, rfl, rfl, rfl, rfl, rfl, g', hlt, hj⟩)
  · intro g env h hi
    obtain ⟨a0', n0', c0', e0', a1', n1', c1', e1', x5, rfl, rfl, rfl, rfl, rfl, rfl, rfl, rfl, rfl, g', hlt, hj⟩ := Zle hi
    exact ⟨g', hlt, rfl, rfl, rfl, rfl, rfl, rfl, rfl, rfl, hj⟩
theorem A4x0i (Q : QT) (h : Zaa) (ht :
 Q (.bool true) h) : Ybe Q h :=
  At.mk (cast (by kernel_rfl) ht)
theorem call (a0 : Pt) (n0 c0 : Nat) (e0 : Bool) (a1 : Pt) (n1 c1 : Nat) (e1 : Bool) (h : Zaa) (Q : QT) (ht :
 bcase (!((((n0 : Nat) : Int) : Int) == (((n1 : Nat) : Int)))) (Q (.bool false) h) (L4 Q a0 n0 c0 e0 a1 n1 c1 e1 0 h)) : Zag pg Zmo [.slice a0 n0 c0 e0, .slice a1 n1 c1 e1] h Q :=
  Zag.of_body kp (c := cod fn) (fn := fn) Go.Proofs.Tryz.func36 (by kernel_rfl) (by kernel_rfl) (Nat.le_of_ble_eq_true (by kernel_rfl))
    (cast (by kernel_rfl) ht)
end Zhp
end Go.Sim
