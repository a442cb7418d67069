/- A part of the proof of a statement of this seat: see the text that holds the theorem. No condition. -/
import Derived.Shelf.SlIter.Nil
import Derived.Ground.GgzProg
import Derived.Shelf.Strings.Builder1
import Derived.Shelf.Strings.Builder2
import Derived.Shelf.Strings.OnBuilder
import Derived.Shelf.Small.Bits
import Derived.Shelf.Strings.BuilderF
import Derived.Shelf.Strings.BuilderK
import Derived.Shelf.Strings.Builder2Cap
import Derived.Shelf.Strconv.Itoa0
import Derived.Shelf.Strings.Search1
import Derived.Shelf.Strings.Search2
import Derived.Shelf.Strings.Search3
import Derived.Shelf.LaysM
import Derived.Shelf.Strings.Shaped
import Derived.Shelf.Strings.Prefix
import Derived.Shelf.Strings.BuilderCap
import Derived.Ground.SlgmProg
import Derived.Shelf.SortM.Plain
import Derived.Shelf.SortM.SortNone
import Derived.Test.YtdglddliggejdaaProg
set_option linter.unusedVariables false
set_option linter.unusedSimpArgs false
set_option linter.all false
namespace Go.Proofs
open Go.Shelf
def Try.lays144_ren : Go.Shelf.Ren := ⟨fun | 144 => 138 | 143 => 158 | 219 => 166 | 217 => 180 | 225 => 181 | 224 => 182 | 267 => 183 | 266 => 190 | 314 => 191 | n => n, fun | 9 => 9 | 4 => 4 | 3 => 3 | 5 => 5 | 46 => 223 | 146 => 247 | 51 => 235 | n => n, fun | 1 => 0 | n => n⟩
theorem Try.lays144 : Go.Proofs.Lays.n144 Try.prog Try.lays144_ren := {
  mixed := by kernel_rfl
  f143 := Try.func158.trans (congrArg some (by kernel_rfl))
  f144 := Try.func138.trans (congrArg some (by kernel_rfl))
  f217 := Try.func180.trans (congrArg some (by kernel_rfl))
  f219 := Try.func166.trans (congrArg some (by kernel_rfl))
  f224 := Try.func182.trans (congrArg some (by kernel_rfl))
  f225 := Try.func181.trans (congrArg some (by kernel_rfl))
  f266 := Try.func190.trans (congrArg some (by kernel_rfl))
  f267 := Try.func183.trans (congrArg some (by kernel_rfl))
  f314 := Try.func191.trans (congrArg some (by kernel_rfl))
  t3 := Try.underlying3
  a3 := Try.isAgg3
  z3 := Try.sizeOf3
  v3 := Try.zeroValue3
  t4 := Try.underlying4
  a4 := Try.isAgg4
  z4 := Try.sizeOf4
  v4 := Try.zeroValue4
  t5 := Try.underlying5
  a5 := Try.isAgg5
  z5 := Try.sizeOf5
  v5 := Try.zeroValue5
  t9 := Try.underlying9
  a9 := Try.isAgg9
  z9 := Try.sizeOf9
  v9 := Try.zeroValue9
  t46 := Try.underlying223
  a46 := Try.isAgg223
  z46 := Try.sizeOf223
  v46 := Try.zeroValue223
  t51 := Try.underlying235
  a51 := Try.isAgg235
  z51 := Try.sizeOf235
  v51 := Try.zeroValue235
  t146 := Try.underlying247
  a146 := Try.isAgg247
  z146 := Try.sizeOf247
  v146 := Try.zeroValue247
  g1 := by kernel_rfl }
open Go.RowKit Go.Lib in
theorem Try.strings_Contains_one (s : ByteArray) (c : UInt8) (w : World) :
    Calls Try.prog 138 #[.string s, .string ⟨#[c]⟩] w fun e w' => e = .returned (.bool (decide (0 ≤ Lib.indexByte s.data.toList c))) ∧ w' = w := Any.strings_Contains_one Try.lays144 s c w
def Try.lays99_ren : Go.Shelf.Ren := ⟨fun | 99 => 144 | 206 => 159 | n => n, fun | 9 => 9 | 4 => 4 | 3 => 3 | n => n, fun | n => n⟩
theorem Try.lays99 : Go.Proofs.Lays.n99 Try.prog Try.lays99_ren := {
  mixed := by kernel_rfl
  f99 := Try.func144.trans (congrArg some (by kernel_rfl))
  f206 := Try.func159.trans (congrArg some (by kernel_rfl))
  t3 := Try.underlying3
  a3 := Try.isAgg3
  z3 := Try.sizeOf3
  v3 := Try.zeroValue3
  t4 := Try.underlying4
  a4 := Try.isAgg4
  z4 := Try.sizeOf4
  v4 := Try.zeroValue4
  t9 := Try.underlying9
  a9 := Try.isAgg9
  z9 := Try.sizeOf9
  v9 := Try.zeroValue9 }
open Go.RowKit Go.Lib in
theorem Try.strings_HasPrefix (s p : ByteArray) (w : World) :
    Calls Try.prog 144 #[.string s, .string p] w fun e w' => e = .returned (.bool (Lib.hasPrefix s.data.toList p.data.toList)) ∧ w' = w := Any.strings_HasPrefix Try.lays99 s p w
def Try.laysSlM6_f146_ren : Go.Shelf.Ren := ⟨fun | 6 => 146 | 8 => 162 | 9 => 161 | 19 => 176 | 20 => 177 | 21 => 167 | 22 => 168 | 23 => 169 | 24 => 170 | 25 => 171 | 26 => 172 | 27 => 173 | 28 => 174 | 29 => 175 | 36 => 184 | 31 => 185 | 32 => 186 | 37 => 187 | 38 => 188 | 39 => 189 | 41 => 192 | n => n, fun | 27 => 165 | 29 => 9 | 3 => 3 | 32 => 223 | 26 => 165 | 0 => 0 | 44 => 235 | 46 => 237 | 4 => 4 | 36 => 228 | 35 => 227 | 41 => 232 | 5 => 5 | 9 => 9 | 53 => 241 | 57 => 245 | 63 => 249 | 64 => 250 | n => n, fun | n => n⟩
theorem Try.laysSlM6_f146 : Go.Proofs.SlLaysM.n6 Try.prog Try.laysSlM6_f146_ren := {
  mixed := by kernel_rfl
  f6 := ⟨Try.f146.name, by decide, Try.func146.trans (congrArg some (by kernel_rfl))⟩
  f8 := Try.func162.trans (congrArg some (by kernel_rfl))
  f9 := ⟨Try.f161.name, by decide, Try.func161.trans (congrArg some (by kernel_rfl))⟩
  f19 := Try.func176.trans (congrArg some (by kernel_rfl))
  f20 := Try.func177.trans (congrArg some (by kernel_rfl))
  f21 := ⟨Try.f167.name, by decide, Try.func167.trans (congrArg some (by kernel_rfl))⟩
  f22 := ⟨Try.f168.name, by decide, Try.func168.trans (congrArg some (by kernel_rfl))⟩
  f23 := ⟨Try.f169.name, by decide, Try.func169.trans (congrArg some (by kernel_rfl))⟩
  f24 := ⟨Try.f170.name, by decide, Try.func170.trans (congrArg some (by kernel_rfl))⟩
  f25 := ⟨Try.f171.name, by decide, Try.func171.trans (congrArg some (by kernel_rfl))⟩
  f26 := ⟨Try.f172.name, by decide, Try.func172.trans (congrArg some (by kernel_rfl))⟩
  f27 := ⟨Try.f173.name, by decide, Try.func173.trans (congrArg some (by kernel_rfl))⟩
  f28 := ⟨Try.f174.name, by decide, Try.func174.trans (congrArg some (by kernel_rfl))⟩
  f29 := ⟨Try.f175.name, by decide, Try.func175.trans (congrArg some (by kernel_rfl))⟩
  f31 := Try.func185.trans (congrArg some (by kernel_rfl))
  f32 := Try.func186.trans (congrArg some (by kernel_rfl))
  f36 := ⟨Try.f184.name, by decide, Try.func184.trans (congrArg some (by kernel_rfl))⟩
  f37 := ⟨Try.f187.name, by decide, Try.func187.trans (congrArg some (by kernel_rfl))⟩
  f38 := ⟨Try.f188.name, by decide, Try.func188.trans (congrArg some (by kernel_rfl))⟩
  f39 := ⟨Try.f189.name, by decide, Try.func189.trans (congrArg some (by kernel_rfl))⟩
  f41 := ⟨Try.f192.name, by decide, Try.func192.trans (congrArg some (by kernel_rfl))⟩
  t0 := Try.underlying0
  a0 := Try.isAgg0
  z0 := Try.sizeOf0
  v0 := Try.zeroValue0
  t3 := Try.underlying3
  a3 := Try.isAgg3
  z3 := Try.sizeOf3
  v3 := Try.zeroValue3
  t4 := Try.underlying4
  a4 := Try.isAgg4
  z4 := Try.sizeOf4
  v4 := Try.zeroValue4
  t5 := Try.underlying5
  a5 := Try.isAgg5
  z5 := Try.sizeOf5
  v5 := Try.zeroValue5
  t9 := Try.underlying9
  a9 := Try.isAgg9
  z9 := Try.sizeOf9
  v9 := Try.zeroValue9
  t26 := Try.underlying165
  a26 := Try.isAgg165
  z26 := Try.sizeOf165
  v26 := Try.zeroValue165
  t27 := Try.underlying165
  a27 := Try.isAgg165
  z27 := Try.sizeOf165
  v27 := Try.zeroValue165
  t29 := Try.underlying9
  a29 := Try.isAgg9
  z29 := Try.sizeOf9
  v29 := Try.zeroValue9
  t32 := Try.underlying223
  a32 := Try.isAgg223
  z32 := Try.sizeOf223
  v32 := Try.zeroValue223
  t35 := Try.underlying227
  a35 := Try.isAgg227
  z35 := Try.sizeOf227
  v35 := Try.zeroValue227
  t36 := Try.underlying228
  a36 := Try.isAgg228
  z36 := Try.sizeOf228
  v36 := Try.zeroValue228
  t41 := Try.underlying232
  a41 := Try.isAgg232
  z41 := Try.sizeOf232
  v41 := Try.zeroValue232
  t44 := Try.underlying235
  a44 := Try.isAgg235
  z44 := Try.sizeOf235
  v44 := Try.zeroValue235
  t46 := Try.underlying237
  a46 := Try.isAgg237
  z46 := Try.sizeOf237
  v46 := Try.zeroValue237
  t53 := Try.underlying241
  a53 := Try.isAgg241
  z53 := Try.sizeOf241
  v53 := Try.zeroValue241
  t57 := Try.underlying245
  a57 := Try.isAgg245
  z57 := Try.sizeOf245
  v57 := Try.zeroValue245
  t63 := Try.underlying249
  a63 := Try.isAgg249
  z63 := Try.sizeOf249
  v63 := Try.zeroValue249
  t64 := Try.underlying250
  a64 := Try.isAgg250
  z64 := Try.sizeOf250
  v64 := Try.zeroValue250 }
open Go.Sort Go.RowKit in
theorem Try.slices_Sort_string (blk off cap : Nat) (ss : List (List UInt8)) (w : World) (hH : Holds encStr w blk off ss.toArray) (hblk : blk < w.heap.size) (hsz : ss.length < 4611686018427387904) :
    Calls Try.prog 146 #[.slice (some ⟨blk, off, none⟩) ss.length cap] w fun e w' =>
      e = .returned (.tuple #[]) ∧ ∃ n os, w' = grow (putRow encStr (Sort.ahead w n) blk off (ss.mergeSort fun x y => decide (x ≤ y)).toArray) os := AnyM.slices_Sort_string Try.laysSlM6_f146 blk off cap ss w hH hblk hsz
open Go.RowKit Go.Sort in
theorem Try.slices_Sort_string_none (p : Option Addr) (cap : Nat) (w : World) :
    Calls Try.prog 146 #[.slice p 0 cap] w fun e w' => e = .returned (.tuple #[]) ∧ w' = w := AnyM.slices_Sort_string_none Try.laysSlM6_f146 p cap w
def Try.keys106_ren : Go.Shelf.Ren := ⟨fun | 7 => 106 | 10 => 147 | n => n, fun | 23 => 89 | 26 => 9 | 3 => 9 | 28 => 168 | 0 => 0 | 27 => 167 | 33 => 54 | 4 => 4 | n => n, fun | n => n⟩
theorem Try.keys106 : Go.Proofs.SlLaysZ.n7 Try.prog Try.keys106_ren := {
  mixed := by kernel_rfl
  f7 := ⟨Try.f106.name, by decide, Try.func106.trans (congrArg some (by kernel_rfl))⟩
  f10 := ⟨Try.f147.name, by decide, Try.func147.trans (congrArg some (by kernel_rfl))⟩
  t0 := Try.underlying0
  a0 := Try.isAgg0
  z0 := Try.sizeOf0
  v0 := Try.zeroValue0
  t4 := Try.underlying4
  a4 := Try.isAgg4
  z4 := Try.sizeOf4
  v4 := Try.zeroValue4
  t23 := Try.underlying89
  a23 := Try.isAgg89
  z23 := Try.sizeOf89
  v23 := Try.zeroValue89
  t26 := Try.underlying9
  a26 := Try.isAgg9
  z26 := Try.sizeOf9
  v26 := Try.zeroValue9
  t27 := Try.underlying167
  a27 := Try.isAgg167
  z27 := Try.sizeOf167
  v27 := Try.zeroValue167
  t28 := Try.underlying168
  a28 := Try.isAgg168
  z28 := Try.sizeOf168
  v28 := Try.zeroValue168
  t33 := Try.underlying54
  a33 := Try.isAgg54
  z33 := Try.sizeOf54
  v33 := Try.zeroValue54 }
def Try.sorted105_ren : Go.Shelf.Ren := ⟨fun | 6 => 105 | 8 => 145 | 9 => 146 | 11 => 160 | 13 => 162 | 12 => 161 | 23 => 176 | 24 => 177 | 14 => 167 | 15 => 168 | 16 => 169 | 17 => 170 | 18 => 171 | 19 => 172 | 20 => 173 | 21 => 174 | 22 => 175 | 25 => 184 | 26 => 185 | 27 => 186 | 28 => 187 | 29 => 188 | 30 => 189 | 31 => 192 | n => n, fun | 26 => 9 | 28 => 168 | 24 => 165 | 0 => 0 | 3 => 3 | 37 => 223 | 48 => 235 | 50 => 237 | 4 => 4 | 40 => 228 | 39 => 227 | 45 => 232 | 5 => 5 | 9 => 9 | 51 => 241 | 55 => 245 | 57 => 249 | 58 => 250 | 33 => 54 | n => n, fun | n => n⟩
theorem Try.sorted105 : Go.Proofs.SlLaysZ.n6 Try.prog Try.sorted105_ren := {
  mixed := by kernel_rfl
  f6 := ⟨Try.f105.name, by decide, Try.func105.trans (congrArg some (by kernel_rfl))⟩
  f8 := ⟨Try.f145.name, by decide, Try.func145.trans (congrArg some (by kernel_rfl))⟩
  f11 := ⟨Try.f160.name, by decide, Try.func160.trans (congrArg some (by kernel_rfl))⟩
  t0 := Try.underlying0
  a0 := Try.isAgg0
  z0 := Try.sizeOf0
  v0 := Try.zeroValue0
  t24 := Try.underlying165
  a24 := Try.isAgg165
  z24 := Try.sizeOf165
  v24 := Try.zeroValue165
  t26 := Try.underlying9
  a26 := Try.isAgg9
  z26 := Try.sizeOf9
  v26 := Try.zeroValue9
  t28 := Try.underlying168
  a28 := Try.isAgg168
  z28 := Try.sizeOf168
  v28 := Try.zeroValue168
  i26 := by kernel_rfl }
end Go.Proofs
