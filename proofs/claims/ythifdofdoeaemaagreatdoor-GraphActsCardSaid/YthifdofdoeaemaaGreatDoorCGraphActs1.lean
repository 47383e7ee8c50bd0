-- Texts that the row GraphActs leans on, joined by wip/tools/mkclaim.py: Shelf, QRangeMem, QRangeStop, QAppendIn, IterLaid, HSeq, HAs, HPlain, HIx, HIxb, HName, HParse, HParsb, GModel, GOps, GHeap, GWalk, GFind, GPlace, GRoom, GTurn, GPut, GSoft, GMade, GPlus
import Derived.Test.YthifdofdoeaemaaGreatDoorCGraphActs0
import Derived.Shelf.Small.Utf8
import Derived.Shelf.Small.Bits
import Derived.Shelf.Small.Strs
import Derived.Shelf.Small.Wraps
import Derived.Shelf.Strconv.Itoa0
import Derived.Shelf.Strings.Search1
import Derived.Shelf.Strings.Search2
import Derived.Shelf.Strings.Search3
import Derived.Shelf.LaysM
import Derived.Shelf.Strings.Shaped
import Derived.Shelf.Sort.Plain
import Derived.Shelf.Strings.Prefix
import Derived.Shelf.Unicode.Decode
import Derived.Shelf.Strings.Runes
import Derived.Shelf.Strings.IndexAny
import Derived.Shelf.Strings.AsciiSet
import Derived.Shelf.Strings.IndexAnyAll
import Derived.Shelf.Unicode.DecodeSlow
import Derived.Shelf.Unicode.DecodeAny
import Derived.Ground.Names2Prog
import Derived.Shelf.Slices.SearchI
import Derived.Shelf.Slices.In.SortNone
import Derived.Test.YthifdofdoeaemaaGreatDoorProg
import Derived.RangeFuncNested
import Derived.RangeFuncBound
import Derived.RangeFuncCalls
import Derived.RangeFuncLeaves
import Derived.WalkKit
import Derived.OwnWalkIn
import Derived.Maps.AppendAt
import Derived.Shelf.SlIter.Nil
import Derived.Shelf.SlIterI.Nil
import Derived.Shelf.SortM.Plain
import Derived.Shelf.SortM.SortNone
import Derived.Ground.GgzProg
import Derived.Ground.SlgmProg
import Derived.Below
import Derived.Deep.Draws
import Derived.Deep.AppendLies
import Derived.OwnWalk
import Derived.Laws.BytesArg
import Derived.Laws.MakeOwn
import Derived.Laws.OwnMore
import Derived.Deep.OwnRows
import Derived.Tactics
import Derived.Lib.ConvBytes
import Derived.Laws.Slices
import Derived.KernelRfl
import Derived.RowKit3
import Derived.Deep.LoopGhost
import Derived.Deep.QuietTactic
import Derived.BigQuiet
import Derived.WideLaws
import Derived.Deep.DeepCutAuto
import Derived.Deep.CutBlock
import Derived.Deep.RegionHeld3
import Derived.Laws.Rows
import Derived.Lib.AppendStr
import Derived.ArgAppend
import Derived.Laws.IdiomCopy
import Derived.OrdersHeld
import Derived.Laws.BitsLemmas
import Derived.RowKit
import Derived.WalkSpells
import Derived.Sort.LoopGhostIn
import Derived.Sort.CutIn
import Derived.Shelf.Abstract
import Derived.Shelf.RegionOpen
import Derived.TacticsInMore
import Derived.LoopNIn
import Derived.LoopIn
import Derived.Lib.OthersKept
import Derived.Maps.Own
import Derived.Maps.OwnOps
import Derived.Maps.OwnSet
import Derived.Laws.Cover3
section
namespace Go.Proofs
open Go.Shelf
def Tryz.lays119_ren : Go.Shelf.Ren := ⟨fun | 119 => 156 | n => n, fun | 21 => 21 | 4 => 4 | n => n, fun | n => n⟩
theorem Tryz.lays119 : Go.Proofs.Lays.n119 Tryz.prog Tryz.lays119_ren := {
  mixed := by kernel_rfl
  f119 := Tryz.func156.trans (congrArg some (by kernel_rfl))
  t4 := Tryz.underlying4
  a4 := Tryz.isAgg4
  z4 := Tryz.sizeOf4
  v4 := Tryz.zeroValue4
  t21 := Tryz.underlying21
  a21 := Tryz.isAgg21
  z21 := Tryz.sizeOf21
  v21 := Tryz.zeroValue21 }
theorem Tryz.utf8_ValidRune (r : Int) (w : World) :
    Calls Tryz.prog 156 #[.int .i32 r] w fun e w' => e = .returned (.bool (Lib.validRune r)) ∧ w' = w := Any.utf8_ValidRune Tryz.lays119 r w
def Tryz.lays128_ren : Go.Shelf.Ren := ⟨fun | 128 => 106 | n => n, fun | 51 => 166 | 3 => 3 | 4 => 4 | 46 => 22 | 5 => 5 | 9 => 9 | n => n, fun | n => n⟩
def Tryz.lays125_ren : Go.Shelf.Ren := ⟨fun | 125 => 76 | 128 => 106 | 129 => 107 | n => n, fun | 46 => 22 | 3 => 3 | 51 => 166 | 53 => 168 | 4 => 4 | 5 => 5 | 9 => 9 | n => n, fun | n => n⟩
def Tryz.lays137_ren : Go.Shelf.Ren := ⟨fun | 137 => 155 | 217 => 162 | 266 => 164 | n => n, fun | 9 => 9 | 5 => 5 | 3 => 3 | n => n, fun | n => n⟩
theorem Tryz.lays137 : Go.Proofs.Lays.n137 Tryz.prog Tryz.lays137_ren := {
  mixed := by kernel_rfl
  f137 := Tryz.func155.trans (congrArg some (by kernel_rfl))
  f217 := Tryz.func162.trans (congrArg some (by kernel_rfl))
  f266 := Tryz.func164.trans (congrArg some (by kernel_rfl))
  t3 := Tryz.underlying3
  a3 := Tryz.isAgg3
  z3 := Tryz.sizeOf3
  v3 := Tryz.zeroValue3
  t5 := Tryz.underlying5
  a5 := Tryz.isAgg5
  z5 := Tryz.sizeOf5
  v5 := Tryz.zeroValue5
  t9 := Tryz.underlying9
  a9 := Tryz.isAgg9
  z9 := Tryz.sizeOf9
  v9 := Tryz.zeroValue9 }
open Go.RowKit in
theorem Tryz.strings_IndexByte (s : ByteArray) (c : Int) (w : World) :
    Calls Tryz.prog 155 #[.string s, .int .u8 c] w fun e w' => e = .returned (.int .i64 (Lib.indexByte s.data.toList c.toNat.toUInt8)) ∧ w' = w := Any.strings_IndexByte Tryz.lays137 s c w
def Tryz.lays215_ren : Go.Shelf.Ren := ⟨fun | 215 => 126 | n => n, fun | 3 => 3 | 4 => 4 | n => n, fun | n => n⟩
def Tryz.lays129_ren : Go.Shelf.Ren := ⟨fun | 129 => 107 | n => n, fun | 53 => 168 | 3 => 3 | 4 => 4 | 46 => 22 | 5 => 5 | 9 => 9 | n => n, fun | n => n⟩
def Tryz.lays217_ren : Go.Shelf.Ren := ⟨fun | 217 => 162 | 266 => 164 | n => n, fun | 9 => 9 | 5 => 5 | 3 => 3 | n => n, fun | n => n⟩
def Tryz.lays224_ren : Go.Shelf.Ren := ⟨fun | 224 => 157 | n => n, fun | 3 => 3 | n => n, fun | n => n⟩
def Tryz.lays314_ren : Go.Shelf.Ren := ⟨fun | 314 => 165 | n => n, fun | 9 => 9 | 51 => 166 | 3 => 3 | 4 => 4 | 5 => 5 | 46 => 22 | n => n, fun | n => n⟩
def Tryz.lays267_ren : Go.Shelf.Ren := ⟨fun | 267 => 163 | 314 => 165 | n => n, fun | 9 => 9 | 3 => 3 | 146 => 232 | 51 => 166 | 4 => 4 | 5 => 5 | 46 => 22 | n => n, fun | n => n⟩
def Tryz.lays219_ren : Go.Shelf.Ren := ⟨fun | 219 => 160 | 217 => 162 | 225 => 158 | 224 => 157 | 267 => 163 | 266 => 164 | 314 => 165 | n => n, fun | 9 => 9 | 3 => 3 | 4 => 4 | 5 => 5 | 46 => 22 | 146 => 232 | 51 => 166 | n => n, fun | 1 => 1 | n => n⟩
def Tryz.lays143_ren : Go.Shelf.Ren := ⟨fun | 143 => 150 | 219 => 160 | 217 => 162 | 225 => 158 | 224 => 157 | 267 => 163 | 266 => 164 | 314 => 165 | n => n, fun | 9 => 9 | 3 => 3 | 4 => 4 | 5 => 5 | 46 => 22 | 146 => 232 | 51 => 166 | n => n, fun | 1 => 1 | n => n⟩
theorem Tryz.lays143 : Go.Proofs.Lays.n143 Tryz.prog Tryz.lays143_ren := {
  mixed := by kernel_rfl
  f143 := Tryz.func150.trans (congrArg some (by kernel_rfl))
  f217 := Tryz.func162.trans (congrArg some (by kernel_rfl))
  f219 := Tryz.func160.trans (congrArg some (by kernel_rfl))
  f224 := Tryz.func157.trans (congrArg some (by kernel_rfl))
  f225 := Tryz.func158.trans (congrArg some (by kernel_rfl))
  f266 := Tryz.func164.trans (congrArg some (by kernel_rfl))
  f267 := Tryz.func163.trans (congrArg some (by kernel_rfl))
  f314 := Tryz.func165.trans (congrArg some (by kernel_rfl))
  t3 := Tryz.underlying3
  a3 := Tryz.isAgg3
  z3 := Tryz.sizeOf3
  v3 := Tryz.zeroValue3
  t4 := Tryz.underlying4
  a4 := Tryz.isAgg4
  z4 := Tryz.sizeOf4
  v4 := Tryz.zeroValue4
  t5 := Tryz.underlying5
  a5 := Tryz.isAgg5
  z5 := Tryz.sizeOf5
  v5 := Tryz.zeroValue5
  t9 := Tryz.underlying9
  a9 := Tryz.isAgg9
  z9 := Tryz.sizeOf9
  v9 := Tryz.zeroValue9
  t46 := Tryz.underlying22
  a46 := Tryz.isAgg22
  z46 := Tryz.sizeOf22
  v46 := Tryz.zeroValue22
  t51 := Tryz.underlying166
  a51 := Tryz.isAgg166
  z51 := Tryz.sizeOf166
  v51 := Tryz.zeroValue166
  t146 := Tryz.underlying232
  a146 := Tryz.isAgg232
  z146 := Tryz.sizeOf232
  v146 := Tryz.zeroValue232
  g1 := by kernel_rfl }
open Go.RowKit Go.Lib in
theorem Tryz.strings_Index_one (s : ByteArray) (c : UInt8) (w : World) :
    Calls Tryz.prog 150 #[.string s, .string ⟨#[c]⟩] w fun e w' => e = .returned (.int .i64 (Lib.indexByte s.data.toList c)) ∧ w' = w := Any.strings_Index_one Tryz.lays143 s c w
def Tryz.laysM219_ren : Go.Shelf.Ren := ⟨fun | 219 => 160 | 217 => 162 | 225 => 158 | 224 => 157 | 267 => 163 | 266 => 164 | 314 => 165 | n => n, fun | 9 => 9 | 3 => 3 | 4 => 4 | 5 => 5 | 46 => 22 | 146 => 232 | 51 => 166 | n => n, fun | 1 => 1 | n => n⟩
def Tryz.laysM143_ren : Go.Shelf.Ren := ⟨fun | 143 => 150 | 219 => 160 | 217 => 162 | 225 => 158 | 224 => 157 | 267 => 163 | 266 => 164 | 314 => 165 | n => n, fun | 9 => 9 | 3 => 3 | 4 => 4 | 5 => 5 | 46 => 22 | 146 => 232 | 51 => 166 | n => n, fun | 1 => 1 | n => n⟩
def Tryz.lays189_ren : Go.Shelf.Ren := ⟨fun | 189 => 46 | 125 => 76 | 257 => 75 | 128 => 106 | 129 => 107 | 294 => 97 | 295 => 98 | 296 => 99 | 297 => 100 | 298 => 101 | 299 => 102 | 216 => 103 | 300 => 104 | 301 => 105 | 328 => 121 | 329 => 122 | 330 => 123 | 331 => 124 | 332 => 125 | 215 => 126 | 343 => 134 | n => n, fun | 28 => 32 | 3 => 3 | 46 => 22 | 0 => 0 | 51 => 166 | 53 => 168 | 4 => 4 | 183 => 158 | 182 => 157 | 131 => 163 | 5 => 5 | 9 => 9 | 218 => 185 | 222 => 84 | 228 => 207 | 229 => 113 | n => n, fun | n => n⟩
theorem Tryz.lays189 : Go.Proofs.Lays.n189 Tryz.prog Tryz.lays189_ren := {
  mixed := by kernel_rfl
  f125 := Tryz.func76.trans (congrArg some (by kernel_rfl))
  f128 := Tryz.func106.trans (congrArg some (by kernel_rfl))
  f129 := Tryz.func107.trans (congrArg some (by kernel_rfl))
  f189 := Tryz.func46.trans (congrArg some (by kernel_rfl))
  f215 := Tryz.func126.trans (congrArg some (by kernel_rfl))
  f216 := Tryz.func103.trans (congrArg some (by kernel_rfl))
  f257 := Tryz.func75.trans (congrArg some (by kernel_rfl))
  f294 := Tryz.func97.trans (congrArg some (by kernel_rfl))
  f295 := Tryz.func98.trans (congrArg some (by kernel_rfl))
  f296 := Tryz.func99.trans (congrArg some (by kernel_rfl))
  f297 := Tryz.func100.trans (congrArg some (by kernel_rfl))
  f298 := Tryz.func101.trans (congrArg some (by kernel_rfl))
  f299 := Tryz.func102.trans (congrArg some (by kernel_rfl))
  f300 := Tryz.func104.trans (congrArg some (by kernel_rfl))
  f301 := Tryz.func105.trans (congrArg some (by kernel_rfl))
  f328 := Tryz.func121.trans (congrArg some (by kernel_rfl))
  f329 := Tryz.func122.trans (congrArg some (by kernel_rfl))
  f330 := Tryz.func123.trans (congrArg some (by kernel_rfl))
  f331 := Tryz.func124.trans (congrArg some (by kernel_rfl))
  f332 := Tryz.func125.trans (congrArg some (by kernel_rfl))
  f343 := Tryz.func134.trans (congrArg some (by kernel_rfl))
  t0 := Tryz.underlying0
  a0 := Tryz.isAgg0
  z0 := Tryz.sizeOf0
  v0 := Tryz.zeroValue0
  t3 := Tryz.underlying3
  a3 := Tryz.isAgg3
  z3 := Tryz.sizeOf3
  v3 := Tryz.zeroValue3
  t4 := Tryz.underlying4
  a4 := Tryz.isAgg4
  z4 := Tryz.sizeOf4
  v4 := Tryz.zeroValue4
  t5 := Tryz.underlying5
  a5 := Tryz.isAgg5
  z5 := Tryz.sizeOf5
  v5 := Tryz.zeroValue5
  t9 := Tryz.underlying9
  a9 := Tryz.isAgg9
  z9 := Tryz.sizeOf9
  v9 := Tryz.zeroValue9
  t28 := Tryz.underlying32
  a28 := Tryz.isAgg32
  z28 := Tryz.sizeOf32
  v28 := Tryz.zeroValue32
  t46 := Tryz.underlying22
  a46 := Tryz.isAgg22
  z46 := Tryz.sizeOf22
  v46 := Tryz.zeroValue22
  t51 := Tryz.underlying166
  a51 := Tryz.isAgg166
  z51 := Tryz.sizeOf166
  v51 := Tryz.zeroValue166
  t53 := Tryz.underlying168
  a53 := Tryz.isAgg168
  z53 := Tryz.sizeOf168
  v53 := Tryz.zeroValue168
  t131 := Tryz.underlying163
  a131 := Tryz.isAgg163
  z131 := Tryz.sizeOf163
  v131 := Tryz.zeroValue163
  t182 := Tryz.underlying157
  a182 := Tryz.isAgg157
  z182 := Tryz.sizeOf157
  v182 := Tryz.zeroValue157
  t183 := Tryz.underlying158
  a183 := Tryz.isAgg158
  z183 := Tryz.sizeOf158
  v183 := Tryz.zeroValue158
  t218 := Tryz.underlying185
  a218 := Tryz.isAgg185
  z218 := Tryz.sizeOf185
  v218 := Tryz.zeroValue185
  t222 := Tryz.underlying84
  a222 := Tryz.isAgg84
  z222 := Tryz.sizeOf84
  v222 := Tryz.zeroValue84
  t228 := Tryz.underlying207
  a228 := Tryz.isAgg207
  z228 := Tryz.sizeOf207
  v228 := Tryz.zeroValue207
  t229 := Tryz.underlying113
  a229 := Tryz.isAgg113
  z229 := Tryz.sizeOf113
  v229 := Tryz.zeroValue113 }
open Go.Sort Go.RowKit in
theorem Tryz.slices_Sort_int (blk off cap : Nat) (zs : List Int) (w : World) (hH : Holds (Value.int .i64) w blk off zs.toArray) (hblk : blk < w.heap.size) (hsz : zs.length < 4611686018427387904) :
    Calls Tryz.prog 46 #[.slice (some ⟨blk, off, none⟩) zs.length cap] w fun e w' =>
      e = .returned (.tuple #[]) ∧ ∃ n os, w' = grow (putRow (Value.int .i64) (Sort.ahead w n) blk off (zs.mergeSort fun x y => decide (x ≤ y)).toArray) os := Any.slices_Sort_int Tryz.lays189 blk off cap zs w hH hblk hsz
def Tryz.lays190_ren : Go.Shelf.Ren := ⟨fun | 190 => 109 | 125 => 76 | 258 => 128 | 128 => 106 | 129 => 107 | 302 => 135 | 303 => 136 | 304 => 137 | 305 => 138 | 306 => 139 | 307 => 140 | 308 => 141 | 309 => 142 | 310 => 143 | 333 => 151 | 329 => 122 | 330 => 123 | 334 => 152 | 335 => 153 | 336 => 154 | 344 => 161 | n => n, fun | 31 => 77 | 9 => 9 | 3 => 3 | 46 => 22 | 0 => 0 | 51 => 166 | 53 => 168 | 4 => 4 | 183 => 158 | 182 => 157 | 131 => 163 | 5 => 5 | 218 => 185 | 222 => 84 | 228 => 207 | 229 => 113 | n => n, fun | n => n⟩
theorem Tryz.lays190 : Go.Proofs.Lays.n190 Tryz.prog Tryz.lays190_ren := {
  mixed := by kernel_rfl
  f125 := Tryz.func76.trans (congrArg some (by kernel_rfl))
  f128 := Tryz.func106.trans (congrArg some (by kernel_rfl))
  f129 := Tryz.func107.trans (congrArg some (by kernel_rfl))
  f190 := Tryz.func109.trans (congrArg some (by kernel_rfl))
  f258 := Tryz.func128.trans (congrArg some (by kernel_rfl))
  f302 := Tryz.func135.trans (congrArg some (by kernel_rfl))
  f303 := Tryz.func136.trans (congrArg some (by kernel_rfl))
  f304 := Tryz.func137.trans (congrArg some (by kernel_rfl))
  f305 := Tryz.func138.trans (congrArg some (by kernel_rfl))
  f306 := Tryz.func139.trans (congrArg some (by kernel_rfl))
  f307 := Tryz.func140.trans (congrArg some (by kernel_rfl))
  f308 := Tryz.func141.trans (congrArg some (by kernel_rfl))
  f309 := Tryz.func142.trans (congrArg some (by kernel_rfl))
  f310 := Tryz.func143.trans (congrArg some (by kernel_rfl))
  f329 := Tryz.func122.trans (congrArg some (by kernel_rfl))
  f330 := Tryz.func123.trans (congrArg some (by kernel_rfl))
  f333 := Tryz.func151.trans (congrArg some (by kernel_rfl))
  f334 := Tryz.func152.trans (congrArg some (by kernel_rfl))
  f335 := Tryz.func153.trans (congrArg some (by kernel_rfl))
  f336 := Tryz.func154.trans (congrArg some (by kernel_rfl))
  f344 := Tryz.func161.trans (congrArg some (by kernel_rfl))
  t0 := Tryz.underlying0
  a0 := Tryz.isAgg0
  z0 := Tryz.sizeOf0
  v0 := Tryz.zeroValue0
  t3 := Tryz.underlying3
  a3 := Tryz.isAgg3
  z3 := Tryz.sizeOf3
  v3 := Tryz.zeroValue3
  t4 := Tryz.underlying4
  a4 := Tryz.isAgg4
  z4 := Tryz.sizeOf4
  v4 := Tryz.zeroValue4
  t5 := Tryz.underlying5
  a5 := Tryz.isAgg5
  z5 := Tryz.sizeOf5
  v5 := Tryz.zeroValue5
  t9 := Tryz.underlying9
  a9 := Tryz.isAgg9
  z9 := Tryz.sizeOf9
  v9 := Tryz.zeroValue9
  t31 := Tryz.underlying77
  a31 := Tryz.isAgg77
  z31 := Tryz.sizeOf77
  v31 := Tryz.zeroValue77
  t46 := Tryz.underlying22
  a46 := Tryz.isAgg22
  z46 := Tryz.sizeOf22
  v46 := Tryz.zeroValue22
  t51 := Tryz.underlying166
  a51 := Tryz.isAgg166
  z51 := Tryz.sizeOf166
  v51 := Tryz.zeroValue166
  t53 := Tryz.underlying168
  a53 := Tryz.isAgg168
  z53 := Tryz.sizeOf168
  v53 := Tryz.zeroValue168
  t131 := Tryz.underlying163
  a131 := Tryz.isAgg163
  z131 := Tryz.sizeOf163
  v131 := Tryz.zeroValue163
  t182 := Tryz.underlying157
  a182 := Tryz.isAgg157
  z182 := Tryz.sizeOf157
  v182 := Tryz.zeroValue157
  t183 := Tryz.underlying158
  a183 := Tryz.isAgg158
  z183 := Tryz.sizeOf158
  v183 := Tryz.zeroValue158
  t218 := Tryz.underlying185
  a218 := Tryz.isAgg185
  z218 := Tryz.sizeOf185
  v218 := Tryz.zeroValue185
  t222 := Tryz.underlying84
  a222 := Tryz.isAgg84
  z222 := Tryz.sizeOf84
  v222 := Tryz.zeroValue84
  t228 := Tryz.underlying207
  a228 := Tryz.isAgg207
  z228 := Tryz.sizeOf207
  v228 := Tryz.zeroValue207
  t229 := Tryz.underlying113
  a229 := Tryz.isAgg113
  z229 := Tryz.sizeOf113
  v229 := Tryz.zeroValue113 }
open Go.Sort Go.RowKit in
theorem Tryz.slices_Sort_string (blk off cap : Nat) (ss : List (List UInt8)) (w : World) (hH : Holds encStr w blk off ss.toArray) (hblk : blk < w.heap.size) (hsz : ss.length < 4611686018427387904) :
    Calls Tryz.prog 109 #[.slice (some ⟨blk, off, none⟩) ss.length cap] w fun e w' =>
      e = .returned (.tuple #[]) ∧ ∃ n os, w' = grow (putRow encStr (Sort.ahead w n) blk off (ss.mergeSort fun x y => decide (x ≤ y)).toArray) os := Any.slices_Sort_string Tryz.lays190 blk off cap ss w hH hblk hsz
def Tryz.lays206_ren : Go.Shelf.Ren := ⟨fun | 206 => 115 | n => n, fun | 9 => 9 | 4 => 4 | 3 => 3 | n => n, fun | n => n⟩
def Tryz.lays99_ren : Go.Shelf.Ren := ⟨fun | 99 => 94 | 206 => 115 | n => n, fun | 9 => 9 | 4 => 4 | 3 => 3 | n => n, fun | n => n⟩
theorem Tryz.lays99 : Go.Proofs.Lays.n99 Tryz.prog Tryz.lays99_ren := {
  mixed := by kernel_rfl
  f99 := Tryz.func94.trans (congrArg some (by kernel_rfl))
  f206 := Tryz.func115.trans (congrArg some (by kernel_rfl))
  t3 := Tryz.underlying3
  a3 := Tryz.isAgg3
  z3 := Tryz.sizeOf3
  v3 := Tryz.zeroValue3
  t4 := Tryz.underlying4
  a4 := Tryz.isAgg4
  z4 := Tryz.sizeOf4
  v4 := Tryz.zeroValue4
  t9 := Tryz.underlying9
  a9 := Tryz.isAgg9
  z9 := Tryz.sizeOf9
  v9 := Tryz.zeroValue9 }
open Go.RowKit Go.Lib in
theorem Tryz.strings_HasPrefix (s p : ByteArray) (w : World) :
    Calls Tryz.prog 94 #[.string s, .string p] w fun e w' => e = .returned (.bool (Lib.hasPrefix s.data.toList p.data.toList)) ∧ w' = w := Any.strings_HasPrefix Tryz.lays99 s p w
def Tryz.lays197_ren : Go.Shelf.Ren := ⟨fun | 197 => 149 | 260 => 159 | n => n, fun | 9 => 9 | 21 => 21 | 3 => 3 | 4 => 4 | 5 => 5 | 105 => 220 | 119 => 228 | 0 => 0 | 46 => 22 | 139 => 231 | 138 => 230 | n => n, fun | 3 => 2 | 4 => 3 | n => n⟩
def Tryz.lays152_ren : Go.Shelf.Ren := ⟨fun | 152 => 144 | 137 => 155 | 119 => 156 | 224 => 157 | 225 => 158 | 217 => 162 | 266 => 164 | n => n, fun | 9 => 9 | 21 => 21 | 3 => 3 | 4 => 4 | 5 => 5 | 0 => 0 | 46 => 22 | n => n, fun | n => n⟩
theorem Tryz.lays152 : Go.Proofs.Lays.n152 Tryz.prog Tryz.lays152_ren := {
  mixed := by kernel_rfl
  f119 := Tryz.func156.trans (congrArg some (by kernel_rfl))
  f137 := Tryz.func155.trans (congrArg some (by kernel_rfl))
  f152 := Tryz.func144.trans (congrArg some (by kernel_rfl))
  f217 := Tryz.func162.trans (congrArg some (by kernel_rfl))
  f224 := Tryz.func157.trans (congrArg some (by kernel_rfl))
  f225 := Tryz.func158.trans (congrArg some (by kernel_rfl))
  f266 := Tryz.func164.trans (congrArg some (by kernel_rfl))
  t0 := Tryz.underlying0
  a0 := Tryz.isAgg0
  z0 := Tryz.sizeOf0
  v0 := Tryz.zeroValue0
  t3 := Tryz.underlying3
  a3 := Tryz.isAgg3
  z3 := Tryz.sizeOf3
  v3 := Tryz.zeroValue3
  t4 := Tryz.underlying4
  a4 := Tryz.isAgg4
  z4 := Tryz.sizeOf4
  v4 := Tryz.zeroValue4
  t5 := Tryz.underlying5
  a5 := Tryz.isAgg5
  z5 := Tryz.sizeOf5
  v5 := Tryz.zeroValue5
  t9 := Tryz.underlying9
  a9 := Tryz.isAgg9
  z9 := Tryz.sizeOf9
  v9 := Tryz.zeroValue9
  t21 := Tryz.underlying21
  a21 := Tryz.isAgg21
  z21 := Tryz.sizeOf21
  v21 := Tryz.zeroValue21
  t46 := Tryz.underlying22
  a46 := Tryz.isAgg22
  z46 := Tryz.sizeOf22
  v46 := Tryz.zeroValue22 }
open Go.RowKit Go.Lib in
theorem Tryz.strings_IndexRune_ascii (s : ByteArray) (r : Int) (w : World) (h0 : 0 ≤ r) (h1 : r < 128) :
    Calls Tryz.prog 144 #[.string s, .int .i32 r] w fun e w' => e = .returned (.int .i64 (Lib.indexByte s.data.toList r.toNat.toUInt8)) ∧ w' = w := Any.strings_IndexRune_ascii Tryz.lays152 s r w h0 h1
def Tryz.lays226_ren : Go.Shelf.Ren := ⟨fun | 226 => 145 | n => n, fun | 3 => 3 | 4 => 4 | n => n, fun | n => n⟩
theorem Tryz.lays226 : Go.Proofs.Lays.n226 Tryz.prog Tryz.lays226_ren := {
  mixed := by kernel_rfl
  f226 := Tryz.func145.trans (congrArg some (by kernel_rfl))
  t3 := Tryz.underlying3
  a3 := Tryz.isAgg3
  z3 := Tryz.sizeOf3
  v3 := Tryz.zeroValue3
  t4 := Tryz.underlying4
  a4 := Tryz.isAgg4
  z4 := Tryz.sizeOf4
  v4 := Tryz.zeroValue4 }
open Go.RowKit Go.Lib in
theorem Tryz.strings_shouldUseASCIISet (n : Int) (w : World) :
    Calls Tryz.prog 145 #[.int .i64 n] w fun e w' => e = .returned (.bool (decide (8 < n))) ∧ w' = w := Any.strings_shouldUseASCIISet Tryz.lays226 n w
def Tryz.lays153_ren : Go.Shelf.Ren := ⟨fun | 153 => 129 | 152 => 144 | 226 => 145 | 227 => 146 | 228 => 147 | 137 => 155 | 119 => 156 | 224 => 157 | 225 => 158 | 217 => 162 | 266 => 164 | n => n, fun | 9 => 9 | 3 => 3 | 4 => 4 | 5 => 5 | 21 => 21 | 117 => 217 | 116 => 216 | 0 => 0 | 46 => 22 | 124 => 226 | n => n, fun | n => n⟩
theorem Tryz.lays153 : Go.Proofs.Lays.n153 Tryz.prog Tryz.lays153_ren := {
  mixed := by kernel_rfl
  f119 := Tryz.func156.trans (congrArg some (by kernel_rfl))
  f137 := Tryz.func155.trans (congrArg some (by kernel_rfl))
  f152 := Tryz.func144.trans (congrArg some (by kernel_rfl))
  f153 := Tryz.func129.trans (congrArg some (by kernel_rfl))
  f217 := Tryz.func162.trans (congrArg some (by kernel_rfl))
  f224 := Tryz.func157.trans (congrArg some (by kernel_rfl))
  f225 := Tryz.func158.trans (congrArg some (by kernel_rfl))
  f226 := Tryz.func145.trans (congrArg some (by kernel_rfl))
  f227 := Tryz.func146.trans (congrArg some (by kernel_rfl))
  f228 := Tryz.func147.trans (congrArg some (by kernel_rfl))
  f266 := Tryz.func164.trans (congrArg some (by kernel_rfl))
  t0 := Tryz.underlying0
  a0 := Tryz.isAgg0
  z0 := Tryz.sizeOf0
  v0 := Tryz.zeroValue0
  t3 := Tryz.underlying3
  a3 := Tryz.isAgg3
  z3 := Tryz.sizeOf3
  v3 := Tryz.zeroValue3
  t4 := Tryz.underlying4
  a4 := Tryz.isAgg4
  z4 := Tryz.sizeOf4
  v4 := Tryz.zeroValue4
  t5 := Tryz.underlying5
  a5 := Tryz.isAgg5
  z5 := Tryz.sizeOf5
  v5 := Tryz.zeroValue5
  t9 := Tryz.underlying9
  a9 := Tryz.isAgg9
  z9 := Tryz.sizeOf9
  v9 := Tryz.zeroValue9
  t21 := Tryz.underlying21
  a21 := Tryz.isAgg21
  z21 := Tryz.sizeOf21
  v21 := Tryz.zeroValue21
  t46 := Tryz.underlying22
  a46 := Tryz.isAgg22
  z46 := Tryz.sizeOf22
  v46 := Tryz.zeroValue22
  t116 := Tryz.underlying216
  a116 := Tryz.isAgg216
  z116 := Tryz.sizeOf216
  t117 := Tryz.underlying217
  a117 := Tryz.isAgg217
  z117 := Tryz.sizeOf217
  v117 := Tryz.zeroValue217
  t124 := Tryz.underlying226
  a124 := Tryz.isAgg226
  z124 := Tryz.sizeOf226
  v124 := Tryz.zeroValue226 }
def Tryz.lays227_ren : Go.Shelf.Ren := ⟨fun | 227 => 146 | n => n, fun | 9 => 9 | 116 => 216 | 4 => 4 | 0 => 0 | 3 => 3 | 5 => 5 | n => n, fun | n => n⟩
def Tryz.lays228_ren : Go.Shelf.Ren := ⟨fun | 228 => 147 | n => n, fun | 124 => 226 | 5 => 5 | 4 => 4 | 0 => 0 | 116 => 216 | n => n, fun | n => n⟩
open Go.RowKit Go.Lib in
theorem Tryz.strings_IndexAny_long (hv116 : ∀ w, (zeroValue 216).run Tryz.prog w = .ok (.agg (Array.replicate 256 (.bool false))) w) (s chars : ByteArray) (w : World) (h2 : 2 ≤ chars.size) (h8 : 8 < s.size) (hs : s.size < 4294967281) (hcs : chars.size < 4294967281) (hascii : ∀ (j : Nat) b, chars.data.toList[j]? = some b → b.toNat < 128) :
    Calls Tryz.prog 129 #[.string s, .string chars] w fun e w' => e = .returned (.int .i64 (Lib.indexAny s.data.toList chars.data.toList)) ∧ w' = ((w.alloc (.cells (Lib.setCells chars.data.toList) 216)).alloc (.cells (Lib.setCells chars.data.toList) 216)) := Any.strings_IndexAny_long Tryz.lays153 hv116 (by kernel_rfl) s chars w h2 h8 hs hcs hascii
def Tryz.lays150_ren : Go.Shelf.Ren := ⟨fun | 150 => 112 | 153 => 129 | 152 => 144 | 226 => 145 | 227 => 146 | 228 => 147 | 137 => 155 | 119 => 156 | 224 => 157 | 225 => 158 | 217 => 162 | 266 => 164 | n => n, fun | 9 => 9 | 4 => 4 | 3 => 3 | 5 => 5 | 21 => 21 | 117 => 217 | 116 => 216 | 0 => 0 | 46 => 22 | 124 => 226 | n => n, fun | n => n⟩
def Tryz.lays260_ren : Go.Shelf.Ren := ⟨fun | 260 => 159 | n => n, fun | 9 => 9 | 21 => 21 | 3 => 3 | 4 => 4 | 5 => 5 | 119 => 228 | 0 => 0 | 46 => 22 | 139 => 231 | 138 => 230 | n => n, fun | 3 => 2 | 4 => 3 | n => n⟩
def Tryz.laysNm237_ren : Go.Shelf.Ren := ⟨fun | 37 => 126 | n => n, fun | 3 => 3 | 4 => 4 | n => n, fun | n => n⟩
def Tryz.laysNm231_ren : Go.Shelf.Ren := ⟨fun | 31 => 103 | 37 => 126 | n => n, fun | 3 => 3 | 4 => 4 | n => n, fun | n => n⟩
open Go.RowKit Go.Sort in
theorem Tryz.slices_Sort_string_none (p : Option Addr) (cap : Nat) (w : World) :
    Calls Tryz.prog 109 #[.slice p 0 cap] w fun e w' => e = .returned (.tuple #[]) ∧ w' = w := Any.slices_Sort_string_none Tryz.lays190 p cap w
open Go.RowKit Go.Sort in
theorem Tryz.slices_Sort_int_none (p : Option Addr) (cap : Nat) (w : World) :
    Calls Tryz.prog 46 #[.slice p 0 cap] w fun e w' => e = .returned (.tuple #[]) ∧ w' = w := Any.slices_Sort_int_none Tryz.lays189 p cap w
end Go.Proofs
end
section
namespace Go.Proofs.YthifdofdoeaemaaGreatDoorQ
open Go Go.RowKit
structure SameOn (S : Nat → Prop) (A B : World) : Prop where
  size : A.heap.size ≤ B.heap.size
  same : ∀ k, S k → k < A.heap.size → B.heap[k]? = A.heap[k]?
  os : B.os = A.os
  tape : B.tape = A.tape
  output : B.output = A.output
theorem SameOn.refl (S : Nat → Prop) (A : World) : SameOn S A A := ⟨Nat.le_refl _, fun _ _ _ => rfl, rfl, rfl, rfl⟩
theorem SameOn.trans {S : Nat → Prop} {A B C : World} (h : SameOn S A B) (g : SameOn S B C) : SameOn S A C :=
  ⟨Nat.le_trans h.1 g.1, fun k hk hl => (g.2 k hk (Nat.lt_of_lt_of_le hl h.1)).trans (h.2 k hk hl), g.os.trans h.os, g.tape.trans h.tape, g.output.trans h.output⟩
theorem SameOn.mono {S T : Nat → Prop} {A B : World} (h : SameOn S A B) (hs : ∀ k, T k → S k) : SameOn T A B := ⟨h.1, fun k hk hl => h.2 k (hs k hk) hl, h.os, h.tape, h.output⟩
theorem SameOn.putObj {S : Nat → Prop} (A : World) (l : Nat) (o : Obj) (h : ¬ S l) : SameOn S A (A.putObj l o) :=
  ⟨by simp, fun k hk _ => World.putObj_heap_other (fun e => h (e ▸ hk)), rfl, rfl, rfl⟩
theorem SameOn.of_below {S : Nat → Prop} {A B : World} (h : Below A.heap.size A B) : SameOn S A B := ⟨h.size, fun k _ hl => h.block k hl, h.os, h.tape, h.output⟩
theorem SameOn.alloc (S : Nat → Prop) (A : World) (o : Obj) : SameOn S A (A.alloc o) := SameOn.of_below ((Below.refl _ _).alloc (Nat.le_refl _) o)
theorem SameOn.setCell {S : Nat → Prop} (A : World) (a : Addr) (v : Value) (h : ¬ S a.block) : SameOn S A (A.setCell a v) :=
  have hb : Below 0 A (A.setCell a v) := (Below.refl 0 A).setCell (Nat.zero_le _) v
  ⟨hb.size, fun k hk _ => Below.heap_setCell A a v k (fun e => h (e ▸ hk)), hb.os, hb.tape, hb.output⟩
theorem SameOn.drew (S : Nat → Prop) (A : World) : SameOn S A A.drew := SameOn.of_below (Below.refl _ A).drew
theorem SameOn.of_grown {S : Nat → Prop} {A B : World} {row : Option Nat} {b : Nat} (h : A.grownBy B row) (hb : Below b A B) (hr : ∀ k, row = some k → ¬ S k) : SameOn S A B :=
  ⟨h.size, fun k hk hl => h.block k hl (fun e => hr k e.symm hk), hb.os, hb.tape, hb.output⟩
theorem SameOn.below {S : Nat → Prop} {A B : World} {b : Nat} (h : SameOn S A B) (hS : ∀ k, k < b → S k) (hb : b ≤ A.heap.size) : Below b A B :=
  ⟨h.os, h.tape, h.output, h.size, fun k hk => h.same k (hS k hk) (Nat.lt_of_lt_of_le hk hb)⟩
structure Bears {α : Type} (S0 : Nat → Prop) (J : (Nat → Prop) → List α → World → Prop) : Prop where
  step : ∀ S pre A B, J S pre A → SameOn (fun k => ¬ S k ∨ S0 k) A B → J S pre B
  more : ∀ (S T : Nat → Prop) pre A, J S pre A → (∀ k, T k → A.heap.size ≤ k) → J (fun k => S k ∨ T k) pre A
def Hands {α : Type} (P : Program) (g : Nat) (lb : Array Value) (Rd : α → Value → World → Prop) (xs : List α) (S0 : Nat → Prop) (w : World) : Prop :=
  ∀ (l n : Nat) (J : (Nat → Prop) → List α → World → Prop) (W : World), SameOn S0 w W → Bears S0 J →
    (∀ (S : Nat → Prop) pre x v A, J S pre A → (∀ k, S0 k → S k) → (∀ k, S k → k < A.heap.size) → (pre ++ [x]) <+: xs → Rd x v A →
      YieldAt Fence.wide (n - 1) P l #[v] A fun e W' => e = .returned (.bool true) ∧ J S (pre ++ [x]) W' ∧ SameOn S A W') →
    J S0 [] W →
    CallsIn Fence.wide n P g (#[.func (.yield l) #[] #[]] ++ lb) W fun e W' => (∃ v, e = .returned v) ∧ ∃ S, J S xs W'
variable {P : Program}
def roundOn {α : Type} (I : (Nat → Prop) → List α → World → Prop) (S : Nat → Prop) (pre : List α) (W : World) : Exit → Act → World → Prop
  | .normal, _, W' => KeepsOthers W W' ∧ I S pre W' ∧ SameOn S W W'
  | _, _, _ => False
end Go.Proofs.YthifdofdoeaemaaGreatDoorQ
end
section
namespace Go.Proofs.YthifdofdoeaemaaGreatDoorQ
open Go Go.RowKit
def HandsS {α : Type} (P : Program) (g : Nat) (lb : Array Value) (enc : α → Value) (xs : List α) (own lean : Nat → Prop) (w : World) : Prop :=
  ∀ (l n : Nat) (J Jx : List α → World → Prop) (W : World), SameOn lean w W → (∀ pre A B, J pre A → SameOn (fun k => ¬ own k) A B → J pre B) →
    (∀ pre x A, J pre A → (pre ++ [x]) <+: xs →
      YieldAt Fence.wide (n - 1) P l #[enc x] A fun e W' => (e = .returned (.bool true) ∧ J (pre ++ [x]) W' ∧ SameOn lean A W') ∨ (e = .returned (.bool false) ∧ Jx (pre ++ [x]) W')) →
    J [] W →
    CallsIn Fence.wide n P g (#[.func (.yield l) #[] #[]] ++ lb) W fun e W' => (∃ v, e = .returned v) ∧ (J xs W' ∨ ∃ pre, pre <+: xs ∧ Jx pre W')
variable {P : Program}
def roundStop {α : Type} (I Ix : List α → World → Prop) (lean : Nat → Prop) (pre : List α) (W : World) : Exit → Act → World → Prop
  | .normal, _, W' => KeepsOthers W W' ∧ I pre W' ∧ SameOn lean W W'
  | .ret, _, W' => KeepsOthers W W' ∧ Ix pre W'
  | _, _, _ => False
theorem wp_rangeStop {α : Type} {g : Operand} {p : Tmp} {assign body : Code} {Q : Exit → Act → World → Prop} {a : Act} {w : World}
    {gf : Nat} {lb : Array Value} (hg : a.eval g = .func (.func gf) #[] lb) (eg : ∀ args w, (callFunc gf args).run P w = .ok (.enter gf args) w)
    {enc : α → Value} {xs : List α} {own lean : Nat → Prop} (hseq : HandsS P gf lb enc xs own lean w) (hown : ∀ k, own k → k < w.heap.size) (hlean : ∀ k, lean k → k < w.heap.size)
    (I Ix : List α → World → Prop) (hI : ∀ pre A B, I pre A → SameOn (fun k => ¬ own k) A B → I pre B)
    (hIp : ∀ pre A (l : Nat) (o o' : Obj), I pre A → A.heap[l]? = some o → o.isCells = false → w.heap.size ≤ l → I pre (A.putObj l o'))
    (hIxp : ∀ pre A (l : Nat) (o o' : Obj), Ix pre A → A.heap[l]? = some o → o.isCells = false → w.heap.size ≤ l → Ix pre (A.putObj l o'))
    (h0 : I [] w) (a₁ : α → Act)
    (hassign : ∀ (l : Nat) (x : α) (W : World) (n : Nat) (K : Act → World → Prop), K (a₁ x) W →
      assign.wpIn (Fence.wide.inRound l) n P (Exit.then K (fun _ _ _ => False)) { tmps := ((#[p] : Array Tmp).zip #[enc x]).foldl (fun t (p, v) => t.setIfInBounds p v) a.tmps, defers := [] } W)
    (hbody : ∀ (l n : Nat) (pre : List α) (x : α) (W : World), I pre W → (pre ++ [x]) <+: xs → body.wpIn (Fence.wide.inRound l) n P (roundStop I Ix lean (pre ++ [x]) W) (a₁ x) W)
    (hdone : ∀ (D : Nat) (W : World), I xs W → w.heap.size ≤ D → W.heap[D]? = some (.deferred (some [])) → Q .normal { a with defers := { target := .collected D, args := #[] } :: a.defers } W)
    (hstop : ∀ (D : Nat) (pre : List α) (W : World), pre <+: xs → Ix pre W → w.heap.size ≤ D → W.heap[D]? = some (.deferred (some [])) → Code.ret.wp P Q { a with defers := { target := .collected D, args := #[] } :: a.defers } W) :
    (Code.rangeFunc g #[p] assign body).wp P Q a w := by
  refine (wpIn_wide (n := 0)).1 ?_
  refine wpIn_rangeFunc ?_
  intro fn hfn
  obtain ⟨rec, hrec⟩ : ∃ rec : LoopState → Option Code → Loop, rec = fun st pe => { state := st, pending := pe, fn, tmps := a.tmps, params := #[p], assign, body, defers := w.heap.size } := ⟨_, rfl⟩
  obtain ⟨W1, hW1⟩ : ∃ W1, (w.alloc (.deferred (some []))).alloc (.loop (rec .ready none)) = W1 := ⟨_, rfl⟩
  have hL1 : W1.heap[w.heap.size + 1]? = some (.loop (rec .ready none)) := by
    rw [← hW1]; have := World.alloc_heap_new (w.alloc (.deferred (some []))) (.loop (rec .ready none)); rwa [World.size_alloc] at this
  have hK1 : W1.heap[w.heap.size]? = some (.deferred (some [])) := by
    rw [← hW1]; exact (Below.heap_alloc _ _ _ (by simp)).trans (World.alloc_heap_new w _)
  have hs1 : ∀ S, SameOn S w W1 := fun S => by rw [← hW1]; exact (SameOn.alloc S _ _).trans (SameOn.alloc S _ _)
  have hI1 : I [] W1 := hI _ _ _ h0 (hs1 _)
  have hno1 : ∀ k, w.heap.size ≤ k → ¬ own k := fun k hk h => by have := hown _ h; omega
  have hnl1 : ∀ k, w.heap.size ≤ k → ¬ lean k := fun k hk h => by have := hlean _ h; omega
  refine ⟨w.heap.size + 1, [{ target := .collected w.heap.size, args := #[] }], W1, { target := .fn (.func gf) lb, args := #[.func (.yield (w.heap.size + 1)) #[] #[]] }, W1, gf,
    #[.func (.yield (w.heap.size + 1)) #[] #[]] ++ lb, W1, ?_, ?_, ?_, ?_, fun h => by simp [Fence.wide] at h, ?_⟩
  · rw [← hW1, hrec]; exact run_enterLoop_outer _ _ _ _ _
  · simp only [resolve, hg]
    simp [go_sem]
  · intro f' _; exact trivial
  · simp [invoke, go_sem, eg]
  · refine (hseq (w.heap.size + 1) (0 - 1)
      (fun pre W => I pre W ∧ W.heap[w.heap.size + 1]? = some (.loop (rec .ready none)) ∧ W.heap[w.heap.size]? = some (.deferred (some [])))
      (fun pre W => Ix pre W ∧ W.heap[w.heap.size + 1]? = some (.loop (rec .done (some .ret))) ∧ W.heap[w.heap.size]? = some (.deferred (some [])))
      W1 (hs1 _) ?_ ?_ ⟨hI1, hL1, hK1⟩).mono ?_
    · rintro pre A B ⟨hi, hl, hk⟩ hs
      exact ⟨hI _ _ _ hi hs, (hs.2 _ (hno1 _ (by omega)) (Array.getElem?_eq_some_iff.1 hl).1).trans hl, (hs.2 _ (hno1 _ (Nat.le_refl _)) (Array.getElem?_eq_some_iff.1 hk).1).trans hk⟩
    ·
      rintro pre x W ⟨hi, hl, hk⟩ hlen
      have hlt : w.heap.size + 1 < W.heap.size := (Array.getElem?_eq_some_iff.1 hl).1
      have hy := run_yield (P := P) (args := #[enc x]) hl (by rw [hrec]; rfl)
      rw [hrec] at hy
      refine ⟨fn, _, assign, body, hy, roundIn_of_wpIn hfn ?_⟩
      refine hassign (w.heap.size + 1) x W (0 - 1 - 1) _ ?_
      refine ⟨_, run_beginRound hl (by rw [hrec]), ?_⟩
      have hl2 : (W.putObj (w.heap.size + 1) (.loop { rec .ready none with state := .busy })).heap[w.heap.size + 1]? = some (.loop { rec .ready none with state := .busy }) := World.putObj_heap_same hlt
      have hk2 : (W.putObj (w.heap.size + 1) (.loop { rec .ready none with state := .busy })).heap[w.heap.size]? = some (.deferred (some [])) := (World.putObj_heap_other (by omega)).trans hk
      refine wpIn_mono (hbody _ _ pre x _ (hIp _ _ _ _ _ hi hl rfl (by omega)) hlen) ?_
      rintro e a3 W3 hp
      cases e with
      | normal =>
        obtain ⟨hk3, hi3, hs3⟩ := hp
        have hl3 := hk3.same _ _ hl2 rfl
        have hend := run_endRound (P := P) none hl3
        have hlt3 := (Array.getElem?_eq_some_iff.1 hl3).1
        refine ⟨_, _, hend, .inl ⟨rfl, ⟨hIp _ _ _ _ _ hi3 hl3 rfl (by omega), ?_, ?_⟩, ?_⟩⟩
        · rw [World.putObj_heap_same hlt3, hrec]; rfl
        · exact (World.putObj_heap_other (by omega)).trans (hk3.same _ _ hk2 rfl)
        · exact ((SameOn.putObj W _ _ (hnl1 _ (by omega))).trans hs3).trans (SameOn.putObj _ _ _ (hnl1 _ (by omega)))
      | ret =>
        obtain ⟨hk3, hi3⟩ := hp
        have hl3 := hk3.same _ _ hl2 rfl
        have hend := run_endRound (P := P) (some .ret) hl3
        have hlt3 := (Array.getElem?_eq_some_iff.1 hl3).1
        refine ⟨_, _, hend, .inr ⟨rfl, hIxp _ _ _ _ _ hi3 hl3 rfl (by omega), ?_, ?_⟩⟩
        · rw [World.putObj_heap_same hlt3, hrec]; rfl
        · exact (World.putObj_heap_other (by omega)).trans (hk3.same _ _ hk2 rfl)
      | exit id => exact hp.elim
      | goto t => exact hp.elim
      | panic ch => exact hp.elim
      | outgrown => exact hp.elim
    ·
      rintro e W2 ⟨⟨v, rfl⟩, ⟨hi, hl, hk⟩ | ⟨pre, hpre, hi, hl, hk⟩⟩
      · refine ⟨none, _, by have := run_endLoop (P := P) hl (by rw [hrec]; simp); rw [hrec] at this; exact this, ?_⟩
        exact hdone _ _ (hIp _ _ _ _ _ hi hl rfl (by omega)) (Nat.le_refl _) ((World.putObj_heap_other (by omega)).trans hk)
      · refine ⟨some .ret, _, by have := run_endLoop (P := P) hl (by rw [hrec]; simp); rw [hrec] at this; exact this, ?_⟩
        exact (wpIn_wide (n := 0)).2 (hstop _ _ _ hpre (hIxp _ _ _ _ _ hi hl rfl (by omega)) (Nat.le_refl _) ((World.putObj_heap_other (by omega)).trans hk))
end Go.Proofs.YthifdofdoeaemaaGreatDoorQ
end
section
namespace Go.Proofs.YthifdofdoeaemaaGreatDoorQ
open Go
theorem wpListIn_append_at {F : Fence} {n : Nat} {P : Program} (w : World) {ops : Array Oper} {rest : List Oper} {o : Oper} {a : Act} {Q : Exit → Act → World → Prop}
    (hg : o.guard = none) (s x : Operand) (t : TypeId) (hop : o.op = Op.call { callee := Callee.builtin Builtin.append, args := #[s, x], argTypes := #[t, t] })
    (base : Nat) (e : TypeId) (i : TypeInfo) (z : Value) (size bytes : Nat) (h1 : P.underlying t = some (.slice e)) (h2 : P.info? e = some i) (h3 : i.zero = some z) (h4 : i.size = size) (h5 : i.bytes = bytes) (h6 : z.cells.size = size) (h7 : 0 < size)
    (v : Value) (k : Nat) (xs : List Value) (hs : a.eval s = v) (hown : w.ownsRow base e size v k xs) (ad : Addr) (m c : Nat) (news : List Value) (hx : a.eval x = .slice (some ad) m c) (hn : news.length = m * size)
    (hc : ∀ j u, news[j]? = some u → w.cell? (ad.add j) = some u) (h1c : ∀ u ∈ news, u.oneCell' = true) (b1 : k + m ≤ maxLen) (b2 : (k + m) * bytes ≤ 140737488355328) (b3 : base ≤ w.heap.size)
    (hK : ∀ v' w', w'.ownsRow base e size v' (k + m) (xs ++ news) → w.grownBy w' v.ownBlock → (v'.ownBlock = v.ownBlock ∨ v'.ownBlock = some w.heap.size) → wpListIn F n P ops Q rest (a.put o.dst v') w') :
    wpListIn F n P ops Q (o :: rest) a w := by
  refine wpListIn_plain hg fun K hK' => ?_
  obtain ⟨v', w', hrun, r1, r2, _, r3⟩ := run_append_own_at (P := P) w base t o.type e i z size bytes h1 h2 h3 h4 h5 h6 h7 v k xs hown ad m c news hn hc h1c b1 b2 b3
  unfold Oper.wpIn
  refine ⟨?_, ?_⟩
  · simp [Oper.about, hop, resolve, Target.leads, Sem.run_pure]
  · rw [Oper.semAt_plain F _ _ (by rw [hop]; intro c hc'; cases hc')]
    simp [execOp, hop, resolve, invoke, builtin, hs, hx, hrun, Result.andThen]
    exact hK' _ _ (hK v' w' r1 r2 r3)
end Go.Proofs.YthifdofdoeaemaaGreatDoorQ
end
section
namespace Go.Proofs
open Go.Shelf
def Tryz.keys78_ren : Go.Shelf.Ren := ⟨fun | 7 => 78 | 10 => 110 | n => n, fun | 23 => 87 | 26 => 9 | 3 => 42 | 28 => 132 | 0 => 0 | 27 => 131 | 33 => 135 | 4 => 4 | n => n, fun | n => n⟩
theorem Tryz.keys78 : Go.Proofs.SlLaysZ.n7 Tryz.prog Tryz.keys78_ren := {
  mixed := by kernel_rfl
  f7 := ⟨Tryz.f78.name, by decide, Tryz.func78.trans (congrArg some (by kernel_rfl))⟩
  f10 := ⟨Tryz.f110.name, by decide, Tryz.func110.trans (congrArg some (by kernel_rfl))⟩
  t0 := Tryz.underlying0
  a0 := Tryz.isAgg0
  z0 := Tryz.sizeOf0
  v0 := Tryz.zeroValue0
  t4 := Tryz.underlying4
  a4 := Tryz.isAgg4
  z4 := Tryz.sizeOf4
  v4 := Tryz.zeroValue4
  t23 := Tryz.underlying87
  a23 := Tryz.isAgg87
  z23 := Tryz.sizeOf87
  v23 := Tryz.zeroValue87
  t26 := Tryz.underlying9
  a26 := Tryz.isAgg9
  z26 := Tryz.sizeOf9
  v26 := Tryz.zeroValue9
  t27 := Tryz.underlying131
  a27 := Tryz.isAgg131
  z27 := Tryz.sizeOf131
  v27 := Tryz.zeroValue131
  t28 := Tryz.underlying132
  a28 := Tryz.isAgg132
  z28 := Tryz.sizeOf132
  v28 := Tryz.zeroValue132
  t33 := Tryz.underlying135
  a33 := Tryz.isAgg135
  z33 := Tryz.sizeOf135
  v33 := Tryz.zeroValue135 }
def Tryz.sorted77_ren : Go.Shelf.Ren := ⟨fun | 6 => 77 | 8 => 108 | 9 => 109 | 11 => 127 | 13 => 76 | 12 => 128 | 23 => 106 | 24 => 107 | 14 => 135 | 15 => 136 | 16 => 137 | 17 => 138 | 18 => 139 | 19 => 140 | 20 => 141 | 21 => 142 | 22 => 143 | 25 => 151 | 26 => 122 | 27 => 123 | 28 => 152 | 29 => 153 | 30 => 154 | 31 => 161 | n => n, fun | 26 => 9 | 28 => 132 | 24 => 77 | 0 => 0 | 3 => 3 | 37 => 22 | 48 => 166 | 50 => 168 | 4 => 4 | 40 => 158 | 39 => 157 | 45 => 163 | 5 => 5 | 9 => 9 | 51 => 185 | 55 => 84 | 57 => 207 | 58 => 113 | 33 => 135 | n => n, fun | n => n⟩
theorem Tryz.sorted77 : Go.Proofs.SlLaysZ.n6 Tryz.prog Tryz.sorted77_ren := {
  mixed := by kernel_rfl
  f6 := ⟨Tryz.f77.name, by decide, Tryz.func77.trans (congrArg some (by kernel_rfl))⟩
  f8 := ⟨Tryz.f108.name, by decide, Tryz.func108.trans (congrArg some (by kernel_rfl))⟩
  f11 := ⟨Tryz.f127.name, by decide, Tryz.func127.trans (congrArg some (by kernel_rfl))⟩
  t0 := Tryz.underlying0
  a0 := Tryz.isAgg0
  z0 := Tryz.sizeOf0
  v0 := Tryz.zeroValue0
  t24 := Tryz.underlying77
  a24 := Tryz.isAgg77
  z24 := Tryz.sizeOf77
  v24 := Tryz.zeroValue77
  t26 := Tryz.underlying9
  a26 := Tryz.isAgg9
  z26 := Tryz.sizeOf9
  v26 := Tryz.zeroValue9
  t28 := Tryz.underlying132
  a28 := Tryz.isAgg132
  z28 := Tryz.sizeOf132
  v28 := Tryz.zeroValue132
  i26 := by kernel_rfl }
def Tryz.sort109_ren : Go.Shelf.Ren := ⟨fun | 6 => 109 | 8 => 76 | 9 => 128 | 19 => 106 | 20 => 107 | 21 => 135 | 22 => 136 | 23 => 137 | 24 => 138 | 25 => 139 | 26 => 140 | 27 => 141 | 28 => 142 | 29 => 143 | 36 => 151 | 31 => 122 | 32 => 123 | 37 => 152 | 38 => 153 | 39 => 154 | 41 => 161 | n => n, fun | 27 => 77 | 29 => 9 | 3 => 3 | 32 => 22 | 26 => 77 | 0 => 0 | 44 => 166 | 46 => 168 | 4 => 4 | 36 => 158 | 35 => 157 | 41 => 163 | 5 => 5 | 9 => 9 | 53 => 185 | 57 => 84 | 63 => 207 | 64 => 113 | n => n, fun | n => n⟩
theorem Tryz.sort109 : Go.Proofs.SlLaysM.n6 Tryz.prog Tryz.sort109_ren := {
  mixed := by kernel_rfl
  f6 := ⟨Tryz.f109.name, by decide, Tryz.func109.trans (congrArg some (by kernel_rfl))⟩
  f8 := Tryz.func76.trans (congrArg some (by kernel_rfl))
  f9 := ⟨Tryz.f128.name, by decide, Tryz.func128.trans (congrArg some (by kernel_rfl))⟩
  f19 := Tryz.func106.trans (congrArg some (by kernel_rfl))
  f20 := Tryz.func107.trans (congrArg some (by kernel_rfl))
  f21 := ⟨Tryz.f135.name, by decide, Tryz.func135.trans (congrArg some (by kernel_rfl))⟩
  f22 := ⟨Tryz.f136.name, by decide, Tryz.func136.trans (congrArg some (by kernel_rfl))⟩
  f23 := ⟨Tryz.f137.name, by decide, Tryz.func137.trans (congrArg some (by kernel_rfl))⟩
  f24 := ⟨Tryz.f138.name, by decide, Tryz.func138.trans (congrArg some (by kernel_rfl))⟩
  f25 := ⟨Tryz.f139.name, by decide, Tryz.func139.trans (congrArg some (by kernel_rfl))⟩
  f26 := ⟨Tryz.f140.name, by decide, Tryz.func140.trans (congrArg some (by kernel_rfl))⟩
  f27 := ⟨Tryz.f141.name, by decide, Tryz.func141.trans (congrArg some (by kernel_rfl))⟩
  f28 := ⟨Tryz.f142.name, by decide, Tryz.func142.trans (congrArg some (by kernel_rfl))⟩
  f29 := ⟨Tryz.f143.name, by decide, Tryz.func143.trans (congrArg some (by kernel_rfl))⟩
  f31 := Tryz.func122.trans (congrArg some (by kernel_rfl))
  f32 := Tryz.func123.trans (congrArg some (by kernel_rfl))
  f36 := ⟨Tryz.f151.name, by decide, Tryz.func151.trans (congrArg some (by kernel_rfl))⟩
  f37 := ⟨Tryz.f152.name, by decide, Tryz.func152.trans (congrArg some (by kernel_rfl))⟩
  f38 := ⟨Tryz.f153.name, by decide, Tryz.func153.trans (congrArg some (by kernel_rfl))⟩
  f39 := ⟨Tryz.f154.name, by decide, Tryz.func154.trans (congrArg some (by kernel_rfl))⟩
  f41 := ⟨Tryz.f161.name, by decide, Tryz.func161.trans (congrArg some (by kernel_rfl))⟩
  t0 := Tryz.underlying0
  a0 := Tryz.isAgg0
  z0 := Tryz.sizeOf0
  v0 := Tryz.zeroValue0
  t3 := Tryz.underlying3
  a3 := Tryz.isAgg3
  z3 := Tryz.sizeOf3
  v3 := Tryz.zeroValue3
  t4 := Tryz.underlying4
  a4 := Tryz.isAgg4
  z4 := Tryz.sizeOf4
  v4 := Tryz.zeroValue4
  t5 := Tryz.underlying5
  a5 := Tryz.isAgg5
  z5 := Tryz.sizeOf5
  v5 := Tryz.zeroValue5
  t9 := Tryz.underlying9
  a9 := Tryz.isAgg9
  z9 := Tryz.sizeOf9
  v9 := Tryz.zeroValue9
  t26 := Tryz.underlying77
  a26 := Tryz.isAgg77
  z26 := Tryz.sizeOf77
  v26 := Tryz.zeroValue77
  t27 := Tryz.underlying77
  a27 := Tryz.isAgg77
  z27 := Tryz.sizeOf77
  v27 := Tryz.zeroValue77
  t29 := Tryz.underlying9
  a29 := Tryz.isAgg9
  z29 := Tryz.sizeOf9
  v29 := Tryz.zeroValue9
  t32 := Tryz.underlying22
  a32 := Tryz.isAgg22
  z32 := Tryz.sizeOf22
  v32 := Tryz.zeroValue22
  t35 := Tryz.underlying157
  a35 := Tryz.isAgg157
  z35 := Tryz.sizeOf157
  v35 := Tryz.zeroValue157
  t36 := Tryz.underlying158
  a36 := Tryz.isAgg158
  z36 := Tryz.sizeOf158
  v36 := Tryz.zeroValue158
  t41 := Tryz.underlying163
  a41 := Tryz.isAgg163
  z41 := Tryz.sizeOf163
  v41 := Tryz.zeroValue163
  t44 := Tryz.underlying166
  a44 := Tryz.isAgg166
  z44 := Tryz.sizeOf166
  v44 := Tryz.zeroValue166
  t46 := Tryz.underlying168
  a46 := Tryz.isAgg168
  z46 := Tryz.sizeOf168
  v46 := Tryz.zeroValue168
  t53 := Tryz.underlying185
  a53 := Tryz.isAgg185
  z53 := Tryz.sizeOf185
  v53 := Tryz.zeroValue185
  t57 := Tryz.underlying84
  a57 := Tryz.isAgg84
  z57 := Tryz.sizeOf84
  v57 := Tryz.zeroValue84
  t63 := Tryz.underlying207
  a63 := Tryz.isAgg207
  z63 := Tryz.sizeOf207
  v63 := Tryz.zeroValue207
  t64 := Tryz.underlying113
  a64 := Tryz.isAgg113
  z64 := Tryz.sizeOf113
  v64 := Tryz.zeroValue113 }
def Tryz.keys49_ren : Go.Shelf.Ren := ⟨fun | 7 => 49 | 10 => 80 | n => n, fun | 23 => 71 | 26 => 3 | 3 => 75 | 28 => 96 | 0 => 0 | 27 => 95 | 33 => 134 | 4 => 4 | n => n, fun | n => n⟩
theorem Tryz.keys49 : Go.Proofs.SlLaysZI.n7 Tryz.prog Tryz.keys49_ren := {
  mixed := by kernel_rfl
  f7 := ⟨Tryz.f49.name, by decide, Tryz.func49.trans (congrArg some (by kernel_rfl))⟩
  f10 := ⟨Tryz.f80.name, by decide, Tryz.func80.trans (congrArg some (by kernel_rfl))⟩
  t0 := Tryz.underlying0
  a0 := Tryz.isAgg0
  z0 := Tryz.sizeOf0
  v0 := Tryz.zeroValue0
  t4 := Tryz.underlying4
  a4 := Tryz.isAgg4
  z4 := Tryz.sizeOf4
  v4 := Tryz.zeroValue4
  t23 := Tryz.underlying71
  a23 := Tryz.isAgg71
  z23 := Tryz.sizeOf71
  v23 := Tryz.zeroValue71
  t26 := Tryz.underlying3
  a26 := Tryz.isAgg3
  z26 := Tryz.sizeOf3
  v26 := Tryz.zeroValue3
  t27 := Tryz.underlying95
  a27 := Tryz.isAgg95
  z27 := Tryz.sizeOf95
  v27 := Tryz.zeroValue95
  t28 := Tryz.underlying96
  a28 := Tryz.isAgg96
  z28 := Tryz.sizeOf96
  v28 := Tryz.zeroValue96
  t33 := Tryz.underlying134
  a33 := Tryz.isAgg134
  z33 := Tryz.sizeOf134
  v33 := Tryz.zeroValue134 }
def Tryz.sorted48_ren : Go.Shelf.Ren := ⟨fun | 6 => 48 | 8 => 79 | 9 => 46 | 11 => 111 | 13 => 76 | 12 => 75 | 23 => 106 | 24 => 107 | 14 => 97 | 15 => 98 | 16 => 99 | 17 => 100 | 18 => 101 | 19 => 102 | 20 => 103 | 21 => 104 | 22 => 105 | 25 => 121 | 26 => 122 | 27 => 123 | 28 => 124 | 29 => 125 | 30 => 126 | 31 => 134 | n => n, fun | 26 => 3 | 28 => 96 | 24 => 32 | 0 => 0 | 3 => 3 | 37 => 22 | 48 => 166 | 50 => 168 | 4 => 4 | 40 => 158 | 39 => 157 | 45 => 163 | 5 => 5 | 9 => 9 | 51 => 185 | 55 => 84 | 57 => 207 | 58 => 113 | 33 => 134 | n => n, fun | n => n⟩
theorem Tryz.sorted48 : Go.Proofs.SlLaysZI.n6 Tryz.prog Tryz.sorted48_ren := {
  mixed := by kernel_rfl
  f6 := ⟨Tryz.f48.name, by decide, Tryz.func48.trans (congrArg some (by kernel_rfl))⟩
  f8 := ⟨Tryz.f79.name, by decide, Tryz.func79.trans (congrArg some (by kernel_rfl))⟩
  f11 := ⟨Tryz.f111.name, by decide, Tryz.func111.trans (congrArg some (by kernel_rfl))⟩
  t0 := Tryz.underlying0
  a0 := Tryz.isAgg0
  z0 := Tryz.sizeOf0
  v0 := Tryz.zeroValue0
  t24 := Tryz.underlying32
  a24 := Tryz.isAgg32
  z24 := Tryz.sizeOf32
  v24 := Tryz.zeroValue32
  t26 := Tryz.underlying3
  a26 := Tryz.isAgg3
  z26 := Tryz.sizeOf3
  v26 := Tryz.zeroValue3
  t28 := Tryz.underlying96
  a28 := Tryz.isAgg96
  z28 := Tryz.sizeOf96
  v28 := Tryz.zeroValue96
  i26 := by kernel_rfl }
def Tryz.sort46_ren : Go.Shelf.Ren := ⟨fun | 5 => 46 | 8 => 76 | 7 => 75 | 19 => 106 | 20 => 107 | 10 => 97 | 11 => 98 | 12 => 99 | 13 => 100 | 14 => 101 | 15 => 102 | 16 => 103 | 17 => 104 | 18 => 105 | 30 => 121 | 31 => 122 | 32 => 123 | 33 => 124 | 34 => 125 | 35 => 126 | 40 => 134 | n => n, fun | 23 => 32 | 25 => 3 | 3 => 3 | 32 => 22 | 22 => 32 | 0 => 0 | 44 => 166 | 46 => 168 | 4 => 4 | 36 => 158 | 35 => 157 | 41 => 163 | 5 => 5 | 9 => 9 | 53 => 185 | 57 => 84 | 63 => 207 | 64 => 113 | n => n, fun | n => n⟩
theorem Tryz.sort46 : Go.Proofs.SlLaysM.n5 Tryz.prog Tryz.sort46_ren := {
  mixed := by kernel_rfl
  f5 := ⟨Tryz.f46.name, by decide, Tryz.func46.trans (congrArg some (by kernel_rfl))⟩
  f7 := ⟨Tryz.f75.name, by decide, Tryz.func75.trans (congrArg some (by kernel_rfl))⟩
  f8 := Tryz.func76.trans (congrArg some (by kernel_rfl))
  f10 := ⟨Tryz.f97.name, by decide, Tryz.func97.trans (congrArg some (by kernel_rfl))⟩
  f11 := ⟨Tryz.f98.name, by decide, Tryz.func98.trans (congrArg some (by kernel_rfl))⟩
  f12 := ⟨Tryz.f99.name, by decide, Tryz.func99.trans (congrArg some (by kernel_rfl))⟩
  f13 := ⟨Tryz.f100.name, by decide, Tryz.func100.trans (congrArg some (by kernel_rfl))⟩
  f14 := ⟨Tryz.f101.name, by decide, Tryz.func101.trans (congrArg some (by kernel_rfl))⟩
  f15 := ⟨Tryz.f102.name, by decide, Tryz.func102.trans (congrArg some (by kernel_rfl))⟩
  f16 := ⟨Tryz.f103.name, by decide, Tryz.func103.trans (congrArg some (by kernel_rfl))⟩
  f17 := ⟨Tryz.f104.name, by decide, Tryz.func104.trans (congrArg some (by kernel_rfl))⟩
  f18 := ⟨Tryz.f105.name, by decide, Tryz.func105.trans (congrArg some (by kernel_rfl))⟩
  f19 := Tryz.func106.trans (congrArg some (by kernel_rfl))
  f20 := Tryz.func107.trans (congrArg some (by kernel_rfl))
  f30 := ⟨Tryz.f121.name, by decide, Tryz.func121.trans (congrArg some (by kernel_rfl))⟩
  f31 := Tryz.func122.trans (congrArg some (by kernel_rfl))
  f32 := Tryz.func123.trans (congrArg some (by kernel_rfl))
  f33 := ⟨Tryz.f124.name, by decide, Tryz.func124.trans (congrArg some (by kernel_rfl))⟩
  f34 := ⟨Tryz.f125.name, by decide, Tryz.func125.trans (congrArg some (by kernel_rfl))⟩
  f35 := ⟨Tryz.f126.name, by decide, Tryz.func126.trans (congrArg some (by kernel_rfl))⟩
  f40 := ⟨Tryz.f134.name, by decide, Tryz.func134.trans (congrArg some (by kernel_rfl))⟩
  t0 := Tryz.underlying0
  a0 := Tryz.isAgg0
  z0 := Tryz.sizeOf0
  v0 := Tryz.zeroValue0
  t3 := Tryz.underlying3
  a3 := Tryz.isAgg3
  z3 := Tryz.sizeOf3
  v3 := Tryz.zeroValue3
  t4 := Tryz.underlying4
  a4 := Tryz.isAgg4
  z4 := Tryz.sizeOf4
  v4 := Tryz.zeroValue4
  t5 := Tryz.underlying5
  a5 := Tryz.isAgg5
  z5 := Tryz.sizeOf5
  v5 := Tryz.zeroValue5
  t9 := Tryz.underlying9
  a9 := Tryz.isAgg9
  z9 := Tryz.sizeOf9
  v9 := Tryz.zeroValue9
  t22 := Tryz.underlying32
  a22 := Tryz.isAgg32
  z22 := Tryz.sizeOf32
  v22 := Tryz.zeroValue32
  t23 := Tryz.underlying32
  a23 := Tryz.isAgg32
  z23 := Tryz.sizeOf32
  v23 := Tryz.zeroValue32
  t25 := Tryz.underlying3
  a25 := Tryz.isAgg3
  z25 := Tryz.sizeOf3
  v25 := Tryz.zeroValue3
  t32 := Tryz.underlying22
  a32 := Tryz.isAgg22
  z32 := Tryz.sizeOf22
  v32 := Tryz.zeroValue22
  t35 := Tryz.underlying157
  a35 := Tryz.isAgg157
  z35 := Tryz.sizeOf157
  v35 := Tryz.zeroValue157
  t36 := Tryz.underlying158
  a36 := Tryz.isAgg158
  z36 := Tryz.sizeOf158
  v36 := Tryz.zeroValue158
  t41 := Tryz.underlying163
  a41 := Tryz.isAgg163
  z41 := Tryz.sizeOf163
  v41 := Tryz.zeroValue163
  t44 := Tryz.underlying166
  a44 := Tryz.isAgg166
  z44 := Tryz.sizeOf166
  v44 := Tryz.zeroValue166
  t46 := Tryz.underlying168
  a46 := Tryz.isAgg168
  z46 := Tryz.sizeOf168
  v46 := Tryz.zeroValue168
  t53 := Tryz.underlying185
  a53 := Tryz.isAgg185
  z53 := Tryz.sizeOf185
  v53 := Tryz.zeroValue185
  t57 := Tryz.underlying84
  a57 := Tryz.isAgg84
  z57 := Tryz.sizeOf84
  v57 := Tryz.zeroValue84
  t63 := Tryz.underlying207
  a63 := Tryz.isAgg207
  z63 := Tryz.sizeOf207
  v63 := Tryz.zeroValue207
  t64 := Tryz.underlying113
  a64 := Tryz.isAgg113
  z64 := Tryz.sizeOf113
  v64 := Tryz.zeroValue113 }
end Go.Proofs
end
section
namespace Go.Proofs.YthifdofdoeaemaaGreatDoor.Wk
open Go.RowKit Go.Proofs.YthifdofdoeaemaaGreatDoorW.PrintWords Go.Proofs.YthifdofdoeaemaaGreatDoorW.PrintLast Go.Proofs.YthifdofdoeaemaaGreatDoorW.PrintMore
attribute [local go_sem] max2_int min2_int max_two min_two max_three min_three max_four min_four
set_option linter.unusedVariables false
set_option linter.unusedSimpArgs false
section
open Go.RowKit Go.Lib Go.Proofs.YthifdofdoeaemaaGreatDoorQ
attribute [local go_sem] Oper.semAt_some
def cutL : List UInt8 → List (List UInt8)
  | [] => [[]]
  | b :: l => if b = 47 then [] :: cutL l else match cutL l with
    | [] => [[b]]
    | p :: ps => (b :: p) :: ps
theorem cutL_ne (l : List UInt8) : cutL l ≠ [] := by
  cases l with
  | nil => simp [cutL]
  | cons b l =>
    unfold cutL
    split
    · simp
    · split <;> simp
theorem cutL_none : ∀ l : List UInt8, Lib.indexByte l 47 = -1 → cutL l = [l]
  | [], _ => rfl
  | b :: l, h => by
    have hg := Lib.indexByte_ge l 47
    have hb : ¬ b = 47 := by rintro rfl; simp [Lib.indexByte] at h
    have hl : Lib.indexByte l 47 = -1 := by
      simp only [Lib.indexByte, beq_iff_eq, hb, if_false] at h
      split at h
      · assumption
      · omega
    unfold cutL
    rw [if_neg hb, cutL_none l hl]
theorem cutL_some : ∀ (l : List UInt8) (o : Nat), Lib.indexByte l 47 = o → o < l.length ∧ cutL l = l.take o :: cutL (l.drop (o + 1))
  | [], o, h => by simp [Lib.indexByte] at h
  | b :: l, o, h => by
    by_cases hb : b = 47
    · subst hb
      have ho : o = 0 := by simp [Lib.indexByte] at h; omega
      subst ho
      exact ⟨by simp, by simp [cutL]⟩
    · simp only [Lib.indexByte, beq_iff_eq, hb, if_false] at h
      split at h
      · omega
      · have hg := Lib.indexByte_ge l 47
        obtain ⟨o', rfl⟩ : ∃ o', o = o' + 1 := ⟨o - 1, by omega⟩
        obtain ⟨h1, h2⟩ := cutL_some l o' (by push_cast at h; omega)
        refine ⟨by simp; omega, ?_⟩
        rw [show cutL (b :: l) = (if b = 47 then [] :: cutL l else match cutL l with | [] => [[b]] | p :: ps => (b :: p) :: ps) from rfl, if_neg hb, h2]
        rfl
def mkB (l : List UInt8) : ByteArray := ⟨l.toArray⟩
theorem mkB_data (s : ByteArray) : mkB s.data.toList = s := rfl
theorem data_mkB (l : List UInt8) : (mkB l).data.toList = l := by simp [mkB]
theorem mkB_eq {s t : ByteArray} (h : s.data.toList = t.data.toList) : s = t := by rw [← mkB_data s, ← mkB_data t, h]
def partsB (s : ByteArray) : List ByteArray := (cutL s.data.toList).map mkB
theorem partsB_none (s : ByteArray) (h : Lib.indexByte s.data.toList 47 = -1) : partsB s = [s] := by
  unfold partsB
  rw [cutL_none _ h]
  rfl
theorem partsB_some (s : ByteArray) (o : Nat) (h : Lib.indexByte s.data.toList 47 = o) : o < s.size ∧ partsB s = s.extract 0 o :: partsB (s.extract (o + 1) s.size) := by
  obtain ⟨h1, h2⟩ := cutL_some _ o h
  have hz := Lib.size_eq s
  refine ⟨by omega, ?_⟩
  unfold partsB
  rw [h2, List.map_cons]
  congr 1
  · apply mkB_eq
    rw [data_mkB, Lib.extract_data]
    simp
  · rw [Lib.extract_data, List.take_of_length_le]
    rw [List.length_drop]
    omega
theorem idx_nat (l : List UInt8) (h : ¬ Lib.indexByte l 47 = -1) : ∃ o : Nat, Lib.indexByte l 47 = o := by
  have hix := Lib.indexByte_ge l 47
  exact ⟨(Lib.indexByte l 47).toNat, by omega⟩
theorem wrap_on (o : Nat) (h : o < 4294967296) : wrap64 (o : Int) = o := by
  unfold wrap64
  omega
theorem wrap_on1 (o : Nat) (h : o < 4294967296) : wrap64 ((o : Int) + 1) = o + 1 := by
  unfold wrap64
  omega
set_option maxHeartbeats 4000000 in
theorem split1_hands (Bp Bs Bv : Nat) (s : ByteArray) (w : World) (hz0 : s.size < 4294967281) (hp : w.heap[Bp]? = some (.cells #[.string ⟨#[47]⟩] 9 (0, 0))) (hs : w.heap[Bs]? = some (.cells #[.string s] 9 (0, 0))) (hv : w.heap[Bv]? = some (.cells #[.int .i64 0] 3 (0, 0))) (hps : Bp ≠ Bs) (hvs : Bv ≠ Bs) :
    HandsS Tryz.prog 148 #[.pointer (some ⟨Bp, 0, none⟩), .pointer (some ⟨Bs, 0, none⟩), .pointer (some ⟨Bv, 0, none⟩)] Value.string (partsB s) (fun k => k = Bs) (fun k => k = Bp ∨ k = Bs ∨ k = Bv) w := by
  intro l n J Jx W hW hJ hY h0
  have hlp := (Array.getElem?_eq_some_iff.1 hp).1
  have hls := (Array.getElem?_eq_some_iff.1 hs).1
  have hlv := (Array.getElem?_eq_some_iff.1 hv).1
  have gp := (hW.same Bp (.inl rfl) hlp).trans hp
  have gs := (hW.same Bs (.inr (.inl rfl)) hls).trans hs
  have gv := (hW.same Bv (.inr (.inr rfl)) hlv).trans hv
  have cp : W.cell? ⟨Bp, 0, none⟩ = some (.string ⟨#[47]⟩) := (blk_cell gp 0).trans rfl
  have HY := Aside0.mk hY
  have HJ := Aside0.mk hJ
  have HZ0 := Aside0.mk hz0
  clear hY hJ hp hs hv hW hz0
  have hro : Fence.wide.round = none := rfl
  have hdp : Fence.wide.depth = none := rfl
  have hdi : ¬ (Fence.wide.depth.isSome = true) := by simp [Fence.wide]
  refine callsIn_of_wp Tryz.func148 rfl trivial ?_ rfl
  simp only [Tryz.ntmps148, List.size_toArray, List.length_cons, List.length_nil, Nat.reduceAdd, Nat.reduceSub, Array.replicate_succ, Array.replicate_zero, List.push_toArray, List.append_toArray, List.nil_append, List.cons_append]
  have HJ0 := Aside0.mk h0
  clear h0
  gi_wp2
  gi_loopg [7, 8] s.size (fun g _ _ wq => ∃ (r : ByteArray) (pre : List ByteArray), r.size ≤ g ∧ r.size ≤ s.size ∧ wq.heap[Bp]? = some (.cells #[.string ⟨#[47]⟩] 9 (0, 0)) ∧ wq.heap[Bs]? = some (.cells #[.string r] 9 (0, 0)) ∧ wq.heap[Bv]? = some (.cells #[.int .i64 0] 3 (0, 0)) ∧ Aside0 (pre ++ partsB r = partsB s) ∧ Aside0 (J pre wq))
  case atStart => exact ⟨s, [], Nat.le_refl _, Nat.le_refl _, gp, gs, gv, ⟨rfl⟩, HJ0⟩
  case round =>
    obtain ⟨r, pre, hrg, hrs, qp, qs, qv, HP, HJ1⟩ := hrel
    have cp : wr.cell? ⟨Bp, 0, none⟩ = some (.string ⟨#[47]⟩) := (blk_cell qp 0).trans rfl
    have cs : wr.cell? ⟨Bs, 0, none⟩ = some (.string r) := (blk_cell qs 0).trans rfl
    have cv : wr.cell? ⟨Bv, 0, none⟩ = some (.int .i64 0) := (blk_cell qv 0).trans rfl
    by_cases hi : Lib.indexByte r.data.toList 47 = -1
    · have hpr := partsB_none r hi
      rw [hpr] at HP
      obtain ⟨fn, tmps, assign, body, hy, hR⟩ := HY.out pre r wr HJ1.out (by rw [HP.out]; exact List.prefix_refl _)
      gi_wp2_with (refine ⟨trivial, ?_⟩; gi_at_call 150; refine (callsIn_wide.2 (Tryz.strings_Index_one _ _ _)).mono ?_; rintro e_ w2 ⟨rfl, rfl⟩; rw [hi])
      refine hR.mono ?_
      rintro e W3 (⟨rfl, hJ3, hs3⟩ | ⟨rfl, hJ3⟩)
      · rw [HP.out] at hJ3
        gi_wp2
        go_end0
        exact ⟨⟨_, rfl⟩, .inl hJ3⟩
      · gi_wp2
        go_end0
        exact ⟨⟨_, rfl⟩, .inr ⟨_, by rw [HP.out]; exact List.prefix_refl _, hJ3⟩⟩
    · obtain ⟨o, ho⟩ : ∃ o : Nat, Lib.indexByte r.data.toList 47 = o := idx_nat _ hi
      obtain ⟨hor, hpr⟩ := partsB_some r o ho
      rw [hpr] at HP
      have hz1 : (r.extract (o + 1) r.size).size = r.size - (o + 1) := by simp
      obtain ⟨fn, tmps, assign, body, hy, hR⟩ := HY.out pre (r.extract 0 o) wr HJ1.out (by rw [← HP.out]; exact ⟨partsB (r.extract (o + 1) r.size), by simp⟩)
      have HP2 : Aside0 ((pre ++ [r.extract 0 o]) ++ partsB (r.extract (o + 1) r.size) = partsB s) := ⟨by rw [List.append_assoc]; exact HP.out⟩
      have ho4 : o < 4294967296 := Nat.lt_trans hor (Nat.lt_of_le_of_lt hrs (Nat.lt_trans HZ0.out (by decide)))
      have hA := fun w => run_slice_string_h (P := Tryz.prog) w 9 r Tryz.underlying9 .i64 o (Int.natCast_nonneg o) (by omega)
      have hB := fun w => run_slice_string_l (P := Tryz.prog) w 9 r Tryz.underlying9 .i64 (o + 1) (by omega) (by omega)
      rw [show ((o : Int)).toNat = o from rfl] at hA
      rw [show ((o : Int) + 1).toNat = o + 1 from rfl] at hB
      have hw := wrap_on o ho4
      have hw1 := wrap_on1 o ho4
      have hneg : decide ((o : Int) < 0) = false := decide_eq_false (Int.not_lt.2 (Int.natCast_nonneg o))
      have HO := Aside0.mk hor
      clear ho4
      have HZ1 := Aside0.mk hz1
      clear hz1 hpr
      generalize hoj : (o : Int) + 1 = oj at hB hw1
      generalize hoi : (o : Int) = oi at hA hw hneg ho hoj
      generalize r.extract 0 o = pa at hA hR hy HP HP2
      generalize r.extract (o + 1) r.size = pb at hB HP HP2 HZ1
      have HOI := Aside0.mk hoi
      clear hoi hi
      gi_wp2_with (refine ⟨trivial, ?_⟩; gi_at_call 150; refine (callsIn_wide.2 (Tryz.strings_Index_one _ _ _)).mono ?_; rintro e_ w2 ⟨rfl, rfl⟩; rw [ho])
      refine hR.mono ?_
      clear hR hy
      rintro e W3 (⟨rfl, hJ3, hs3⟩ | ⟨rfl, hJ3⟩)
      · have q3 := (hs3.same Bs (.inr (.inl rfl)) (Array.getElem?_eq_some_iff.1 qs).1).trans qs
        have p3 := (hs3.same Bp (.inl rfl) (Array.getElem?_eq_some_iff.1 qp).1).trans qp
        have v3 := (hs3.same Bv (.inr (.inr rfl)) (Array.getElem?_eq_some_iff.1 qv).1).trans qv
        have cp3 : W3.cell? ⟨Bp, 0, none⟩ = some (.string ⟨#[47]⟩) := (blk_cell p3 0).trans rfl
        have cs3 : W3.cell? ⟨Bs, 0, none⟩ = some (.string r) := (blk_cell q3 0).trans rfl
        have fs3 := blk_frozen q3 0
        have HJ3 := Aside0.mk hJ3
        clear hJ3 hs3
        gi_wp2
        clear hw hw1 hneg hA hB ho
        gi_roundg (gk - 1)
        case measure => have := HO.out; omega
        case rel =>
          refine ⟨pb, pre ++ [pa], by have := HO.out; rw [HZ1.out]; omega, by rw [HZ1.out]; omega, ?_, ?_, ?_, HP2, ⟨HJ.out _ _ _ HJ3.out (SameOn.setCell _ _ _ (by simp))⟩⟩
          · exact blk_far p3 hps _
          · exact (blk_set q3 0 _).trans rfl
          · exact blk_far v3 hvs _
      · gi_wp2
        refine bodyPost_ret (results_none rfl _ _ _) rfl ?_
        exact ⟨⟨_, rfl⟩, .inr ⟨_, by rw [← HP.out]; exact ⟨partsB pb, by simp⟩, hJ3⟩⟩
set_option maxHeartbeats 4000000 in
theorem parts_calls (s : ByteArray) (w : World) (h0 : 1 ≤ s.size) :
    Calls Tryz.prog 95 #[.string s] w fun e w' => e = .returned (.func (.func 148) #[] #[.pointer (some ⟨w.heap.size + 1, 0, none⟩), .pointer (some ⟨w.heap.size, 0, none⟩), .pointer (some ⟨w.heap.size + 2, 0, none⟩)]) ∧ w' = (((w.alloc (.cells #[.string (s.extract 1 s.size)] 9)).alloc (.cells #[.string ⟨#[47]⟩] 9)).alloc (.cells #[.int .i64 0] 3)) := by
  have hB := fun w => run_slice_string_l (P := Tryz.prog) w 9 s Tryz.underlying9 .i64 1 (by omega) (by omega)
  rw [show ((1 : Int)).toNat = 1 from rfl] at hB
  generalize s.extract 1 s.size = pb at hB ⊢
  go_enter Tryz.func95, Tryz.ntmps95
  go_wp2
  go_ret
  exact ⟨rfl, rfl⟩
end
end Go.Proofs.YthifdofdoeaemaaGreatDoor.Wk
end
section
namespace Go.Proofs.YthifdofdoeaemaaGreatDoor.Wk
open Go.RowKit Go.Proofs.YthifdofdoeaemaaGreatDoorW.PrintWords Go.Proofs.YthifdofdoeaemaaGreatDoorW.PrintLast Go.Proofs.YthifdofdoeaemaaGreatDoorW.PrintMore
attribute [local go_sem] max2_int min2_int max_two min_two max_three min_three max_four min_four
set_option linter.unusedVariables false
set_option linter.unusedSimpArgs false
section
open Go.RowKit Go.Extern.Stop Go.Stop Go.Extern
theorem errAs_nil (t : Value) (w : World) :
    Calls Tryz.prog 96 #[.nilIface, t] w fun e w' => e = .returned (.bool false) ∧ w' = w := by
  go_enter Tryz.func96, Tryz.ntmps96
  go_wp2
  go_ret
  exact ⟨rfl, rfl⟩
theorem as_valueOf27 (t : Addr) (w : World) : (ReflectliteValue.unpack (.iface 153 (.pointer (some t)))).run Tryz.prog w
    = .ok (.agg #[.pointer (some ⟨4, 153, none⟩), .pointer (some ⟨w.heap.size, 0, none⟩), .int .u64 150]) (w.alloc (.cells #[.pointer (some t)] 153)) := by kernel_rfl
theorem as_type27 (a : Addr) (w : World) : (ReflectliteValue.methodAny (ReflectliteValue.valueError "reflectlite.Value.Type" 0) (fun t _ _ _ => ReflectliteType.toType t) #[.agg #[.pointer (some ⟨4, 153, none⟩), .pointer (some a), .int .u64 150]]).run Tryz.prog w
    = .ok (.iface 194 (.agg #[.pointer (some ⟨4, 153, none⟩)])) w := by kernel_rfl
theorem as_methodKind (h : Value) (w : World) : (Go.method 362 194 (.agg #[h]) "Kind").run Tryz.prog w = .ok (180, h) w := by kernel_rfl
theorem as_kind27 (w : World) : ((ReflectliteType.abiMethod fun t => (fun a : Nat => Value.int IntKind.u8 (a : Int)) <$> Rtype.kind t) #[.pointer (some ⟨4, 153, none⟩)]).run Tryz.prog w = .ok (.int .u8 22) w := by kernel_rfl
theorem as_kind25 (w : World) : ((ReflectliteType.abiMethod fun t => (fun a : Nat => Value.int IntKind.u8 (a : Int)) <$> Rtype.kind t) #[.pointer (some ⟨4, 151, none⟩)]).run Tryz.prog w = .ok (.int .u8 22) w := by kernel_rfl
theorem rlm (z : Sem Value) (f : TypeId → Addr → Nat → Nat → Sem Value) (v : Value) :
    ReflectliteValue.method z f #[v] = (do match ← ReflectliteValue.parts v with | none => z | some (t, a, fl) => f t a fl (fl % 32)) := rfl
theorem as_parts27 (a : Addr) (w : World) : (ReflectliteValue.parts (.agg #[.pointer (some ⟨4, 153, none⟩), .pointer (some a), .int .u64 150])).run Tryz.prog w = .ok (some (153, a, 150)) w := by kernel_rfl
theorem as_isNil27 (a p : Addr) (W : World) (ha : W.cell? a = some (.pointer (some p))) :
    (ReflectliteValue.method (ReflectliteValue.valueError "reflectlite.Value.IsNil" 0) ReflectliteValue.isNil #[.agg #[.pointer (some ⟨4, 153, none⟩), .pointer (some a), .int .u64 150]]).run Tryz.prog W = .ok (.bool false) W := by
  rw [rlm]
  simp only [Sem.run_bind, as_parts27, Result.andThen]
  simp [ReflectliteValue.isNil, loadVar, isAgg, underlying, Tryz.underlying153, ha, Result.andThen]
theorem as_methodElem (h : Value) (w : World) : (Go.method 362 194 (.agg #[h]) "Elem").run Tryz.prog w = .ok (192, .agg #[h]) w := by kernel_rfl
theorem as_methodImplements (h : Value) (w : World) : (Go.method 362 194 (.agg #[h]) "Implements").run Tryz.prog w = .ok (193, .agg #[h]) w := by kernel_rfl
theorem as_methodAssignableTo (h : Value) (w : World) : (Go.method 362 194 (.agg #[h]) "AssignableTo").run Tryz.prog w = .ok (190, .agg #[h]) w := by kernel_rfl
theorem as_elem27 (w : World) : (ReflectliteType.method ReflectliteType.elem #[.agg #[.pointer (some ⟨4, 153, none⟩)]]).run Tryz.prog w = .ok (.iface 194 (.agg #[.pointer (some ⟨4, 151, none⟩)])) w := by kernel_rfl
theorem as_implements25 (w : World) : (ReflectliteType.relation "Implements" ReflectliteType.implements_ #[.agg #[.pointer (some ⟨4, 151, none⟩)], .iface 194 (.agg #[.pointer (some ⟨4, 124, none⟩)])]).run Tryz.prog w = .ok (.bool true) w := by kernel_rfl
theorem as_typeOf25 (v : Value) (w : World) : (ReflectliteType.typeOf #[.iface 151 v]).run Tryz.prog w = .ok (.iface 194 (.agg #[.pointer (some ⟨4, 151, none⟩)])) w := by kernel_rfl
theorem as_assignable25 (w : World) : (ReflectliteType.relation "AssignableTo" ReflectliteType.assignableTo #[.agg #[.pointer (some ⟨4, 151, none⟩)], .iface 194 (.agg #[.pointer (some ⟨4, 151, none⟩)])]).run Tryz.prog w = .ok (.bool true) w := by kernel_rfl
theorem as_valueOf25 (e : Addr) (w : World) : (ReflectliteValue.unpack (.iface 151 (.pointer (some e)))).run Tryz.prog w
    = .ok (.agg #[.pointer (some ⟨4, 151, none⟩), .pointer (some ⟨w.heap.size, 0, none⟩), .int .u64 150]) (w.alloc (.cells #[.pointer (some e)] 151)) := by kernel_rfl
theorem as_elemOf27 (w : World) : (Rtype.elem? 153).run Tryz.prog w = .ok (some 151) w := by kernel_rfl
theorem as_mk25 (p : Addr) (w : World) : (ReflectliteValue.mk 151 p ReflectliteValue.flagAddr).run Tryz.prog w = .ok (.agg #[.pointer (some ⟨4, 151, none⟩), .pointer (some p), .int .u64 406]) w := by kernel_rfl
theorem as_elemV27 (a p : Addr) (W : World) (ha : W.cell? a = some (.pointer (some p))) :
    (ReflectliteValue.method (ReflectliteValue.valueError "reflectlite.Value.Elem" 0) ReflectliteValue.elem #[.agg #[.pointer (some ⟨4, 153, none⟩), .pointer (some a), .int .u64 150]]).run Tryz.prog W
      = .ok (.agg #[.pointer (some ⟨4, 151, none⟩), .pointer (some p), .int .u64 406]) W := by
  rw [rlm]
  simp only [Sem.run_bind, as_parts27, Result.andThen]
  simp [ReflectliteValue.elem, loadVar, isAgg, underlying, Tryz.underlying153, ha, Result.andThen, as_elemOf27, as_mk25]
theorem rls (v x : Value) : ReflectliteValue.set #[v, x] = (do
    let (some (dst, a, fl), some (src, b, _)) := (← ReflectliteValue.parts v, ← ReflectliteValue.parts x)
      | unsupported (.noEntry "extern/(internal/reflectlite.Value).Set.zeroValue")
    if fl / ReflectliteValue.flagAddr % 2 == 0 then unsupported (.noEntry "extern/(internal/reflectlite.Value).Set.unaddressable")
    let val ← loadVar src b
    if ← Rtype.directlyAssignable dst src then storeVar dst a val
    else if ← Rtype.implements dst src then
      if (← Rtype.kind src) == 20 then
        match val with
        | .nilIface => unsupported (.noEntry "extern/reflectlite: a nil value of one interface type handed on as a value of another")
        | _ => storeVar dst a val
      else storeVar dst a (.iface src val)
    else panicString ("reflectlite.Set: value of type " ++ (← Rtype.spelt src) ++ " is not assignable to type " ++ (← Rtype.spelt dst))
    pure (.tuple #[])) := rfl
theorem as_parts25a (a : Addr) (w : World) : (ReflectliteValue.parts (.agg #[.pointer (some ⟨4, 151, none⟩), .pointer (some a), .int .u64 406])).run Tryz.prog w = .ok (some (151, a, 406)) w := by kernel_rfl
theorem as_parts25 (a : Addr) (w : World) : (ReflectliteValue.parts (.agg #[.pointer (some ⟨4, 151, none⟩), .pointer (some a), .int .u64 150])).run Tryz.prog w = .ok (some (151, a, 150)) w := by kernel_rfl
theorem as_direct25 (w : World) : (Rtype.directlyAssignable 151 151).run Tryz.prog w = .ok true w := by kernel_rfl
theorem as_set25 (ta b e : Addr) (old : Value) (W : World) (hb : W.cell? b = some (.pointer (some e))) (ht : W.cell? ta = some old) (hf : W.frozen? ta = false) :
    (ReflectliteValue.set #[.agg #[.pointer (some ⟨4, 151, none⟩), .pointer (some ta), .int .u64 406], .agg #[.pointer (some ⟨4, 151, none⟩), .pointer (some b), .int .u64 150]]).run Tryz.prog W
      = .ok (.tuple #[]) (W.setCell ta (.pointer (some e))) := by
  rw [rls]
  simp only [Sem.run_bind, as_parts25a, as_parts25, Result.andThen]
  simp [ReflectliteValue.flagAddr, loadVar, isAgg, underlying, Tryz.underlying151, hb, Result.andThen, as_direct25, storeVar, Value.cells, storeCells, Addr.add]
  rw [run_store Tryz.prog W ta _ _ (by rfl)]
  simp [ht, hf]
set_option maxHeartbeats 4000000 in
theorem errAs_hit (e t : Addr) (old : Value) (w : World) (hg : w.cell? ⟨0, 0, none⟩ = some (.iface 194 (.agg #[.pointer (some ⟨4, 124, none⟩)]))) (ht0 : w.cell? t = some old) (hf0 : w.frozen? t = false) :
    Calls Tryz.prog 96 #[.iface 151 (.pointer (some e)), .iface 153 (.pointer (some t))] w fun ev w' => ev = .returned (.bool true) ∧ w' = ((((w.alloc (.cells #[.pointer (some t)] 153)).alloc (.cells #[.pointer (some ⟨4, 153, none⟩), .pointer (some ⟨w.heap.size, 0, none⟩), .int .u64 150] 176)).alloc (.cells #[.pointer (some ⟨4, 153, none⟩), .pointer (some ⟨w.heap.size, 0, none⟩), .int .u64 150] 176)).alloc (.cells #[.pointer (some e)] 151)).setCell t (.pointer (some e)) := by
  have h6 := @run_callFunc_extern Tryz.prog 117 _ (fun args => ReflectliteValue.unpack (args.getD 0 (.tuple #[]))) Tryz.func117 (by kernel_rfl) (by kernel_rfl) (by kernel_rfl) (by kernel_rfl)
  have h7 := @run_callFunc_extern Tryz.prog 118 _ (ReflectliteValue.methodAny (ReflectliteValue.valueError "reflectlite.Value.Type" 0) (fun t _ _ _ => ReflectliteType.toType t)) Tryz.func118 (by kernel_rfl) (by kernel_rfl) (by kernel_rfl) (by kernel_rfl)
  have h8 := @run_callFunc_extern Tryz.prog 119 _ (ReflectliteValue.method (ReflectliteValue.valueError "reflectlite.Value.IsNil" 0) ReflectliteValue.isNil) Tryz.func119 (by kernel_rfl) (by kernel_rfl) (by kernel_rfl) (by kernel_rfl)
  have h27 := @run_callFunc_extern Tryz.prog 180 _ (ReflectliteType.abiMethod fun t => do pure (.int .u8 (← Rtype.kind t))) Tryz.func180 (by kernel_rfl) (by kernel_rfl) (by kernel_rfl) (by kernel_rfl)
  have h37 := @run_callFunc_extern Tryz.prog 192 _ (ReflectliteType.method ReflectliteType.elem) Tryz.func192 (by kernel_rfl) (by kernel_rfl) (by kernel_rfl) (by kernel_rfl)
  have h38 := @run_callFunc_extern Tryz.prog 193 _ (ReflectliteType.relation "Implements" ReflectliteType.implements_) Tryz.func193 (by kernel_rfl) (by kernel_rfl) (by kernel_rfl) (by kernel_rfl)
  have h10 := @run_callFunc_extern Tryz.prog 131 _ ReflectliteType.typeOf Tryz.func131 (by kernel_rfl) (by kernel_rfl) (by kernel_rfl) (by kernel_rfl)
  have h35 := @run_callFunc_extern Tryz.prog 190 _ (ReflectliteType.relation "AssignableTo" ReflectliteType.assignableTo) Tryz.func190 (by kernel_rfl) (by kernel_rfl) (by kernel_rfl) (by kernel_rfl)
  have h11 := @run_callFunc_extern Tryz.prog 132 _ (ReflectliteValue.method (ReflectliteValue.valueError "reflectlite.Value.Elem" 0) ReflectliteValue.elem) Tryz.func132 (by kernel_rfl) (by kernel_rfl) (by kernel_rfl) (by kernel_rfl)
  have h12 := @run_callFunc_extern Tryz.prog 133 _ ReflectliteValue.set Tryz.func133 (by kernel_rfl) (by kernel_rfl) (by kernel_rfl) (by kernel_rfl)
  have tO := as_typeOf25
  have mA := as_methodAssignableTo
  have a25 := as_assignable25
  have v25 := as_valueOf25
  have f6 := as_valueOf27
  have f7 := as_type27
  have mK := as_methodKind
  have mE := as_methodElem
  have mI := as_methodImplements
  have k27 := as_kind27
  have k25 := as_kind25
  have e27 := as_elem27
  have i25 := as_implements25
  have n8 := as_isNil27 ⟨w.heap.size, 0, none⟩ t ((w.alloc (.cells #[.pointer (some t)] 153)).alloc (.cells #[.pointer (some ⟨4, 153, none⟩), .pointer (some ⟨w.heap.size, 0, none⟩), .int .u64 150] 176)) (by simp)
  have hlt : 0 < w.heap.size := World.block_lt_of_cell? w _ hg
  have hg2 : ((w.alloc (.cells #[.pointer (some t)] 153)).alloc (.cells #[.pointer (some ⟨4, 153, none⟩), .pointer (some ⟨w.heap.size, 0, none⟩), .int .u64 150] 176)).cell? ⟨0, 0, none⟩ = some (.iface 194 (.agg #[.pointer (some ⟨4, 124, none⟩)])) := by
    rw [World.cell?_alloc_lt _ _ ⟨0, 0, none⟩ (by simp), World.cell?_alloc_lt _ _ ⟨0, 0, none⟩ hlt]; exact hg
  have htl : t.block < w.heap.size := by
    rcases Nat.lt_or_ge t.block w.heap.size with h | h
    · exact h
    · simp [World.cell?, Array.getElem?_eq_none h] at ht0
  have el := as_elemV27 ⟨w.heap.size, 0, none⟩ t (((w.alloc (.cells #[.pointer (some t)] 153)).alloc (.cells #[.pointer (some ⟨4, 153, none⟩), .pointer (some ⟨w.heap.size, 0, none⟩), .int .u64 150] 176)).alloc (.cells #[.pointer (some ⟨4, 153, none⟩), .pointer (some ⟨w.heap.size, 0, none⟩), .int .u64 150] 176)) (by rw [World.cell?_alloc_lt _ _ ⟨w.heap.size, 0, none⟩ (by simp; omega)]; simp)
  have st := as_set25 t ⟨w.heap.size + 1 + 1 + 1, 0, none⟩ e old ((((w.alloc (.cells #[.pointer (some t)] 153)).alloc (.cells #[.pointer (some ⟨4, 153, none⟩), .pointer (some ⟨w.heap.size, 0, none⟩), .int .u64 150] 176)).alloc (.cells #[.pointer (some ⟨4, 153, none⟩), .pointer (some ⟨w.heap.size, 0, none⟩), .int .u64 150] 176)).alloc (.cells #[.pointer (some e)] 151))
    (by rw [World.cell?_alloc_at _ _ _ _ (by simp)]; rfl)
    (by rw [World.cell?_alloc_lt _ _ t (by simp; omega), World.cell?_alloc_lt _ _ t (by simp; omega), World.cell?_alloc_lt _ _ t (by simp; omega), World.cell?_alloc_lt _ _ t htl]; exact ht0)
    (by rw [World.frozen?_alloc_old _ _ t (by simp; omega), World.frozen?_alloc_old _ _ t (by simp; omega), World.frozen?_alloc_old _ _ t (by simp; omega), World.frozen?_alloc_old _ _ t (Nat.ne_of_lt htl)]; exact hf0)
  go_enter Tryz.func96, Tryz.ntmps96
  go_wp2
  refine wp_loop_rounds 1 ?_
  rw [rounds_succ]
  go_wp2
  go_ret
  exact ⟨rfl, rfl⟩
end
end Go.Proofs.YthifdofdoeaemaaGreatDoor.Wk
end
section
namespace Go.Proofs.YthifdofdoeaemaaGreatDoor.Wk
open Go.RowKit Go.Proofs.YthifdofdoeaemaaGreatDoorW.PrintWords Go.Proofs.YthifdofdoeaemaaGreatDoorW.PrintLast Go.Proofs.YthifdofdoeaemaaGreatDoorW.PrintMore
attribute [local go_sem] max2_int min2_int max_two min_two max_three min_three max_four min_four
set_option linter.unusedVariables false
set_option linter.unusedSimpArgs false
section
open Go.RowKit Go.Extern.Stop Go.Stop Go.Extern
def Lay (w : World) : Prop := w.cell? ⟨0, 0, none⟩ = some (.iface 194 (.agg #[.pointer (some ⟨4, 124, none⟩)]))
theorem lay_below {w w' : World} (h : Lay w) (hb : Below w.heap.size w w') : Lay w' := (hb.cell (World.block_lt_of_cell? w _ h)).trans h
def FaultAt (W : World) (g : Nat) (at_ why : Int) : Prop := W.heap[g]? = some (.cells #[.int .i64 at_, .int .i64 why] 155 (0, 0))
set_option maxHeartbeats 4000000 in
theorem wrong_calls (at_ why : Int) (w : World) : Calls Tryz.prog 93 #[.int .i64 at_, .int .i64 why] w fun e w' => ∃ g, e = .returned (.iface 151 (.pointer (some ⟨g, 0, none⟩))) ∧ FaultAt w' g at_ why ∧ w.heap.size ≤ g ∧ Below w.heap.size w w' := by
  have hu := Tryz.underlying155
  go_enter Tryz.func93, Tryz.ntmps93
  go_wp2_with (first | ((with_reducible refine gate_dst (N := 8) rfl ?_); refine box_event ?hg (N := 8) ?hd (cs := #[.int .i64 at_, .int .i64 why]) (t := 155) ?hr ?_; (case hd => rfl); (case hg => rfl); (case hr => first | (go_simp; done) | (go_simp; rfl)); intro b hg w1 hbox hb; have HBX := Aside0.mk hbox; have HB := Aside0.mk hb; have HG := Aside0.mk hg; clear hbox hb hg))
  go_ret
  exact ⟨_, rfl, HBX.out, by have := HG.out; omega, HB.out⟩
set_option maxHeartbeats 4000000 in
theorem plain_nil (w : World) : Calls Tryz.prog 74 #[.nilIface] w fun e w' => e = .returned (.tuple #[.int .i64 0, .int .i64 0]) ∧ Below w.heap.size w w' := by
  go_enter Tryz.func74, Tryz.ntmps74
  go_wp2_with (go_at_call 96; refine (errAs_nil _ _).mono ?_; rintro e_ w' ⟨rfl, rfl⟩)
  go_ret2
  exact ⟨rfl, below_alloc (Below.refl _ _) _⟩
set_option maxHeartbeats 4000000 in
theorem plain_hit (g : Nat) (at_ why : Int) (w : World) (hl : Lay w) (hf : FaultAt w g at_ why) : Calls Tryz.prog 74 #[.iface 151 (.pointer (some ⟨g, 0, none⟩))] w fun e w' => e = .returned (.tuple #[.int .i64 at_, .int .i64 why]) ∧ Below w.heap.size w w' := by
  have hgl : g < w.heap.size := (Array.getElem?_eq_some_iff.1 hf).1
  have HL := Aside0.mk hl
  have HF := Aside0.mk hf
  have HGL := Aside0.mk hgl
  clear hl hf hgl
  go_enter Tryz.func74, Tryz.ntmps74
  go_upto_region 2 with (fail)
  have hb1 := below_alloc (Below.refl w.heap.size w) (.cells #[.pointer none] 151)
  have HL1 := Aside0.mk (lay_below HL.out hb1)
  have HF1 := Aside0.mk ((hb1.block g HGL.out).trans HF.out)
  have hn := World.alloc_heap_new w (.cells #[.pointer none] 151)
  have ht0 : (w.alloc (.cells #[.pointer none] 151)).cell? ⟨w.heap.size, 0, none⟩ = some (.pointer none) := (blk_cell hn 0).trans rfl
  have hf0 := blk_frozen hn 0
  have hz : (w.alloc (.cells #[.pointer none] 151)).heap.size = w.heap.size + 1 := World.size_alloc _ _
  have HB1 := Aside0.mk hb1
  clear hb1 HL HF hn
  generalize w.alloc (.cells #[.pointer none] 151) = w1 at HL1 HF1 ht0 hf0 HB1 hz ⊢
  go_upto_region 4 with (go_at_call 96; refine (errAs_hit ⟨g, 0, none⟩ ⟨w.heap.size, 0, none⟩ (.pointer none) w1 HL1.out ht0 hf0).mono ?_; rintro e_ w2 ⟨rfl, hw2⟩; have HW2 := Aside0.mk hw2; clear hw2)
  have hS : (w2.cell? ⟨w.heap.size, 0, none⟩ = some (.pointer (some ⟨g, 0, none⟩)) ∧ w2.cell? ⟨g, 0, none⟩ = some (.int .i64 at_)) ∧ w2.cell? ⟨g, 1, none⟩ = some (.int .i64 why) ∧ Below w.heap.size w w2 := by
    rw [HW2.out]
    have hzz : w.heap.size < w1.heap.size := by omega
    have hb : Below w1.heap.size w1 ((((w1.alloc (.cells #[.pointer (some ⟨w.heap.size, 0, none⟩)] 153)).alloc (.cells #[.pointer (some ⟨4, 153, none⟩), .pointer (some ⟨w1.heap.size, 0, none⟩), .int .u64 150] 176)).alloc (.cells #[.pointer (some ⟨4, 153, none⟩), .pointer (some ⟨w1.heap.size, 0, none⟩), .int .u64 150] 176)).alloc (.cells #[.pointer (some ⟨g, 0, none⟩)] 151)) :=
      ((((Below.refl _ _).alloc (Nat.le_refl _) _).alloc (by simp only [World.size_alloc]; omega) _).alloc (by simp only [World.size_alloc]; omega) _).alloc (by simp only [World.size_alloc]; omega) _
    generalize ((((w1.alloc (.cells #[.pointer (some ⟨w.heap.size, 0, none⟩)] 153)).alloc (.cells #[.pointer (some ⟨4, 153, none⟩), .pointer (some ⟨w1.heap.size, 0, none⟩), .int .u64 150] 176)).alloc (.cells #[.pointer (some ⟨4, 153, none⟩), .pointer (some ⟨w1.heap.size, 0, none⟩), .int .u64 150] 176)).alloc (.cells #[.pointer (some ⟨g, 0, none⟩)] 151)) = w3 at hb ⊢
    have hgs : g < w1.heap.size := by have := HGL.out; omega
    have h3 : w3.heap[g]? = some (.cells #[.int .i64 at_, .int .i64 why] 155 (0, 0)) := (hb.block g hgs).trans HF1.out
    have h4 : (w3.setCell ⟨w.heap.size, 0, none⟩ (.pointer (some ⟨g, 0, none⟩))).heap[g]? = some (.cells #[.int .i64 at_, .int .i64 why] 155 (0, 0)) := by
      rw [Below.heap_setCell _ _ _ _ (show g ≠ w.heap.size by have := HGL.out; omega)]
      exact h3
    refine ⟨⟨World.cell?_setCell_same' _ _ _ (by rw [(hb.cell (p := ⟨w.heap.size, 0, none⟩) hzz).trans ht0]; rfl), (blk_cell h4 0).trans rfl⟩, (blk_cell h4 1).trans rfl, HB1.out.trans ((show Below w.heap.size w1 w3 from hb.mono (by omega)).setCell (p := ⟨w.heap.size, 0, none⟩) (Nat.le_refl _) _)⟩
  have HB := Aside0.mk hS.2.2
  have hSS : w2.drew.cell? ⟨w.heap.size, 0, none⟩ = some (.pointer (some ⟨g, 0, none⟩)) ∧ w2.drew.cell? ⟨g, 0, none⟩ = some (.int .i64 at_) ∧ w2.drew.cell? ⟨g, 1, none⟩ = some (.int .i64 why) := ⟨hS.1.1, hS.1.2, hS.2.1⟩
  clear hS HW2 ht0 hf0
  refine start_ (n := 10) (S := fun W' => W'.cell? ⟨w.heap.size, 0, none⟩ = some (.pointer (some ⟨g, 0, none⟩)) ∧ W'.cell? ⟨g, 0, none⟩ = some (.int .i64 at_) ∧ W'.cell? ⟨g, 1, none⟩ = some (.int .i64 why)) (ds := []) #[false, false, false, false, false, false, false, false, false, false] (by kernel_rfl) rfl rfl hSS (fun hHeld => ?_)
  refine take_ (i := 0) (N := some 9) (v := ?_) (a' := ?_) #[true, false, false, false, false, false, false, false, false, false] rfl rfl (by kernel_rfl) (fun _ _ _ h => h) (Or.inl ⟨by rfl, ?_⟩) hHeld ?_ ?_
  rotate_left
  · rintro w' ⟨c0_, c1_, c2_⟩
    go_simp
    with_reducible rfl
  rotate_left
  · simp only [Act.put, List.setIfInBounds_toArray, List.set_cons_zero, List.set_cons_succ, i64_w, i32_w]
    rfl
  refine pure_ (i := 1) (N := some 10) (v := ?_) (a' := ?_) #[true, true, false, false, false, false, false, false, false, false] rfl rfl (by kernel_rfl) (fun _ _ _ h => h) (Or.inl ⟨by rfl, ?_⟩) ?_ ?_
  rotate_left
  · intro w'
    go_simp
    with_reducible rfl
  rotate_left
  · simp only [Act.put, List.setIfInBounds_toArray, List.set_cons_zero, List.set_cons_succ, i64_w, i32_w]
    rfl
  refine pure_ (i := 2) (N := some 11) (v := ?_) (a' := ?_) #[true, true, true, false, false, false, false, false, false, false] rfl rfl (by kernel_rfl) (fun _ _ _ h => h) (Or.inl ⟨by rfl, ?_⟩) ?_ ?_
  rotate_left
  · intro w'
    go_simp
    with_reducible rfl
  rotate_left
  · simp only [Act.put, List.setIfInBounds_toArray, List.set_cons_zero, List.set_cons_succ, i64_w, i32_w]
    rfl
  refine take_ (i := 3) (N := some 12) (v := ?_) (a' := ?_) #[true, true, true, true, false, false, false, false, false, false] rfl rfl (by kernel_rfl) (fun _ _ _ h => h) (Or.inl ⟨by rfl, ?_⟩) hHeld ?_ ?_
  rotate_left
  · rintro w' ⟨c0_, c1_, c2_⟩
    go_simp
    with_reducible rfl
  rotate_left
  · simp only [Act.put, List.setIfInBounds_toArray, List.set_cons_zero, List.set_cons_succ, i64_w, i32_w]
    rfl
  refine take_ (i := 4) (N := some 13) (v := ?_) (a' := ?_) #[true, true, true, true, true, false, false, false, false, false] rfl rfl (by kernel_rfl) (fun _ _ _ h => h) (Or.inl ⟨by rfl, ?_⟩) hHeld ?_ ?_
  rotate_left
  · rintro w' ⟨c0_, c1_, c2_⟩
    go_simp
    with_reducible rfl
  rotate_left
  · simp only [Act.put, List.setIfInBounds_toArray, List.set_cons_zero, List.set_cons_succ, i64_w, i32_w]
    rfl
  refine pure_ (i := 5) (N := some 14) (v := ?_) (a' := ?_) #[true, true, true, true, true, true, false, false, false, false] rfl rfl (by kernel_rfl) (fun _ _ _ h => h) (Or.inl ⟨by rfl, ?_⟩) ?_ ?_
  rotate_left
  · intro w'
    go_simp
    with_reducible rfl
  rotate_left
  · simp only [Act.put, List.setIfInBounds_toArray, List.set_cons_zero, List.set_cons_succ, i64_w, i32_w]
    rfl
  refine pure_ (i := 6) (N := some 15) (v := ?_) (a' := ?_) #[true, true, true, true, true, true, true, false, false, false] rfl rfl (by kernel_rfl) (fun _ _ _ h => h) (Or.inl ⟨by rfl, ?_⟩) ?_ ?_
  rotate_left
  · intro w'
    go_simp
    with_reducible rfl
  rotate_left
  · simp only [Act.put, List.setIfInBounds_toArray, List.set_cons_zero, List.set_cons_succ, i64_w, i32_w]
    rfl
  refine take_ (i := 7) (N := some 16) (v := ?_) (a' := ?_) #[true, true, true, true, true, true, true, true, false, false] rfl rfl (by kernel_rfl) (fun _ _ _ h => h) (Or.inl ⟨by rfl, ?_⟩) hHeld ?_ ?_
  rotate_left
  · rintro w' ⟨c0_, c1_, c2_⟩
    go_simp
    with_reducible rfl
  rotate_left
  · simp only [Act.put, List.setIfInBounds_toArray, List.set_cons_zero, List.set_cons_succ, i64_w, i32_w]
    rfl
  refine pure_ (i := 8) (N := some 2) (v := ?_) (a' := ?_) #[true, true, true, true, true, true, true, true, true, false] rfl rfl (by kernel_rfl) (fun _ _ _ h => h) (Or.inl ⟨by rfl, ?_⟩) ?_ ?_
  rotate_left
  · intro w'
    go_simp
    with_reducible rfl
  rotate_left
  · simp only [Act.put, List.setIfInBounds_toArray, List.set_cons_zero, List.set_cons_succ, i64_w, i32_w]
    rfl
  refine pure_ (i := 9) (N := some 3) (v := ?_) (a' := ?_) #[true, true, true, true, true, true, true, true, true, true] rfl rfl (by kernel_rfl) (fun _ _ _ h => h) (Or.inl ⟨by rfl, ?_⟩) ?_ ?_
  rotate_left
  · intro w'
    go_simp
    with_reducible rfl
  rotate_left
  · simp only [Act.put, List.setIfInBounds_toArray, List.set_cons_zero, List.set_cons_succ, i64_w, i32_w]
    rfl
  refine done_ (by kernel_rfl) ?_
  go_wp2
  go_ret2
  exact ⟨rfl, HB.out.drew⟩
end
end Go.Proofs.YthifdofdoeaemaaGreatDoor.Wk
end
section
namespace Go.Proofs.YthifdofdoeaemaaGreatDoor.Wk
open Go.RowKit Go.Proofs.YthifdofdoeaemaaGreatDoorW.PrintWords Go.Proofs.YthifdofdoeaemaaGreatDoorW.PrintLast Go.Proofs.YthifdofdoeaemaaGreatDoorW.PrintMore
attribute [local go_sem] max2_int min2_int max_two min_two max_three min_three max_four min_four
set_option linter.unusedVariables false
set_option linter.unusedSimpArgs false
section
open Go.RowKit Go.Lib
set_option maxRecDepth 100000 in
theorem decode_over (s : ByteArray) (pos : Nat) (h : pos < s.size) (ha : 128 ≤ (s[pos]'h).toNat) :
    pos + (Utf8.decode s pos).2 ≤ s.size ∧ ∀ j, pos ≤ j → j < pos + (Utf8.decode s pos).2 → 128 ≤ (s.get! j).toNat := by
  have h0 : 128 ≤ (s.get! (pos + 0)).toNat := by rw [get_at s pos h]; exact ha
  have key : (Utf8.decode s pos).2 = 1 ∨ ((Utf8.decode s pos).2 = 2 ∧ (s.get! (pos + 1)).toNat / 64 = 2 ∧ pos + 1 < s.size) ∨
      ((Utf8.decode s pos).2 = 3 ∧ (s.get! (pos + 1)).toNat / 64 = 2 ∧ (s.get! (pos + 2)).toNat / 64 = 2 ∧ pos + 2 < s.size) ∨
      ((Utf8.decode s pos).2 = 4 ∧ (s.get! (pos + 1)).toNat / 64 = 2 ∧ (s.get! (pos + 2)).toNat / 64 = 2 ∧ (s.get! (pos + 3)).toNat / 64 = 2 ∧ pos + 3 < s.size) := by
    have hn : ¬ (s.get! (pos + 0)).toNat < 128 := by omega
    simp only [Utf8.decode, hn, if_false]
    repeat' split
    all_goals simp_all [Utf8.runeError]
  rcases key with k | ⟨k, k1, kz⟩ | ⟨k, k1, k2, kz⟩ | ⟨k, k1, k2, k3, kz⟩ <;> rw [k] <;> refine ⟨by omega, fun j hj1 hj2 => ?_⟩
  · obtain rfl : j = pos + 0 := by omega
    exact h0
  · rcases (show j = pos + 0 ∨ j = pos + 1 by omega) with rfl | rfl
    · exact h0
    · omega
  · rcases (show j = pos + 0 ∨ j = pos + 1 ∨ j = pos + 2 by omega) with rfl | rfl | rfl
    · exact h0
    · omega
    · omega
  · rcases (show j = pos + 0 ∨ j = pos + 1 ∨ j = pos + 2 ∨ j = pos + 3 by omega) with rfl | rfl | rfl | rfl
    · exact h0
    · omega
    · omega
    · omega
theorem encode_high (r : Int) (h : 128 ≤ r) : (∃ b0 b1 : UInt8, Utf8.encode r = ⟨#[b0, b1]⟩ ∧ 128 ≤ b1.toNat) ∨ (∃ b0 b1 b2 : UInt8, Utf8.encode r = ⟨#[b0, b1, b2]⟩) ∨ ∃ b0 b1 b2 b3 : UInt8, Utf8.encode r = ⟨#[b0, b1, b2, b3]⟩ := by
  have hc : ∃ c : Nat, c = (if Utf8.valid r then r.toNat else Utf8.runeError) ∧ 128 ≤ c := by
    refine ⟨_, rfl, ?_⟩
    unfold Utf8.runeError
    split <;> omega
  obtain ⟨c, hc, h8⟩ := hc
  unfold Utf8.encode
  simp only [← hc]
  rw [if_neg (by omega)]
  by_cases h2 : c < 2048
  · rw [if_pos h2]
    refine .inl ⟨_, _, rfl, ?_⟩
    have := Nat.mod_lt c (show 64 > 0 by decide)
    simp only [UInt8.toNat_ofNat']
    omega
  · rw [if_neg h2]
    by_cases h3 : c < 65536
    · rw [if_pos h3]
      exact .inr (.inl ⟨_, _, _, rfl⟩)
    · rw [if_neg h3]
      exact .inr (.inr ⟨_, _, _, _, rfl⟩)
set_option maxHeartbeats 8000000 in
set_option maxRecDepth 1000000 in
theorem indexRune_high (r : Int) (h : 128 ≤ r) (h2 : r ≤ 2147483647) (w : World) :
    Calls Tryz.prog 144 #[.string ⟨#[47, 0]⟩, .int .i32 r] w fun e w' => e = .returned (.int .i64 (-1)) ∧ Below w.heap.size w w' := by
  have hr128 : decide (r < 128) = false := decide_eq_false (by omega)
  have hr0 : decide (0 ≤ r) = true := decide_eq_true (by omega)
  by_cases he : r = 65533
  · subst he
    go_enter Tryz.func144, Tryz.ntmps144
    go_wp2
    have n0 : ∀ ty, (Instr.next (.pointer (some ⟨w.heap.size, 0, none⟩)) true ty).run Tryz.prog (w.iter ⟨#[47, 0]⟩ 0) = .ok (.tuple #[.bool true, .int .i64 0, .int .i32 47]) (w.iter ⟨#[47, 0]⟩ 1) :=
      fun ty => run_next_ascii (P := Tryz.prog) w (⟨#[47, 0]⟩ : ByteArray) 0 ty (by decide) (by decide)
    have n1 : ∀ ty, (Instr.next (.pointer (some ⟨w.heap.size, 0, none⟩)) true ty).run Tryz.prog (w.iter ⟨#[47, 0]⟩ 1) = .ok (.tuple #[.bool true, .int .i64 1, .int .i32 0]) (w.iter ⟨#[47, 0]⟩ 2) :=
      fun ty => run_next_ascii (P := Tryz.prog) w (⟨#[47, 0]⟩ : ByteArray) 1 ty (by decide) (by decide)
    have n2 := fun ty => run_next_end (P := Tryz.prog) w (⟨#[47, 0]⟩ : ByteArray) 2 ty (by decide)
    refine wp_loop_rounds 3 ?_
    rw [rounds_succ]
    go_wp2
    rw [rounds_succ]
    go_wp2
    rw [rounds_succ]
    go_wp2
    go_ret
    exact ⟨rfl, below_alloc (Below.refl _ _) _⟩
  · have he2 : (r == 65533) = false := beq_eq_false_iff_ne.2 he
    cases hv : Lib.validRune r
    · go_enter Tryz.func144, Tryz.ntmps144
      go_wp2_with (go_at_call 156; refine (Tryz.utf8_ValidRune _ _).mono ?_; rintro e_ w' ⟨rfl, rfl⟩; rw [hv])
      go_ret
      exact ⟨rfl, Below.refl _ _⟩
    · rcases encode_high r h with ⟨b0, b1, hb, hb1⟩ | ⟨b0, b1, b2, hb⟩ | ⟨b0, b1, b2, b3, hb⟩
      · go_enter Tryz.func144, Tryz.ntmps144
        go_wp2_with (go_at_call 156; refine (Tryz.utf8_ValidRune _ _).mono ?_; rintro e_ w' ⟨rfl, rfl⟩; rw [hv])
        go_step3
        go_wp2
        refine wp_loop_rounds 1 ?_
        rw [rounds_succ]
        go_wp2
        go_step3
        go_upto_region 6 with (fail)
        refine start_ (n := 7) (S := fun _ => True) (ds := []) #[false, false, false, false, false, false, false] (by kernel_rfl) rfl rfl trivial (fun hHeld => ?_)
        refine pure_ (i := 0) (N := some 27) (v := ?_) (a' := ?_) #[true, false, false, false, false, false, false] rfl rfl (by kernel_rfl) (fun _ _ _ h => h) (Or.inl ⟨by rfl, ?_⟩) ?_ ?_
        rotate_left
        · intro w'
          go_simp
          with_reducible rfl
        rotate_left
        · simp only [Act.put, List.setIfInBounds_toArray, List.set_cons_zero, List.set_cons_succ, i64_w, i32_w]
          rfl
        refine pure_ (i := 1) (N := some 28) (v := ?_) (a' := ?_) #[true, true, false, false, false, false, false] rfl rfl (by kernel_rfl) (fun _ _ _ h => h) (Or.inl ⟨by rfl, ?_⟩) ?_ ?_
        rotate_left
        · intro w'
          go_simp
          with_reducible rfl
        rotate_left
        · simp only [Act.put, List.setIfInBounds_toArray, List.set_cons_zero, List.set_cons_succ, i64_w, i32_w]
          rfl
        refine pure_ (i := 2) (N := some 29) (v := ?_) (a' := ?_) #[true, true, true, false, false, false, false] rfl rfl (by kernel_rfl) (fun _ _ _ h => h) (Or.inl ⟨by rfl, ?_⟩) ?_ ?_
        rotate_left
        · intro w'
          go_simp
          with_reducible rfl
        rotate_left
        · simp only [Act.put, List.setIfInBounds_toArray, List.set_cons_zero, List.set_cons_succ, i64_w, i32_w]
          rfl
        refine pure_ (i := 3) (N := some 30) (v := ?_) (a' := ?_) #[true, true, true, true, false, false, false] rfl rfl (by kernel_rfl) (fun _ _ _ h => h) (Or.inl ⟨by rfl, ?_⟩) ?_ ?_
        rotate_left
        · intro w'
          go_simp
          with_reducible rfl
        rotate_left
        · simp only [Act.put, List.setIfInBounds_toArray, List.set_cons_zero, List.set_cons_succ, i64_w, i32_w]
          rfl
        refine pure_ (i := 4) (N := some 31) (v := ?_) (a' := ?_) #[true, true, true, true, true, false, false] rfl rfl (by kernel_rfl) (fun _ _ _ h => h) (Or.inl ⟨by rfl, ?_⟩) ?_ ?_
        rotate_left
        · intro w'
          go_simp
          with_reducible rfl
        rotate_left
        · simp only [Act.put, List.setIfInBounds_toArray, List.set_cons_zero, List.set_cons_succ, i64_w, i32_w]
          rfl
        refine pure_ (i := 5) (N := some 32) (v := ?_) (a' := ?_) #[true, true, true, true, true, true, false] rfl rfl (by kernel_rfl) (fun _ _ _ h => h) (Or.inl ⟨by rfl, ?_⟩) ?_ ?_
        rotate_left
        · intro w'
          go_simp
          with_reducible rfl
        rotate_left
        · simp only [Act.put, List.setIfInBounds_toArray, List.set_cons_zero, List.set_cons_succ, i64_w, i32_w]
          rfl
        refine pure_ (i := 6) (N := some 33) (v := ?_) (a' := ?_) #[true, true, true, true, true, true, true] rfl rfl (by kernel_rfl) (fun _ _ _ h => h) (Or.inl ⟨by rfl, ?_⟩) ?_ ?_
        rotate_left
        · intro w'
          go_simp
          with_reducible rfl
        rotate_left
        · simp only [Act.put, List.setIfInBounds_toArray, List.set_cons_zero, List.set_cons_succ, i64_w, i32_w]
          rfl
        refine done_ (by kernel_rfl) ?_
        have hne : ((((⟨#[47, 0]⟩ : ByteArray)[1]'(show 1 < 2 by decide)).toNat : Int) != (((⟨#[b0, b1]⟩ : ByteArray)[1]'(show 1 < 2 by decide)).toNat : Int)) = true := bne_iff_ne.2 (show (0 : Int) ≠ (b1.toNat : Int) by omega)
        have hw2 : wrap64 (2 : Int) = 2 := by unfold wrap64; omega
        go_upto_region 7 with (fail)
        refine start_ (n := 9) (S := fun W' => Below w'.heap.size w' W') (ds := []) #[false, false, false, false, false, false, false, false, false] (by kernel_rfl) rfl rfl (below_drew (below_drew (Below.refl _ _))) (fun hHeld => ?_)
        refine pure_ (i := 0) (N := some 34) (v := ?_) (a' := ?_) #[true, false, false, false, false, false, false, false, false] rfl rfl (by kernel_rfl) (fun _ _ _ h => h) (Or.inl ⟨by rfl, ?_⟩) ?_ ?_
        rotate_left
        · intro w'
          go_simp
          with_reducible rfl
        rotate_left
        · simp only [Act.put, List.setIfInBounds_toArray, List.set_cons_zero, List.set_cons_succ, i64_w, i32_w]
          rfl
        refine pure_ (i := 1) (N := some 35) (v := ?_) (a' := ?_) #[true, true, false, false, false, false, false, false, false] rfl rfl (by kernel_rfl) (fun _ _ _ h => h) (Or.inl ⟨by rfl, ?_⟩) ?_ ?_
        rotate_left
        · intro w'
          go_simp
          with_reducible rfl
        rotate_left
        · simp only [Act.put, List.setIfInBounds_toArray, List.set_cons_zero, List.set_cons_succ, i64_w, i32_w]
          rfl
        refine pure_ (i := 2) (N := some 36) (v := ?_) (a' := ?_) #[true, true, true, false, false, false, false, false, false] rfl rfl (by kernel_rfl) (fun _ _ _ h => h) (Or.inl ⟨by rfl, ?_⟩) ?_ ?_
        rotate_left
        · intro w'
          go_simp
          with_reducible rfl
        rotate_left
        · simp only [Act.put, List.setIfInBounds_toArray, List.set_cons_zero, List.set_cons_succ, i64_w, i32_w]
          rfl
        refine pure_ (i := 3) (N := some 37) (v := ?_) (a' := ?_) #[true, true, true, true, false, false, false, false, false] rfl rfl (by kernel_rfl) (fun _ _ _ h => h) (Or.inl ⟨by rfl, ?_⟩) ?_ ?_
        rotate_left
        · intro w'
          go_simp
          with_reducible rfl
        rotate_left
        · simp only [Act.put, List.setIfInBounds_toArray, List.set_cons_zero, List.set_cons_succ, i64_w, i32_w]
          rfl
        refine pure_ (i := 4) (N := some 38) (v := ?_) (a' := ?_) #[true, true, true, true, true, false, false, false, false] rfl rfl (by kernel_rfl) (fun _ _ _ h => h) (Or.inl ⟨by rfl, ?_⟩) ?_ ?_
        rotate_left
        · intro w'
          go_simp
          with_reducible rfl
        rotate_left
        · simp only [Act.put, List.setIfInBounds_toArray, List.set_cons_zero, List.set_cons_succ, i64_w, i32_w]
          rfl
        refine pure_ (i := 5) (N := some 39) (v := ?_) (a' := ?_) #[true, true, true, true, true, true, false, false, false] rfl rfl (by kernel_rfl) (fun _ _ _ h => h) (Or.inl ⟨by rfl, ?_⟩) ?_ ?_
        rotate_left
        · intro w'
          go_simp
          with_reducible rfl
        rotate_left
        · simp only [Act.put, List.setIfInBounds_toArray, List.set_cons_zero, List.set_cons_succ, i64_w, i32_w]
          rfl
        refine pure_ (i := 6) (N := some 40) (v := ?_) (a' := ?_) #[true, true, true, true, true, true, true, false, false] rfl rfl (by kernel_rfl) (fun _ _ _ h => h) (Or.inl ⟨by rfl, ?_⟩) ?_ ?_
        rotate_left
        · intro w'
          go_simp
          with_reducible rfl
        rotate_left
        · simp only [Act.put, List.setIfInBounds_toArray, List.set_cons_zero, List.set_cons_succ, i64_w, i32_w]
          rfl
        refine one_ (i := 7) (N := some 41) #[true, true, true, true, true, true, true, true, false] rfl rfl (by kernel_rfl) (by decide) (fun K hK => ?_)
        skip
        refine goes_ Tryz.func155 (by kernel_rfl) rfl #[.string ⟨#[]⟩, .int .u8 b1.toNat] (by rfl) rfl rfl (by (simp only [List.map_toArray, List.map_cons, List.map_nil]); rfl) ?_
        refine (Tryz.strings_IndexByte _ _ _).mono ?_
        rintro e_ W1 ⟨rfl, rfl⟩
        refine ⟨_, rfl, ?_⟩
        refine hK.out _ _ hHeld (fun hHeld => ?_)
        clear hK K
        refine norm_ (a' := ?_) ?_ ?_
        rotate_left
        · show Act.put _ (some 41) _ = _
          simp only [Act.put, List.setIfInBounds_toArray, List.set_cons_zero, List.set_cons_succ, i64_w, i32_w]
          rfl
        refine pure_ (i := 8) (N := some 11) (v := ?_) (a' := ?_) #[true, true, true, true, true, true, true, true, true] rfl rfl (by kernel_rfl) (fun _ _ _ h => h) (Or.inl ⟨by rfl, ?_⟩) ?_ ?_
        rotate_left
        · intro w'
          go_simp
          with_reducible rfl
        rotate_left
        · simp only [Act.put, List.setIfInBounds_toArray, List.set_cons_zero, List.set_cons_succ, i64_w, i32_w]
          rfl
        refine done_ (by kernel_rfl) ?_
        go_wp2
        simp only [Exit.noGoto_ret, Exit.inBlock, Exit.then]
        go_ret
        exact ⟨rfl, hHeld⟩
      · go_enter Tryz.func144, Tryz.ntmps144
        go_wp2_with (go_at_call 156; refine (Tryz.utf8_ValidRune _ _).mono ?_; rintro e_ w' ⟨rfl, rfl⟩; rw [hv])
        go_step3
        go_wp2
        refine wp_loop_rounds 1 ?_
        rw [rounds_succ]
        go_wp2
        rw [Exit.noGoto_ret]
        go_ret
        exact ⟨rfl, Below.refl _ _⟩
      · go_enter Tryz.func144, Tryz.ntmps144
        go_wp2_with (go_at_call 156; refine (Tryz.utf8_ValidRune _ _).mono ?_; rintro e_ w' ⟨rfl, rfl⟩; rw [hv])
        go_step3
        go_wp2
        refine wp_loop_rounds 1 ?_
        rw [rounds_succ]
        go_wp2
        rw [Exit.noGoto_ret]
        go_ret
        exact ⟨rfl, Below.refl _ _⟩
end
end Go.Proofs.YthifdofdoeaemaaGreatDoor.Wk
end
section
namespace Go.Proofs.YthifdofdoeaemaaGreatDoor.Wk
open Go.RowKit Go.Proofs.YthifdofdoeaemaaGreatDoorW.PrintWords Go.Proofs.YthifdofdoeaemaaGreatDoorW.PrintLast Go.Proofs.YthifdofdoeaemaaGreatDoorW.PrintMore
attribute [local go_sem] max2_int min2_int max_two min_two max_three min_three max_four min_four
set_option linter.unusedVariables false
set_option linter.unusedSimpArgs false
section
open Go.RowKit Go.Lib
theorem bt_data (s : ByteArray) (i : Nat) (h : i < s.size) : s.data.toList[i]? = some (s.get! i) := by
  rw [Lib.data_getElem? s i h]
  congr 1
  simpa using (get_at s i h).symm
theorem sepsHigh (x : UInt8) (h : 128 ≤ x.toNat) : ([47, 0] : List UInt8).contains x = false := by
  have h1 : x ≠ 47 := by rintro rfl; simp at h
  have h2 : x ≠ 0 := by rintro rfl; simp at h
  simp [h1, h2]
set_option maxHeartbeats 8000000 in
set_option maxRecDepth 1000000 in
theorem indexAny_short (s : ByteArray) (w : World) (h8 : s.size ≤ 8) :
    Calls Tryz.prog 129 #[.string s, .string ⟨#[47, 0]⟩] w fun e w' => e = .returned (.int .i64 (Lib.indexAny s.data.toList [47, 0])) ∧ Below w.heap.size w w' := by
  have h8z : decide ((8 : Int) < (s.size : Int)) = false := decide_eq_false (by omega)
  go_enter Tryz.func129, Tryz.ntmps129
  go_wp2_with (go_at_call 145; refine (Tryz.strings_shouldUseASCIISet _ _).mono ?_; rintro e_ w' ⟨rfl, rfl⟩; rw [h8z])
  go_loopg [9, 10] s.size (fun g _ _ wx => ∃ i : Nat, s.size ≤ i + g ∧ i ≤ s.size ∧ wx.heap[w'.heap.size]? = some (.stringIter s i) ∧ Aside0 (Below w'.heap.size w' wx) ∧ Aside (Lib.NoAny s.data.toList [47, 0] i))
  case atStart => exact ⟨0, by omega, by omega, World.alloc_heap_new _ _, ⟨below_alloc (Below.refl _ _) _⟩, Lib.NoAny.zero _ _⟩
  case round =>
    obtain ⟨i, hig, his, hit, HB, hno⟩ := hrel
    have HN : Aside (Lib.NoAny s.data.toList [47, 0] i) := hno
    clear hno
    by_cases hlt : i < s.size
    · obtain ⟨g, rfl⟩ : ∃ g, gk = g + 1 := ⟨gk - 1, by omega⟩
      obtain ⟨x, hx⟩ : ∃ x : UInt8, s[i]'hlt = x := ⟨_, rfl⟩
      have hxl : s.data.toList[i]? = some x := by rw [← hx]; exact Lib.data_getElem? s i hlt
      by_cases hx128 : x.toNat < 128
      · have hnx := fun ty => Lib.run_next_ascii_at (P := Tryz.prog) wr w'.heap.size s i ty hit hlt (by rw [hx]; exact hx128)
        rw [hx] at hnx
        have hit2 := Lib.iterAt_heap wr w'.heap.size s i (i + 1) hit
        have HB2 := Aside0.mk (Lib.below_iterAt HB.out (k := w'.heap.size) (Nat.le_refl _) s (i + 1))
        obtain ⟨W, hWd⟩ : ∃ W, wr.iterAt w'.heap.size s (i + 1) = W := ⟨_, rfl⟩
        rw [hWd] at hnx hit2 HB2
        have Hx : Aside (s.data.toList[i]? = some x) := hxl
        clear hxl hx hit hWd
        have hcon := Lib.contains_iff_indexByte [47, 0] x
        have hback : ((x.toNat : Int)).toNat.toUInt8 = x := by simp
        cases hin : ([47, 0] : List UInt8).contains x
        · rw [hin] at hcon
          have hlt : ¬ ((0 : Int) ≤ Lib.indexByte [47, 0] x) := of_decide_eq_false hcon.symm
          clear hcon
          go_wp2_with (go_at_call 144; refine (Tryz.strings_IndexRune_ascii _ _ _ (by omega) (by omega)).mono ?_; rintro e w2 ⟨rfl, rfl⟩; rw [hback])
          go_roundg g
          case measure => omega
          case rel => exact ⟨i + 1, by omega, by omega, hit2, HB2, HN.out.succ Hx.out hin⟩
        · rw [hin] at hcon
          have hge : (0 : Int) ≤ Lib.indexByte [47, 0] x := of_decide_eq_true hcon.symm
          clear hcon
          go_wp2_with (go_at_call 144; refine (Tryz.strings_IndexRune_ascii _ _ _ (by omega) (by omega)).mono ?_; rintro e w2 ⟨rfl, rfl⟩; rw [hback])
          go_ret
          exact ⟨by rw [Lib.indexAny_hit HN.out Hx.out hin]; rfl, HB2.out⟩
      · have hnx := fun ty => Lib.run_next_any_at (P := Tryz.prog) wr w'.heap.size s i ty hit hlt
        obtain ⟨hov1, hov2⟩ := decode_over s i hlt (by rw [hx]; omega)
        obtain ⟨hd1, hd2⟩ := decode_high s i hlt (by rw [hx]; omega)
        have hd3 := decode_le s i
        obtain ⟨R, hR⟩ : ∃ R, (Utf8.decode s i).1 = R := ⟨_, rfl⟩
        obtain ⟨K, hK⟩ : ∃ K, (Utf8.decode s i).2 = K := ⟨_, rfl⟩
        rw [hR, hK] at hnx
        rw [hK] at hov1 hov2 hd2
        rw [hR] at hd1 hd3
        have hit2 := Lib.iterAt_heap wr w'.heap.size s i (i + K) hit
        have HB2 := Aside0.mk (Lib.below_iterAt HB.out (k := w'.heap.size) (Nat.le_refl _) s (i + K))
        obtain ⟨W, hWd⟩ : ∃ W, wr.iterAt w'.heap.size s (i + K) = W := ⟨_, rfl⟩
        rw [hWd] at hnx hit2 HB2
        have hno2 : Lib.NoAny s.data.toList [47, 0] (i + K) := fun j b hj hb => by
          by_cases hji : j < i
          · exact HN.out j b hji hb
          · have := hov2 j (by omega) hj
            rw [bt_data s j (by omega)] at hb
            cases hb
            exact sepsHigh _ this
        have HN2 : Aside (Lib.NoAny s.data.toList [47, 0] (i + K)) := hno2
        clear hno2 hov2 HN hxl hx hit hWd hR hK
        go_wp2_with (go_at_call 144; refine (indexRune_high _ (by omega) (by omega) _).mono ?_; rintro e w2 ⟨rfl, hbw⟩; have hit3 := (hbw.block _ (Array.getElem?_eq_some_iff.1 hit2).1).trans hit2; have HB3 := Aside0.mk (HB2.out.trans (hbw.mono HB2.out.size)); clear hbw)
        go_roundg g
        case measure => omega
        case rel => exact ⟨i + K, by omega, by omega, hit3, HB3, HN2⟩
    · obtain rfl : i = s.size := by omega
      have hnx := fun ty => Lib.run_next_end_at (P := Tryz.prog) wr w'.heap.size s s.size ty hit (by omega)
      go_wp2
      go_ret
      exact ⟨by rw [Lib.indexAny_none (by rw [← Lib.size_eq]; exact HN.out)]; rfl, HB.out⟩
theorem containsAny_seps (s : ByteArray) (w : World) (hs : s.size < 4294967281) :
    Calls Tryz.prog 112 #[.string s, .string ⟨#[47, 0]⟩] w fun e w' => e = .returned (.bool (Lib.containsAny s.data.toList [47, 0])) ∧ Below w.heap.size w w' := by
  have hc : Calls Tryz.prog 129 #[.string s, .string ⟨#[47, 0]⟩] w fun e w' => e = .returned (.int .i64 (Lib.indexAny s.data.toList [47, 0])) ∧ Below w.heap.size w w' := by
    by_cases h8 : s.size ≤ 8
    · exact indexAny_short s w h8
    · refine (Tryz.strings_IndexAny_long (zero_of_info (n := 256) (by kernel_rfl)).1 s ⟨#[47, 0]⟩ w (by decide) (by omega) hs (by decide) ?_).mono ?_
      · intro j b hb
        rcases j with _ | _ | j <;> simp at hb <;> subst hb <;> decide
      · rintro e w' ⟨rfl, rfl⟩
        exact ⟨rfl, below_alloc (below_alloc (Below.refl _ _) _) _⟩
  go_enter Tryz.func112, Tryz.ntmps112
  go_wp2_with (go_at_call 129; refine hc.mono ?_; rintro e w' ⟨rfl, hw⟩)
  go_ret
  exact ⟨rfl, hw⟩
end
end Go.Proofs.YthifdofdoeaemaaGreatDoor.Wk
end
section
namespace Go.Proofs.YthifdofdoeaemaaGreatDoor.Wk
open Go.RowKit Go.Proofs.YthifdofdoeaemaaGreatDoorW.PrintWords Go.Proofs.YthifdofdoeaemaaGreatDoorW.PrintLast Go.Proofs.YthifdofdoeaemaaGreatDoorW.PrintMore
attribute [local go_sem] max2_int min2_int max_two min_two max_three min_three max_four min_four
set_option linter.unusedVariables false
set_option linter.unusedSimpArgs false
section
open Go.RowKit Go.Lib
def goodName (s : ByteArray) : Bool := !s.toList.isEmpty && decide (s.size ≤ 64) && !(s.toList == [46]) && !(s.toList == [46, 46]) && !(Lib.containsAny s.data.toList [47, 0])
set_option maxHeartbeats 4000000 in
theorem name_calls (s : ByteArray) (w : World) :
    Calls Tryz.prog 81 #[.string s] w fun e w' => e = .returned (.bool (goodName s)) ∧ Below w.heap.size w w' := by
  by_cases h1 : s.toList.isEmpty
  · have h0 : s.toList = [] := by simpa using h1
    go_enter Tryz.func81, Tryz.ntmps81
    go_wp2_with (go_at_call 112; fail)
    go_ret
    exact ⟨by simp [goodName, h1], Below.refl _ _⟩
  · have h0 : ¬ s.toList = [] := by simpa using h1
    replace h1 : s.toList.isEmpty = false := by simpa using h1
    by_cases h2 : s.size ≤ 64
    · have h2i : decide ((s.size : Int) ≤ 64) = true := decide_eq_true (by omega)
      by_cases h3 : s.toList = [46]
      · have h3b : (s.toList == [46]) = true := by simpa using h3
        go_enter Tryz.func81, Tryz.ntmps81
        go_wp2_with (go_at_call 112; fail)
        go_ret
        exact ⟨by simp [goodName, h3b], Below.refl _ _⟩
      · have h3b : (s.toList == [46]) = false := by simpa using h3
        by_cases h4 : s.toList = [46, 46]
        · have h4b : (s.toList == [46, 46]) = true := by simpa using h4
          go_enter Tryz.func81, Tryz.ntmps81
          go_wp2_with (go_at_call 112; fail)
          go_ret
          exact ⟨by simp [goodName, h4b], Below.refl _ _⟩
        · have h4b : (s.toList == [46, 46]) = false := by simpa using h4
          have hc : Lib.containsAny s.data.toList [47, 0] = !goodName s := by simp [goodName, h1, h2, h3b, h4b]
          go_enter Tryz.func81, Tryz.ntmps81
          go_wp2_with (go_at_call 112; refine (containsAny_seps s _ (by omega)).mono ?_; rintro e w' ⟨rfl, hw⟩; rw [hc])
          go_ret
          exact ⟨rfl, hw⟩
    · have h2i : decide ((s.size : Int) ≤ 64) = false := decide_eq_false (by omega)
      go_enter Tryz.func81, Tryz.ntmps81
      go_wp2_with (go_at_call 112; fail)
      go_ret
      exact ⟨by simp [goodName, h1, h2], Below.refl _ _⟩
end
end Go.Proofs.YthifdofdoeaemaaGreatDoor.Wk
end
section
namespace Go.Proofs.YthifdofdoeaemaaGreatDoor.Wk
open Go.RowKit Go.Proofs.YthifdofdoeaemaaGreatDoorW.PrintWords Go.Proofs.YthifdofdoeaemaaGreatDoorW.PrintLast Go.Proofs.YthifdofdoeaemaaGreatDoorW.PrintMore
attribute [local go_sem] max2_int min2_int max_two min_two max_three min_three max_four min_four
set_option linter.unusedVariables false
set_option linter.unusedSimpArgs false
section
open Go.RowKit Go.Lib Go.Proofs.YthifdofdoeaemaaGreatDoorQ
attribute [local go_sem] Oper.semAt_some
def parseStep (acc : List ByteArray) (p : ByteArray) : Except (Nat × Int) (List ByteArray) :=
  if p.toList.isEmpty then .ok acc else if (p.toList == [46]) = true then .ok acc else if goodName p = false then .error (acc.length, 8) else if acc.length = 16 then .error (acc.length, 3) else .ok (acc ++ [p])
def parseL : List ByteArray → List ByteArray → Except (Nat × Int) (List ByteArray)
  | acc, [] => .ok acc
  | acc, p :: ps => match parseStep acc p with
    | .ok a => parseL a ps
    | .error e => .error e
theorem parseL_append : ∀ (xs ys acc : List ByteArray), parseL acc (xs ++ ys) = match parseL acc xs with | .ok a => parseL a ys | .error e => .error e
  | [], ys, acc => rfl
  | x :: xs, ys, acc => by
    simp only [List.cons_append, parseL]
    cases parseStep acc x with
    | ok a => exact parseL_append xs ys a
    | error e => rfl
theorem parseL_snoc {pre : List ByteArray} {acc : List ByteArray} (h : parseL [] pre = .ok acc) (x : ByteArray) : parseL [] (pre ++ [x]) = parseStep acc x := by
  rw [parseL_append, h]
  show parseL acc [x] = _
  unfold parseL
  cases parseStep acc x <;> rfl
theorem parseL_prefix {pre xs : List ByteArray} {e : Nat × Int} (hp : pre <+: xs) (h : parseL [] pre = .error e) : parseL [] xs = .error e := by
  obtain ⟨t, rfl⟩ := hp
  rw [parseL_append, h]
def parseF (s : ByteArray) : Except (Nat × Int) (List ByteArray) :=
  if 1024 < s.size then .error (0, 3) else if Lib.hasPrefix s.data.toList [47] = false then .error (0, 9) else parseL [] (partsB (s.extract 1 s.size))
def ParseAns (w : World) (r : Except (Nat × Int) (List ByteArray)) (e : Ending) (w' : World) : Prop :=
  match r with
  | .ok l => ∃ v, e = .returned (.tuple #[v, .nilIface]) ∧ Kd.R Kd.string 9 w' w.heap.size (fun _ => True) v l ∧ l.length ≤ 16
  | .error (at_, why) => ∃ g, e = .returned (.tuple #[.slice none 0 0, .iface 151 (.pointer (some ⟨g, 0, none⟩))]) ∧ FaultAt w' g at_ why ∧ w.heap.size ≤ g ∧ at_ ≤ 16
theorem results_cells2 {P : Program} {fn : Func} {p p' : Tmp} {ty ty' : TypeId} (h : fn.results = #[.cell p ty, .cell p' ty']) (tmps : Array Value) (w : World) (a a' : Addr) (v v' : Value)
    (hp : tmps.getD p undef = .pointer (some a)) (hg : w.cell? a = some v) (hi : ∀ w, (isAgg ty).run P w = .ok false w)
    (hp' : tmps.getD p' undef = .pointer (some a')) (hg' : w.cell? a' = some v') (hi' : ∀ w, (isAgg ty').run P w = .ok false w) :
    (results fn tmps).run P w = .ok (.tuple #[v, v']) w := by
  have h1 : tmps[p]?.getD undef = .pointer (some a) := by simpa using hp
  have h2 : tmps[p']?.getD undef = .pointer (some a') := by simpa using hp'
  simp [results, h, h1, h2, asAddr, loadVar, hi, hi', hg, hg', Result.andThen]
theorem two_boxes {w w1 : World} {a b : Array Value} {s t : TypeId} (hb : Below ((w.alloc (.cells a s)).alloc (.cells b t)).heap.size ((w.alloc (.cells a s)).alloc (.cells b t)) w1) :
    w1.heap[w.heap.size]? = some (.cells a s (0, 0)) ∧ w1.heap[w.heap.size + 1]? = some (.cells b t (0, 0)) ∧ Below w.heap.size w w1 := by
  have h1 := World.alloc_heap_new w (.cells a s)
  have h2 := World.alloc_heap_new (w.alloc (.cells a s)) (.cells b t)
  rw [World.size_alloc] at h2
  refine ⟨?_, ?_, ?_⟩
  · rw [hb.block _ (by simp only [World.size_alloc]; omega), Below.heap_alloc _ _ _ (by simp only [World.size_alloc]; omega), h1]
  · rw [hb.block _ (by simp only [World.size_alloc]; omega), h2]
  · exact ((((Below.refl _ w).alloc (Nat.le_refl _) _).alloc (by simp only [World.size_alloc]; omega) _).trans (hb.mono (by simp only [World.size_alloc]; omega)))
theorem parse_ends {w w1 : World} {g : Nat} {at_ why : Int} (b2 : w1.heap[w.heap.size]? = some (.cells #[.slice none 0 0] 77 (0, 0))) (b3 : w1.heap[w.heap.size + 1]? = some (.cells #[.nilIface] 124 (0, 0))) (hf : FaultAt w1 g at_ why) (hg : w.heap.size + 2 ≤ g) (hb : Below w.heap.size w w1) :
    let W := (w1.setCell ⟨w.heap.size, 0, none⟩ (.slice none 0 0)).setCell ⟨w.heap.size + 1, 0, none⟩ (.iface 151 (.pointer (some ⟨g, 0, none⟩)))
    W.heap[w.heap.size]? = some (.cells #[.slice none 0 0] 77 (0, 0)) ∧ W.heap[w.heap.size + 1]? = some (.cells #[.iface 151 (.pointer (some ⟨g, 0, none⟩))] 124 (0, 0)) ∧ FaultAt W g at_ why ∧ Below w.heap.size w W := by
  intro W
  refine ⟨blk_far ((blk_set b2 0 _).trans rfl) (by simp) _, (blk_set (blk_far b3 (by simp) _) 0 _).trans rfl, ?_, (hb.setCell (p := ⟨w.heap.size, 0, none⟩) (Nat.le_refl _) _).setCell (p := ⟨w.heap.size + 1, 0, none⟩) (Nat.le_succ _) _⟩
  exact blk_far (blk_far hf (by simp; omega) _) (by simp; omega) _
theorem six_allocs (w : World) (a b c d e f : Obj) : let W := (((((w.alloc a).alloc b).alloc c).alloc d).alloc e).alloc f
    W.heap[w.heap.size]? = some a ∧ W.heap[w.heap.size + 1]? = some b ∧ W.heap[w.heap.size + 2]? = some c ∧ W.heap[w.heap.size + 3]? = some d ∧ W.heap[w.heap.size + 4]? = some e ∧ W.heap[w.heap.size + 5]? = some f ∧ Below w.heap.size w W ∧ W.heap.size = w.heap.size + 6 := by
  intro W
  have h1 := World.alloc_heap_new w a
  have h2 := World.alloc_heap_new (w.alloc a) b
  have h3 := World.alloc_heap_new ((w.alloc a).alloc b) c
  have h4 := World.alloc_heap_new (((w.alloc a).alloc b).alloc c) d
  have h5 := World.alloc_heap_new ((((w.alloc a).alloc b).alloc c).alloc d) e
  have h6 := World.alloc_heap_new (((((w.alloc a).alloc b).alloc c).alloc d).alloc e) f
  simp only [World.size_alloc] at h2 h3 h4 h5 h6
  exact ⟨blk_alloc (blk_alloc (blk_alloc (blk_alloc (blk_alloc h1 _) _) _) _) _, blk_alloc (blk_alloc (blk_alloc (blk_alloc h2 _) _) _) _, blk_alloc (blk_alloc (blk_alloc h3 _) _) _, blk_alloc (blk_alloc h4 _) _, blk_alloc h5 _, h6, below_alloc (below_alloc (below_alloc (below_alloc (below_alloc (below_alloc (Below.refl _ _) _) _) _) _) _) _, by simp [W]⟩
structure ParseAt (w : World) (acc : List ByteArray) (v : Value) (W : World) : Prop where
  b4 : W.heap[w.heap.size + 2]? = some (.cells #[v] 77 (0, 0))
  b2 : W.heap[w.heap.size]? = some (.cells #[.slice none 0 0] 77 (0, 0))
  b3 : W.heap[w.heap.size + 1]? = some (.cells #[.nilIface] 124 (0, 0))
  row : Kd.R Kd.string 9 W w.heap.size (fun k => w.heap.size + 6 ≤ k) v acc
  low : Below w.heap.size w W
  size : w.heap.size + 6 ≤ W.heap.size
theorem ParseAt.step {w : World} {acc : List ByteArray} {v : Value} {A B : World} (h : ParseAt w acc v A) (hs : SameOn (fun k => ¬ k = w.heap.size + 3) A B) : ParseAt w acc v B :=
  ⟨(hs.same _ (by omega) (blk_lt h.b4)).trans h.b4, (hs.same _ (by omega) (blk_lt h.b2)).trans h.b2, (hs.same _ (by omega) (blk_lt h.b3)).trans h.b3, Kd.R_step h.row (fun k hk hl => hs.same k (by omega) hl), h.low.trans (hs.below (fun k hk => by omega) h.low.size), Nat.le_trans h.size hs.size⟩
theorem ParseAt.below {w : World} {acc : List ByteArray} {v : Value} {A B : World} (h : ParseAt w acc v A) (hb : Below A.heap.size A B) : ParseAt w acc v B := h.step (SameOn.of_below hb)
def ParseInv (w : World) (pre : List ByteArray) (W : World) : Prop :=
  ∃ acc v, parseL [] pre = .ok acc ∧ acc.length ≤ 16 ∧ ParseAt w acc v W
def ParseEnd (w : World) (pre : List ByteArray) (W : World) : Prop :=
  ∃ (at_ : Nat) (why : Int) (g : Nat), parseL [] pre = .error (at_, why) ∧ at_ ≤ 16 ∧ W.heap[w.heap.size]? = some (.cells #[.slice none 0 0] 77 (0, 0)) ∧ W.heap[w.heap.size + 1]? = some (.cells #[.iface 151 (.pointer (some ⟨g, 0, none⟩))] 124 (0, 0)) ∧
    FaultAt W g at_ why ∧ w.heap.size ≤ g ∧ Below w.heap.size w W
theorem parseInv_step (w : World) : ∀ pre A B, ParseInv w pre A → SameOn (fun k => ¬ k = w.heap.size + 3) A B → ParseInv w pre B := by
  rintro pre A B ⟨acc, v, h1, h2, h3⟩ hs
  exact ⟨acc, v, h1, h2, h3.step hs⟩
theorem parseInv_put (w : World) : ∀ pre A (l : Nat) (o o' : Obj), ParseInv w pre A → A.heap[l]? = some o → o.isCells = false → w.heap.size + 6 ≤ l → ParseInv w pre (A.putObj l o') := by
  rintro pre A l o o' ⟨acc, v, h1, h2, h3, h4, h5, h6, h7, h8⟩ hl ho hle
  refine ⟨acc, v, h1, h2, (World.putObj_heap_other (by omega)).trans h3, (World.putObj_heap_other (by omega)).trans h4, (World.putObj_heap_other (by omega)).trans h5, Kd.R_mono (Kd.R_step (Kd.R_bound h6) (fun k hk _ => ?_)) (fun k hk => hk.1), h7.trans ((SameOn.putObj (S := fun k => k < w.heap.size) _ _ _ (by omega)).below (fun k hk => hk) h7.size), by simpa using h8⟩
  refine World.putObj_heap_other ?_
  rintro rfl
  obtain ⟨_, _, _, q, _, cs, hc⟩ := hk
  rw [hc] at hl
  cases hl
  cases ho
theorem parseEnd_put (w : World) : ∀ pre A (l : Nat) (o o' : Obj), ParseEnd w pre A → A.heap[l]? = some o → o.isCells = false → w.heap.size + 6 ≤ l → ParseEnd w pre (A.putObj l o') := by
  rintro pre A l o o' ⟨at_, why, g, h1, h2, h4, h5, h6, h7, h8⟩ hl ho hle
  refine ⟨at_, why, g, h1, h2, (World.putObj_heap_other (by omega)).trans h4, (World.putObj_heap_other (by omega)).trans h5, ?_, h7, h8.trans ((SameOn.putObj (S := fun k => k < w.heap.size) _ _ _ (by omega)).below (fun k hk => hk) h8.size)⟩
  refine (World.putObj_heap_other ?_).trans h6
  rintro rfl
  unfold FaultAt at h6
  rw [h6] at hl
  cases hl
  cases ho
theorem parse_faulty {w W w1 : World} {acc : List ByteArray} {v : Value} {pre : List ByteArray} {g at_ : Nat} {why : Int} (hp : ParseAt w acc v W) (hb : Below W.heap.size W w1) (hf : FaultAt w1 g at_ why) (hg : W.heap.size ≤ g) (he : parseL [] pre = .error (at_, why)) (hle : at_ ≤ 16) :
    let W2 := (w1.setCell ⟨w.heap.size, 0, none⟩ (.slice none 0 0)).setCell ⟨w.heap.size + 1, 0, none⟩ (.iface 151 (.pointer (some ⟨g, 0, none⟩)))
    KeepsOthers W W2 ∧ ParseEnd w pre W2 := by
  intro W2
  have h1 := hp.below hb
  have hz := hp.size
  obtain ⟨e2, e3, ef, eb⟩ := parse_ends h1.b2 h1.b3 hf (by omega) h1.low
  refine ⟨?_, at_, why, g, he, hle, e2, e3, ef, by omega, eb⟩
  have hk : KeepsOthers W w1 := ⟨hb.size, fun k o ho _ => (hb.block k (Array.getElem?_eq_some_iff.1 ho).1).trans ho⟩
  exact (hk.trans (KeepsOthers.setCell _ _ _)).trans (KeepsOthers.setCell _ _ _)
theorem parse_taken {w W w1 w2 : World} {acc : List ByteArray} {v v2 : Value} {x : ByteArray} {T : Obj} (hp : ParseAt w acc v w1) (hw1 : Below W.heap.size W w1) (hz : w.heap.size + 6 ≤ W.heap.size)
    (ho : w2.ownsRow w.heap.size 9 1 v2 (acc.length + 1) (encs Value.string acc ++ [.string x])) (hg : (w1.alloc T).grownBy w2 v.ownBlock) (ha : v2.ownBlock = v.ownBlock ∨ v2.ownBlock = some (w1.alloc T).heap.size) :
    KeepsOthers W (w2.setCell ⟨w.heap.size + 2, 0, none⟩ v2) ∧ ParseAt w (acc ++ [x]) v2 (w2.setCell ⟨w.heap.size + 2, 0, none⟩ v2) ∧ SameOn (fun k => k = w.heap.size + 4 ∨ k = w.heap.size + 3 ∨ k = w.heap.size + 5) W (w2.setCell ⟨w.heap.size + 2, 0, none⟩ v2) := by
  have hrow := hp.row
  have hbk : ∀ k, v.ownBlock = some k → w.heap.size + 6 ≤ k := fun k e => hrow.1 k e
  have hbel : Below 0 (w1.alloc T) w2 := (Below.refl 0 _).grown hg (Nat.zero_le _) (fun k _ => Nat.zero_le _)
  have hs2 : SameOn (fun k => k < w.heap.size + 6) (w1.alloc T) w2 := SameOn.of_grown hg hbel (fun k e h => by have := hbk k e; omega)
  have hs1 : SameOn (fun k => k < w.heap.size + 6) W w2 := ((SameOn.of_below hw1).trans (SameOn.alloc _ w1 T)).trans hs2
  have hs12 : SameOn (fun k => k < w.heap.size + 6) w1 w2 := (SameOn.alloc _ w1 T).trans hs2
  have b4 : w2.heap[w.heap.size + 2]? = some (.cells #[v] 77 (0, 0)) := (hs12.same _ (by omega) (blk_lt hp.b4)).trans hp.b4
  have b2 := (hs12.same _ (by omega) (blk_lt hp.b2)).trans hp.b2
  have b3 := (hs12.same _ (by omega) (blk_lt hp.b3)).trans hp.b3
  refine ⟨?_, ⟨(blk_set b4 0 _).trans rfl, blk_far b2 (by simp) _, blk_far b3 (by simp) _, ?_, ?_, ?_⟩, ?_⟩
  · have hk : KeepsOthers W w1 := ⟨hw1.size, fun k o ho _ => (hw1.block k (Array.getElem?_eq_some_iff.1 ho).1).trans ho⟩
    refine ((hk.trans (KeepsOthers.alloc w1 T)).trans (KeepsOthers.of_grownBy hg (fun j o e hj => ?_))).trans (KeepsOthers.setCell _ _ _)
    obtain ⟨cells, hc⟩ := own_typed (Kd.own_of_R hrow) j e
    have hj2 := (Array.getElem?_eq_some_iff.1 hc).1
    rw [Below.heap_alloc _ _ _ hj2, hc] at hj
    cases hj
    rfl
  · have h1 : Kd.R Kd.string 9 w2 w.heap.size (fun k => w.heap.size + 6 ≤ k) v2 (acc ++ [x]) := by
      refine Kd.R_of_own ?_ (fun k hk => ?_)
      · rw [List.length_append, encs_append]
        exact ho
      · rcases ha with e | e
        · exact hbk k (by rw [← e]; exact hk)
        · rw [e, World.size_alloc] at hk
          cases hk
          have := hp.size
          omega
    exact Kd.R_far h1 (fun k hk => by simp; omega) _
  · exact (hp.low.trans (hs12.below (fun k hk => by omega) hp.low.size)).setCell (p := ⟨w.heap.size + 2, 0, none⟩) (Nat.le_add_right _ _) _
  · have := hs1.size
    simp only [World.size_setCell]
    omega
  · exact (hs1.mono (fun k hk => by omega)).trans (SameOn.setCell _ _ _ (by simp))
theorem R_putObj {α : Type} {d : Kd α} {e base : Nat} {ok : Nat → Prop} {v : Value} {xs : List α} {A : World} (h : d.R e A base ok v xs) (l : Nat) (o o' : Obj) (hl : A.heap[l]? = some o) (ho : o.isCells = false) : d.R e (A.putObj l o') base ok v xs := by
  refine Kd.R_mono (Kd.R_step (Kd.R_bound h) (fun k hk _ => ?_)) (fun k hk => hk.1)
  refine World.putObj_heap_other ?_
  rintro rfl
  obtain ⟨_, _, _, q, _, cs, hc⟩ := hk
  rw [hc] at hl
  cases hl
  cases ho
theorem parse_done {w W : World} {acc : List ByteArray} {v : Value} {D : Nat} (hp : ParseAt w acc v W) (hK : W.heap[D]? = some (.deferred (some []))) (hD : w.heap.size + 6 ≤ D) :
    let W4 := ((W.setCell ⟨w.heap.size, 0, none⟩ v).setCell ⟨w.heap.size + 1, 0, none⟩ .nilIface)
    W4.heap[D]? = some (.deferred (some [])) ∧ (W4.putObj D (.deferred none)).heap[w.heap.size]? = some (.cells #[v] 77 (0, 0)) ∧ (W4.putObj D (.deferred none)).heap[w.heap.size + 1]? = some (.cells #[.nilIface] 124 (0, 0)) ∧
      Kd.R Kd.string 9 (W4.putObj D (.deferred none)) w.heap.size (fun _ => True) v acc ∧ Below w.heap.size w (W4.putObj D (.deferred none)) := by
  intro W4
  have hk4 : W4.heap[D]? = some (.deferred (some [])) := by
    rw [Below.heap_setCell _ _ _ _ (by simp; omega), Below.heap_setCell _ _ _ _ (by simp; omega)]
    exact hK
  have hlow : Below w.heap.size w W4 := (hp.low.setCell (p := ⟨w.heap.size, 0, none⟩) (Nat.le_refl _) _).setCell (p := ⟨w.heap.size + 1, 0, none⟩) (Nat.le_succ _) _
  refine ⟨hk4, (World.putObj_heap_other (by omega)).trans (blk_far ((blk_set hp.b2 0 _).trans rfl) (by simp) _), (World.putObj_heap_other (by omega)).trans ((blk_set (blk_far hp.b3 (by simp) _) 0 _).trans rfl), ?_, ?_⟩
  · exact R_putObj (Kd.R_mono (Kd.R_far (Kd.R_far hp.row (fun k hk => by simp; omega) _) (fun k hk => by simp; omega) _) (fun _ _ => trivial)) D _ _ hk4 rfl
  · exact hlow.trans ((SameOn.putObj (S := fun k => k < w.heap.size) _ _ _ (by omega)).below (fun k hk => hk) hlow.size)
set_option maxHeartbeats 8000000 in
set_option maxRecDepth 100000 in
theorem parse_calls (s : ByteArray) (w : World) :
    Calls Tryz.prog 73 #[.string s] w fun e w' => ParseAns w (parseF s) e w' ∧ Below w.heap.size w w' := by
  unfold parseF
  by_cases hbig : 1024 < s.size
  · rw [if_pos hbig]
    have hb1 : decide ((1024 : Int) < (s.size : Int)) = true := decide_eq_true (by omega)
    go_enter Tryz.func73, Tryz.ntmps73
    go_wp2_with (go_at_call 93; refine (wrong_calls 0 3 _).mono ?_; rintro e_ w1 ⟨g, rfl, hf, hg, hw1⟩; obtain ⟨b2, b3, hb⟩ := two_boxes hw1; have HF := Aside0.mk hf; have HB := Aside0.mk hb; have HB2 := Aside0.mk b2; have HB3 := Aside0.mk b3; have c2 := fun i => blk_cell b2 i; have c3 := fun i => blk_cell b3 i; have f2 := fun i => blk_frozen b2 i; have f3 := fun i => blk_frozen b3 i; clear hf hb hw1 b2 b3)
    obtain ⟨e2, e3, ef, eb⟩ := parse_ends HB2.out HB3.out HF.out (by simpa using hg) HB.out
    refine bodyPost_ret (results_cells2 rfl _ _ ⟨w.heap.size, 0, none⟩ ⟨w.heap.size + 1, 0, none⟩ _ _ rfl ((blk_cell e2 0).trans rfl) Tryz.isAgg77 rfl ((blk_cell e3 0).trans rfl) Tryz.isAgg124) rfl ?_
    exact ⟨⟨g, rfl, ef, by simp at hg; omega, by decide⟩, eb⟩
  · rw [if_neg hbig]
    have hb1 : decide ((1024 : Int) < (s.size : Int)) = false := decide_eq_false (by omega)
    by_cases hsl : Lib.hasPrefix s.data.toList [47] = false
    · rw [if_pos hsl]
      go_enter Tryz.func73, Tryz.ntmps73
      go_wp2_with (first
        | (go_at_call 94; refine (Tryz.strings_HasPrefix s ⟨#[47]⟩ _).mono ?_; rintro e_ w1 ⟨rfl, rfl⟩; rw [show (⟨#[47]⟩ : ByteArray).data.toList = [47] from rfl, hsl])
        | (go_at_call 93; refine (wrong_calls 0 9 _).mono ?_; rintro e_ w1 ⟨g, rfl, hf, hg, hw1⟩; obtain ⟨b2, b3, hb⟩ := two_boxes hw1; have HF := Aside0.mk hf; have HB := Aside0.mk hb; have HB2 := Aside0.mk b2; have HB3 := Aside0.mk b3; have c2 := fun i => blk_cell b2 i; have c3 := fun i => blk_cell b3 i; have f2 := fun i => blk_frozen b2 i; have f3 := fun i => blk_frozen b3 i; clear hf hb hw1 b2 b3))
      obtain ⟨e2, e3, ef, eb⟩ := parse_ends HB2.out HB3.out HF.out (by simpa using hg) HB.out
      refine bodyPost_ret (results_cells2 rfl _ _ ⟨w.heap.size, 0, none⟩ ⟨w.heap.size + 1, 0, none⟩ _ _ rfl ((blk_cell e2 0).trans rfl) Tryz.isAgg77 rfl ((blk_cell e3 0).trans rfl) Tryz.isAgg124) rfl ?_
      exact ⟨⟨g, rfl, ef, by simp at hg; omega, by decide⟩, eb⟩
    · rw [if_neg hsl]
      replace hsl : Lib.hasPrefix s.data.toList [47] = true := by simpa using hsl
      have h1 : 1 ≤ s.size := by
        rw [Lib.size_eq]
        cases hd : s.data.toList with
        | nil => rw [hd] at hsl; simp [Lib.hasPrefix] at hsl
        | cons a l => simp
      have HSL := Aside0.mk hsl
      refine (callsIn_wide (n := 0)).1 (callsIn_of_wp_marks Tryz.func73 rfl trivial (wpIn_wide.2 ?_) rfl)
      simp only [Tryz.ntmps73, List.size_toArray, List.length_cons, List.length_nil, Nat.reduceAdd, Nat.reduceSub, Array.replicate_succ, Array.replicate_zero, List.push_toArray, List.append_toArray, List.nil_append, List.cons_append]
      go_wp2_with (first
        | (go_at_call 94; refine (Tryz.strings_HasPrefix s ⟨#[47]⟩ _).mono ?_; rintro e_ w1 ⟨rfl, rfl⟩; rw [show (⟨#[47]⟩ : ByteArray).data.toList = [47] from rfl, hsl])
        | (go_at_call 95; refine (parts_calls s _ h1).mono ?_; rintro e_ w1 ⟨rfl, rfl⟩))
      obtain ⟨g1, g2, g3, g4, g5, g6, g7, g8⟩ := six_allocs w (.cells #[.slice none 0 0] 77) (.cells #[.nilIface] 124) (.cells #[.slice none 0 0] 77) (.cells #[.string (s.extract 1 s.size)] 9) (.cells #[.string ⟨#[47]⟩] 9) (.cells #[.int .i64 0] 3)
      have hz : (s.extract 1 s.size).size < 4294967281 := by simp; omega
      generalize hr : s.extract 1 s.size = r at g1 g2 g3 g4 g5 g6 g7 g8 hz ⊢
      generalize ((((((w.alloc (.cells #[.slice none 0 0] 77)).alloc (.cells #[.nilIface] 124)).alloc (.cells #[.slice none 0 0] 77)).alloc (.cells #[.string r] 9)).alloc (.cells #[.string ⟨#[47]⟩] 9)).alloc (.cells #[.int .i64 0] 3)) = wl at g1 g2 g3 g4 g5 g6 g7 g8 ⊢
      have hI0 : ParseInv w [] wl := ⟨[], .slice none 0 0, rfl, Nat.zero_le _, ⟨g3, g1, g2, Kd.R_nil _ _ _ _ _, g7, by omega⟩⟩
      have hHand := split1_hands (w.heap.size + 4) (w.heap.size + 3) (w.heap.size + 5) r wl hz g5 g4 g6 (by omega) (by omega)
      clear g1 g2 g3 g4 g5 g6
      have hwl : w.heap.size + 6 ≤ wl.heap.size := by omega
      have HW := Aside0.mk g7
      refine wp_rangeStop (gf := 148) rfl (fun _ _ => rfl) hHand (fun k hk => by omega) (fun k hk => by omega)
        (ParseInv w) (ParseEnd w) (parseInv_step w) (fun pre A l o o' h hl ho hle => parseInv_put w pre A l o o' h hl ho (by omega)) (fun pre A l o o' h hl ho hle => parseEnd_put w pre A l o o' h hl ho (by omega)) hI0
        (fun x => { tmps := #[.string s, undef, .pointer (some ⟨w.heap.size, 0, none⟩), .pointer (some ⟨w.heap.size + 1, 0, none⟩), .pointer (some ⟨w.heap.size + 1 + 1, 0, none⟩), .string x, .bool false, .string s, .int .i64 s.size, .bool false, undef, .bool false, .string s, .bool true, .bool false, undef, .string s, .func (.func 148) #[] #[.pointer (some ⟨w.heap.size + 1 + 1 + 1 + 1, 0, none⟩), .pointer (some ⟨w.heap.size + 1 + 1 + 1, 0, none⟩), .pointer (some ⟨w.heap.size + 1 + 1 + 1 + 2, 0, none⟩)], .string x, undef, undef, undef, undef, undef, undef, undef, undef, undef, undef, undef, undef, undef, undef, undef, undef, undef, undef, undef, undef, undef, undef, undef, undef, undef, undef], defers := [] }) ?assign ?body ?done ?stop
      case assign =>
        intro l x W m K hK
        gi_wp2
        exact hK
      case body =>
        rintro l m pre x W ⟨acc, v, i1, i2, i3⟩ hpre
        have hstep := parseL_snoc i1 x
        by_cases k1 : x.toList.isEmpty
        · have k0 : x.toList = [] := by simpa using k1
          have hst : parseStep acc x = .ok acc := by simp [parseStep, k1]
          have HI : Aside0 (ParseInv w (pre ++ [x]) W) := ⟨⟨acc, v, by rw [hstep, hst], i2, i3⟩⟩
          clear i1 i2 i3 hstep hst
          gi_wp2
          exact ⟨KeepsOthers.refl _, HI.out, SameOn.refl _ _⟩
        · replace k1 : x.toList.isEmpty = false := by simpa using k1
          have k0 : ¬ x.toList = [] := by simpa using k1
          by_cases k2 : x.toList = [46]
          · have k2b : (x.toList == [46]) = true := by simpa using k2
            have hst : parseStep acc x = .ok acc := by simp [parseStep, k2b]
            have HI : Aside0 (ParseInv w (pre ++ [x]) W) := ⟨⟨acc, v, by rw [hstep, hst], i2, i3⟩⟩
            clear i1 i2 i3 hstep hst
            gi_wp2
            exact ⟨KeepsOthers.refl _, HI.out, SameOn.refl _ _⟩
          · have k2b : (x.toList == [46]) = false := by simpa using k2
            have HST := Aside0.mk hstep
            have HI2 := Aside0.mk i2
            have HP := Aside0.mk i3
            have hi8 := i3.size
            obtain ⟨A, c, rfl, -, -⟩ := Kd.R_reads i3.row
            clear hstep i1 i2 i3
            by_cases k3 : goodName x = false
            · have hst : parseStep acc x = .error (acc.length, 8) := by simp [parseStep, k1, k2b, k3]
              have HST2 := Aside0.mk (HST.out.trans hst)
              clear hst HST
              gi_wp2_with (first
                | (refine ⟨trivial, fun h => by simp [Fence.wide] at h, ?_⟩; gi_at_call 81; refine CallsIn.inRound l ((callsIn_wide.2 (name_calls x W)).mono ?_); rintro e_ w1 ⟨rfl, hw1⟩; rw [k3]; have HW1 := Aside0.mk hw1; have HP1 := Aside0.mk (HP.out.below hw1); have c4 := fun i => blk_cell HP1.out.b4 i; clear hw1)
                | (refine ⟨trivial, fun h => by simp [Fence.wide] at h, ?_⟩; gi_at_call 93; refine CallsIn.inRound l ((callsIn_wide.2 (wrong_calls _ 8 _)).mono ?_); rintro e_ w2 ⟨g, rfl, hf, hg, hw2⟩; have HF := Aside0.mk hf; have HG := Aside0.mk hg; have HW2 := Aside0.mk hw2; have HP2 := Aside0.mk (HP1.out.below hw2); have c2 := fun i => blk_cell HP2.out.b2 i; have c3 := fun i => blk_cell HP2.out.b3 i; have f2 := fun i => blk_frozen HP2.out.b2 i; have f3 := fun i => blk_frozen HP2.out.b3 i; clear hf hg hw2))
              exact parse_faulty HP.out (HW1.out.trans (HW2.out.mono HW1.out.size)) HF.out (Nat.le_trans HW1.out.size HG.out) HST2.out (by have := HI2.out; omega)
            · replace k3 : goodName x = true := by simpa using k3
              by_cases k4 : acc.length = 16
              · have k4b : ((acc.length : Int) == 16) = true := by simpa using (by omega : (acc.length : Int) = 16)
                have hst : parseStep acc x = .error (acc.length, 3) := by simp [parseStep, k1, k2b, k3, k4]
                have HST2 := Aside0.mk (HST.out.trans hst)
                have K4 := Aside0.mk k4
                clear hst HST k4
                gi_wp2_with (first
                  | (refine ⟨trivial, fun h => by simp [Fence.wide] at h, ?_⟩; gi_at_call 81; refine CallsIn.inRound l ((callsIn_wide.2 (name_calls x W)).mono ?_); rintro e_ w1 ⟨rfl, hw1⟩; rw [k3]; have HW1 := Aside0.mk hw1; have HP1 := Aside0.mk (HP.out.below hw1); have c4 := fun i => blk_cell HP1.out.b4 i; clear hw1)
                  | (refine ⟨trivial, fun h => by simp [Fence.wide] at h, ?_⟩; gi_at_call 93; refine CallsIn.inRound l ((callsIn_wide.2 (wrong_calls _ 3 _)).mono ?_); rintro e_ w2 ⟨g, rfl, hf, hg, hw2⟩; have HF := Aside0.mk hf; have HG := Aside0.mk hg; have HW2 := Aside0.mk hw2; have HP2 := Aside0.mk (HP1.out.below hw2); have c2 := fun i => blk_cell HP2.out.b2 i; have c3 := fun i => blk_cell HP2.out.b3 i; have f2 := fun i => blk_frozen HP2.out.b2 i; have f3 := fun i => blk_frozen HP2.out.b3 i; clear hf hg hw2))
                exact parse_faulty HP.out (HW1.out.trans (HW2.out.mono HW1.out.size)) HF.out (Nat.le_trans HW1.out.size HG.out) HST2.out (by have := HI2.out; omega)
              · have k4b : decide ((acc.length : Int) = 16) = false := decide_eq_false (by omega)
                have k4c : ((acc.length : Int) == 16) = false := by simpa using (by omega : ¬ (acc.length : Int) = 16)
                have k4d : ¬ (acc.length : Int) = 16 := by omega
                have hst : parseStep acc x = .ok (acc ++ [x]) := by simp [parseStep, k1, k2b, k3, k4]
                have HST2 := Aside0.mk (HST.out.trans hst)
                clear hst HST
                obtain ⟨i0, hi, hz2⟩ := Option.map_eq_some_iff.1 (show (Tryz.prog.info? 9).map (fun i => (i.zero, i.size, i.bytes)) = some (some (.string ⟨#[]⟩), 1, 16) by kernel_rfl)
                simp only [Prod.mk.injEq] at hz2
                have HZ := Aside0.mk hz2
                have HIN := Aside0.mk hi
                clear hz2 hi
                have hal := HI2.out
                gi_wp2_with (first
                  | (refine ⟨trivial, fun h => by simp [Fence.wide] at h, ?_⟩; gi_at_call 81; refine CallsIn.inRound l ((callsIn_wide.2 (name_calls x W)).mono ?_); rintro e_ w1 ⟨rfl, hw1⟩; rw [k3]; have HW1 := Aside0.mk hw1; have HP1 := Aside0.mk (HP.out.below hw1); have c4 := fun i => blk_cell HP1.out.b4 i; have HOWN := Aside0.mk (Kd.own_of_R HP1.out.row); clear hw1)
                  | (gi_at_builtin; refine wpListIn_append_at _ rfl _ _ 77 rfl w.heap.size 9 i0 (.string ⟨#[]⟩) 1 16 Tryz.underlying77 HIN.out HZ.out.1 HZ.out.2.1 HZ.out.2.2 rfl (by decide) _ _ _ rfl (HOWN.out.alloc _) ⟨w1.heap.size, 0, none⟩ 1 1 [.string x] rfl rfl (cell_one_new _ _ _) (by simp [Value.oneCell']) (by unfold maxLen; omega) (by omega) (by simp only [World.size_alloc]; have := HP1.out.size; omega) ?_; intro v2 w2 hown2 hgrow2 hat2; have HT := Aside0.mk (parse_taken HP1.out HW1.out hi8 hown2 hgrow2 hat2); obtain ⟨g2, cap2, rfl⟩ := ownsRow_succ hown2; have hs2 := SameOn.of_grown (S := fun k => k < w.heap.size + 6) hgrow2 ((Below.refl 0 _).grown hgrow2 (Nat.zero_le _) (fun k _ => Nat.zero_le _)) (fun k e h => by have := HP1.out.row.1 k e; omega); have b4 := (hs2.same _ (by omega) (Nat.lt_of_lt_of_le (blk_lt HP1.out.b4) (by simp))).trans (blk_alloc HP1.out.b4 _); have c44 := blk_cell b4 0; have f44 := blk_frozen b4 0; clear hown2 hgrow2 hat2 hs2 b4))
                exact ⟨HT.out.1, ⟨acc ++ [x], _, HST2.out, by simp; omega, HT.out.2.1⟩, HT.out.2.2⟩
      case done =>
        rintro D W ⟨acc, v, i1, i2, i3⟩ hD hK
        have HP := Aside0.mk i3
        have HK := Aside0.mk hK
        have HR := Aside0.mk (And.intro i1 i2)
        obtain ⟨A, c, rfl, -, -⟩ := Kd.R_reads i3.row
        have c4 := blk_cell i3.b4 0
        have c2 := blk_cell i3.b2 0
        have c3 := blk_cell i3.b3 0
        have f2 := blk_frozen i3.b2 0
        have f3 := blk_frozen i3.b3 0
        clear i1 i2 i3 hK
        go_wp2
        obtain ⟨e1, e2, e3, e4, e5⟩ := parse_done HP.out HK.out (by omega)
        refine ⟨by simp, .inl ⟨_, _, rfl, run_takeDeferred e1, ?_⟩⟩
        refine ⟨_, results_cells2 rfl _ _ ⟨w.heap.size, 0, none⟩ ⟨w.heap.size + 1, 0, none⟩ _ _ rfl ((blk_cell e2 0).trans rfl) Tryz.isAgg77 rfl ((blk_cell e3 0).trans rfl) Tryz.isAgg124, ?_⟩
        rw [hr, HR.out.1]
        exact ⟨⟨_, rfl, e4, HR.out.2⟩, e5⟩
      case stop =>
        rintro D pre W hpre ⟨at_, why, g, h1, h2, h3, h4, h5, h6, h7⟩ hD hK
        have HF := Aside0.mk (And.intro h1 (And.intro h2 (And.intro h3 (And.intro h4 (And.intro h5 (And.intro h6 h7))))))
        have HK := Aside0.mk hK
        clear h1 h2 h3 h4 h5 h6 h7 hK
        go_wp2
        refine ⟨by simp, .inl ⟨_, _, rfl, run_takeDeferred HK.out, ?_⟩⟩
        obtain ⟨h1, h2, h3, h4, h5, h6, h7⟩ := (parseEnd_put w pre W D _ (.deferred none) ⟨at_, why, g, HF.out⟩ HK.out rfl (by omega)).choose_spec.choose_spec.choose_spec
        refine ⟨_, results_cells2 rfl _ _ ⟨w.heap.size, 0, none⟩ ⟨w.heap.size + 1, 0, none⟩ _ _ rfl ((blk_cell h3 0).trans rfl) Tryz.isAgg77 rfl ((blk_cell h4 0).trans rfl) Tryz.isAgg124, ?_⟩
        rw [hr, parseL_prefix hpre h1]
        exact ⟨⟨_, rfl, h5, h6, h2⟩, h7⟩
end
end Go.Proofs.YthifdofdoeaemaaGreatDoor.Wk
end
section
namespace Go.Proofs.YthifdofdoeaemaaGreatDoor.Wk
open Go.RowKit Go.Proofs.YthifdofdoeaemaaGreatDoorW.PrintWords Go.Proofs.YthifdofdoeaemaaGreatDoorW.PrintLast Go.Proofs.YthifdofdoeaemaaGreatDoorW.PrintMore
attribute [local go_sem] max2_int min2_int max_two min_two max_three min_three max_four min_four
set_option linter.unusedVariables false
set_option linter.unusedSimpArgs false
section
open Go.RowKit Go.Lib
def parseP (s : ByteArray) : List ByteArray × Int × Int := match parseF s with
  | .ok l => (l, 0, 0)
  | .error (a, y) => ([], a, y)
set_option maxHeartbeats 4000000 in
theorem parse2_calls (s : ByteArray) (w : World) (hl : Lay w) (l : List ByteArray) (a y : Int) (h : parseP s = (l, a, y)) :
    Calls Tryz.prog 40 #[.string s] w fun e w' => ∃ v, e = .returned (.tuple #[v, .int .i64 a, .int .i64 y]) ∧ Kd.R Kd.string 9 w' w.heap.size (fun _ => True) v l ∧ l.length ≤ 16 ∧ Below w.heap.size w w' := by
  have HL := Aside0.mk hl
  have HP := Aside0.mk h
  clear hl h
  unfold parseP at HP
  cases hf : parseF s with
  | ok l0 =>
    rw [hf] at HP
    obtain ⟨rfl, rfl, rfl⟩ : l0 = l ∧ (0 : Int) = a ∧ (0 : Int) = y := by simpa using HP.out
    clear HP
    go_enter Tryz.func40, Tryz.ntmps40
    go_wp2_with (first
      | (go_at_call 73; refine (parse_calls s _).mono ?_; rintro e_ w1 ⟨hans, hw1⟩; rw [hf] at hans; obtain ⟨v, rfl, hr, h16⟩ := hans; have HR := Aside0.mk hr; have H16 := Aside0.mk h16; have HW1 := Aside0.mk hw1; clear hr h16 hw1)
      | (go_at_call 74; refine (plain_nil _).mono ?_; rintro e_ w2 ⟨rfl, hw2⟩; have HW2 := Aside0.mk hw2; clear hw2))
    refine bodyPost_ret (results_tmp3 rfl _ _ _) rfl ?_
    exact ⟨v, rfl, Kd.R_below HR.out HW2.out, H16.out, HW1.out.trans (HW2.out.mono HW1.out.size)⟩
  | error p =>
    obtain ⟨a0, y0⟩ := p
    rw [hf] at HP
    obtain ⟨rfl, rfl, rfl⟩ : [] = l ∧ (a0 : Int) = a ∧ y0 = y := by simpa using HP.out
    clear HP
    go_enter Tryz.func40, Tryz.ntmps40
    go_wp2_with (first
      | (go_at_call 73; refine (parse_calls s _).mono ?_; rintro e_ w1 ⟨hans, hw1⟩; rw [hf] at hans; obtain ⟨g, rfl, hft, hg, h16⟩ := hans; have HF := Aside0.mk hft; have H16 := Aside0.mk h16; have HW1 := Aside0.mk hw1; clear hft hg h16 hw1)
      | (go_at_call 74; refine (plain_hit g _ _ _ (lay_below HL.out HW1.out) HF.out).mono ?_; rintro e_ w2 ⟨rfl, hw2⟩; have HW2 := Aside0.mk hw2; clear hw2))
    refine bodyPost_ret (results_tmp3 rfl _ _ _) rfl ?_
    exact ⟨_, rfl, Kd.R_nil _ _ _ _ _, Nat.zero_le _, HW1.out.trans (HW2.out.mono HW1.out.size)⟩
end
end Go.Proofs.YthifdofdoeaemaaGreatDoor.Wk
end
section
namespace Go.Proofs.YthifdofdoeaemaaGreatDoor.Wk
open Go.RowKit Go.Proofs.YthifdofdoeaemaaGreatDoorW.PrintWords Go.Proofs.YthifdofdoeaemaaGreatDoorW.PrintLast Go.Proofs.YthifdofdoeaemaaGreatDoorW.PrintMore
attribute [local go_sem] max2_int min2_int max_two min_two max_three min_three max_four min_four
set_option linter.unusedVariables false
set_option linter.unusedSimpArgs false
def bb (n m : Nat) : Array Bool := ((List.range n).map fun i => m.testBit i).toArray
theorem sa {α : Type} {l : List α} {i : Nat} {a : α} : l.toArray.setIfInBounds i a = (l.set i a).toArray := List.setIfInBounds_toArray l i a
theorem sz {α : Type} {a b : α} {l : List α} : (a :: l).set 0 b = b :: l := List.set_cons_zero
theorem ss {α : Type} {a b : α} {n : Nat} {l : List α} : (a :: l).set (n + 1) b = a :: l.set n b := List.set_cons_succ
section
open Go.RowKit Go.Lib Go.Maps Go.ChangeMaps
abbrev Lk := ByteArray × Int × ByteArray
structure GO where
  kind : Int
  links : List Lk
  leads : Int
  held : Int
structure GS where
  next : Int
  count : Int
  objs : List (Int × GO)
structure GB where
  g : Nat
  mb : Nat
  ob : Int → Nat
  lb : Int → Nat
def GS.at (G : GS) (id : Int) : Option GO := (G.objs.find? (fun x => decide (x.1 = id))).map (·.2)
def lnk (l : List Lk) (n : ByteArray) : Option Lk := l.find? (fun x => decide (x.1.data.toList = n.data.toList))
def insB (x : Lk) : List Lk → List Lk
  | [] => [x]
  | y :: r => if bytesBefore x.1.data.toList y.1.data.toList then x :: y :: r else y :: insB x r
def delK (n : ByteArray) (l : List Lk) : List Lk := l.filter (fun x => !decide (x.1.data.toList = n.data.toList))
def putK (x : Lk) (l : List Lk) : List Lk := insB x (delK x.1 l)
def insO (x : Int × GO) : List (Int × GO) → List (Int × GO)
  | [] => [x]
  | y :: r => if x.1 < y.1 then x :: y :: r else y :: insO x r
def delO (id : Int) (l : List (Int × GO)) : List (Int × GO) := l.filter (fun x => !decide (x.1 = id))
def putO (x : Int × GO) (l : List (Int × GO)) : List (Int × GO) := insO x (delO x.1 l)
def setO (l : List (Int × GO)) (id : Int) (f : GO → GO) : List (Int × GO) := l.map (fun x => if x.1 = id then (x.1, f x.2) else x)
def keyL (n : ByteArray) : Lit := .string n.data.toList
def datL (x : Lk) : DataW Unit := .agg [.lit (.string x.1.data.toList), .lit (.int .i64 x.2.1), .lit (.string x.2.2.data.toList)]
def encL (x : Lk) : Lit × DataW Unit := (keyL x.1, datL x)
def readL : Value → Option (DataW Unit × List MemPlace)
  | .agg cs => match cs.toList with
    | [.string n, .int .i64 i, .string s] => some (datL (n, i, s), [])
    | _ => none
  | _ => none
def keyO (id : Int) : Lit := .int .i64 id
def readP : Value → Option (DataW Unit × List MemPlace)
  | .pointer none => some (.nil, [])
  | .pointer (some ⟨b, 0, none⟩) => some (.lit (.int .i64 (b : Int)), [])
  | _ => none
def encO (ob : Int → Nat) (x : Int × GO) : Lit × DataW Unit := (keyO x.1, .lit (.int .i64 (ob x.1 : Int)))
theorem bytes_inj {a b : ByteArray} (h : a.data.toList = b.data.toList) : a = b := mkB_eq h
theorem readL_mk (n s : ByteArray) (i : Int) : readL (.agg #[.string n, .int .i64 i, .string s]) = some (datL (n, i, s), []) := rfl
theorem readL_inv {v : Value} {d : DataW Unit} {p : List MemPlace} (h : readL v = some (d, p)) : ∃ x : Lk, v = .agg #[.string x.1, .int .i64 x.2.1, .string x.2.2] ∧ d = datL x ∧ p = [] := by
  unfold readL at h
  split at h
  · rename_i cs
    split at h
    · rename_i n i s hcs
      cases h
      refine ⟨(n, i, s), ?_, rfl, rfl⟩
      have : cs = #[.string n, .int .i64 i, .string s] := by rw [← Array.toArray_toList (xs := cs), hcs]
      rw [this]
    · cases h
  · cases h
theorem datL_inj {x y : Lk} (h : datL x = datL y) : x = y := by
  obtain ⟨a, b, c⟩ := x
  obtain ⟨a', b', c'⟩ := y
  simp only [datL, DataW.agg.injEq, List.cons.injEq, DataW.lit.injEq, Lit.string.injEq, Lit.int.injEq, and_true, true_and] at h
  obtain ⟨h1, h2, h3⟩ := h
  rw [bytes_inj h1, h2, bytes_inj h3]
theorem readP_inv {v : Value} {b : Nat} {p : List MemPlace} (h : readP v = some (.lit (.int .i64 (b : Int)), p)) : v = .pointer (some ⟨b, 0, none⟩) := by
  unfold readP at h
  split at h
  · cases h
  · rename_i b'
    simp only [Option.some.injEq, Prod.mk.injEq, DataW.lit.injEq, Lit.int.injEq, true_and] at h
    obtain ⟨h1, -⟩ := h
    have : b' = b := by omega
    rw [this]
  · cases h
theorem readP_nil {v : Value} {p : List MemPlace} (h : readP v = some (.nil, p)) : v = .pointer none := by
  unfold readP at h
  split at h
  · rfl
  · cases h
  · cases h
theorem same_keyL (a b : ByteArray) : (keyL a).sameKey (keyL b) = decide (a.data.toList = b.data.toList) := by
  rw [Bool.eq_iff_iff]
  simp [keyL, Lit.sameKey]
theorem same_keyO (a b : Int) : (keyO a).sameKey (keyO b) = decide (a = b) := by
  simp [keyO, Lit.sameKey]
theorem find_L (l : List Lk) (n : ByteArray) : (l.map encL).find? (fun p => p.1.sameKey (keyL n)) = (lnk l n).map encL := by
  rw [List.find?_map]
  congr 1
  unfold lnk
  congr 1
  funext x
  exact same_keyL x.1 n
theorem atKey_L (l : List Lk) (n : ByteArray) (z : DataW Unit) : (DataW.map (l.map encL)).atKey (keyL n) z = match lnk l n with | some x => datL x | none => z := by
  simp only [DataW.atKey]
  rw [find_L]
  cases lnk l n <;> rfl
theorem has_L (l : List Lk) (n : ByteArray) : Maps.has (DataW.map (l.map encL)) (keyL n) = (lnk l n).isSome := by
  rw [Maps.has_eq]
  unfold lnk
  induction l with
  | nil => rfl
  | cons a t ih =>
    rw [List.map_cons, List.any_cons, ih, List.find?_cons]
    rw [show (encL a).1.sameKey (keyL n) = decide (a.1.data.toList = n.data.toList) from same_keyL a.1 n]
    cases decide (a.1.data.toList = n.data.toList) <;> rfl
theorem find_O (ob : Int → Nat) (l : List (Int × GO)) (id : Int) : (l.map (encO ob)).find? (fun p => p.1.sameKey (keyO id)) = (l.find? (fun x => decide (x.1 = id))).map (encO ob) := by
  rw [List.find?_map]
  congr 2
  funext x
  exact same_keyO x.1 id
theorem atKey_O (ob : Int → Nat) (G : GS) (id : Int) (z : DataW Unit) : (DataW.map (G.objs.map (encO ob))).atKey (keyO id) z = match G.at id with | some _ => .lit (.int .i64 (ob id : Int)) | none => z := by
  simp only [DataW.atKey]
  rw [find_O]
  unfold GS.at
  cases h : G.objs.find? (fun x => decide (x.1 = id)) with
  | none => rfl
  | some x =>
    have := List.find?_some h
    have hx : x.1 = id := by simpa using this
    simp [encO, hx]
theorem filter_L (l : List Lk) (n : ByteArray) : (l.map encL).filter (fun p => !p.1.sameKey (keyL n)) = (delK n l).map encL := by
  rw [List.filter_map]
  unfold delK
  congr 2
  funext x
  simp [encL, same_keyL]
theorem insert_L (x : Lk) : ∀ l : List Lk, DataW.insert (encL x) (l.map encL) = (insB x l).map encL
  | [] => rfl
  | y :: r => by
    simp only [List.map_cons, DataW.insert, insB]
    rw [show (encL x).1.before (encL y).1 = bytesBefore x.1.data.toList y.1.data.toList from rfl, insert_L x r]
    split <;> rfl
theorem put_L (l : List Lk) (x : Lk) : (DataW.map (l.map encL)).put (keyL x.1) (datL x) = .map ((putK x l).map encL) := by
  show DataW.map (DataW.insert (encL x) ((l.map encL).filter (fun p => !p.1.sameKey (keyL x.1)))) = _
  rw [filter_L, insert_L]
  rfl
theorem del_L (l : List Lk) (n : ByteArray) : (DataW.map (l.map encL)).del (keyL n) = .map ((delK n l).map encL) := by
  show DataW.map ((l.map encL).filter (fun p => !p.1.sameKey (keyL n))) = _
  rw [filter_L]
theorem filter_O (ob : Int → Nat) (l : List (Int × GO)) (id : Int) : (l.map (encO ob)).filter (fun p => !p.1.sameKey (keyO id)) = (delO id l).map (encO ob) := by
  rw [List.filter_map]
  unfold delO
  congr 2
  funext x
  simp [encO, same_keyO]
theorem insert_O (ob : Int → Nat) (x : Int × GO) : ∀ l : List (Int × GO), DataW.insert (encO ob x) (l.map (encO ob)) = (insO x l).map (encO ob)
  | [] => rfl
  | y :: r => by
    simp only [List.map_cons, DataW.insert, insO]
    rw [show (encO ob x).1.before (encO ob y).1 = decide (x.1 < y.1) from rfl, insert_O ob x r]
    by_cases h : x.1 < y.1
    · simp [h]
    · simp [h]
theorem put_O (ob : Int → Nat) (l : List (Int × GO)) (x : Int × GO) : (DataW.map (l.map (encO ob))).put (keyO x.1) (.lit (.int .i64 (ob x.1 : Int))) = .map ((putO x l).map (encO ob)) := by
  show DataW.map (DataW.insert (encO ob x) ((l.map (encO ob)).filter (fun p => !p.1.sameKey (keyO x.1)))) = _
  rw [filter_O, insert_O]
  rfl
theorem del_O (ob : Int → Nat) (l : List (Int × GO)) (id : Int) : (DataW.map (l.map (encO ob))).del (keyO id) = .map ((delO id l).map (encO ob)) := by
  show DataW.map ((l.map (encO ob)).filter (fun p => !p.1.sameKey (keyO id))) = _
  rw [filter_O]
end
end Go.Proofs.YthifdofdoeaemaaGreatDoor.Wk
end
section
namespace Go.Proofs.YthifdofdoeaemaaGreatDoor.Wk
open Go.RowKit Go.Proofs.YthifdofdoeaemaaGreatDoorW.PrintWords Go.Proofs.YthifdofdoeaemaaGreatDoorW.PrintLast Go.Proofs.YthifdofdoeaemaaGreatDoorW.PrintMore
attribute [local go_sem] max2_int min2_int max_two min_two max_three min_three max_four min_four
set_option linter.unusedVariables false
set_option linter.unusedSimpArgs false
section
open Go.RowKit Go.Lib
def walkStep (G : GS) (rec : List ByteArray → Nat → Option (Int × Int × Nat)) : List ByteArray → Int → Nat → Option (Int × Int × Nat)
  | [], id, soft => some (id, 0, soft)
  | n :: ns, id, soft => match G.at id with
    | none => none
    | some x => if x.kind = 1 then match lnk x.links n with
        | none => some (0, 10, soft)
        | some k => if 0 < k.2.1 then walkStep G rec ns k.2.1 soft else if soft = 8 then some (0, 13, soft) else
            match rec (parseP k.2.2).1 (soft + 1) with
            | none => none
            | some r => if r.2.1 = 0 then walkStep G rec ns r.1 r.2.2 else some (0, r.2.1, r.2.2)
      else some (0, 12, soft)
def walkG (G : GS) : Nat → List ByteArray → Nat → Option (Int × Int × Nat)
  | 0, _, _ => none
  | n + 1, names, soft => walkStep G (walkG G n) names 1 soft
def findG (G : GS) (p : ByteArray) : Option (Int × Int) :=
  let r := parseP p
  if r.2.2 = 0 then (walkG G 9 r.1 0).map (fun w => (w.1, w.2.1)) else some (0, r.2.2)
def placeG (G : GS) (p : ByteArray) (bare : Int) : Option (Int × ByteArray × Int) :=
  let r := parseP p
  if r.2.2 = 0 then
    if r.1.length = 0 then some (0, ⟨#[]⟩, bare) else
    match walkG G 9 (r.1.take (r.1.length - 1)) 0 with
    | none => none
    | some w => if w.2.1 = 0 then match G.at w.1 with
        | none => none
        | some x => if x.kind = 1 then some (w.1, rdOf ByteArray.empty r.1 ((r.1.length : Int) - 1), 0) else some (0, ⟨#[]⟩, 12)
      else some (0, ⟨#[]⟩, w.2.1)
  else some (0, ⟨#[]⟩, r.2.2)
def roomG (G : GS) (p : ByteArray) : Option (Int × ByteArray × Int) :=
  match placeG G p 11 with
  | none => none
  | some r => if r.2.2 = 0 then match G.at r.1 with
      | none => none
      | some x => if (lnk x.links r.2.1).isSome then some (0, ⟨#[]⟩, 11) else if G.count = 256 then some (r.1, r.2.1, 7) else some (r.1, r.2.1, 0)
    else some (0, ⟨#[]⟩, r.2.2)
def bound : Nat := 1000000
def putG (G : GS) (id : Int) (x : Lk) : Option GS :=
  match G.at id with
  | none => none
  | some o => if o.links.length < bound ∧ -4611686018427387904 < G.count ∧ G.count < 4611686018427387904 then
      let G1 : GS := { G with count := G.count + 1, objs := setO G.objs id (fun o => { o with links := putK x o.links }) }
      if 0 < x.2.1 then match G1.at x.2.1 with
        | none => none
        | some t => if -4611686018427387904 < t.leads ∧ t.leads < 4611686018427387904 then some { G1 with objs := setO G1.objs x.2.1 (fun o => { o with leads := o.leads + 1 }) } else none
      else some G1
    else none
def newO (kind : Int) : GO := ⟨kind, [], 0, 0⟩
def addG (G : GS) (p : ByteArray) (kind : Int) : Option (Int × Int × GS) :=
  if kind = 1 ∨ kind = 2 then
    match roomG G p with
    | none => none
    | some r => let e : Int := if r.2.2 = 0 ∧ G.objs.length = 128 then 7 else r.2.2
      if e = 0 then
        if (G.at G.next).isSome ∨ bound ≤ G.objs.length ∨ G.next < 1 ∨ 4611686018427387904 ≤ G.next then none else
        match putG { G with next := G.next + 1, objs := putO (G.next, newO kind) G.objs } r.1 (r.2.1, G.next, ⟨#[]⟩) with
        | none => none
        | some G2 => some (G.next, 0, G2)
      else some (0, e, G)
  else some (0, 2, G)
def linkG (G : GS) (p other : ByteArray) : Option (Int × GS) :=
  match findG G other with
  | none => none
  | some f => if f.2 = 0 then match G.at f.1 with
      | none => none
      | some o => if o.kind = 1 then some (12, G) else match roomG G p with
        | none => none
        | some r => if r.2.2 = 0 then (putG G r.1 (r.2.1, f.1, ⟨#[]⟩)).map (fun G2 => (0, G2)) else some (r.2.2, G)
    else some (f.2, G)
def softG (G : GS) (p target : ByteArray) : Option (Int × GS) :=
  let t := parseP target
  if t.2.2 = 0 then match roomG G p with
    | none => none
    | some r => if r.2.2 = 0 then (putG G r.1 (r.2.1, 0, target)).map (fun G2 => (0, G2)) else some (r.2.2, G)
  else some (t.2.2, G)
def cutG (rec : GS → Int → Option (List Int × GS)) (G : GS) (id : Int) (n : ByteArray) : Option (List Int × GS) :=
  match G.at id with
  | none => none
  | some o => if -4611686018427387904 < G.count ∧ G.count < 4611686018427387904 then
      let G1 : GS := { G with count := G.count - 1, objs := setO G.objs id (fun o => { o with links := delK n o.links }) }
      match lnk o.links n with
      | none => some ([], G1)
      | some k => if k.2.1 = 0 then some ([], G1) else match G1.at k.2.1 with
        | none => none
        | some t => if -4611686018427387904 < t.leads ∧ t.leads < 4611686018427387904 then rec { G1 with objs := setO G1.objs k.2.1 (fun o => { o with leads := o.leads - 1 }) } k.2.1 else none
    else none
def cutAll (rec : GS → Int → Option (List Int × GS)) (id : Int) : List Lk → List Int × GS → Option (List Int × GS)
  | [], a => some a
  | k :: ks, a => match cutG rec a.2 id k.1 with
    | none => none
    | some r => if a.1.length + r.1.length ≤ bound then cutAll rec id ks (a.1 ++ r.1, r.2) else none
def sweepG : Nat → GS → Int → Option (List Int × GS)
  | 0, _, _ => none
  | n + 1, G, id => match G.at id with
    | none => none
    | some x => if id = 1 ∨ 0 < x.leads ∨ 0 < x.held then some ([], G) else
      if x.links.length ≤ bound then
      match cutAll (sweepG n) id x.links ([id], G) with
      | none => none
      | some r => some (r.1, { r.2 with objs := delO id r.2.objs })
      else none
def sortI (l : List Int) : List Int := l.mergeSort fun x y => decide (x ≤ y)
def unlinkG (n : Nat) (G : GS) (p : ByteArray) : Option (List Int × Int × GS) :=
  match placeG G p 2 with
  | none => none
  | some r => if r.2.2 = 0 then match G.at r.1 with
      | none => none
      | some x => if (lnk x.links r.2.1).isSome then (match cutG (sweepG n) G r.1 r.2.1 with | none => none | some c => if c.1.length ≤ bound then some (sortI c.1, 0, c.2) else none) else some ([], 10, G)
    else some ([], r.2.2, G)
def namesG (G : GS) (p : ByteArray) : Option (List Lk × Int) :=
  match findG G p with
  | none => none
  | some f => if f.2 = 0 then match G.at f.1 with
      | none => none
      | some x => if x.kind = 1 then (if x.links.length ≤ bound then some (x.links, 0) else none) else some ([], 12)
    else some ([], f.2)
def freeG (n : Nat) (G : GS) (id : Int) : Option (List Int × Int × GS) :=
  match G.at id with
  | none => some ([], 10, G)
  | some x => if x.held = 0 then some ([], 2, G) else if -4611686018427387904 < x.held ∧ x.held < 4611686018427387904 then
      match sweepG n { G with objs := setO G.objs id (fun o => { o with held := o.held - 1 }) } id with
      | none => none
      | some c => if c.1.length ≤ bound then some (sortI c.1, 0, c.2) else none
    else none
def newG : GS := ⟨2, 0, [(1, newO 1)]⟩
end
end Go.Proofs.YthifdofdoeaemaaGreatDoor.Wk
end
section
namespace Go.Proofs.YthifdofdoeaemaaGreatDoor.Wk
open Go.RowKit Go.Proofs.YthifdofdoeaemaaGreatDoorW.PrintWords Go.Proofs.YthifdofdoeaemaaGreatDoorW.PrintLast Go.Proofs.YthifdofdoeaemaaGreatDoorW.PrintMore
attribute [local go_sem] max2_int min2_int max_two min_two max_three min_three max_four min_four
set_option linter.unusedVariables false
set_option linter.unusedSimpArgs false
section
open Go.RowKit Go.Lib Go.Maps Go.Proofs.YthifdofdoeaemaaGreatDoorQ
def ObjAt (W : World) (B : GB) (x : Int × GO) : Prop :=
  W.heap[B.ob x.1]? = some (.cells #[.int .i64 x.2.kind, .map (some (B.lb x.1)), .int .i64 x.2.leads, .int .i64 x.2.held] 89 (0, 0)) ∧
  W.ownsMap Tryz.prog 9 readL (B.lb x.1) x.2.links.length (.map (x.2.links.map encL))
structure GraphAt (W : World) (B : GB) (G : GS) : Prop where
  cell : W.heap[B.g]? = some (.cells #[.int .i64 G.next, .map (some B.mb), .int .i64 G.count] 73 (0, 0))
  objs : W.ownsMap Tryz.prog 3 readP B.mb G.objs.length (.map (G.objs.map (encO B.ob)))
  each : ∀ x ∈ G.objs, ObjAt W B x
  obI : ∀ x ∈ G.objs, ∀ y ∈ G.objs, B.ob x.1 = B.ob y.1 → x.1 = y.1
  lbI : ∀ x ∈ G.objs, ∀ y ∈ G.objs, B.lb x.1 = B.lb y.1 → x.1 = y.1
  lbm : ∀ x ∈ G.objs, B.lb x.1 ≠ B.mb
  ids : ∀ x ∈ G.objs, (Lit.int .i64 x.1).wf = true
def foot (B : GB) (G : GS) (k : Nat) : Prop := k = B.g ∨ k = B.mb ∨ ∃ x ∈ G.objs, k = B.ob x.1 ∨ k = B.lb x.1
theorem own_lt {H : Type} {w : World} {P : Program} {k : TypeId} {R : Value → Option (DataW H × List MemPlace)} {b n : Nat} {D : DataW H} (h : w.ownsMap P k R b n D) : b < w.heap.size := h.lt
theorem own_same {H : Type} {A B : World} {P : Program} {k : TypeId} {R : Value → Option (DataW H × List MemPlace)} {b n : Nat} {D : DataW H} (h : A.ownsMap P k R b n D) (hs : B.heap[b]? = A.heap[b]?) : B.ownsMap P k R b n D := by
  obtain ⟨es, clock, hb, F, hn, hD⟩ := h
  exact ⟨es, clock, hs.trans hb, F, hn, hD⟩
theorem own_tight {H : Type} {w : World} {P : Program} {k : TypeId} {R : Value → Option (DataW H × List MemPlace)} {b n : Nat} {es : List (Lit × DataW H)} (h : w.ownsMap P k R b n (.map es)) : w.ownsMap P k R b es.length (.map es) := by
  obtain ⟨e, clock, hb, F, hn, hD⟩ := h
  refine ⟨e, clock, hb, F, ?_, hD⟩
  have := DataW.map.inj hD
  rw [this, length_sorted]
  simp
theorem own_map {H : Type} {w : World} {P : Program} {k : TypeId} {R : Value → Option (DataW H × List MemPlace)} {b n : Nat} {D : DataW H} (h : w.ownsMap P k R b n D) : ∃ es clock, w.heap[b]? = some (.map es clock) := by
  obtain ⟨e, clock, hb, _⟩ := h
  exact ⟨e, clock, hb⟩
theorem ObjAt.step {A W : World} {B : GB} {x : Int × GO} (h : ObjAt A B x) (h1 : W.heap[B.ob x.1]? = A.heap[B.ob x.1]?) (h2 : W.heap[B.lb x.1]? = A.heap[B.lb x.1]?) : ObjAt W B x :=
  ⟨h1.trans h.1, own_same h.2 h2⟩
theorem GraphAt.step {A W : World} {B : GB} {G : GS} (h : GraphAt A B G) (hs : ∀ k, foot B G k → k < A.heap.size → W.heap[k]? = A.heap[k]?) : GraphAt W B G where
  cell := (hs _ (.inl rfl) (blk_lt h.cell)).trans h.cell
  objs := own_same h.objs (hs _ (.inr (.inl rfl)) h.objs.lt)
  each := fun x hx => (h.each x hx).step (hs _ (.inr (.inr ⟨x, hx, .inl rfl⟩)) (blk_lt (h.each x hx).1)) (hs _ (.inr (.inr ⟨x, hx, .inr rfl⟩)) (h.each x hx).2.lt)
  obI := h.obI
  lbI := h.lbI
  lbm := h.lbm
  ids := h.ids
theorem GraphAt.foot_lt {W : World} {B : GB} {G : GS} (h : GraphAt W B G) {k : Nat} (hk : foot B G k) : k < W.heap.size := by
  rcases hk with rfl | rfl | ⟨x, hx, rfl | rfl⟩
  · exact blk_lt h.cell
  · exact h.objs.lt
  · exact blk_lt (h.each x hx).1
  · exact (h.each x hx).2.lt
theorem GraphAt.below {A W : World} {B : GB} {G : GS} (h : GraphAt A B G) (hb : Below A.heap.size A W) : GraphAt W B G := h.step (fun k _ hl => hb.block k hl)
theorem GraphAt.same {A W : World} {B : GB} {G : GS} {S : Nat → Prop} (h : GraphAt A B G) (hs : SameOn S A W) (hf : ∀ k, foot B G k → S k) : GraphAt W B G := h.step (fun k hk hl => hs.same k (hf k hk) hl)
theorem at_mem {G : GS} {id : Int} {o : GO} (h : G.at id = some o) : (id, o) ∈ G.objs := by
  unfold GS.at at h
  obtain ⟨x, hx, rfl⟩ := Option.map_eq_some_iff.1 h
  have h1 := List.mem_of_find?_eq_some hx
  have h2 : x.1 = id := by simpa using List.find?_some hx
  rw [← h2]
  exact h1
theorem GraphAt.obj {W : World} {B : GB} {G : GS} (h : GraphAt W B G) {id : Int} {o : GO} (ho : G.at id = some o) : ObjAt W B (id, o) := h.each _ (at_mem ho)
theorem GraphAt.look {W : World} {B : GB} {G : GS} (h : GraphAt W B G) (id : Int) (hz : (zeroValue 75).run Tryz.prog W = .ok (.pointer none) W) (hk : keyOf Tryz.prog 3 (.int .i64 id) = some (keyO id)) :
    (Instr.lookup 71 (.map (some B.mb)) (.int .i64 id) false).run Tryz.prog W = .ok (match G.at id with | some _ => .pointer (some ⟨B.ob id, 0, none⟩) | none => .pointer none) W := by
  obtain ⟨v, ps, hrun, hv⟩ := h.objs.lookup (int_keyed Tryz.underlying3) Tryz.underlying71 hz (zd := .nil) (zp := []) rfl hk
  rw [atKey_O] at hv
  rw [hrun]
  cases ha : G.at id with
  | none =>
    rw [ha] at hv
    rw [readP_nil hv]
  | some o =>
    rw [ha] at hv
    rw [readP_inv hv]
theorem ObjAt.look {W : World} {B : GB} {x : Int × GO} (h : ObjAt W B x) (n : ByteArray) (hz : (zeroValue 42).run Tryz.prog W = .ok (.agg #[.string ⟨#[]⟩, .int .i64 0, .string ⟨#[]⟩]) W) (hk : keyOf Tryz.prog 9 (.string n) = some (keyL n)) :
    (Instr.lookup 87 (.map (some (B.lb x.1))) (.string n) true).run Tryz.prog W =
      .ok (.tuple #[match lnk x.2.links n with | some k => .agg #[.string k.1, .int .i64 k.2.1, .string k.2.2] | none => .agg #[.string ⟨#[]⟩, .int .i64 0, .string ⟨#[]⟩], .bool (lnk x.2.links n).isSome]) W := by
  obtain ⟨v, ps, hrun, hv⟩ := h.2.look_ok (string_keyed Tryz.underlying9) Tryz.underlying87 hz (zd := datL (⟨#[]⟩, 0, ⟨#[]⟩)) (zp := []) rfl hk
  rw [atKey_L] at hv
  rw [hrun, has_L]
  obtain ⟨y, rfl, hd, -⟩ := readL_inv hv
  cases ha : lnk x.2.links n with
  | none =>
    rw [ha] at hd
    rw [← datL_inj hd]
  | some k =>
    rw [ha] at hd
    rw [← datL_inj hd]
theorem ObjAt.look1 {W : World} {B : GB} {x : Int × GO} (h : ObjAt W B x) (n : ByteArray) (hz : (zeroValue 42).run Tryz.prog W = .ok (.agg #[.string ⟨#[]⟩, .int .i64 0, .string ⟨#[]⟩]) W) (hk : keyOf Tryz.prog 9 (.string n) = some (keyL n)) :
    (Instr.lookup 87 (.map (some (B.lb x.1))) (.string n) false).run Tryz.prog W =
      .ok (match lnk x.2.links n with | some k => .agg #[.string k.1, .int .i64 k.2.1, .string k.2.2] | none => .agg #[.string ⟨#[]⟩, .int .i64 0, .string ⟨#[]⟩]) W := by
  obtain ⟨v, ps, hrun, hv⟩ := h.2.lookup (string_keyed Tryz.underlying9) Tryz.underlying87 hz (zd := datL (⟨#[]⟩, 0, ⟨#[]⟩)) (zp := []) rfl hk
  rw [atKey_L] at hv
  rw [hrun]
  obtain ⟨y, rfl, hd, -⟩ := readL_inv hv
  cases ha : lnk x.2.links n with
  | none =>
    rw [ha] at hd
    rw [← datL_inj hd]
  | some k =>
    rw [ha] at hd
    rw [← datL_inj hd]
theorem same_cell {S : Nat → Prop} {A W : World} (h : SameOn S A W) {a : Addr} {v : Value} (hs : S a.block) (hc : A.cell? a = some v) : W.cell? a = some v := by
  have hlt := World.block_lt_of_cell? A a hc
  unfold World.cell? at hc ⊢
  rw [h.same _ hs hlt]
  exact hc
theorem GraphAt.key {W : World} {B : GB} {G : GS} (h : GraphAt W B G) {id : Int} {o : GO} (ho : G.at id = some o) : keyOf Tryz.prog 3 (.int .i64 id) = some (keyO id) := keyOf_int_mk Tryz.underlying3 (h.ids _ (at_mem ho))
theorem addr_plain {w : World} {ad : Addr} {v : Value} (h : w.cell? ad = some v) : ad = ⟨ad.block, ad.off, none⟩ := by
  obtain ⟨b, o, s⟩ := ad
  cases s with
  | none => rfl
  | some k =>
    unfold World.cell? at h
    split at h <;> simp at h
end
end Go.Proofs.YthifdofdoeaemaaGreatDoor.Wk
end
section
namespace Go.Proofs.YthifdofdoeaemaaGreatDoor.Wk
open Go.RowKit Go.Proofs.YthifdofdoeaemaaGreatDoorW.PrintWords Go.Proofs.YthifdofdoeaemaaGreatDoorW.PrintLast Go.Proofs.YthifdofdoeaemaaGreatDoorW.PrintMore
attribute [local go_sem] max2_int min2_int max_two min_two max_three min_three max_four min_four
set_option linter.unusedVariables false
set_option linter.unusedSimpArgs false
section
open Go.RowKit Go.Lib Go.Maps Go.Proofs.YthifdofdoeaemaaGreatDoorQ
attribute [local go_sem] Oper.semAt_some
theorem parseL_small : ∀ (ps acc l : List ByteArray), parseL acc ps = .ok l → (∀ x ∈ acc, x.size ≤ 64) → ∀ x ∈ l, x.size ≤ 64
  | [], acc, l, h, ha => by cases h; exact ha
  | p :: ps, acc, l, h, ha => by
    unfold parseL at h
    cases hp : parseStep acc p with
    | error e => rw [hp] at h; cases h
    | ok a =>
      rw [hp] at h
      refine parseL_small ps a l h ?_
      unfold parseStep at hp
      split at hp
      · cases hp; exact ha
      · split at hp
        · cases hp; exact ha
        · split at hp
          · cases hp
          · rename_i hg
            split at hp
            · cases hp
            · cases hp
              intro x hx
              rcases List.mem_append.1 hx with hx | hx
              · exact ha x hx
              · obtain rfl := List.mem_singleton.1 hx
                have h1 : goodName x = true := by simpa using hg
                unfold goodName at h1
                simp only [Bool.and_eq_true, decide_eq_true_eq] at h1
                exact h1.1.1.1.2
theorem parseP_small (s : ByteArray) : ∀ x ∈ (parseP s).1, x.size ≤ 64 := by
  unfold parseP
  cases h : parseF s with
  | error p => simp
  | ok l =>
    unfold parseF at h
    split at h
    · cases h
    · split at h
      · cases h
      · exact parseL_small _ _ _ h (by simp)
theorem lay_same {A W : World} {sp : Nat} {z : Int} (h : Lay A) (hsp : A.heap[sp]? = some (.cells #[.int .i64 z] 3 (0, 0))) (hs : SameOn (fun k => k ≠ sp) A W) : Lay W := by
  unfold Lay at h ⊢
  refine same_cell hs ?_ h
  intro e
  have e2 : (⟨0, 0, none⟩ : Addr) = ⟨sp, 0, none⟩ := by rw [show 0 = sp from e]
  rw [e2, blk_cell hsp] at h
  cases h
theorem key_string (n : ByteArray) (h : n.size ≤ 64) : keyOf Tryz.prog 9 (.string n) = some (keyL n) := WideMaps.keyOf_string_mk Tryz.underlying9 (by unfold maxLen; omega)
theorem key_int (i : Int) (h : (Lit.int .i64 i).wf = true) : keyOf Tryz.prog 3 (.int .i64 i) = some (keyO i) := keyOf_int_mk Tryz.underlying3 h
set_option maxHeartbeats 8000000 in
set_option maxRecDepth 100000 in
theorem walk_calls : ∀ (n : Nat) (B : GB) (G : GS) (A : Option Addr) (c : Nat) (names : List ByteArray) (sp soft soft' : Nat) (id e : Int) (w : World), Lay w → GraphAt w B G → ¬ foot B G sp →
    Kd.C Kd.string w A names.length names → names.length ≤ c → (∀ x ∈ names, x.size ≤ 64) → w.heap[sp]? = some (.cells #[.int .i64 (soft : Int)] 3 (0, 0)) → soft ≤ 8 → walkG G n names soft = some (id, e, soft') →
    Calls Tryz.prog 43 #[.pointer (some ⟨B.g, 0, none⟩), .slice A names.length c, .pointer (some ⟨sp, 0, none⟩)] w fun ev W' =>
      ev = .returned (.tuple #[.int .i64 id, .int .i64 e]) ∧ SameOn (fun k => k ≠ sp) w W' ∧ W'.heap[sp]? = some (.cells #[.int .i64 (soft' : Int)] 3 (0, 0)) ∧ soft' ≤ 8
  | 0, B, G, A, c, names, sp, soft, soft', id, e, w, hl, hG, hf, hr, hc, hsz, hsp, hs8, h => by cases h
  | n + 1, B, G, A, c, names, sp, soft, soft', id, e, w, hl, hG, hf, hr, hc, hsz, hsp, hs8, h => by
    have HL := Aside0.mk hl
    have HG := Aside0.mk hG
    have HF := Aside0.mk hf
    have HR := Aside0.mk hr
    have HSZ := Aside0.mk hsz
    have HSP := Aside0.mk hsp
    have H := Aside0.mk h
    have IH := Aside0.mk (walk_calls n)
    clear hl hG hf hr hsz hsp h
    go_enter Tryz.func43, Tryz.ntmps43
    go_wp2
    go_loopg [21, 8] names.length (fun kq v21 v8 W => ∃ (i : Nat) (cur : Int) (s : Nat), v21 = .int .i64 (i : Int) ∧ v8 = .int .i64 cur ∧ Aside0 (i ≤ names.length ∧ names.length - i ≤ kq ∧ s ≤ 8) ∧
      Aside0 (walkStep G (walkG G n) (names.drop i) cur s = some (id, e, soft')) ∧ Aside0 (SameOn (fun k => k ≠ sp) w W) ∧ Aside0 (W.heap[sp]? = some (.cells #[.int .i64 (s : Int)] 3 (0, 0))))
    case atStart => exact ⟨0, 1, soft, rfl, rfl, ⟨Nat.zero_le _, by omega, hs8⟩, ⟨H.out⟩, ⟨SameOn.refl _ _⟩, HSP⟩
    case round =>
      obtain ⟨i, cur, s, rfl, rfl, HI, HS, HW, HB⟩ := hrel
      by_cases hlt : i < names.length
      · obtain ⟨x, hx⟩ : ∃ x, names[i]'hlt = x := ⟨_, rfl⟩
        have hxs : x.size ≤ 64 := HSZ.out x (by rw [← hx]; exact List.getElem_mem _)
        have hrd : rdOf ByteArray.empty names (i : Int) = x := by simp [rdOf, List.getD_eq_getElem?_getD, List.getElem?_eq_getElem hlt, hx]
        obtain ⟨ad, e1, hc0⟩ := Kd.at_string HR.out (i : Int) (Int.natCast_nonneg i) (by omega)
        cases e1
        rw [hrd, show ((i : Int)).toNat = i from rfl] at hc0
        have hadb : (ad.add i).block ≠ sp := by
          intro e2
          have h2 : ad.add i = ⟨(ad.add i).block, (ad.add i).off, none⟩ := addr_plain hc0
          rw [h2, e2, blk_cell HSP.out] at hc0
          cases hq : (#[Value.int .i64 (soft : Int)] : Array Value)[(ad.add i).off]? with
          | none => rw [hq] at hc0; cases hc0
          | some v =>
            rw [hq] at hc0
            obtain ⟨hlt2, hv⟩ := Array.getElem?_eq_some_iff.1 hq
            have h0 : (ad.add i).off = 0 := by simpa using hlt2
            simp only [h0] at hv
            cases hc0
            cases hv
        have hcell : wr.cell? (ad.add i) = some (.string x) := same_cell HW.out hadb hc0
        have hGW : GraphAt wr B G := HG.out.same HW.out (fun k hk e2 => HF.out (by rw [← e2]; exact hk))
        have hsp0 : wr.cell? ⟨sp, 0, none⟩ = some (.int .i64 (s : Int)) := (blk_cell HB.out 0).trans rfl
        have hspf := blk_frozen HB.out 0
        have cg1 : wr.cell? ⟨B.g, 1, none⟩ = some (.map (some B.mb)) := (blk_cell hGW.cell 1).trans rfl
        have p1 : (0 : Int) ≤ (i : Int) := Int.natCast_nonneg i
        have q1 : (i : Int) < (names.length : Int) := by omega
        have q2 : decide ((i : Int) < (names.length : Int)) = true := decide_eq_true q1
        have hw1 : wrap64 ((i : Int) + 1) = i + 1 := by have := Kd.C_max HR.out; unfold wrap64; omega
        replace p1 := eq_true p1
        replace q1 := eq_true q1
        have hs := HS.out
        rw [List.drop_eq_getElem_cons hlt, hx] at hs
        have HGW := Aside0.mk hGW
        clear hGW HS hc0 hadb
        simp only [walkStep] at hs
        cases ho : G.at cur with
        | none => rw [ho] at hs; cases hs
        | some o =>
          rw [ho] at hs
          simp only at hs
          have hob := HGW.out.obj ho
          have hlk : (Instr.lookup 71 (.map (some B.mb)) (.int .i64 cur) false).run Tryz.prog wr = .ok (.pointer (some ⟨B.ob cur, 0, none⟩)) wr := by
            have := HGW.out.look cur (Tryz.zeroValue75 wr) (HGW.out.key ho)
            rw [ho] at this
            exact this
          have co0 : wr.cell? ⟨B.ob cur, 0, none⟩ = some (.int .i64 o.kind) := (blk_cell hob.1 0).trans rfl
          have co1 : wr.cell? ⟨B.ob cur, 1, none⟩ = some (.map (some (B.lb cur))) := (blk_cell hob.1 1).trans rfl
          by_cases hk : o.kind = 1
          · rw [if_pos hk] at hs
            have hkb : (o.kind != 1) = false := by simpa using hk
            have hlk2 := hob.look x (Tryz.zeroValue42 wr) (key_string x hxs)
            simp only at hlk2
            clear hob
            cases hln : lnk o.links x with
            | none =>
              rw [hln] at hs hlk2
              simp only [Option.isSome_none] at hs hlk2
              obtain ⟨rfl, rfl, rfl⟩ : (0 : Int) = id ∧ (10 : Int) = e ∧ s = soft' := by simpa using hs
              go_wp2
              go_ret2
              exact ⟨rfl, HW.out.trans (SameOn.alloc _ _ _), blk_alloc HB.out _, HI.out.2.2⟩
            | some k =>
              rw [hln] at hs hlk2
              simp only [Option.isSome_some] at hs hlk2
              by_cases hk0 : 0 < k.2.1
              · rw [if_pos hk0] at hs
                have HS2 := Aside0.mk hs
                have hk0b : decide (0 < k.2.1) = true := decide_eq_true hk0
                clear hs
                go_wp2
                go_roundg (gk - 1)
                case measure => have := HI.out; omega
                case rel => exact ⟨i + 1, k.2.1, s, by rw [hw1]; rfl, rfl, ⟨by omega, by have := HI.out; omega, HI.out.2.2⟩, HS2, ⟨HW.out.trans (SameOn.alloc _ _ _)⟩, ⟨blk_alloc HB.out _⟩⟩
              · rw [if_neg hk0] at hs
                have hk0b : decide (0 < k.2.1) = false := decide_eq_false hk0
                by_cases h8 : s = 8
                · subst h8
                  rw [if_pos rfl] at hs
                  obtain ⟨rfl, rfl, rfl⟩ : (0 : Int) = id ∧ (13 : Int) = e ∧ 8 = soft' := by simpa using hs
                  have hsp1 : ∀ o, (wr.alloc o).cell? ⟨sp, 0, none⟩ = some (.int .i64 8) := fun o => (blk_cell (blk_alloc HB.out o) 0).trans rfl
                  clear hs
                  go_wp2
                  go_ret2
                  refine ⟨rfl, HW.out.trans (SameOn.alloc _ _ _), ?_⟩
                  first | exact ⟨blk_alloc HB.out _, Nat.le_refl _⟩ | exact blk_alloc HB.out _
                · rw [if_neg h8] at hs
                  have h8b : ((s : Int) == 8) = false := by simpa using (by omega : ¬ (s : Int) = 8)
                  have hsp1 : ∀ o, (wr.alloc o).cell? ⟨sp, 0, none⟩ = some (.int .i64 (s : Int)) := fun o => (blk_cell (blk_alloc HB.out o) 0).trans rfl
                  have hsf1 : ∀ o, (wr.alloc o).frozen? ⟨sp, 0, none⟩ = false := fun o => blk_frozen (blk_alloc HB.out o) 0
                  have hws : wrap64 ((s : Int) + 1) = ((s + 1 : Nat) : Int) := by have := HI.out; unfold wrap64; omega
                  have HS2 := Aside0.mk hs
                  clear hs
                  go_upto_region 16 with (fail)
                  obtain ⟨w2, hw2⟩ : ∃ w2, w2 = (wr.alloc (.cells #[.string k.1, .int .i64 k.2.1, .string k.2.2] 42)).setCell ⟨sp, 0, none⟩ (.int .i64 (((s + 1 : Nat) : Int))) := ⟨_, rfl⟩
                  have b2 : w2.heap[sp]? = some (.cells #[.int .i64 ((s + 1 : Nat) : Int)] 3 (0, 0)) := by rw [hw2]; exact (blk_set (blk_alloc HB.out _) 0 _).trans rfl
                  have hspl := blk_lt HB.out
                  have hbx : w2.cell? ⟨wr.heap.size, 2, none⟩ = some (.string k.2.2) := by
                    rw [hw2]
                    exact (blk_cell (blk_far (World.alloc_heap_new wr _) (show wr.heap.size ≠ sp by omega) _) 2).trans rfl
                  have hs2 : SameOn (fun k => k ≠ sp) w w2 := by rw [hw2]; exact (HW.out.trans (SameOn.alloc _ _ _)).trans (SameOn.setCell _ _ _ (by simp))
                  have B2 := Aside0.mk b2
                  have HS3 := Aside0.mk hs2
                  have HLY := Aside0.mk (lay_same HL.out HSP.out hs2)
                  rw [show ((s : Int) + 1) = ((s + 1 : Nat) : Int) from rfl, ← hw2]
                  clear b2 hs2 hw2 hlk hlk2 cg1 co0 co1 hsp0 hspf hsp1 hsf1
                  obtain ⟨l, a, y, hpp⟩ : ∃ l a y, parseP k.2.2 = (l, a, y) := ⟨_, _, _, rfl⟩
                  have HPP := Aside0.mk hpp
                  clear hpp
                  have hsm : ∀ x ∈ l, x.size ≤ 64 := by have := parseP_small k.2.2; rw [HPP.out] at this; exact this
                  have HSM := Aside0.mk hsm
                  have hs := HS2.out
                  rw [HPP.out] at hs
                  clear hsm HS2
                  cases hrec : walkG G n l (s + 1) with
                  | none => simp only [hrec] at hs; cases hs
                  | some r =>
                    obtain ⟨tid, er, s2⟩ := r
                    simp only [hrec] at hs
                    have HREC := Aside0.mk hrec
                    clear hrec
                    by_cases her : er = 0
                    · subst her
                      rw [if_pos rfl] at hs
                      have HS5 := Aside0.mk hs
                      clear hs
                      go_wp2_with (first
                        | (go_at_call 40; refine (parse2_calls k.2.2 _ HLY.out l a y HPP.out).mono ?_; rintro e_ w3 ⟨v, rfl, hr, h16, hw3⟩; obtain ⟨Al, cl, rfl⟩ := Kd.R_slice hr; have HR3 := Aside0.mk hr; have HW3 := Aside0.mk hw3; clear hr hw3 h16)
                        | (go_at_call 43; refine (IH.out B G Al cl l sp (s + 1) s2 tid 0 w3 (lay_below HLY.out HW3.out) (HG.out.same (HS3.out.trans (SameOn.of_below HW3.out)) (fun k hk e2 => HF.out (by rw [← e2]; exact hk))) HF.out (Kd.R_reads' HR3.out).2.2 (Kd.R_reads' HR3.out).2.1 HSM.out ((HW3.out.block sp (blk_lt B2.out)).trans B2.out) (by have := HI.out; omega) HREC.out).mono ?_; rintro e_ w4 ⟨rfl, hs4, hb4, h48⟩; have HS4 := Aside0.mk hs4; have HB4 := Aside0.mk hb4; have H48 := Aside0.mk h48; clear hs4 hb4 h48))
                      go_roundg (gk - 1)
                      case measure => have := HI.out; omega
                      case rel => exact ⟨i + 1, tid, s2, by rw [hw1]; rfl, rfl, ⟨by omega, by have := HI.out; omega, H48.out⟩, HS5, ⟨(HS3.out.trans (SameOn.of_below HW3.out)).trans HS4.out⟩, HB4⟩
                    · rw [if_neg her] at hs
                      obtain ⟨rfl, rfl, rfl⟩ : (0 : Int) = id ∧ er = e ∧ s2 = soft' := by simpa using hs
                      have herb : (er != 0) = true := by simpa using her
                      clear hs
                      go_wp2_with (first
                        | (go_at_call 40; refine (parse2_calls k.2.2 _ HLY.out l a y HPP.out).mono ?_; rintro e_ w3 ⟨v, rfl, hr, h16, hw3⟩; obtain ⟨Al, cl, rfl⟩ := Kd.R_slice hr; have HR3 := Aside0.mk hr; have HW3 := Aside0.mk hw3; clear hr hw3 h16)
                        | (go_at_call 43; refine (IH.out B G Al cl l sp (s + 1) s2 tid er w3 (lay_below HLY.out HW3.out) (HG.out.same (HS3.out.trans (SameOn.of_below HW3.out)) (fun k hk e2 => HF.out (by rw [← e2]; exact hk))) HF.out (Kd.R_reads' HR3.out).2.2 (Kd.R_reads' HR3.out).2.1 HSM.out ((HW3.out.block sp (blk_lt B2.out)).trans B2.out) (by have := HI.out; omega) HREC.out).mono ?_; rintro e_ w4 ⟨rfl, hs4, hb4, h48⟩; have HS4 := Aside0.mk hs4; have HB4 := Aside0.mk hb4; have H48 := Aside0.mk h48; clear hs4 hb4 h48))
                      go_ret2
                      exact ⟨rfl, (HS3.out.trans (SameOn.of_below HW3.out)).trans HS4.out, HB4.out, H48.out⟩
          · rw [if_neg hk] at hs
            have hkb : (o.kind != 1) = true := by simpa using hk
            obtain ⟨rfl, rfl, rfl⟩ : (0 : Int) = id ∧ (12 : Int) = e ∧ s = soft' := by simpa using hs
            clear hs hob
            go_wp2
            go_ret2
            exact ⟨rfl, HW.out, HB.out, HI.out.2.2⟩
      · obtain rfl : i = names.length := by have := HI.out; omega
        have hs := HS.out
        rw [List.drop_of_length_le (Nat.le_refl _)] at hs
        obtain ⟨rfl, rfl, rfl⟩ : cur = id ∧ (0 : Int) = e ∧ s = soft' := by simpa [walkStep] using hs
        have q2 : decide (((names.length : Nat) : Int) < (names.length : Int)) = false := decide_eq_false (by omega)
        clear hs HS
        go_wp2
        go_ret2
        exact ⟨rfl, HW.out, HB.out, HI.out.2.2⟩
end
end Go.Proofs.YthifdofdoeaemaaGreatDoor.Wk
end
section
namespace Go.Proofs.YthifdofdoeaemaaGreatDoor.Wk
open Go.RowKit Go.Proofs.YthifdofdoeaemaaGreatDoorW.PrintWords Go.Proofs.YthifdofdoeaemaaGreatDoorW.PrintLast Go.Proofs.YthifdofdoeaemaaGreatDoorW.PrintMore
attribute [local go_sem] max2_int min2_int max_two min_two max_three min_three max_four min_four
set_option linter.unusedVariables false
set_option linter.unusedSimpArgs false
section
open Go.RowKit Go.Lib Go.Maps Go.Proofs.YthifdofdoeaemaaGreatDoorQ
attribute [local go_sem] Oper.semAt_some
set_option maxRecDepth 100000 in
theorem good_calls (B : GB) (G : GS) (w : World) (hG : GraphAt w B G) : Calls Tryz.prog 39 #[.pointer (some ⟨B.g, 0, none⟩)] w fun e w' => e = .returned (.bool true) ∧ w' = w := by
  have cg1 : w.cell? ⟨B.g, 1, none⟩ = some (.map (some B.mb)) := (blk_cell hG.cell 1).trans rfl
  have hq := fun r => run_neq_map_nil (P := Tryz.prog) w 71 3 75 r Tryz.underlying71
  have hq1 : (!(some B.mb : Option Nat).isNone) = true := rfl
  go_enter Tryz.func39, Tryz.ntmps39
  go_wp2
  go_ret
  exact ⟨rfl, rfl⟩
theorem below_of_same {w w1 : World} {o : Obj} (hs : SameOn (fun k => k ≠ w.heap.size) (w.alloc o) w1) : Below w.heap.size w w1 :=
  (below_alloc (Below.refl _ _) o).trans (hs.below (fun k hk => by omega) (by simp))
set_option maxHeartbeats 4000000 in
set_option maxRecDepth 100000 in
theorem find_calls (B : GB) (G : GS) (p : ByteArray) (w : World) (hl : Lay w) (hG : GraphAt w B G) (id e : Int) (h : findG G p = some (id, e)) :
    Calls Tryz.prog 17 #[.pointer (some ⟨B.g, 0, none⟩), .string p] w fun ev w' => ev = .returned (.tuple #[.int .i64 id, .int .i64 e]) ∧ Below w.heap.size w w' := by
  have HL := Aside0.mk hl
  have HG := Aside0.mk hG
  obtain ⟨l, a, y, hpp⟩ : ∃ l a y, parseP p = (l, a, y) := ⟨_, _, _, rfl⟩
  have hsm : ∀ x ∈ l, x.size ≤ 64 := by have := parseP_small p; rw [hpp] at this; exact this
  have HSM := Aside0.mk hsm
  have HPP := Aside0.mk hpp
  unfold findG at h
  simp only [hpp] at h
  clear hl hG hpp hsm
  by_cases hy : y = 0
  · subst hy
    rw [if_pos rfl] at h
    obtain ⟨⟨id2, e2, s2⟩, hw, hr⟩ := Option.map_eq_some_iff.1 h
    obtain ⟨rfl, rfl⟩ : id2 = id ∧ e2 = e := by simpa using hr
    have HW := Aside0.mk hw
    clear hw hr h
    go_enter Tryz.func17, Tryz.ntmps17
    go_wp2_with (first
      | (go_at_call 39; refine (good_calls B G _ HG.out).mono ?_; rintro e_ w1 ⟨rfl, rfl⟩)
      | (go_at_call 40; refine (parse2_calls p _ HL.out l a 0 HPP.out).mono ?_; rintro e_ w2 ⟨v, rfl, hr, h16, hw2⟩; obtain ⟨Al, cl, rfl⟩ := Kd.R_slice hr; have HR := Aside0.mk hr; have HW2 := Aside0.mk hw2; clear hr h16 hw2)
      | (go_at_call 43; refine (walk_calls 9 B G Al cl l w2.heap.size 0 s2 id2 e2 _ (lay_below (lay_below HL.out HW2.out) (below_alloc (Below.refl _ _) _)) ((HG.out.below HW2.out).below (below_alloc (Below.refl _ _) _)) (fun hf => by have := (HG.out.below HW2.out).foot_lt hf; omega) (Kd.C_alloc (Kd.R_reads' HR.out).2.2 _) (Kd.R_reads' HR.out).2.1 HSM.out (World.alloc_heap_new _ _) (Nat.zero_le _) HW.out).mono ?_; rintro e_ w3 ⟨rfl, hs3, -, -⟩; have HS3 := Aside0.mk hs3; clear hs3))
    go_ret2
    exact ⟨rfl, HW2.out.trans ((below_of_same HS3.out).mono HW2.out.size)⟩
  · rw [if_neg hy] at h
    obtain ⟨rfl, rfl⟩ : (0 : Int) = id ∧ y = e := by simpa using h
    have hyb : (y != 0) = true := by simpa using hy
    clear h
    go_enter Tryz.func17, Tryz.ntmps17
    go_wp2_with (first
      | (go_at_call 39; refine (good_calls B G _ HG.out).mono ?_; rintro e_ w1 ⟨rfl, rfl⟩)
      | (go_at_call 40; refine (parse2_calls p _ HL.out l a y HPP.out).mono ?_; rintro e_ w2 ⟨v, rfl, hr, h16, hw2⟩; have HW2 := Aside0.mk hw2; clear hr h16 hw2))
    go_ret2
    exact ⟨rfl, HW2.out⟩
end
end Go.Proofs.YthifdofdoeaemaaGreatDoor.Wk
end
section
namespace Go.Proofs.YthifdofdoeaemaaGreatDoor.Wk
open Go.RowKit Go.Proofs.YthifdofdoeaemaaGreatDoorW.PrintWords Go.Proofs.YthifdofdoeaemaaGreatDoorW.PrintLast Go.Proofs.YthifdofdoeaemaaGreatDoorW.PrintMore
attribute [local go_sem] max2_int min2_int max_two min_two max_three min_three max_four min_four
set_option linter.unusedVariables false
set_option linter.unusedSimpArgs false
section
open Go.RowKit Go.Lib Go.Maps Go.Proofs.YthifdofdoeaemaaGreatDoorQ
attribute [local go_sem] Oper.semAt_some
theorem parseStep_le {acc l : List ByteArray} {p : ByteArray} (h : parseStep acc p = .ok l) (ha : acc.length ≤ 16) : l.length ≤ 16 := by
  unfold parseStep at h
  split at h
  · cases h; exact ha
  · split at h
    · cases h; exact ha
    · split at h
      · cases h
      · split at h
        · cases h
        · cases h; simp; omega
theorem parseL_le : ∀ (ps acc l : List ByteArray), parseL acc ps = .ok l → acc.length ≤ 16 → l.length ≤ 16
  | [], acc, l, h, ha => by cases h; exact ha
  | p :: ps, acc, l, h, ha => by
    unfold parseL at h
    cases hp : parseStep acc p with
    | ok a => rw [hp] at h; exact parseL_le ps a l h (parseStep_le hp ha)
    | error e => rw [hp] at h; cases h
theorem parseF_le {s : ByteArray} {l : List ByteArray} (h : parseF s = .ok l) : l.length ≤ 16 := by
  unfold parseF at h
  split at h
  · cases h
  · split at h
    · cases h
    · exact parseL_le _ _ _ h (by simp)
theorem GraphAt.lookAt {W : World} {B : GB} {G : GS} (h : GraphAt W B G) {id : Int} {o : GO} (ho : G.at id = some o) :
    (Instr.lookup 71 (.map (some B.mb)) (.int .i64 id) false).run Tryz.prog W = .ok (.pointer (some ⟨B.ob id, 0, none⟩)) W := by
  have := h.look id (Tryz.zeroValue75 W) (h.key ho)
  rw [ho] at this
  exact this
theorem GraphAt.c0 {W : World} {B : GB} {G : GS} (h : GraphAt W B G) : W.cell? ⟨B.g, 0, none⟩ = some (.int .i64 G.next) := (blk_cell h.cell 0).trans rfl
theorem GraphAt.c1 {W : World} {B : GB} {G : GS} (h : GraphAt W B G) : W.cell? ⟨B.g, 1, none⟩ = some (.map (some B.mb)) := (blk_cell h.cell 1).trans rfl
theorem GraphAt.c2 {W : World} {B : GB} {G : GS} (h : GraphAt W B G) : W.cell? ⟨B.g, 2, none⟩ = some (.int .i64 G.count) := (blk_cell h.cell 2).trans rfl
theorem ObjAt.c0 {W : World} {B : GB} {x : Int × GO} (h : ObjAt W B x) : W.cell? ⟨B.ob x.1, 0, none⟩ = some (.int .i64 x.2.kind) := (blk_cell h.1 0).trans rfl
theorem ObjAt.c1 {W : World} {B : GB} {x : Int × GO} (h : ObjAt W B x) : W.cell? ⟨B.ob x.1, 1, none⟩ = some (.map (some (B.lb x.1))) := (blk_cell h.1 1).trans rfl
theorem ObjAt.c2 {W : World} {B : GB} {x : Int × GO} (h : ObjAt W B x) : W.cell? ⟨B.ob x.1, 2, none⟩ = some (.int .i64 x.2.leads) := (blk_cell h.1 2).trans rfl
theorem ObjAt.c3 {W : World} {B : GB} {x : Int × GO} (h : ObjAt W B x) : W.cell? ⟨B.ob x.1, 3, none⟩ = some (.int .i64 x.2.held) := (blk_cell h.1 3).trans rfl
def placeV (B : GB) (id e : Int) : Value := if e = 0 then .pointer (some ⟨B.ob id, 0, none⟩) else .pointer none
theorem walk_row (B : GB) (G : GS) (A : Option Addr) (c : Nat) (l : List ByteArray) (m : Nat) (hm : m ≤ l.length) {ok : Nat → Prop} {base : Nat} (sp s2 : Nat) (id e : Int) (w : World) (hl : Lay w) (hG : GraphAt w B G) (hf : ¬ foot B G sp)
    (hr : Kd.R Kd.string 9 w base ok (.slice A l.length c) l) (hsz : ∀ x ∈ l, x.size ≤ 64) (hsp : w.heap[sp]? = some (.cells #[.int .i64 0] 3 (0, 0))) (h : walkG G 9 (l.take m) 0 = some (id, e, s2)) :
    Calls Tryz.prog 43 #[.pointer (some ⟨B.g, 0, none⟩), .slice A m c, .pointer (some ⟨sp, 0, none⟩)] w fun ev W' => ev = .returned (.tuple #[.int .i64 id, .int .i64 e]) ∧ SameOn (fun k => k ≠ sp) w W' := by
  have h2 := Kd.R_take hr hm
  obtain ⟨-, hc, hC⟩ := Kd.R_reads' h2
  have hlm : (l.take m).length = m := by rw [List.length_take]; omega
  have := walk_calls 9 B G A c (l.take m) sp 0 s2 id e w hl hG hf hC (by rw [hlm]; exact hc) (fun x hx => hsz x (List.mem_of_mem_take hx)) hsp (Nat.zero_le _) h
  rw [hlm] at this
  exact this.mono (fun e w' ⟨h1, h2, _, _⟩ => ⟨h1, h2⟩)
set_option maxHeartbeats 8000000 in
set_option maxRecDepth 100000 in
theorem place_calls (B : GB) (G : GS) (p : ByteArray) (bare : Int) (w : World) (hl : Lay w) (hG : GraphAt w B G) (hb : bare ≠ 0) (id e : Int) (nm : ByteArray) (h : placeG G p bare = some (id, nm, e)) :
    Calls Tryz.prog 44 #[.pointer (some ⟨B.g, 0, none⟩), .string p, .int .i64 bare] w fun ev w' => ev = .returned (.tuple #[placeV B id e, .string nm, .int .i64 e]) ∧ Below w.heap.size w w' := by
  have HL := Aside0.mk hl
  have HG := Aside0.mk hG
  obtain ⟨l, a, y, hpp⟩ : ∃ l a y, parseP p = (l, a, y) := ⟨_, _, _, rfl⟩
  have hsm : ∀ x ∈ l, x.size ≤ 64 := by have := parseP_small p; rw [hpp] at this; exact this
  have HSM := Aside0.mk hsm
  have HPP := Aside0.mk hpp
  unfold placeG at h
  simp only [hpp] at h
  clear hl hG hpp hsm
  by_cases hy : y = 0
  · subst hy
    rw [if_pos rfl] at h
    by_cases h0 : l.length = 0
    · rw [if_pos h0] at h
      obtain ⟨rfl, rfl, rfl⟩ : (0 : Int) = id ∧ (⟨#[]⟩ : ByteArray) = nm ∧ bare = e := by simpa using h
      have hv : placeV B 0 bare = .pointer none := if_neg hb
      rw [hv]
      have hw1 : wrap64 ((l.length : Int) - 1) = -1 := by rw [h0]; unfold wrap64; omega
      have HL0 := Aside0.mk h0
      clear h h0
      go_enter Tryz.func44, Tryz.ntmps44
      go_wp2_with (go_at_call 40; refine (parse2_calls p _ HL.out l a 0 HPP.out).mono ?_; rintro e_ w2 ⟨v, rfl, hr, h16, hw2⟩; obtain ⟨Al, cl, rfl⟩ := Kd.R_slice hr; have HW2 := Aside0.mk hw2; clear hr h16 hw2)
      refine bodyPost_ret (results_tmp3 rfl _ _ _) rfl ?_
      exact ⟨rfl, HW2.out⟩
    · rw [if_neg h0] at h
      have hlen16 : l.length ≤ 16 := by
        have := HPP.out
        unfold parseP at this
        cases hf : parseF p with
        | error q => rw [hf] at this; exact absurd (by rw [← (Prod.mk.inj this).1]; rfl) h0
        | ok l0 =>
          rw [hf] at this
          obtain rfl : l0 = l := by simpa using (Prod.mk.inj this).1
          exact parseF_le hf
      obtain ⟨m, hm⟩ : ∃ m : Nat, l.length = m + 1 := ⟨l.length - 1, by omega⟩
      have hm1 : l.length - 1 = m := by omega
      rw [hm1, show (l.length : Int) - 1 = (m : Int) by omega] at h
      have hw1 : wrap64 ((l.length : Int) - 1) = (m : Int) := by unfold wrap64; omega
      have hneg : decide ((m : Int) < 0) = false := decide_eq_false (by omega)
      have HM := Aside0.mk hm
      cases hwk : walkG G 9 (l.take m) 0 with
      | none => rw [hwk] at h; cases h
      | some r =>
        obtain ⟨tid, er, s2⟩ := r
        rw [hwk] at h
        simp only at h
        have HWK := Aside0.mk hwk
        clear hwk h0 hlen16 hm
        by_cases her : er = 0
        · subst her
          rw [if_pos rfl] at h
          cases ho : G.at tid with
          | none => rw [ho] at h; cases h
          | some x =>
            rw [ho] at h
            simp only at h
            have HO := Aside0.mk ho
            clear ho
            by_cases hk : x.kind = 1
            · rw [if_pos hk] at h
              obtain ⟨rfl, rfl, rfl⟩ : tid = id ∧ rdOf ByteArray.empty l (m : Int) = nm ∧ (0 : Int) = e := by simpa using h
              have hv : placeV B tid 0 = .pointer (some ⟨B.ob tid, 0, none⟩) := if_pos rfl
              rw [hv]
              have hkb : (x.kind != 1) = false := by simpa using hk
              clear h
              go_enter Tryz.func44, Tryz.ntmps44
              go_upto_region 13 with (first
              | (go_at_call 40; refine (parse2_calls p _ HL.out l a 0 HPP.out).mono ?_; rintro e_ w2 ⟨v, rfl, hr, h16, hw2⟩; obtain ⟨Al, cl, rfl⟩ := Kd.R_slice hr; have hcl := (Kd.R_reads' hr).2.1; have hmc : (m : Int) ≤ (cl : Int) := (by have := HM.out; omega); have hmc1 := eq_true hmc; have hm0 : (0 ≤ (m : Int)) = True := eq_true (Int.natCast_nonneg m); have HR := Aside0.mk hr; have HW2 := Aside0.mk hw2; have HG2 := Aside0.mk (HG.out.below hw2); clear hr h16 hw2)
              | (go_at_call 43; refine (walk_row B G Al cl l m (by have := HM.out; omega) w2.heap.size s2 tid 0 _ (lay_below (lay_below HL.out HW2.out) (below_alloc (Below.refl _ _) _)) (HG2.out.below (below_alloc (Below.refl _ _) _)) (fun hf => by have := HG2.out.foot_lt hf; omega) (Kd.R_alloc HR.out _) HSM.out (World.alloc_heap_new _ _) HWK.out).mono ?_; rintro e_ w3 ⟨rfl, hs3⟩; have HW3 := Aside0.mk (below_of_same hs3); have HG3 := Aside0.mk (HG2.out.below (below_of_same hs3)); clear hs3; have hlk := HG3.out.lookAt HO.out; have cg1 := HG3.out.c1; have co0 := (HG3.out.obj HO.out).c0))
              have hjl : (m : Int) < (l.length : Int) := by have := HM.out; omega
              obtain ⟨ad, e1, hc0⟩ := Kd.at_string (Kd.C_below (Kd.R_reads' HR.out).2.2 HW3.out) (m : Int) (Int.natCast_nonneg m) hjl
              rw [show ((m : Int)).toNat = m from rfl] at hc0
              have hjl1 : ((m : Int) < (l.length : Int)) = True := eq_true hjl
              have HBB := Aside0.mk (HW2.out.trans (HW3.out.mono HW2.out.size))
              have HC0 := Aside0.mk hc0
              clear hc0 HR hlk cg1 co0 HG2 HG3 HW2 HW3
              subst e1
              have hSS : w3.drew.cell? (ad.add m) = some (.string (rdOf ByteArray.empty l (m : Int))) := HC0.out
              refine start_ (n := 8) (S := fun W' => W'.cell? (ad.add m) = some (.string (rdOf ByteArray.empty l (m : Int)))) (ds := []) #[false, false, false, false, false, false, false, false] (by kernel_rfl) rfl rfl hSS (fun hHeld => ?_)
              refine pure_ (i := 0) (N := some 53) (v := ?_) (a' := ?_) (bb 8 1) rfl rfl (by kernel_rfl) (fun _ _ _ h => h) (Or.inl ⟨by rfl, ?_⟩) ?_ ?_
              rotate_left
              · intro w'
                go_simp
                with_reducible rfl
              rotate_left
              · simp only [Act.put, sa, sz, ss, i64_w, i32_w]
                rfl
              refine pure_ (i := 1) (N := some 54) (v := ?_) (a' := ?_) (bb 8 3) rfl rfl (by kernel_rfl) (fun _ _ _ h => h) (Or.inl ⟨by rfl, ?_⟩) ?_ ?_
              rotate_left
              · intro w'
                go_simp
                with_reducible rfl
              rotate_left
              · simp only [Act.put, sa, sz, ss, i64_w, i32_w]
                rfl
              refine pure_ (i := 2) (N := some 55) (v := ?_) (a' := ?_) (bb 8 7) rfl rfl (by kernel_rfl) (fun _ _ _ h => h) (Or.inl ⟨by rfl, ?_⟩) ?_ ?_
              rotate_left
              · intro w'
                go_simp
                with_reducible rfl
              rotate_left
              · simp only [Act.put, sa, sz, ss, i64_w, i32_w]
                rfl
              refine pure_ (i := 3) (N := some 56) (v := ?_) (a' := ?_) (bb 8 15) rfl rfl (by kernel_rfl) (fun _ _ _ h => h) (Or.inl ⟨by rfl, ?_⟩) ?_ ?_
              rotate_left
              · intro w'
                go_simp
                with_reducible rfl
              rotate_left
              · simp only [Act.put, sa, sz, ss, i64_w, i32_w]
                rfl
              refine take_ (i := 4) (N := some 57) (v := ?_) (a' := ?_) (bb 8 31) rfl rfl (by kernel_rfl) (fun _ _ _ h => h) (Or.inl ⟨by rfl, ?_⟩) hHeld ?_ ?_
              rotate_left
              · rintro w' c0_
                go_simp
                with_reducible rfl
              rotate_left
              · simp only [Act.put, sa, sz, ss, i64_w, i32_w]
                rfl
              refine pure_ (i := 5) (N := some 6) (v := ?_) (a' := ?_) (bb 8 63) rfl rfl (by kernel_rfl) (fun _ _ _ h => h) (Or.inl ⟨by rfl, ?_⟩) ?_ ?_
              rotate_left
              · intro w'
                go_simp
                with_reducible rfl
              rotate_left
              · simp only [Act.put, sa, sz, ss, i64_w, i32_w]
                rfl
              refine pure_ (i := 6) (N := some 7) (v := ?_) (a' := ?_) (bb 8 127) rfl rfl (by kernel_rfl) (fun _ _ _ h => h) (Or.inl ⟨by rfl, ?_⟩) ?_ ?_
              rotate_left
              · intro w'
                go_simp
                with_reducible rfl
              rotate_left
              · simp only [Act.put, sa, sz, ss, i64_w, i32_w]
                rfl
              refine pure_ (i := 7) (N := some 8) (v := ?_) (a' := ?_) (bb 8 255) rfl rfl (by kernel_rfl) (fun _ _ _ h => h) (Or.inl ⟨by rfl, ?_⟩) ?_ ?_
              rotate_left
              · intro w'
                go_simp
                with_reducible rfl
              rotate_left
              · simp only [Act.put, sa, sz, ss, i64_w, i32_w]
                rfl
              refine done_ (by kernel_rfl) ?_
              go_wp2
              refine bodyPost_ret (results_tmp3 rfl _ _ _) rfl ?_
              exact ⟨rfl, HBB.out.drew⟩
            · rw [if_neg hk] at h
              obtain ⟨rfl, rfl, rfl⟩ : (0 : Int) = id ∧ (⟨#[]⟩ : ByteArray) = nm ∧ (12 : Int) = e := by simpa using h
              have hv : placeV B 0 12 = .pointer none := if_neg (by decide)
              rw [hv]
              have hkb : (x.kind != 1) = true := by simpa using hk
              clear h
              go_enter Tryz.func44, Tryz.ntmps44
              go_wp2_with (first
              | (go_at_call 40; refine (parse2_calls p _ HL.out l a 0 HPP.out).mono ?_; rintro e_ w2 ⟨v, rfl, hr, h16, hw2⟩; obtain ⟨Al, cl, rfl⟩ := Kd.R_slice hr; have hcl := (Kd.R_reads' hr).2.1; have hmc : (m : Int) ≤ (cl : Int) := (by have := HM.out; omega); have hmc1 := eq_true hmc; have hm0 : (0 ≤ (m : Int)) = True := eq_true (Int.natCast_nonneg m); have HR := Aside0.mk hr; have HW2 := Aside0.mk hw2; have HG2 := Aside0.mk (HG.out.below hw2); clear hr h16 hw2)
              | (go_at_call 43; refine (walk_row B G Al cl l m (by have := HM.out; omega) w2.heap.size s2 tid 0 _ (lay_below (lay_below HL.out HW2.out) (below_alloc (Below.refl _ _) _)) (HG2.out.below (below_alloc (Below.refl _ _) _)) (fun hf => by have := HG2.out.foot_lt hf; omega) (Kd.R_alloc HR.out _) HSM.out (World.alloc_heap_new _ _) HWK.out).mono ?_; rintro e_ w3 ⟨rfl, hs3⟩; have HW3 := Aside0.mk (below_of_same hs3); have HG3 := Aside0.mk (HG2.out.below (below_of_same hs3)); clear hs3; have hlk := HG3.out.lookAt HO.out; have cg1 := HG3.out.c1; have co0 := (HG3.out.obj HO.out).c0))
              refine bodyPost_ret (results_tmp3 rfl _ _ _) rfl ?_
              exact ⟨rfl, HW2.out.trans (HW3.out.mono HW2.out.size)⟩
        · rw [if_neg her] at h
          obtain ⟨rfl, rfl, rfl⟩ : (0 : Int) = id ∧ (⟨#[]⟩ : ByteArray) = nm ∧ er = e := by simpa using h
          have hv : placeV B 0 er = .pointer none := if_neg her
          rw [hv]
          have herb : (er != 0) = true := by simpa using her
          clear h
          go_enter Tryz.func44, Tryz.ntmps44
          go_wp2_with (first
              | (go_at_call 40; refine (parse2_calls p _ HL.out l a 0 HPP.out).mono ?_; rintro e_ w2 ⟨v, rfl, hr, h16, hw2⟩; obtain ⟨Al, cl, rfl⟩ := Kd.R_slice hr; have hcl := (Kd.R_reads' hr).2.1; have hmc : (m : Int) ≤ (cl : Int) := (by have := HM.out; omega); have hmc1 := eq_true hmc; have hm0 : (0 ≤ (m : Int)) = True := eq_true (Int.natCast_nonneg m); have HR := Aside0.mk hr; have HW2 := Aside0.mk hw2; have HG2 := Aside0.mk (HG.out.below hw2); clear hr h16 hw2)
              | (go_at_call 43; refine (walk_row B G Al cl l m (by have := HM.out; omega) w2.heap.size s2 tid er _ (lay_below (lay_below HL.out HW2.out) (below_alloc (Below.refl _ _) _)) (HG2.out.below (below_alloc (Below.refl _ _) _)) (fun hf => by have := HG2.out.foot_lt hf; omega) (Kd.R_alloc HR.out _) HSM.out (World.alloc_heap_new _ _) HWK.out).mono ?_; rintro e_ w3 ⟨rfl, hs3⟩; have HW3 := Aside0.mk (below_of_same hs3); have HG3 := Aside0.mk (HG2.out.below (below_of_same hs3)); clear hs3))
          refine bodyPost_ret (results_tmp3 rfl _ _ _) rfl ?_
          exact ⟨rfl, HW2.out.trans (HW3.out.mono HW2.out.size)⟩
  · rw [if_neg hy] at h
    obtain ⟨rfl, rfl, rfl⟩ : (0 : Int) = id ∧ (⟨#[]⟩ : ByteArray) = nm ∧ y = e := by simpa using h
    have hv : placeV B 0 y = .pointer none := if_neg hy
    rw [hv]
    have hyb : (y != 0) = true := by simpa using hy
    clear h
    go_enter Tryz.func44, Tryz.ntmps44
    go_wp2_with (go_at_call 40; refine (parse2_calls p _ HL.out l a y HPP.out).mono ?_; rintro e_ w2 ⟨v, rfl, hr, h16, hw2⟩; have HW2 := Aside0.mk hw2; clear hr h16 hw2)
    refine bodyPost_ret (results_tmp3 rfl _ _ _) rfl ?_
    exact ⟨rfl, HW2.out⟩
end
end Go.Proofs.YthifdofdoeaemaaGreatDoor.Wk
end
section
namespace Go.Proofs.YthifdofdoeaemaaGreatDoor.Wk
open Go.RowKit Go.Proofs.YthifdofdoeaemaaGreatDoorW.PrintWords Go.Proofs.YthifdofdoeaemaaGreatDoorW.PrintLast Go.Proofs.YthifdofdoeaemaaGreatDoorW.PrintMore
attribute [local go_sem] max2_int min2_int max_two min_two max_three min_three max_four min_four
set_option linter.unusedVariables false
set_option linter.unusedSimpArgs false
section
open Go.RowKit Go.Lib Go.Maps Go.Proofs.YthifdofdoeaemaaGreatDoorQ
attribute [local go_sem] Oper.semAt_some
theorem placeG_small {G : GS} {p : ByteArray} {bare id : Int} {nm : ByteArray} {e : Int} (h : placeG G p bare = some (id, nm, e)) : nm.size ≤ 64 := by
  have hsm := parseP_small p
  unfold placeG at h
  simp only at h
  split at h
  · split at h
    · cases h; exact Nat.zero_le _
    · rename_i h0
      split at h
      · cases h
      · split at h
        · split at h
          · cases h
          · split at h
            · cases h
              have hlt : (parseP p).1.length - 1 < (parseP p).1.length := by omega
              have : rdOf ByteArray.empty (parseP p).1 (((parseP p).1.length : Int) - 1) = (parseP p).1[(parseP p).1.length - 1] := by
                rw [show ((parseP p).1.length : Int) - 1 = (((parseP p).1.length - 1 : Nat) : Int) by omega]
                simp [rdOf, List.getD_eq_getElem?_getD, List.getElem?_eq_getElem hlt]
              rw [this]
              exact hsm _ (List.getElem_mem _)
            · cases h; exact Nat.zero_le _
        · cases h; exact Nat.zero_le _
  · cases h; exact Nat.zero_le _
set_option maxHeartbeats 8000000 in
set_option maxRecDepth 100000 in
theorem room_calls (B : GB) (G : GS) (p : ByteArray) (w : World) (hl : Lay w) (hG : GraphAt w B G) (id e : Int) (nm : ByteArray) (h : roomG G p = some (id, nm, e)) :
    Calls Tryz.prog 41 #[.pointer (some ⟨B.g, 0, none⟩), .string p] w fun ev w' => (∃ v n, ev = .returned (.tuple #[v, .string n, .int .i64 e]) ∧ (e = 0 → v = .pointer (some ⟨B.ob id, 0, none⟩) ∧ n = nm)) ∧ Below w.heap.size w w' := by
  have HL := Aside0.mk hl
  have HG := Aside0.mk hG
  unfold roomG at h
  clear hl hG
  cases hpl : placeG G p 11 with
  | none => rw [hpl] at h; cases h
  | some r =>
    obtain ⟨pid, pn, pe⟩ := r
    rw [hpl] at h
    simp only at h
    have hsm := placeG_small hpl
    have HPL := Aside0.mk hpl
    clear hpl
    by_cases hpe : pe = 0
    · subst hpe
      rw [if_pos rfl] at h
      cases ho : G.at pid with
      | none => rw [ho] at h; cases h
      | some x =>
        rw [ho] at h
        simp only at h
        have HO := Aside0.mk ho
        have HK := Aside0.mk (key_string pn hsm)
        clear ho hsm
        have hv : placeV B pid 0 = .pointer (some ⟨B.ob pid, 0, none⟩) := if_pos rfl
        cases hln : lnk x.links pn with
        | some k =>
          rw [hln] at h
          obtain ⟨rfl, rfl, rfl⟩ : (0 : Int) = id ∧ (⟨#[]⟩ : ByteArray) = nm ∧ (11 : Int) = e := by simpa using h
          clear h
          go_enter Tryz.func41, Tryz.ntmps41
          go_wp2_with (go_at_call 44; refine (place_calls B G p 11 _ HL.out HG.out (by decide) pid 0 pn HPL.out).mono ?_; rintro e_ w1 ⟨rfl, hw1⟩; have HW1 := Aside0.mk hw1; have HG1 := Aside0.mk (HG.out.below hw1); have co1 := (HG1.out.obj HO.out).c1; have hlk2 := (HG1.out.obj HO.out).look pn (Tryz.zeroValue42 w1) HK.out; simp only [hln, Option.isSome_some] at hlk2; simp only [] at co1; clear hw1)
          refine bodyPost_ret (results_tmp3 rfl _ _ _) rfl ?_
          exact ⟨⟨_, _, rfl, fun h => by cases h⟩, HW1.out.trans (below_alloc (Below.refl _ _) _ |>.mono HW1.out.size)⟩
        | none =>
          rw [hln] at h
          simp only [Option.isSome_none, Bool.false_eq_true, if_false] at h
          by_cases hc : G.count = 256
          · rw [if_pos hc] at h
            obtain ⟨rfl, rfl, rfl⟩ : pid = id ∧ pn = nm ∧ (7 : Int) = e := by simpa using h
            have hcb : (G.count == 256) = true := by simpa using hc
            clear h
            go_enter Tryz.func41, Tryz.ntmps41
            go_wp2_with (go_at_call 44; refine (place_calls B G p 11 _ HL.out HG.out (by decide) pid 0 pn HPL.out).mono ?_; rintro e_ w1 ⟨rfl, hw1⟩; have HW1 := Aside0.mk hw1; have HG1 := Aside0.mk (HG.out.below hw1); have co1 := (HG1.out.obj HO.out).c1; have cg2 := fun o => (HG1.out.below (below_alloc (Below.refl _ _) o)).c2; have hlk2 := (HG1.out.obj HO.out).look pn (Tryz.zeroValue42 w1) HK.out; simp only [hln, Option.isSome_none] at hlk2; simp only [] at co1; clear hw1)
            refine bodyPost_ret (results_tmp3 rfl _ _ _) rfl ?_
            exact ⟨⟨_, _, rfl, fun h => by cases h⟩, HW1.out.trans (below_alloc (Below.refl _ _) _ |>.mono HW1.out.size)⟩
          · rw [if_neg hc] at h
            obtain ⟨rfl, rfl, rfl⟩ : pid = id ∧ pn = nm ∧ (0 : Int) = e := by simpa using h
            have hcb : (G.count == 256) = false := by simpa using hc
            clear h
            go_enter Tryz.func41, Tryz.ntmps41
            go_wp2_with (go_at_call 44; refine (place_calls B G p 11 _ HL.out HG.out (by decide) pid 0 pn HPL.out).mono ?_; rintro e_ w1 ⟨rfl, hw1⟩; have HW1 := Aside0.mk hw1; have HG1 := Aside0.mk (HG.out.below hw1); have co1 := (HG1.out.obj HO.out).c1; have cg2 := fun o => (HG1.out.below (below_alloc (Below.refl _ _) o)).c2; have hlk2 := (HG1.out.obj HO.out).look pn (Tryz.zeroValue42 w1) HK.out; simp only [hln, Option.isSome_none] at hlk2; simp only [] at co1; clear hw1)
            refine bodyPost_ret (results_tmp3 rfl _ _ _) rfl ?_
            exact ⟨⟨_, _, rfl, fun _ => ⟨hv, rfl⟩⟩, HW1.out.trans (below_alloc (Below.refl _ _) _ |>.mono HW1.out.size)⟩
    · rw [if_neg hpe] at h
      obtain ⟨rfl, rfl, rfl⟩ : (0 : Int) = id ∧ (⟨#[]⟩ : ByteArray) = nm ∧ pe = e := by simpa using h
      have hpb : (pe != 0) = true := by simpa using hpe
      clear h
      go_enter Tryz.func41, Tryz.ntmps41
      go_wp2_with (go_at_call 44; refine (place_calls B G p 11 _ HL.out HG.out (by decide) pid pe pn HPL.out).mono ?_; rintro e_ w1 ⟨rfl, hw1⟩; have HW1 := Aside0.mk hw1; clear hw1)
      refine bodyPost_ret (results_tmp3 rfl _ _ _) rfl ?_
      exact ⟨⟨_, _, rfl, fun h => absurd h hpe⟩, HW1.out⟩
end
end Go.Proofs.YthifdofdoeaemaaGreatDoor.Wk
end
section
namespace Go.Proofs.YthifdofdoeaemaaGreatDoor.Wk
open Go.RowKit Go.Proofs.YthifdofdoeaemaaGreatDoorW.PrintWords Go.Proofs.YthifdofdoeaemaaGreatDoorW.PrintLast Go.Proofs.YthifdofdoeaemaaGreatDoorW.PrintMore
attribute [local go_sem] max2_int min2_int max_two min_two max_three min_three max_four min_four
set_option linter.unusedVariables false
set_option linter.unusedSimpArgs false
section
open Go.RowKit Go.Lib Go.Maps Go.Proofs.YthifdofdoeaemaaGreatDoorQ
theorem encL_inj {x y : Lk} (h : encL x = encL y) : x = y := datL_inj (by have := congrArg (·.2) h; exact this)
theorem map_encL_inj : ∀ {l m : List Lk}, l.map encL = m.map encL → l = m
  | [], [], _ => rfl
  | [], _ :: _, h => by cases h
  | _ :: _, [], h => by cases h
  | a :: l, b :: m, h => by
    simp only [List.map_cons, List.cons.injEq] at h
    rw [encL_inj h.1, map_encL_inj h.2]
theorem own_fun {H : Type} {w : World} {P : Program} {k : TypeId} {R : Value → Option (DataW H × List MemPlace)} {b n m : Nat} {D E : DataW H} (h : w.ownsMap P k R b n D) (h' : w.ownsMap P k R b m E) : D = E := by
  obtain ⟨es, clock, hb, F, hn, rfl⟩ := h
  obtain ⟨es', clock', hb', F', hn', rfl⟩ := h'
  rw [hb] at hb'
  cases hb'
  rfl
theorem ObjAt.uniq {W : World} {B : GB} {id : Int} {x y : GO} (h : ObjAt W B (id, x)) (h' : ObjAt W B (id, y)) : x = y := by
  obtain ⟨xk, xl, xd, xh⟩ := x
  obtain ⟨yk, yl, yd, yh⟩ := y
  have h1 := h.1.symm.trans h'.1
  have h2 := own_fun h.2 h'.2
  simp only [DataW.map.injEq] at h2
  rw [map_encL_inj h2]
  simp only [Option.some.injEq, Obj.cells.injEq, Array.mk.injEq, List.cons.injEq, Value.int.injEq, true_and, and_true] at h1
  obtain ⟨rfl, rfl, rfl⟩ := h1
  rfl
theorem cells_ne_map {W : World} {a b : Nat} {c : Array Value} {t : TypeId} {f : Nat × Nat} {es : Array MapEntry} {k : Nat} (h : W.heap[a]? = some (.cells c t f)) (h' : W.heap[b]? = some (.map es k)) : a ≠ b := by
  rintro rfl
  rw [h] at h'
  cases h'
theorem GraphAt.g_ob {W : World} {B : GB} {G : GS} (h : GraphAt W B G) {x : Int × GO} (hx : x ∈ G.objs) : B.g ≠ B.ob x.1 := by
  intro e
  have h1 := h.cell
  rw [e, (h.each x hx).1] at h1
  simp at h1
theorem GraphAt.g_lb {W : World} {B : GB} {G : GS} (h : GraphAt W B G) {x : Int × GO} (hx : x ∈ G.objs) : B.g ≠ B.lb x.1 := by
  obtain ⟨_, _, hm⟩ := own_map (h.each x hx).2
  exact cells_ne_map h.cell hm
theorem GraphAt.g_mb {W : World} {B : GB} {G : GS} (h : GraphAt W B G) : B.g ≠ B.mb := by
  obtain ⟨_, _, hm⟩ := own_map h.objs
  exact cells_ne_map h.cell hm
theorem GraphAt.ob_mb {W : World} {B : GB} {G : GS} (h : GraphAt W B G) {x : Int × GO} (hx : x ∈ G.objs) : B.ob x.1 ≠ B.mb := by
  obtain ⟨_, _, hm⟩ := own_map h.objs
  exact cells_ne_map (h.each x hx).1 hm
theorem GraphAt.ob_lb {W : World} {B : GB} {G : GS} (h : GraphAt W B G) {x y : Int × GO} (hx : x ∈ G.objs) (hy : y ∈ G.objs) : B.ob x.1 ≠ B.lb y.1 := by
  obtain ⟨_, _, hm⟩ := own_map (h.each y hy).2
  exact cells_ne_map (h.each x hx).1 hm
theorem map_setO (ob : Int → Nat) (l : List (Int × GO)) (id : Int) (f : GO → GO) : (setO l id f).map (encO ob) = l.map (encO ob) := by
  unfold setO
  rw [List.map_map]
  refine List.map_congr_left (fun x _ => ?_)
  simp only [Function.comp]
  split <;> rfl
theorem length_setO (l : List (Int × GO)) (id : Int) (f : GO → GO) : (setO l id f).length = l.length := List.length_map _
theorem mem_setO {l : List (Int × GO)} {id : Int} {f : GO → GO} {x : Int × GO} (h : x ∈ setO l id f) : ∃ y ∈ l, x = if y.1 = id then (y.1, f y.2) else y := by
  obtain ⟨y, hy, rfl⟩ := List.mem_map.1 h
  exact ⟨y, hy, rfl⟩
theorem key_setO {l : List (Int × GO)} {id : Int} {f : GO → GO} {x : Int × GO} (h : x ∈ setO l id f) : ∃ y ∈ l, x.1 = y.1 := by
  obtain ⟨y, hy, rfl⟩ := mem_setO h
  refine ⟨y, hy, ?_⟩
  split <;> rfl
theorem find_setO (id k : Int) (f : GO → GO) : ∀ l : List (Int × GO), ((setO l id f).find? (fun x => decide (x.1 = k))).map (·.2) = ((l.find? (fun x => decide (x.1 = k))).map (·.2)).map (fun o => if k = id then f o else o)
  | [] => rfl
  | a :: t => by
    have hk : (if a.1 = id then (a.1, f a.2) else a).1 = a.1 := by split <;> rfl
    show (List.find? _ ((if a.1 = id then (a.1, f a.2) else a) :: setO t id f)).map _ = _
    rw [List.find?_cons, List.find?_cons, hk]
    by_cases h : a.1 = k
    · subst h
      simp only [decide_true, Option.map_some]
      by_cases h2 : a.1 = id
      · simp [h2]
      · simp [h2]
    · rw [decide_eq_false h]
      exact find_setO id k f t
theorem at_setO (G : GS) (id k n c : Int) (f : GO → GO) : (GS.mk n c (setO G.objs id f)).at k = (G.at k).map (fun o => if k = id then f o else o) := find_setO id k f G.objs
theorem foot_setO {B : GB} {G : GS} {n c id : Int} {f : GO → GO} {k : Nat} (h : foot B (GS.mk n c (setO G.objs id f)) k) : foot B G k := by
  rcases h with h | h | ⟨x, hx, h⟩
  · exact .inl h
  · exact .inr (.inl h)
  · obtain ⟨y, hy, e⟩ := key_setO hx
    rw [e] at h
    exact .inr (.inr ⟨y, hy, h⟩)
theorem GraphAt.turnO {A W : World} {B : GB} {G : GS} (h : GraphAt A B G) {id : Int} {o : GO} (ho : G.at id = some o) (f : GO → GO) (hob : ObjAt W B (id, f o)) (hs : ∀ k, foot B G k → k ≠ B.ob id → k ≠ B.lb id → k < A.heap.size → W.heap[k]? = A.heap[k]?) :
    GraphAt W B { G with objs := setO G.objs id f } where
  cell := (hs _ (.inl rfl) (h.g_ob (at_mem ho)) (h.g_lb (at_mem ho)) (blk_lt h.cell)).trans h.cell
  objs := by
    show World.ownsMap W _ _ _ _ (setO G.objs id f).length (.map ((setO G.objs id f).map (encO B.ob)))
    rw [map_setO, length_setO]
    exact own_same h.objs (hs _ (.inr (.inl rfl)) (h.ob_mb (at_mem ho)).symm (h.lbm _ (at_mem ho)).symm h.objs.lt)
  each := fun x hx => by
    obtain ⟨y, hy, rfl⟩ := mem_setO hx
    by_cases e : y.1 = id
    · rw [if_pos e]
      have hy2 : y.2 = o := by
        have h1 := h.each y hy
        rw [show y = (id, y.2) from by rw [← e]] at h1
        exact h1.uniq (h.obj ho)
      rw [e, hy2]
      exact hob
    · rw [if_neg e]
      refine (h.each y hy).step (hs _ (.inr (.inr ⟨y, hy, .inl rfl⟩)) ?_ ?_ (blk_lt (h.each y hy).1)) (hs _ (.inr (.inr ⟨y, hy, .inr rfl⟩)) ?_ ?_ (h.each y hy).2.lt)
      · exact fun e2 => e (h.obI y hy _ (at_mem ho) e2)
      · exact h.ob_lb hy (at_mem ho)
      · exact (h.ob_lb (at_mem ho) hy).symm
      · exact fun e2 => e (h.lbI y hy _ (at_mem ho) e2)
  obI := fun x hx y hy e => by
    obtain ⟨x', hx', e1⟩ := key_setO hx
    obtain ⟨y', hy', e2⟩ := key_setO hy
    rw [e1, e2] at e ⊢
    exact h.obI x' hx' y' hy' e
  lbI := fun x hx y hy e => by
    obtain ⟨x', hx', e1⟩ := key_setO hx
    obtain ⟨y', hy', e2⟩ := key_setO hy
    rw [e1, e2] at e ⊢
    exact h.lbI x' hx' y' hy' e
  lbm := fun x hx => by
    obtain ⟨x', hx', e1⟩ := key_setO hx
    rw [e1]
    exact h.lbm x' hx'
  ids := fun x hx => by
    obtain ⟨x', hx', e1⟩ := key_setO hx
    rw [e1]
    exact h.ids x' hx'
theorem GraphAt.turnG {A W : World} {B : GB} {G : GS} (h : GraphAt A B G) (n c : Int) (hc : W.heap[B.g]? = some (.cells #[.int .i64 n, .map (some B.mb), .int .i64 c] 73 (0, 0))) (hs : ∀ k, foot B G k → k ≠ B.g → k < A.heap.size → W.heap[k]? = A.heap[k]?) :
    GraphAt W B { G with next := n, count := c } where
  cell := hc
  objs := own_same h.objs (hs _ (.inr (.inl rfl)) h.g_mb.symm h.objs.lt)
  each := fun x hx => (h.each x hx).step (hs _ (.inr (.inr ⟨x, hx, .inl rfl⟩)) (h.g_ob hx).symm (blk_lt (h.each x hx).1)) (hs _ (.inr (.inr ⟨x, hx, .inr rfl⟩)) (h.g_lb hx).symm (h.each x hx).2.lt)
  obI := h.obI
  lbI := h.lbI
  lbm := h.lbm
  ids := h.ids
theorem step_update {P : Program} {W W1 : World} {ops : Array Oper} {o : Oper} {a : Act} {K : Act → World → Prop} {Q : Exit → Act → World → Prop} {E : Prop} (hgd : o.guard = none) (m x v : Operand) (t : TypeId)
    (ho : o.op = .mapUpdate t m x v) {vm vx vv : Value} (hm : a.eval m = vm) (hx : a.eval x = vx) (hv : a.eval v = vv)
    (hr : (Instr.mapUpdate t vm vx vv).run P W = .ok () W1) (hK : K (a.put o.dst undef) W1) : if Region.wanted o (yielded ops a.tmps) = true then Oper.wp P o a W K Q else E := by
  have hw : Region.wanted o (yielded ops a.tmps) = true := by simp [Region.wanted, hgd]
  rw [if_pos hw]
  unfold Oper.wp
  simp [execOp, ho, hm, hx, hv, hr, Result.andThen]
  exact hK
theorem step_store {P : Program} {W W1 : World} {ops : Array Oper} {o : Oper} {a : Act} {K : Act → World → Prop} {Q : Exit → Act → World → Prop} {E : Prop} (hgd : o.guard = none) (p v : Operand) (t : TypeId)
    (ho : o.op = .store t p v) {vp vv : Value} (hp : a.eval p = vp) (hv : a.eval v = vv)
    (hr : (Instr.storeAt t vp vv).run P W = .ok () W1) (hK : K (a.put o.dst undef) W1) : if Region.wanted o (yielded ops a.tmps) = true then Oper.wp P o a W K Q else E := by
  have hw : Region.wanted o (yielded ops a.tmps) = true := by simp [Region.wanted, hgd]
  rw [if_pos hw]
  unfold Oper.wp
  simp [execOp, ho, hp, hv, hr, Result.andThen]
  exact hK
end
end Go.Proofs.YthifdofdoeaemaaGreatDoor.Wk
end
section
namespace Go.Proofs.YthifdofdoeaemaaGreatDoor.Wk
open Go.RowKit Go.Proofs.YthifdofdoeaemaaGreatDoorW.PrintWords Go.Proofs.YthifdofdoeaemaaGreatDoorW.PrintLast Go.Proofs.YthifdofdoeaemaaGreatDoorW.PrintMore
attribute [local go_sem] max2_int min2_int max_two min_two max_three min_three max_four min_four
set_option linter.unusedVariables false
set_option linter.unusedSimpArgs false
section
open Go.RowKit Go.Lib Go.Maps Go.Proofs.YthifdofdoeaemaaGreatDoorQ
attribute [local go_sem] Oper.semAt_some
theorem linkZ (x : Lk) : readL (.agg #[.string x.1, .int .i64 x.2.1, .string x.2.2]) = some (datL x, []) := readL_mk _ _ _
theorem GraphAt.putL {A : World} {B : GB} {G : GS} (h : GraphAt A B G) {id : Int} {o : GO} (ho : G.at id = some o) (x : Lk) (hk : keyOf Tryz.prog 9 (.string x.1) = some (keyL x.1)) (hn : o.links.length < bound) :
    ∃ W, (Instr.mapUpdate 87 (.map (some (B.lb id))) (.string x.1) (.agg #[.string x.1, .int .i64 x.2.1, .string x.2.2])).run Tryz.prog A = .ok () W ∧
      GraphAt W B { G with objs := setO G.objs id (fun o => { o with links := putK x o.links }) } ∧ SameOn (fun k => k ≠ B.lb id) A W := by
  have hb := h.obj ho
  obtain ⟨W, hr, hW, hg⟩ := hb.2.update (string_keyed Tryz.underlying9) Tryz.underlying87 (Nat.lt_trans hn (by decide)) hk (linkZ x)
  rw [put_L] at hW
  have hW2 := own_tight hW
  rw [List.length_map] at hW2
  have hs : ∀ k, k ≠ B.lb id → k < A.heap.size → W.heap[k]? = A.heap[k]? := fun k hk hl => hg.block k hl (fun e => hk (by injection e))
  refine ⟨W, hr, h.turnO ho _ ⟨(hs _ (h.ob_lb (at_mem ho) (at_mem ho)) (blk_lt hb.1)).trans hb.1, hW2⟩ (fun k _ _ h2 hl => hs k h2 hl), ?_⟩
  exact ⟨hg.size, fun k h1 h2 => hs k h1 h2, hg.os, hg.tape, hg.output⟩
set_option maxHeartbeats 8000000 in
set_option maxRecDepth 100000 in
theorem put_calls (B : GB) (G : GS) (id : Int) (o : GO) (x : Lk) (w : World) (hG : GraphAt w B G) (ho : G.at id = some o) (hx : x.1.size ≤ 64) (G2 : GS) (h : putG G id x = some G2) :
    Calls Tryz.prog 42 #[.pointer (some ⟨B.g, 0, none⟩), .pointer (some ⟨B.ob id, 0, none⟩), .agg #[.string x.1, .int .i64 x.2.1, .string x.2.2]] w
      fun ev w' => ev = .returned (.tuple #[]) ∧ GraphAt w' B G2 ∧ SameOn (fun k => ¬ foot B G k) w w' := by
  obtain ⟨n, t, s⟩ := x
  have hk := key_string n hx
  unfold putG at h
  rw [ho] at h
  simp only at h
  by_cases hc : o.links.length < bound ∧ -4611686018427387904 < G.count ∧ G.count < 4611686018427387904
  rotate_left
  · rw [if_neg hc] at h; cases h
  rw [if_pos hc] at h
  obtain ⟨hc1, hc2, hc3⟩ := hc
  obtain ⟨bx, hbx⟩ : ∃ bx, bx = Obj.cells #[.string n, .int .i64 t, .string s] 42 (0, 0) := ⟨_, rfl⟩
  have hG0 : GraphAt (w.alloc bx).drew B G := hG.below (below_drew (below_alloc (Below.refl _ _) _))
  have hwc : wrap64 (G.count + 1) = G.count + 1 := by unfold wrap64; omega
  obtain ⟨W1, hr1, hG1, hs1⟩ := hG0.putL ho (n, t, s) hk hc1
  have hgl : B.g ≠ B.lb id := hG.g_lb (at_mem ho)
  have hlf : foot B G (B.lb id) := .inr (.inr ⟨_, at_mem ho, .inr rfl⟩)
  have hlb : B.lb id ≠ w.heap.size := by have := (hG.obj ho).2.lt; simp only at this; omega
  have hgs : B.g ≠ w.heap.size := by have := blk_lt hG.cell; omega
  have hs01 : SameOn (fun k => ¬ foot B G k) w W1 := (SameOn.of_below (below_drew (below_alloc (Below.refl _ _) _))).trans (hs1.mono (fun k hk e => hk (e ▸ hlf)))
  obtain ⟨W2, hw2⟩ : ∃ W2, W2 = W1.setCell ⟨B.g, 2, none⟩ (.int .i64 (G.count + 1)) := ⟨_, rfl⟩
  have c2 : W2.heap[B.g]? = some (.cells #[.int .i64 G.next, .map (some B.mb), .int .i64 (G.count + 1)] 73 (0, 0)) := by rw [hw2]; exact (blk_set hG1.cell 2 _).trans rfl
  have hG2 := hG1.turnG (W := W2) G.next (G.count + 1) c2 (fun k _ hk _ => by rw [hw2]; exact Below.heap_setCell _ _ _ _ hk)
  have hs02 : SameOn (fun k => ¬ foot B G k) w W2 := hs01.trans (by rw [hw2]; exact SameOn.setCell _ _ _ (fun hn => hn (.inl rfl)))
  have hbx0 : (w.alloc bx).drew.heap[w.heap.size]? = some bx := World.alloc_heap_new _ _
  have hbx1 : W1.heap[w.heap.size]? = some bx := (hs1.same _ hlb.symm (by simp)).trans hbx0
  have hbx2 : W2.heap[w.heap.size]? = some bx := by rw [hw2]; exact (Below.heap_setCell _ _ _ _ hgs.symm).trans hbx1
  have c10 : W1.cell? ⟨B.g, 2, none⟩ = some (.int .i64 G.count) := hG1.c2
  have f10 : W1.frozen? ⟨B.g, 2, none⟩ = false := blk_frozen hG1.cell 2
  have b00 : (w.alloc bx).cell? ⟨w.heap.size, 0, none⟩ = some (.string n) := by rw [hbx]; exact (blk_cell (World.alloc_heap_new _ _) 0).trans rfl
  have b21 : W2.cell? ⟨w.heap.size, 1, none⟩ = some (.int .i64 t) := by rw [hbx] at hbx2; exact (blk_cell hbx2 1).trans rfl
  have o00 := (hG0.obj ho).c1
  have HG2 := Aside0.mk hG2
  have HS2 := Aside0.mk hs02
  have HR1 := Aside0.mk hr1
  have hS : (w.alloc bx).drew.cell? ⟨B.ob id, 1, none⟩ = some (.map (some (B.lb id))) ∧ (w.alloc bx).drew.cell? ⟨w.heap.size, 0, none⟩ = some (.string n) ∧ (w.alloc bx).drew.cell? ⟨w.heap.size, 1, none⟩ = some (.int .i64 t) ∧ (w.alloc bx).drew.cell? ⟨w.heap.size, 2, none⟩ = some (.string s) := ⟨o00, b00, by rw [hbx] at hbx0 ⊢; exact (blk_cell hbx0 1).trans rfl, by rw [hbx] at hbx0 ⊢; exact (blk_cell hbx0 2).trans rfl⟩
  have HSS := Aside0.mk hS
  clear hG0 hG1 hs1 hs01 hs02 hbx0 hbx1 hbx2 hS hr1 o00 hG2
  by_cases ht : 0 < t
  · rw [if_pos ht] at h
    have htb : decide (0 < t) = true := decide_eq_true ht
    rw [at_setO] at h
    cases hgt : G.at t with
    | none => rw [hgt] at h; cases h
    | some y =>
      rw [hgt] at h
      simp only [Option.map_some] at h
      obtain ⟨y2, hy2⟩ : ∃ y2, y2 = (if t = id then { y with links := putK (n, t, s) y.links } else y) := ⟨_, rfl⟩
      rw [← hy2] at h
      have hyl : y2.leads = y.leads := by rw [hy2]; split <;> rfl
      by_cases hb : -4611686018427387904 < y2.leads ∧ y2.leads < 4611686018427387904
      rotate_left
      · rw [if_neg hb] at h; cases h
      rw [if_pos hb] at h
      cases h
      have hwl : wrap64 (y2.leads + 1) = y2.leads + 1 := by obtain ⟨h1, h2⟩ := hb; unfold wrap64; omega
      have hat2 : (GS.mk G.next (G.count + 1) (setO G.objs id (fun o => { o with links := putK (n, t, s) o.links }))).at t = some y2 := by rw [at_setO, hgt, hy2]; rfl
      have HAT := Aside0.mk hat2
      have HY := Aside0.mk hy2
      clear hat2 hy2 hb hgt hyl
      go_enter Tryz.func42, Tryz.ntmps42
      go_upto_region 1 with (fail)
      rw [← hbx]
      refine start_ (n := 8) (S := fun W' => W'.cell? ⟨B.ob id, 1, none⟩ = some (.map (some (B.lb id))) ∧ W'.cell? ⟨w.heap.size, 0, none⟩ = some (.string n) ∧ W'.cell? ⟨w.heap.size, 1, none⟩ = some (.int .i64 t) ∧ W'.cell? ⟨w.heap.size, 2, none⟩ = some (.string s)) (ds := [7]) #[false, false, false, false, false, false, false, false] (by kernel_rfl) rfl rfl HSS.out (fun hHeld => ?_)
      refine pure_ (i := 0) (N := some 6) (v := ?_) (a' := ?_) (bb 8 1) rfl rfl (by kernel_rfl) (fun _ _ _ h => h) (Or.inl ⟨by rfl, ?_⟩) ?_ ?_
      rotate_left
      · intro w'
        go_simp
        with_reducible rfl
      rotate_left
      · simp only [Act.put, sa, sz, ss, i64_w, i32_w]
        rfl
      refine pure_ (i := 1) (N := some 7) (v := ?_) (a' := ?_) (bb 8 3) rfl rfl (by kernel_rfl) (fun _ _ _ h => h) (Or.inl ⟨by rfl, ?_⟩) ?_ ?_
      rotate_left
      · intro w'
        go_simp
        with_reducible rfl
      rotate_left
      · simp only [Act.put, sa, sz, ss, i64_w, i32_w]
        rfl
      refine pure_ (i := 2) (N := some 8) (v := ?_) (a' := ?_) (bb 8 7) rfl rfl (by kernel_rfl) (fun _ _ _ h => h) (Or.inl ⟨by rfl, ?_⟩) ?_ ?_
      rotate_left
      · intro w'
        go_simp
        with_reducible rfl
      rotate_left
      · simp only [Act.put, sa, sz, ss, i64_w, i32_w]
        rfl
      refine take_ (i := 3) (N := some 9) (v := ?_) (a' := ?_) (bb 8 15) rfl rfl (by kernel_rfl) (fun _ _ _ h => h) (Or.inl ⟨by rfl, ?_⟩) hHeld ?_ ?_
      rotate_left
      · rintro w' ⟨s1_, s2_, s3_, s4_⟩
        go_simp
        with_reducible rfl
      rotate_left
      · simp only [Act.put, sa, sz, ss, i64_w, i32_w]
        rfl
      refine pure_ (i := 4) (N := some 10) (v := ?_) (a' := ?_) (bb 8 31) rfl rfl (by kernel_rfl) (fun _ _ _ h => h) (Or.inl ⟨by rfl, ?_⟩) ?_ ?_
      rotate_left
      · intro w'
        go_simp
        with_reducible rfl
      rotate_left
      · simp only [Act.put, sa, sz, ss, i64_w, i32_w]
        rfl
      refine take_ (i := 5) (N := some 11) (v := ?_) (a' := ?_) (bb 8 63) rfl rfl (by kernel_rfl) (fun _ _ _ h => h) (Or.inl ⟨by rfl, ?_⟩) hHeld ?_ ?_
      rotate_left
      · rintro w' ⟨s1_, s2_, s3_, s4_⟩
        go_simp
        with_reducible rfl
      rotate_left
      · simp only [Act.put, sa, sz, ss, i64_w, i32_w]
        rfl
      refine take_ (i := 6) (N := some 12) (v := ?_) (a' := ?_) (bb 8 127) rfl rfl (by kernel_rfl) (fun _ _ _ h => h) (Or.inl ⟨by rfl, ?_⟩) hHeld ?_ ?_
      rotate_left
      · rintro w' ⟨s1_, s2_, s3_, s4_⟩
        go_simp
        with_reducible rfl
      rotate_left
      · simp only [Act.put, sa, sz, ss, i64_w, i32_w]
        rfl
      refine last_ (i := 7) (N := none) (bb 8 255) rfl rfl (by kernel_rfl) (by decide) (fun K hK => ?_)
      refine step_update rfl (.tmp 9) (.tmp 11) (.tmp 12) 87 rfl rfl rfl rfl HR1.out ?_
      refine hK.out _ _ ?_
      clear hK K
      refine done_ (by kernel_rfl) ?_
      clear HSS hHeld
      go_upto_region 3 with (fail)
      rw [← hw2]
      clear c10 f10 hw2 b00
      go_upto_region 4 with (fail)
      have hG3 : GraphAt W2.drew B _ := HG2.out.below (below_drew (Below.refl _ _))
      have hl3 := hG3.lookAt HAT.out
      have HO3 := Aside0.mk (hG3.obj HAT.out)
      have HG3 := Aside0.mk hG3
      have g31 : W2.drew.cell? ⟨B.g, 1, none⟩ = some (.map (some B.mb)) := hG3.c1
      have o32 : W2.drew.cell? ⟨B.ob t, 2, none⟩ = some (.int .i64 y2.leads) := (hG3.obj HAT.out).c2
      have hS : W2.drew.cell? ⟨B.g, 1, none⟩ = some (.map (some B.mb)) ∧ W2.drew.cell? ⟨w.heap.size, 1, none⟩ = some (.int .i64 t) ∧ (Instr.lookup 71 (.map (some B.mb)) (.int .i64 t) false).run Tryz.prog W2.drew = .ok (.pointer (some ⟨B.ob t, 0, none⟩)) W2.drew ∧ W2.drew.cell? ⟨B.ob t, 2, none⟩ = some (.int .i64 y2.leads) := ⟨g31, b21, hl3, o32⟩
      have HSS := Aside0.mk hS
      obtain ⟨W3, hw3⟩ : ∃ W3, W3 = W2.drew.setCell ⟨B.ob t, 2, none⟩ (.int .i64 (wrap64 (y2.leads + 1))) := ⟨_, rfl⟩
      have hf3 : W2.drew.frozen? ⟨B.ob t, 2, none⟩ = false := blk_frozen HO3.out.1 2
      have hr3 : (Instr.storeAt 3 (.pointer (some ⟨B.ob t, 2, none⟩)) (.int .i64 (wrap64 (y2.leads + 1)))).run Tryz.prog W2.drew = .ok () W3 := by
        rw [hw3]
        go_simp
      have hfin : GraphAt W3 B { (GS.mk G.next (G.count + 1) (setO G.objs id (fun o => { o with links := putK (n, t, s) o.links }))) with objs := setO (setO G.objs id (fun o => { o with links := putK (n, t, s) o.links })) t (fun o => { o with leads := o.leads + 1 }) } := by
        refine HG3.out.turnO HAT.out _ ⟨?_, own_same HO3.out.2 ?_⟩ (fun k _ hk _ _ => ?_)
        · rw [hw3, hwl]; exact (blk_set HO3.out.1 2 _).trans rfl
        · rw [hw3]; exact Below.heap_setCell _ _ _ _ (HG3.out.ob_lb (at_mem HAT.out) (at_mem HAT.out)).symm
        · rw [hw3]; exact Below.heap_setCell _ _ _ _ hk
      have hsf : SameOn (fun k => ¬ foot B G k) w W3 := by
        rw [hw3]
        refine (HS2.out.trans (SameOn.of_below (below_drew (Below.refl _ _)))).trans (SameOn.setCell _ _ _ (fun hn => hn ?_))
        exact foot_setO (.inr (.inr ⟨_, at_mem HAT.out, .inl rfl⟩))
      have HFIN := Aside0.mk hfin
      have HSF := Aside0.mk hsf
      have HR3 := Aside0.mk hr3
      clear hfin hsf hr3 hw3 hf3 hS o32 g31 hl3 hG3 b21 c2
      refine start_ (n := 14) (S := fun W' => W'.cell? ⟨B.g, 1, none⟩ = some (.map (some B.mb)) ∧ W'.cell? ⟨w.heap.size, 1, none⟩ = some (.int .i64 t) ∧ (Instr.lookup 71 (.map (some B.mb)) (.int .i64 t) false).run Tryz.prog W' = .ok (.pointer (some ⟨B.ob t, 0, none⟩)) W' ∧ W'.cell? ⟨B.ob t, 2, none⟩ = some (.int .i64 y2.leads)) (ds := [13]) #[false, false, false, false, false, false, false, false, false, false, false, false, false, false] (by kernel_rfl) rfl rfl HSS.out (fun hHeld => ?_)
      refine pure_ (i := 0) (N := some 23) (v := ?_) (a' := ?_) (bb 14 1) rfl rfl (by kernel_rfl) (fun _ _ _ h => h) (Or.inl ⟨by rfl, ?_⟩) ?_ ?_
      rotate_left
      · intro w'
        go_simp
        with_reducible rfl
      rotate_left
      · simp only [Act.put, sa, sz, ss, i64_w, i32_w]
        rfl
      refine pure_ (i := 1) (N := some 24) (v := ?_) (a' := ?_) (bb 14 3) rfl rfl (by kernel_rfl) (fun _ _ _ h => h) (Or.inl ⟨by rfl, ?_⟩) ?_ ?_
      rotate_left
      · intro w'
        go_simp
        with_reducible rfl
      rotate_left
      · simp only [Act.put, sa, sz, ss, i64_w, i32_w]
        rfl
      refine pure_ (i := 2) (N := some 25) (v := ?_) (a' := ?_) (bb 14 7) rfl rfl (by kernel_rfl) (fun _ _ _ h => h) (Or.inl ⟨by rfl, ?_⟩) ?_ ?_
      rotate_left
      · intro w'
        go_simp
        with_reducible rfl
      rotate_left
      · simp only [Act.put, sa, sz, ss, i64_w, i32_w]
        rfl
      refine take_ (i := 3) (N := some 26) (v := ?_) (a' := ?_) (bb 14 15) rfl rfl (by kernel_rfl) (fun _ _ _ h => h) (Or.inl ⟨by rfl, ?_⟩) hHeld ?_ ?_
      rotate_left
      · rintro w' ⟨s1_, s2_, s3_, s4_⟩
        go_simp
        with_reducible rfl
      rotate_left
      · simp only [Act.put, sa, sz, ss, i64_w, i32_w]
        rfl
      refine pure_ (i := 4) (N := some 27) (v := ?_) (a' := ?_) (bb 14 31) rfl rfl (by kernel_rfl) (fun _ _ _ h => h) (Or.inl ⟨by rfl, ?_⟩) ?_ ?_
      rotate_left
      · intro w'
        go_simp
        with_reducible rfl
      rotate_left
      · simp only [Act.put, sa, sz, ss, i64_w, i32_w]
        rfl
      refine take_ (i := 5) (N := some 28) (v := ?_) (a' := ?_) (bb 14 63) rfl rfl (by kernel_rfl) (fun _ _ _ h => h) (Or.inl ⟨by rfl, ?_⟩) hHeld ?_ ?_
      rotate_left
      · rintro w' ⟨s1_, s2_, s3_, s4_⟩
        go_simp
        with_reducible rfl
      rotate_left
      · simp only [Act.put, sa, sz, ss, i64_w, i32_w]
        rfl
      refine take_ (i := 6) (N := some 29) (v := ?_) (a' := ?_) (bb 14 127) rfl rfl (by kernel_rfl) (fun _ _ _ h => h) (Or.inl ⟨by rfl, ?_⟩) hHeld ?_ ?_
      rotate_left
      · rintro w' ⟨s1_, s2_, s3_, s4_⟩
        go_simp
        with_reducible rfl
      rotate_left
      · simp only [Act.put, sa, sz, ss, i64_w, i32_w]
        rfl
      refine pure_ (i := 7) (N := some 30) (v := ?_) (a' := ?_) (bb 14 255) rfl rfl (by kernel_rfl) (fun _ _ _ h => h) (Or.inl ⟨by rfl, ?_⟩) ?_ ?_
      rotate_left
      · intro w'
        go_simp
        with_reducible rfl
      rotate_left
      · simp only [Act.put, sa, sz, ss, i64_w, i32_w]
        rfl
      refine pure_ (i := 8) (N := some 31) (v := ?_) (a' := ?_) (bb 14 511) rfl rfl (by kernel_rfl) (fun _ _ _ h => h) (Or.inl ⟨by rfl, ?_⟩) ?_ ?_
      rotate_left
      · intro w'
        go_simp
        with_reducible rfl
      rotate_left
      · simp only [Act.put, sa, sz, ss, i64_w, i32_w]
        rfl
      refine take_ (i := 9) (N := some 32) (v := ?_) (a' := ?_) (bb 14 1023) rfl rfl (by kernel_rfl) (fun _ _ _ h => h) (Or.inl ⟨by rfl, ?_⟩) hHeld ?_ ?_
      rotate_left
      · rintro w' ⟨s1_, s2_, s3_, s4_⟩
        go_simp
        with_reducible rfl
      rotate_left
      · simp only [Act.put, sa, sz, ss, i64_w, i32_w]
        rfl
      refine pure_ (i := 10) (N := some 33) (v := ?_) (a' := ?_) (bb 14 2047) rfl rfl (by kernel_rfl) (fun _ _ _ h => h) (Or.inl ⟨by rfl, ?_⟩) ?_ ?_
      rotate_left
      · intro w'
        go_simp
        with_reducible rfl
      rotate_left
      · simp only [Act.put, sa, sz, ss, i64_w, i32_w]
        rfl
      refine pure_ (i := 11) (N := some 34) (v := ?_) (a' := ?_) (bb 14 4095) rfl rfl (by kernel_rfl) (fun _ _ _ h => h) (Or.inl ⟨by rfl, ?_⟩) ?_ ?_
      rotate_left
      · intro w'
        go_simp
        with_reducible rfl
      rotate_left
      · simp only [Act.put, sa, sz, ss, i64_w, i32_w]
        rfl
      refine pure_ (i := 12) (N := some 35) (v := ?_) (a' := ?_) (bb 14 8191) rfl rfl (by kernel_rfl) (fun _ _ _ h => h) (Or.inl ⟨by rfl, ?_⟩) ?_ ?_
      rotate_left
      · intro w'
        go_simp
        with_reducible rfl
      rotate_left
      · simp only [Act.put, sa, sz, ss, i64_w, i32_w]
        rfl
      refine last_ (i := 13) (N := none) (bb 14 16383) rfl rfl (by kernel_rfl) (by decide) (fun K hK => ?_)
      refine step_store rfl (.tmp 35) (.tmp 33) 3 rfl rfl rfl HR3.out ?_
      refine hK.out _ _ ?_
      clear hK K
      refine done_ (by kernel_rfl) ?_
      go_end0
      exact ⟨rfl, HFIN.out, HSF.out⟩
  · rw [if_neg ht] at h
    have htb : decide (0 < t) = false := decide_eq_false ht
    cases h
    go_enter Tryz.func42, Tryz.ntmps42
    go_upto_region 1 with (fail)
    rw [← hbx]
    refine start_ (n := 8) (S := fun W' => W'.cell? ⟨B.ob id, 1, none⟩ = some (.map (some (B.lb id))) ∧ W'.cell? ⟨w.heap.size, 0, none⟩ = some (.string n) ∧ W'.cell? ⟨w.heap.size, 1, none⟩ = some (.int .i64 t) ∧ W'.cell? ⟨w.heap.size, 2, none⟩ = some (.string s)) (ds := [7]) #[false, false, false, false, false, false, false, false] (by kernel_rfl) rfl rfl HSS.out (fun hHeld => ?_)
    refine pure_ (i := 0) (N := some 6) (v := ?_) (a' := ?_) (bb 8 1) rfl rfl (by kernel_rfl) (fun _ _ _ h => h) (Or.inl ⟨by rfl, ?_⟩) ?_ ?_
    rotate_left
    · intro w'
      go_simp
      with_reducible rfl
    rotate_left
    · simp only [Act.put, sa, sz, ss, i64_w, i32_w]
      rfl
    refine pure_ (i := 1) (N := some 7) (v := ?_) (a' := ?_) (bb 8 3) rfl rfl (by kernel_rfl) (fun _ _ _ h => h) (Or.inl ⟨by rfl, ?_⟩) ?_ ?_
    rotate_left
    · intro w'
      go_simp
      with_reducible rfl
    rotate_left
    · simp only [Act.put, sa, sz, ss, i64_w, i32_w]
      rfl
    refine pure_ (i := 2) (N := some 8) (v := ?_) (a' := ?_) (bb 8 7) rfl rfl (by kernel_rfl) (fun _ _ _ h => h) (Or.inl ⟨by rfl, ?_⟩) ?_ ?_
    rotate_left
    · intro w'
      go_simp
      with_reducible rfl
    rotate_left
    · simp only [Act.put, sa, sz, ss, i64_w, i32_w]
      rfl
    refine take_ (i := 3) (N := some 9) (v := ?_) (a' := ?_) (bb 8 15) rfl rfl (by kernel_rfl) (fun _ _ _ h => h) (Or.inl ⟨by rfl, ?_⟩) hHeld ?_ ?_
    rotate_left
    · rintro w' ⟨s1_, s2_, s3_, s4_⟩
      go_simp
      with_reducible rfl
    rotate_left
    · simp only [Act.put, sa, sz, ss, i64_w, i32_w]
      rfl
    refine pure_ (i := 4) (N := some 10) (v := ?_) (a' := ?_) (bb 8 31) rfl rfl (by kernel_rfl) (fun _ _ _ h => h) (Or.inl ⟨by rfl, ?_⟩) ?_ ?_
    rotate_left
    · intro w'
      go_simp
      with_reducible rfl
    rotate_left
    · simp only [Act.put, sa, sz, ss, i64_w, i32_w]
      rfl
    refine take_ (i := 5) (N := some 11) (v := ?_) (a' := ?_) (bb 8 63) rfl rfl (by kernel_rfl) (fun _ _ _ h => h) (Or.inl ⟨by rfl, ?_⟩) hHeld ?_ ?_
    rotate_left
    · rintro w' ⟨s1_, s2_, s3_, s4_⟩
      go_simp
      with_reducible rfl
    rotate_left
    · simp only [Act.put, sa, sz, ss, i64_w, i32_w]
      rfl
    refine take_ (i := 6) (N := some 12) (v := ?_) (a' := ?_) (bb 8 127) rfl rfl (by kernel_rfl) (fun _ _ _ h => h) (Or.inl ⟨by rfl, ?_⟩) hHeld ?_ ?_
    rotate_left
    · rintro w' ⟨s1_, s2_, s3_, s4_⟩
      go_simp
      with_reducible rfl
    rotate_left
    · simp only [Act.put, sa, sz, ss, i64_w, i32_w]
      rfl
    refine last_ (i := 7) (N := none) (bb 8 255) rfl rfl (by kernel_rfl) (by decide) (fun K hK => ?_)
    refine step_update rfl (.tmp 9) (.tmp 11) (.tmp 12) 87 rfl rfl rfl rfl HR1.out ?_
    refine hK.out _ _ ?_
    clear hK K
    refine done_ (by kernel_rfl) ?_
    clear HSS hHeld
    go_upto_region 3 with (fail)
    rw [← hw2]
    clear c10 f10 hw2 b00
    go_wp2
    first | go_end0 | (refine bodyPost_ret (results_none rfl _ _ _) rfl ?_)
    exact ⟨rfl, HG2.out, HS2.out⟩
end
end Go.Proofs.YthifdofdoeaemaaGreatDoor.Wk
end
section
namespace Go.Proofs.YthifdofdoeaemaaGreatDoor.Wk
open Go.RowKit Go.Proofs.YthifdofdoeaemaaGreatDoorW.PrintWords Go.Proofs.YthifdofdoeaemaaGreatDoorW.PrintLast Go.Proofs.YthifdofdoeaemaaGreatDoorW.PrintMore
attribute [local go_sem] max2_int min2_int max_two min_two max_three min_three max_four min_four
set_option linter.unusedVariables false
set_option linter.unusedSimpArgs false
section
open Go.RowKit Go.Lib Go.Maps Go.Proofs.YthifdofdoeaemaaGreatDoorQ
attribute [local go_sem] Oper.semAt_some
theorem roomG_at {G : GS} {p : ByteArray} {id : Int} {nm : ByteArray} (h : roomG G p = some (id, nm, 0)) : nm.size ≤ 64 ∧ ∃ o, G.at id = some o ∧ lnk o.links nm = none := by
  unfold roomG at h
  split at h
  · cases h
  · rename_i r hp
    split at h
    · split at h
      · cases h
      · rename_i x hx
        split at h
        · cases h
        · rename_i hl
          split at h
          · cases h
          · cases h
            exact ⟨placeG_small hp, x, hx, by simpa using hl⟩
    · rename_i hr
      exact absurd (congrArg (fun q : Int × ByteArray × Int => q.2.2) (Option.some.inj h)) hr
set_option maxHeartbeats 8000000 in
set_option maxRecDepth 100000 in
theorem soft_calls (B : GB) (G : GS) (p tgt : ByteArray) (w : World) (hl : Lay w) (hG : GraphAt w B G) (e : Int) (G2 : GS) (h : softG G p tgt = some (e, G2)) :
    Calls Tryz.prog 15 #[.pointer (some ⟨B.g, 0, none⟩), .string p, .string tgt] w fun ev w' => ev = .returned (.int .i64 e) ∧ GraphAt w' B G2 ∧ SameOn (fun k => ¬ foot B G k) w w' := by
  have HL := Aside0.mk hl
  have HG := Aside0.mk hG
  obtain ⟨l, a, y, hpp⟩ : ∃ l a y, parseP tgt = (l, a, y) := ⟨_, _, _, rfl⟩
  have HPP := Aside0.mk hpp
  unfold softG at h
  simp only [hpp] at h
  clear hl hG hpp
  by_cases hy : y = 0
  · subst hy
    rw [if_pos rfl] at h
    cases hr : roomG G p with
    | none => rw [hr] at h; cases h
    | some r =>
      obtain ⟨id, nm, re⟩ := r
      rw [hr] at h
      simp only at h
      have HR := Aside0.mk hr
      by_cases hre : re = 0
      · subst hre
        rw [if_pos rfl] at h
        obtain ⟨G3, hp, hq⟩ := Option.map_eq_some_iff.1 h
        obtain ⟨rfl, rfl⟩ : (0 : Int) = e ∧ G3 = G2 := by simpa using hq
        obtain ⟨hnm, o, ho, hlk⟩ := roomG_at hr
        have HP := Aside0.mk hp
        have HO := Aside0.mk ho
        clear hp hr h hq hlk ho
        go_enter Tryz.func15, Tryz.ntmps15
        go_wp2_with (first
          | (go_at_call 39; refine (good_calls B G _ HG.out).mono ?_; rintro e_ w1 ⟨rfl, rfl⟩)
          | (go_at_call 40; refine (parse2_calls tgt _ HL.out l a 0 HPP.out).mono ?_; rintro e_ w2 ⟨v, rfl, hv, h16, hw2⟩; have HW2 := Aside0.mk hw2; have HG2 := Aside0.mk (HG.out.below hw2); clear hv h16 hw2)
          | (go_at_call 41; refine (room_calls B G p _ (lay_below HL.out HW2.out) HG2.out id 0 nm HR.out).mono ?_; rintro e_ w3 ⟨⟨v3, n3, rfl, hv3⟩, hw3⟩; obtain ⟨rfl, rfl⟩ := hv3 rfl; have HW3 := Aside0.mk hw3; have HG3 := Aside0.mk (HG2.out.below hw3); clear hw3)
          | (go_at_call 42; refine (put_calls B G id o (n3, 0, tgt) _ HG3.out HO.out hnm G3 HP.out).mono ?_; rintro e_ w4 ⟨rfl, hg4, hs4⟩; have HG4 := Aside0.mk hg4; have HS4 := Aside0.mk hs4; clear hg4 hs4))
        go_ret
        exact ⟨rfl, HG4.out, (SameOn.of_below HW2.out).trans ((SameOn.of_below HW3.out).trans HS4.out)⟩
      · rw [if_neg hre] at h
        obtain ⟨rfl, rfl⟩ : re = e ∧ G = G2 := by simpa using h
        have hreb : (re == 0) = false := by simpa using hre
        clear h hr
        go_enter Tryz.func15, Tryz.ntmps15
        go_wp2_with (first
          | (go_at_call 39; refine (good_calls B G _ HG.out).mono ?_; rintro e_ w1 ⟨rfl, rfl⟩)
          | (go_at_call 40; refine (parse2_calls tgt _ HL.out l a 0 HPP.out).mono ?_; rintro e_ w2 ⟨v, rfl, hv, h16, hw2⟩; have HW2 := Aside0.mk hw2; have HG2 := Aside0.mk (HG.out.below hw2); clear hv h16 hw2)
          | (go_at_call 41; refine (room_calls B G p _ (lay_below HL.out HW2.out) HG2.out id re nm HR.out).mono ?_; rintro e_ w3 ⟨⟨v3, n3, rfl, hv3⟩, hw3⟩; have HW3 := Aside0.mk hw3; have HG3 := Aside0.mk (HG2.out.below hw3); clear hw3))
        go_ret
        exact ⟨rfl, HG3.out, (SameOn.of_below HW2.out).trans (SameOn.of_below HW3.out)⟩
  · rw [if_neg hy] at h
    obtain ⟨rfl, rfl⟩ : y = e ∧ G = G2 := by simpa using h
    have hyb : (y != 0) = true := by simpa using hy
    clear h
    go_enter Tryz.func15, Tryz.ntmps15
    go_wp2_with (first
      | (go_at_call 39; refine (good_calls B G _ HG.out).mono ?_; rintro e_ w1 ⟨rfl, rfl⟩)
      | (go_at_call 40; refine (parse2_calls tgt _ HL.out l a y HPP.out).mono ?_; rintro e_ w2 ⟨v, rfl, hv, h16, hw2⟩; have HW2 := Aside0.mk hw2; have HG2 := Aside0.mk (HG.out.below hw2); clear hv h16 hw2))
    go_ret
    exact ⟨rfl, HG2.out, SameOn.of_below HW2.out⟩
set_option maxHeartbeats 8000000 in
set_option maxRecDepth 100000 in
theorem link_calls (B : GB) (G : GS) (p other : ByteArray) (w : World) (hl : Lay w) (hG : GraphAt w B G) (e : Int) (G2 : GS) (h : linkG G p other = some (e, G2)) :
    Calls Tryz.prog 22 #[.pointer (some ⟨B.g, 0, none⟩), .string p, .string other] w fun ev w' => ev = .returned (.int .i64 e) ∧ GraphAt w' B G2 ∧ SameOn (fun k => ¬ foot B G k) w w' := by
  have HL := Aside0.mk hl
  have HG := Aside0.mk hG
  unfold linkG at h
  clear hl hG
  cases hf : findG G other with
  | none => rw [hf] at h; cases h
  | some f =>
    obtain ⟨t, fe⟩ := f
    rw [hf] at h
    simp only at h
    have HF := Aside0.mk hf
    clear hf
    by_cases hfe : fe = 0
    · subst hfe
      rw [if_pos rfl] at h
      cases hto : G.at t with
      | none => rw [hto] at h; cases h
      | some y =>
        rw [hto] at h
        simp only at h
        have HT := Aside0.mk hto
        clear hto
        by_cases hk : y.kind = 1
        · rw [if_pos hk] at h
          obtain ⟨rfl, rfl⟩ : (12 : Int) = e ∧ G = G2 := by simpa using h
          have hkb : (y.kind == 1) = true := by simpa using hk
          clear h
          go_enter Tryz.func22, Tryz.ntmps22
          go_wp2_with (first
            | (go_at_call 17; refine (find_calls B G other _ HL.out HG.out t 0 HF.out).mono ?_; rintro e_ w1 ⟨rfl, hw1⟩; have HW1 := Aside0.mk hw1; have HG1 := Aside0.mk (HG.out.below hw1); have cg1 := HG1.out.c1; have hlk := HG1.out.lookAt HT.out; have co0 := (HG1.out.obj HT.out).c0; simp only [] at co0; clear hw1))
          go_ret
          exact ⟨rfl, HG1.out, SameOn.of_below HW1.out⟩
        · rw [if_neg hk] at h
          have hkb : (y.kind == 1) = false := by simpa using hk
          cases hr : roomG G p with
          | none => rw [hr] at h; cases h
          | some r =>
            obtain ⟨id, nm, re⟩ := r
            rw [hr] at h
            simp only at h
            have HR := Aside0.mk hr
            by_cases hre : re = 0
            · subst hre
              rw [if_pos rfl] at h
              obtain ⟨G3, hp, hq⟩ := Option.map_eq_some_iff.1 h
              obtain ⟨rfl, rfl⟩ : (0 : Int) = e ∧ G3 = G2 := by simpa using hq
              obtain ⟨hnm, o, ho, hlk⟩ := roomG_at hr
              have HP := Aside0.mk hp
              have HO := Aside0.mk ho
              clear hp hr h hq hlk ho
              go_enter Tryz.func22, Tryz.ntmps22
              go_wp2_with (first
                | (go_at_call 17; refine (find_calls B G other _ HL.out HG.out t 0 HF.out).mono ?_; rintro e_ w1 ⟨rfl, hw1⟩; have HW1 := Aside0.mk hw1; have HG1 := Aside0.mk (HG.out.below hw1); have cg1 := HG1.out.c1; have hlk := HG1.out.lookAt HT.out; have co0 := (HG1.out.obj HT.out).c0; simp only [] at co0; clear hw1)
                | (go_at_call 41; refine (room_calls B G p _ (lay_below HL.out HW1.out) HG1.out id 0 nm HR.out).mono ?_; rintro e_ w3 ⟨⟨v3, n3, rfl, hv3⟩, hw3⟩; obtain ⟨rfl, rfl⟩ := hv3 rfl; have HW3 := Aside0.mk hw3; have HG3 := Aside0.mk (HG1.out.below hw3); clear hw3)
                | (go_at_call 42; refine (put_calls B G id o (n3, t, ⟨#[]⟩) _ HG3.out HO.out hnm G3 HP.out).mono ?_; rintro e_ w4 ⟨rfl, hg4, hs4⟩; have HG4 := Aside0.mk hg4; have HS4 := Aside0.mk hs4; clear hg4 hs4))
              go_ret
              exact ⟨rfl, HG4.out, (SameOn.of_below HW1.out).trans ((SameOn.of_below HW3.out).trans HS4.out)⟩
            · rw [if_neg hre] at h
              obtain ⟨rfl, rfl⟩ : re = e ∧ G = G2 := by simpa using h
              have hreb : (re == 0) = false := by simpa using hre
              clear h hr
              go_enter Tryz.func22, Tryz.ntmps22
              go_wp2_with (first
                | (go_at_call 17; refine (find_calls B G other _ HL.out HG.out t 0 HF.out).mono ?_; rintro e_ w1 ⟨rfl, hw1⟩; have HW1 := Aside0.mk hw1; have HG1 := Aside0.mk (HG.out.below hw1); have cg1 := HG1.out.c1; have hlk := HG1.out.lookAt HT.out; have co0 := (HG1.out.obj HT.out).c0; simp only [] at co0; clear hw1)
                | (go_at_call 41; refine (room_calls B G p _ (lay_below HL.out HW1.out) HG1.out id re nm HR.out).mono ?_; rintro e_ w3 ⟨⟨v3, n3, rfl, hv3⟩, hw3⟩; have HW3 := Aside0.mk hw3; have HG3 := Aside0.mk (HG1.out.below hw3); clear hw3))
              go_ret
              exact ⟨rfl, HG3.out, (SameOn.of_below HW1.out).trans (SameOn.of_below HW3.out)⟩
    · rw [if_neg hfe] at h
      obtain ⟨rfl, rfl⟩ : fe = e ∧ G = G2 := by simpa using h
      have hfb : (fe != 0) = true := by simpa using hfe
      clear h
      go_enter Tryz.func22, Tryz.ntmps22
      go_wp2_with (first
        | (go_at_call 17; refine (find_calls B G other _ HL.out HG.out t fe HF.out).mono ?_; rintro e_ w1 ⟨rfl, hw1⟩; have HW1 := Aside0.mk hw1; have HG1 := Aside0.mk (HG.out.below hw1); clear hw1))
      go_ret
      exact ⟨rfl, HG1.out, SameOn.of_below HW1.out⟩
end
end Go.Proofs.YthifdofdoeaemaaGreatDoor.Wk
end
section
namespace Go.Proofs.YthifdofdoeaemaaGreatDoor.Wk
open Go.RowKit Go.Proofs.YthifdofdoeaemaaGreatDoorW.PrintWords Go.Proofs.YthifdofdoeaemaaGreatDoorW.PrintLast Go.Proofs.YthifdofdoeaemaaGreatDoorW.PrintMore
attribute [local go_sem] max2_int min2_int max_two min_two max_three min_three max_four min_four
set_option linter.unusedVariables false
set_option linter.unusedSimpArgs false
section
open Go.RowKit Go.Lib Go.Maps Go.Proofs.YthifdofdoeaemaaGreatDoorQ
attribute [local go_sem] Oper.semAt_some
def madeW (kind : Int) (w : World) : World := (w.alloc (.map #[] 0)).alloc (.cells #[.int .i64 kind, .map (some w.heap.size), .int .i64 0, .int .i64 0] 89 (0, 0))
set_option maxHeartbeats 4000000 in
set_option maxRecDepth 100000 in
theorem made_calls (kind : Int) (w : World) : Calls Tryz.prog 38 #[.int .i64 kind] w fun ev w' => ev = .returned (.pointer (some ⟨w.heap.size + 1, 0, none⟩)) ∧ w' = madeW kind w := by
  have hsz : (w.alloc (.map #[] 0)).heap.size = w.heap.size + 1 := by simp
  go_enter Tryz.func38, Tryz.ntmps38
  have hmk : ∀ t w, (Instr.makeMap t none).run Tryz.prog w = .ok (.map (some w.heap.size)) (w.alloc (.map #[] 0)) := fun _ _ => rfl
  go_wp2
  go_ret
  exact ⟨rfl, rfl⟩
theorem madeW_below (kind : Int) (w : World) : Below w.heap.size w (madeW kind w) := below_alloc (below_alloc (Below.refl _ _) _) _
theorem madeW_ob (kind : Int) (w : World) : (madeW kind w).heap[w.heap.size + 1]? = some (.cells #[.int .i64 kind, .map (some w.heap.size), .int .i64 0, .int .i64 0] 89 (0, 0)) := by
  have := World.alloc_heap_new (w.alloc (.map #[] 0)) (.cells #[.int .i64 kind, .map (some w.heap.size), .int .i64 0, .int .i64 0] 89 (0, 0))
  rwa [show (w.alloc (.map #[] 0)).heap.size = w.heap.size + 1 by simp] at this
theorem madeW_lb (kind : Int) (w : World) : (madeW kind w).ownsMap (H := Unit) Tryz.prog 9 readL w.heap.size 0 (.map []) :=
  (World.ownsMap_made w _ _ _).alloc _
theorem key_one : keyOf Tryz.prog 3 (.int .i64 1) = some (keyO 1) := keyOf_int_mk Tryz.underlying3 (by decide)
set_option maxHeartbeats 4000000 in
set_option maxRecDepth 100000 in
theorem new_calls (w : World) : Calls Tryz.prog 13 #[] w fun ev w' => ∃ B, ev = .returned (.pointer (some ⟨B.g, 0, none⟩)) ∧ GraphAt w' B newG ∧ Below w.heap.size w w' ∧ ∀ k, foot B newG k → w.heap.size ≤ k := by
  have hz1 : (w.alloc (.map #[] 0)).heap.size = w.heap.size + 1 := by simp
  obtain ⟨W1, hw1⟩ : ∃ W1, W1 = madeW 1 (w.alloc (.map #[] 0)) := ⟨_, rfl⟩
  have hz2 : W1.heap.size = w.heap.size + 3 := by rw [hw1]; simp [madeW]
  have hown : W1.ownsMap (H := Unit) Tryz.prog 3 readP w.heap.size 0 (.map []) := own_same (World.ownsMap_made w _ _ _) (by rw [hw1]; exact (madeW_below 1 _).block _ (by omega))
  have hob : W1.heap[w.heap.size + 2]? = some (.cells #[.int .i64 1, .map (some (w.heap.size + 1)), .int .i64 0, .int .i64 0] 89 (0, 0)) := by
    have := madeW_ob 1 (w.alloc (.map #[] 0))
    rwa [hz1, ← hw1] at this
  have hlb : W1.ownsMap (H := Unit) Tryz.prog 9 readL (w.heap.size + 1) 0 (.map []) := by
    have := madeW_lb 1 (w.alloc (.map #[] 0))
    rwa [hz1, ← hw1] at this
  have hb1 : Below w.heap.size w W1 := by rw [hw1]; exact (below_alloc (Below.refl _ _) _).trans ((madeW_below 1 _).mono (by omega))
  obtain ⟨W2, hr, h2, hg⟩ := hown.update (t := 71) (e := 75) (int_keyed Tryz.underlying3) Tryz.underlying71 (by decide) key_one (val := .pointer (some ⟨w.heap.size + 1 + 1, 0, none⟩)) (d := .lit (.int .i64 ((w.heap.size + 2 : Nat) : Int))) (ps := []) rfl
  have hz3 : W1.heap.size ≤ W2.heap.size := hg.size
  have hsame : ∀ k, k ≠ w.heap.size → k < W1.heap.size → W2.heap[k]? = W1.heap[k]? := fun k hk hl => hg.block k hl (fun e => hk (by injection e))
  have h2' := own_tight h2
  have hb2 : Below w.heap.size w W2 := ⟨hg.os.trans hb1.os, hg.tape.trans hb1.tape, hg.output.trans hb1.output, Nat.le_trans hb1.size hz3, fun k hk => (hsame k (by omega) (by omega)).trans (hb1.block k hk)⟩
  have H2 := Aside0.mk h2'
  have HB := Aside0.mk hb2
  have HS := Aside0.mk hsame
  have HW1 := Aside0.mk hw1
  clear hw1 h2 h2' hg hb2 hsame hb1 hown
  go_enter Tryz.func13, Tryz.ntmps13
  have hmk : ∀ t w, (Instr.makeMap t none).run Tryz.prog w = .ok (.map (some w.heap.size)) (w.alloc (.map #[] 0)) := fun _ _ => rfl
  go_wp2_with (go_at_call 38; refine (made_calls 1 _).mono ?_; rintro e_ w1 ⟨rfl, rfl⟩; rw [← HW1.out, hz1])
  go_ret
  refine ⟨⟨W2.heap.size, w.heap.size, fun _ => w.heap.size + 2, fun _ => w.heap.size + 1⟩, rfl, ?_, ?_, ?_⟩
  · have hz4 := HB.out.size
    refine ⟨World.alloc_heap_new _ _, H2.out.alloc _, ?_, ?_, ?_, ?_, ?_⟩
    · intro x hx
      obtain rfl : x = (1, newO 1) := by simpa [newG] using hx
      exact ⟨blk_alloc ((HS.out _ (by omega) (by omega)).trans hob) _, (own_same hlb (HS.out _ (by omega) (by omega))).alloc _⟩
    · intro x hx y hy _
      obtain rfl : x = (1, newO 1) := by simpa [newG] using hx
      obtain rfl : y = (1, newO 1) := by simpa [newG] using hy
      rfl
    · intro x hx y hy _
      obtain rfl : x = (1, newO 1) := by simpa [newG] using hx
      obtain rfl : y = (1, newO 1) := by simpa [newG] using hy
      rfl
    · intro x hx
      show w.heap.size + 1 ≠ w.heap.size
      omega
    · intro x hx
      obtain rfl : x = (1, newO 1) := by simpa [newG] using hx
      decide
  · exact HB.out.trans ((below_alloc (Below.refl _ _) _).mono HB.out.size)
  · have hz4 := HB.out.size
    rintro k (rfl | rfl | ⟨x, hx, rfl | rfl⟩)
    · exact hz4
    · exact Nat.le_refl _
    · exact Nat.le_add_right _ _
    · exact Nat.le_add_right _ _
end
end Go.Proofs.YthifdofdoeaemaaGreatDoor.Wk
end
section
namespace Go.Proofs.YthifdofdoeaemaaGreatDoor.Wk
open Go.RowKit Go.Proofs.YthifdofdoeaemaaGreatDoorW.PrintWords Go.Proofs.YthifdofdoeaemaaGreatDoorW.PrintLast Go.Proofs.YthifdofdoeaemaaGreatDoorW.PrintMore
attribute [local go_sem] max2_int min2_int max_two min_two max_three min_three max_four min_four
set_option linter.unusedVariables false
set_option linter.unusedSimpArgs false
section
open Go.RowKit Go.Lib Go.Maps Go.Proofs.YthifdofdoeaemaaGreatDoorQ
attribute [local go_sem] Oper.semAt_some
theorem mem_insO (x y : Int × GO) : ∀ l : List (Int × GO), y ∈ insO x l ↔ y = x ∨ y ∈ l
  | [] => by simp [insO]
  | a :: t => by
    unfold insO
    split
    · simp
    · simp only [List.mem_cons, mem_insO x y t]
      constructor
      · rintro (h | h | h)
        · exact .inr (.inl h)
        · exact .inl h
        · exact .inr (.inr h)
      · rintro (h | h | h)
        · exact .inr (.inl h)
        · exact .inl h
        · exact .inr (.inr h)
theorem mem_delO {id : Int} {l : List (Int × GO)} {y : Int × GO} : y ∈ delO id l ↔ y ∈ l ∧ y.1 ≠ id := by
  unfold delO
  simp [List.mem_filter]
theorem mem_putO {x y : Int × GO} {l : List (Int × GO)} : y ∈ putO x l ↔ y = x ∨ (y ∈ l ∧ y.1 ≠ x.1) := by
  unfold putO
  rw [mem_insO, mem_delO]
theorem find_insO (x : Int × GO) (k : Int) : ∀ l : List (Int × GO), k ≠ x.1 → (insO x l).find? (fun y => decide (y.1 = k)) = l.find? (fun y => decide (y.1 = k))
  | [], h => by simp [insO, Ne.symm h]
  | a :: t, h => by
    unfold insO
    split
    · rw [List.find?_cons, decide_eq_false (Ne.symm h)]
    · rw [List.find?_cons, List.find?_cons, find_insO x k t h]
theorem find_insO_same (x : Int × GO) : ∀ l : List (Int × GO), (∀ y ∈ l, y.1 ≠ x.1) → (insO x l).find? (fun y => decide (y.1 = x.1)) = some x
  | [], _ => by simp [insO]
  | a :: t, h => by
    unfold insO
    split
    · rw [List.find?_cons, decide_eq_true rfl]
    · rw [List.find?_cons, decide_eq_false (h a (by simp))]
      exact find_insO_same x t (fun y hy => h y (by simp [hy]))
theorem find_delO (id k : Int) (h : k ≠ id) : ∀ l : List (Int × GO), (delO id l).find? (fun y => decide (y.1 = k)) = l.find? (fun y => decide (y.1 = k))
  | [] => rfl
  | a :: t => by
    unfold delO
    by_cases e : a.1 = id
    · rw [List.filter_cons_of_neg (by simp [e]), List.find?_cons, decide_eq_false (fun e2 => h (e2.symm.trans e))]
      exact find_delO id k h t
    · rw [List.filter_cons_of_pos (by simp [e]), List.find?_cons, List.find?_cons]
      have := find_delO id k h t
      unfold delO at this
      rw [this]
theorem at_putO (G : GS) (n c id k : Int) (o : GO) : (GS.mk n c (putO (id, o) G.objs)).at k = if k = id then some o else G.at k := by
  unfold GS.at putO
  simp only
  by_cases h : k = id
  · subst h
    rw [if_pos rfl, find_insO_same (k, o) _ (fun y hy => (mem_delO.1 hy).2)]
    rfl
  · rw [if_neg h, find_insO _ _ _ h, find_delO _ _ h]
def upd (f : Int → Nat) (i : Int) (v : Nat) : Int → Nat := fun j => if j = i then v else f j
theorem upd_same (f : Int → Nat) (i : Int) (v : Nat) : upd f i v i = v := if_pos rfl
theorem upd_ne (f : Int → Nat) {i j : Int} (v : Nat) (h : j ≠ i) : upd f i v j = f j := if_neg h
theorem at_none {G : GS} {id : Int} (h : G.at id = none) {x : Int × GO} (hx : x ∈ G.objs) : x.1 ≠ id := by
  intro e
  unfold GS.at at h
  rw [Option.map_eq_none_iff, List.find?_eq_none] at h
  exact h x hx (by simpa using e)
def GB.plus (B : GB) (id : Int) (ob lb : Nat) : GB := ⟨B.g, B.mb, upd B.ob id ob, upd B.lb id lb⟩
theorem putO_new {l : List (Int × GO)} {x y : Int × GO} (h : y ∈ putO x l) : y = x ∨ (y ∈ l ∧ y.1 ≠ x.1) := mem_putO.1 h
theorem GB.plus_ob {B : GB} {id : Int} {ob lb : Nat} {y : Int} (h : y ≠ id) : (B.plus id ob lb).ob y = B.ob y := upd_ne _ _ h
theorem GB.plus_lb {B : GB} {id : Int} {ob lb : Nat} {y : Int} (h : y ≠ id) : (B.plus id ob lb).lb y = B.lb y := upd_ne _ _ h
theorem put_plus (B : GB) (G : GS) (id : Int) (o : GO) (ob lb : Nat) (hn : G.at id = none) :
    (DataW.map (H := Unit) (G.objs.map (encO B.ob))).put (keyO id) (.lit (.int .i64 (ob : Int))) = .map ((putO (id, o) G.objs).map (encO (B.plus id ob lb).ob)) := by
  have h1 : G.objs.map (encO B.ob) = G.objs.map (encO (B.plus id ob lb).ob) := List.map_congr_left (fun x hx => by
    have := at_none hn hx
    simp [encO, GB.plus_ob this])
  have h2 : ((ob : Nat) : Int) = (((B.plus id ob lb).ob id : Nat) : Int) := by rw [show (B.plus id ob lb).ob id = ob from upd_same _ _ _]
  rw [h1, h2]
  exact put_O (B.plus id ob lb).ob G.objs (id, o)
theorem GraphAt.plus {A W : World} {B : GB} {G : GS} (h : GraphAt A B G) {id : Int} (hn : G.at id = none) (hw : (Lit.int .i64 id).wf = true) (o : GO) (ob lb : Nat) (ho : ¬ foot B G ob) (hl : ¬ foot B G lb)
    (hob : ObjAt W (B.plus id ob lb) (id, o)) (hm : W.ownsMap Tryz.prog 3 readP B.mb (putO (id, o) G.objs).length (.map ((putO (id, o) G.objs).map (encO (B.plus id ob lb).ob))))
    (hs : ∀ k, foot B G k → k ≠ B.mb → k < A.heap.size → W.heap[k]? = A.heap[k]?) : GraphAt W (B.plus id ob lb) { G with objs := putO (id, o) G.objs } where
  cell := (hs _ (.inl rfl) h.g_mb (blk_lt h.cell)).trans h.cell
  objs := hm
  each := fun x hx => by
    rcases putO_new hx with rfl | ⟨hx, hne⟩
    · exact hob
    · have he := h.each x hx
      unfold ObjAt
      rw [GB.plus_ob hne, GB.plus_lb hne]
      exact he.step (hs _ (.inr (.inr ⟨x, hx, .inl rfl⟩)) (h.ob_mb hx) (blk_lt he.1)) (hs _ (.inr (.inr ⟨x, hx, .inr rfl⟩)) (h.lbm x hx) he.2.lt)
  obI := fun x hx y hy e => by
    rcases putO_new hx with rfl | ⟨hx, hne⟩
    · rcases putO_new hy with rfl | ⟨hy, hny⟩
      · rfl
      · rw [GB.plus_ob hny, show (B.plus id ob lb).ob id = ob from upd_same _ _ _] at e
        exact absurd (.inr (.inr ⟨y, hy, .inl e⟩)) ho
    · rcases putO_new hy with rfl | ⟨hy, hny⟩
      · rw [GB.plus_ob hne, show (B.plus id ob lb).ob id = ob from upd_same _ _ _] at e
        exact absurd (.inr (.inr ⟨x, hx, .inl e.symm⟩)) ho
      · rw [GB.plus_ob hne, GB.plus_ob hny] at e
        exact h.obI x hx y hy e
  lbI := fun x hx y hy e => by
    rcases putO_new hx with rfl | ⟨hx, hne⟩
    · rcases putO_new hy with rfl | ⟨hy, hny⟩
      · rfl
      · rw [GB.plus_lb hny, show (B.plus id ob lb).lb id = lb from upd_same _ _ _] at e
        exact absurd (.inr (.inr ⟨y, hy, .inr e⟩)) hl
    · rcases putO_new hy with rfl | ⟨hy, hny⟩
      · rw [GB.plus_lb hne, show (B.plus id ob lb).lb id = lb from upd_same _ _ _] at e
        exact absurd (.inr (.inr ⟨x, hx, .inr e.symm⟩)) hl
      · rw [GB.plus_lb hne, GB.plus_lb hny] at e
        exact h.lbI x hx y hy e
  lbm := fun x hx => by
    rcases putO_new hx with rfl | ⟨hx, hne⟩
    · rw [show (B.plus id ob lb).lb id = lb from upd_same _ _ _]
      exact fun e => hl (.inr (.inl e))
    · rw [GB.plus_lb hne]
      exact h.lbm x hx
  ids := fun x hx => by
    rcases putO_new hx with rfl | ⟨hx, hne⟩
    · exact hw
    · exact h.ids x hx
end
end Go.Proofs.YthifdofdoeaemaaGreatDoor.Wk
end
