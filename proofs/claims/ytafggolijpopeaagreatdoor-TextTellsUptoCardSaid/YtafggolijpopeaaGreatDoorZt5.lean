/-
  For every input whose arguments are together of bulk at most 1048576 TextTells of the package yardarmlaw returns true, and each of its arguments reads behind the call as it read before: the package variables that the row lists hold what the program lays; the walk reads none of them.
-/
import Derived.Shelf.Strings.Builder1
import Derived.Shelf.Strings.Builder2
import Derived.Shelf.Strings.OnBuilder
import Derived.Shelf.Small.Bits
import Derived.Shelf.Utf8.RuneCount
import Derived.Shelf.Strconv.Atoi
import Derived.Shelf.Strconv.Itoa0
import Derived.Shelf.Strconv.Itoa1
import Derived.Shelf.LaysM
import Derived.Shelf.Strconv.Itoa2
import Derived.Shelf.Strconv.Itoa3
import Derived.Shelf.Strconv.AtoiErrFast
import Derived.Shelf.Strconv.ParseIntEmpty
import Derived.Shelf.Strconv.AtoiFail
import Derived.Shelf.Strconv.Clone
import Derived.Shelf.Strconv.SyntaxError
import Derived.Shelf.LaysC
import Derived.Shelf.Strconv.ToError
import Derived.Shelf.Strconv.Lower
import Derived.Shelf.Strconv.ParseUint10
import Derived.Shelf.Strconv.ParseUint10Empty
import Derived.Shelf.Strconv.ParseUint10Any
import Derived.Shelf.Strconv.ParseInt10
import Derived.Shelf.Strconv.AtoiLong
import Derived.Shelf.Strconv.AtoiInnerAll
import Derived.Shelf.Strconv.RangeError
import Derived.Shelf.Strconv.ToErrorRange
import Derived.Shelf.Strconv.AtoiAll
import Derived.Ground.MpProg
import Derived.Shelf.Pu.ParseUintPublic10
import Derived.Shelf.Pu.ErrVarParseUint
import Derived.Shelf.Strings.Search1
import Derived.Shelf.Strings.Search2
import Derived.Shelf.Strings.Search3
import Derived.Shelf.Strings.Cut
import Derived.Shelf.Strings.Count
import Derived.Shelf.Strings.Shaped
import Derived.Shelf.Strings.Split
import Derived.Shelf.Strings.SplitShaped
import Derived.Shelf.Unicode.Decode
import Derived.Shelf.Strings.RuneCount
import Derived.Shelf.Strings.Explode
import Derived.Shelf.Unicode.DecodeSlow
import Derived.Shelf.Unicode.DecodeAny
import Derived.Test.YtafggolijpopeaaGreatDoorProg
import Derived.WalkKit
import Derived.ProofKit
import Derived.Laws.IdiomStrings
import Derived.Lib.AppendIntMem
import Derived.Lib.AtoiAllMem
import Derived.Laws.Strings3
import Derived.Laws.Closers25
import Derived.Laws.Closers25b
import Derived.BigCall
import Derived.BigGuard
import Derived.WalkLawsBesides
import Derived.RegionTactic
import Derived.ChangeAlike
import Derived.BigRegion
import Derived.Maps.OwnRows
import Derived.Maps.AppendAt
import Derived.Maps.GroupsBeside
import Derived.Deep.Onto
import Derived.Lib.AppendZerosOnto
import Derived.Laws.CopyRow
import Derived.Laws.AppendOwn
import Derived.Lib.Hide
import Derived.Defers
import Derived.Recover
import Derived.Laws.Pointers
import Derived.Shelf.Vars
import Derived.Lib.LaidTab
import Derived.LaidLaws
import Derived.MakeChecks
import Derived.Test.YtafggolijpopeaaGreatDoorCards
import Derived.Test.YtafggolijpopeaaGreatDoorTie
import Derived.OpenShut
import Derived.ShutString
import Derived.ChangeOld
import Derived.Below
import Derived.JoinedCond
import Derived.Deep.DeepHandedRow
import Derived.Test.YtafggolijpopeaaGreatDoorZt4
set_option linter.unusedVariables false
set_option linter.unusedSimpArgs false
namespace Go.Proofs
open Go.Shelf
def Tryz.lays156_ren : Go.Shelf.Ren := ⟨fun | 156 => 80 | 165 => 105 | 166 => 106 | 169 => 107 | 240 => 134 | 241 => 135 | 276 => 158 | 277 => 159 | n => n, fun | 31 => 74 | 9 => 9 | 3 => 3 | 4 => 4 | 0 => 0 | 20 => 20 | 72 => 137 | 76 => 100 | 70 => 135 | 37 => 72 | 75 => 99 | 127 => 167 | 164 => 190 | 5 => 5 | 80 => 139 | n => n, fun | n => n⟩
theorem Tryz.lays156 : Go.Proofs.Lays.n156 Tryz.prog Tryz.lays156_ren := {
 mixed := by kernel_rfl
 f156 := Tryz.func80.trans (congrArg some (by kernel_rfl))
 f165 := Tryz.func105.trans (congrArg some (by kernel_rfl))
 f166 := Tryz.func106.trans (congrArg some (by kernel_rfl))
 f169 := Tryz.func107.trans (congrArg some (by kernel_rfl))
 f240 := Tryz.func134.trans (congrArg some (by kernel_rfl))
 f241 := Tryz.func135.trans (congrArg some (by kernel_rfl))
 f276 := Tryz.func158.trans (congrArg some (by kernel_rfl))
 f277 := Tryz.func159.trans (congrArg some (by kernel_rfl))
 t0 := Tryz.underlying0
 a0 := Tryz.isAgg0
 z0 := Tryz.sizeOf0
 v0 := Tryz.zeroValue0
 t3 := Tryz.underlying3
 a3 := Tryz.isAgg3
 z3 := Tryz.sizeOf3
 v3 := Tryz.zeroValue3
 t4 := Tryz.underlying4
 a4 := Tryz.isAgg4
 z4 := Tryz.sizeOf4
 v4 := Tryz.zeroValue4
 t9 := Tryz.underlying9
 a9 := Tryz.isAgg9
 z9 := Tryz.sizeOf9
 v9 := Tryz.zeroValue9
 t20 := Tryz.underlying20
 a20 := Tryz.isAgg20
 z20 := Tryz.sizeOf20
 v20 := Tryz.zeroValue20
 t31 := Tryz.underlying74
 a31 := Tryz.isAgg74
 z31 := Tryz.sizeOf74
 v31 := Tryz.zeroValue74
 t37 := Tryz.underlying72
 a37 := Tryz.isAgg72
 z37 := Tryz.sizeOf72
 v37 := Tryz.zeroValue72
 t70 := Tryz.underlying135
 a70 := Tryz.isAgg135
 z70 := Tryz.sizeOf135
 v70 := Tryz.zeroValue135
 t72 := Tryz.underlying137
 a72 := Tryz.isAgg137
 z72 := Tryz.sizeOf137
 v72 := Tryz.zeroValue137
 t75 := Tryz.underlying99
 a75 := Tryz.isAgg99
 z75 := Tryz.sizeOf99
 v75 := Tryz.zeroValue99
 t76 := Tryz.underlying100
 a76 := Tryz.isAgg100
 z76 := Tryz.sizeOf100
 v76 := Tryz.zeroValue100
 t127 := Tryz.underlying167
 a127 := Tryz.isAgg167
 z127 := Tryz.sizeOf167
 v127 := Tryz.zeroValue167
 t164 := Tryz.underlying190
 a164 := Tryz.isAgg190
 z164 := Tryz.sizeOf190
 v164 := Tryz.zeroValue190 }
theorem Tryz.Builder_Extra_156 : Builder.Extra Tryz.prog Tryz.lays156_ren := {
 sizeBuilder := by kernel_rfl
 liesBuilder := by kernel_rfl
 t5 := Tryz.underlying5
 a5 := Tryz.isAgg5
 z5 := Tryz.sizeOf5
 v5 := Tryz.zeroValue5
 infoByte := by kernel_rfl
 cellsByte := by kernel_rfl
 sizeByte := by kernel_rfl
 neB5 := by decide }
open Go.RowKit in
theorem Tryz.strings_Join_none (a : Option Addr) (c : Nat) (sep : ByteArray) (w : World) :
  Calls Tryz.prog 80 #[.slice a 0 c, .string sep] w fun e w' => e = .returned (.string ⟨#[]⟩) ∧ w' = w := Any.strings_Join_none Tryz.lays156 Tryz.Builder_Extra_156 a c sep w
open Go.RowKit in
theorem Tryz.strings_Join (bk o c : Nat) (xs : List ByteArray) (sep : ByteArray) (w : World) (hcells : ∀ (j : Nat) x, xs[j]? = some x → w.cell? ⟨bk, o + j, none⟩ = some (.string x)) (hbk : bk < w.heap.size) (hN : xs.length ≤ 140737488355328) (hcap : xs.length ≤ c) (hlen : (Lib.join (xs.map (·.data.toList)) sep.data.toList).length ≤ 140737488355328) :
  Calls Tryz.prog 80 #[.slice (some ⟨bk, o, none⟩) xs.length c, .string sep] w fun e w' => e = .returned (.string ⟨(Lib.join (xs.map (·.data.toList)) sep.data.toList).toArray⟩) ∧ Below w.heap.size w w' := Any.strings_Join Tryz.lays156 Tryz.Builder_Extra_156 bk o c xs sep w hcells hbk hN hcap hlen
def Tryz.lays172_ren : Go.Shelf.Ren := ⟨fun | 172 => 72 | 244 => 101 | 245 => 102 | 247 => 129 | 279 => 130 | 280 => 131 | 281 => 132 | 282 => 133 | 287 => 155 | 316 => 156 | 171 => 69 | 205 => 157 | 321 => 180 | 322 => 181 | 243 => 95 | 246 => 122 | 283 => 148 | 284 => 149 | 285 => 150 | 286 => 151 | 129 => 176 | 317 => 175 | 318 => 177 | 319 => 178 | 320 => 179 | 337 => 194 | 338 => 195 | n => n, fun | 9 => 9 | 3 => 3 | 75 => 99 | 76 => 100 | 4 => 4 | 5 => 5 | 167 => 161 | 37 => 72 | 0 => 0 | 85 => 162 | 2 => 2 | 168 => 164 | 53 => 22 | 175 => 184 | 46 => 157 | 210 => 188 | 127 => 167 | 145 => 214 | 143 => 212 | 21 => 21 | 171 => 176 | 173 => 179 | 212 => 207 | 51 => 181 | 20 => 20 | 213 => 208 | 232 => 243 | 233 => 244 | 80 => 139 | n => n, fun | 15 => 2 | 16 => 3 | 17 => 4 | 18 => 7 | 19 => 8 | n => n⟩
theorem Tryz.lays172 : Go.Proofs.Lays.n172 Tryz.prog Tryz.lays172_ren := {
 mixed := by kernel_rfl
 f129 := Tryz.func176.trans (congrArg some (by kernel_rfl))
 f171 := Tryz.func69.trans (congrArg some (by kernel_rfl))
 f172 := Tryz.func72.trans (congrArg some (by kernel_rfl))
 f205 := Tryz.func157.trans (congrArg some (by kernel_rfl))
 f243 := Tryz.func95.trans (congrArg some (by kernel_rfl))
 f244 := Tryz.func101.trans (congrArg some (by kernel_rfl))
 f245 := Tryz.func102.trans (congrArg some (by kernel_rfl))
 f246 := Tryz.func122.trans (congrArg some (by kernel_rfl))
 f247 := Tryz.func129.trans (congrArg some (by kernel_rfl))
 f279 := Tryz.func130.trans (congrArg some (by kernel_rfl))
 f280 := Tryz.func131.trans (congrArg some (by kernel_rfl))
 f281 := Tryz.func132.trans (congrArg some (by kernel_rfl))
 f282 := Tryz.func133.trans (congrArg some (by kernel_rfl))
 f283 := Tryz.func148.trans (congrArg some (by kernel_rfl))
 f284 := Tryz.func149.trans (congrArg some (by kernel_rfl))
 f285 := Tryz.func150.trans (congrArg some (by kernel_rfl))
 f286 := Tryz.func151.trans (congrArg some (by kernel_rfl))
 f287 := Tryz.func155.trans (congrArg some (by kernel_rfl))
 f316 := Tryz.func156.trans (congrArg some (by kernel_rfl))
 f317 := Tryz.func175.trans (congrArg some (by kernel_rfl))
 f318 := Tryz.func177.trans (congrArg some (by kernel_rfl))
 f319 := Tryz.func178.trans (congrArg some (by kernel_rfl))
 f320 := Tryz.func179.trans (congrArg some (by kernel_rfl))
 f321 := Tryz.func180.trans (congrArg some (by kernel_rfl))
 f322 := Tryz.func181.trans (congrArg some (by kernel_rfl))
 f337 := Tryz.func194.trans (congrArg some (by kernel_rfl))
 f338 := Tryz.func195.trans (congrArg some (by kernel_rfl))
 t0 := Tryz.underlying0
 a0 := Tryz.isAgg0
 z0 := Tryz.sizeOf0
 v0 := Tryz.zeroValue0
 t2 := Tryz.underlying2
 a2 := Tryz.isAgg2
 z2 := Tryz.sizeOf2
 v2 := Tryz.zeroValue2
 t3 := Tryz.underlying3
 a3 := Tryz.isAgg3
 z3 := Tryz.sizeOf3
 v3 := Tryz.zeroValue3
 t4 := Tryz.underlying4
 a4 := Tryz.isAgg4
 z4 := Tryz.sizeOf4
 v4 := Tryz.zeroValue4
 t5 := Tryz.underlying5
 a5 := Tryz.isAgg5
 z5 := Tryz.sizeOf5
 v5 := Tryz.zeroValue5
 t9 := Tryz.underlying9
 a9 := Tryz.isAgg9
 z9 := Tryz.sizeOf9
 v9 := Tryz.zeroValue9
 t20 := Tryz.underlying20
 a20 := Tryz.isAgg20
 z20 := Tryz.sizeOf20
 v20 := Tryz.zeroValue20
 t21 := Tryz.underlying21
 a21 := Tryz.isAgg21
 z21 := Tryz.sizeOf21
 v21 := Tryz.zeroValue21
 t37 := Tryz.underlying72
 a37 := Tryz.isAgg72
 z37 := Tryz.sizeOf72
 v37 := Tryz.zeroValue72
 t46 := Tryz.underlying157
 a46 := Tryz.isAgg157
 z46 := Tryz.sizeOf157
 v46 := Tryz.zeroValue157
 t51 := Tryz.underlying181
 a51 := Tryz.isAgg181
 z51 := Tryz.sizeOf181
 v51 := Tryz.zeroValue181
 t53 := Tryz.underlying22
 a53 := Tryz.isAgg22
 z53 := Tryz.sizeOf22
 v53 := Tryz.zeroValue22
 t75 := Tryz.underlying99
 a75 := Tryz.isAgg99
 z75 := Tryz.sizeOf99
 v75 := Tryz.zeroValue99
 t76 := Tryz.underlying100
 a76 := Tryz.isAgg100
 z76 := Tryz.sizeOf100
 v76 := Tryz.zeroValue100
 t85 := Tryz.underlying162
 a85 := Tryz.isAgg162
 z85 := Tryz.sizeOf162
 v85 := Tryz.zeroValue162
 t127 := Tryz.underlying167
 a127 := Tryz.isAgg167
 z127 := Tryz.sizeOf167
 v127 := Tryz.zeroValue167
 t143 := Tryz.underlying212
 a143 := Tryz.isAgg212
 z143 := Tryz.sizeOf212
 v143 := Tryz.zeroValue212
 t145 := Tryz.underlying214
 a145 := Tryz.isAgg214
 z145 := Tryz.sizeOf214
 v145 := Tryz.zeroValue214
 t167 := Tryz.underlying161
 a167 := Tryz.isAgg161
 z167 := Tryz.sizeOf161
 v167 := Tryz.zeroValue161
 t168 := Tryz.underlying164
 a168 := Tryz.isAgg164
 z168 := Tryz.sizeOf164
 v168 := Tryz.zeroValue164
 t171 := Tryz.underlying176
 a171 := Tryz.isAgg176
 z171 := Tryz.sizeOf176
 v171 := Tryz.zeroValue176
 t173 := Tryz.underlying179
 a173 := Tryz.isAgg179
 z173 := Tryz.sizeOf179
 v173 := Tryz.zeroValue179
 t175 := Tryz.underlying184
 a175 := Tryz.isAgg184
 z175 := Tryz.sizeOf184
 v175 := Tryz.zeroValue184
 t210 := Tryz.underlying188
 a210 := Tryz.isAgg188
 z210 := Tryz.sizeOf188
 v210 := Tryz.zeroValue188
 t212 := Tryz.underlying207
 a212 := Tryz.isAgg207
 z212 := Tryz.sizeOf207
 v212 := Tryz.zeroValue207
 t213 := Tryz.underlying208
 a213 := Tryz.isAgg208
 z213 := Tryz.sizeOf208
 t232 := Tryz.underlying243
 a232 := Tryz.isAgg243
 z232 := Tryz.sizeOf243
 v232 := Tryz.zeroValue243
 t233 := Tryz.underlying244
 a233 := Tryz.isAgg244
 z233 := Tryz.sizeOf244
 v233 := Tryz.zeroValue244
 g15 := by kernel_rfl
 g16 := by kernel_rfl
 g17 := by kernel_rfl
 g18 := by kernel_rfl
 g19 := by kernel_rfl }
open Go.RowKit in
theorem Tryz.strconv_Atoi (s : ByteArray) (n : Int) (hl : s.size ≤ 18) (h : Lib.atoi s.data.toList = some n) (w : World) :
  Calls Tryz.prog 72 #[.string s] w fun e w' => e = .returned (.tuple #[.int .i64 n, .nilIface]) ∧ ∃ t, w' = Lib.bytesWorld w 5 t := Any.strconv_Atoi Tryz.lays172 s n hl h w
def Tryz.lays283_ren : Go.Shelf.Ren := ⟨fun | 283 => 148 | n => n, fun | 3 => 3 | 9 => 9 | 4 => 4 | n => n, fun | n => n⟩
theorem Tryz.lays283 : Go.Proofs.Lays.n283 Tryz.prog Tryz.lays283_ren := {
 mixed := by kernel_rfl
 f283 := Tryz.func148.trans (congrArg some (by kernel_rfl))
 t3 := Tryz.underlying3
 a3 := Tryz.isAgg3
 z3 := Tryz.sizeOf3
 v3 := Tryz.zeroValue3
 t4 := Tryz.underlying4
 a4 := Tryz.isAgg4
 z4 := Tryz.sizeOf4
 v4 := Tryz.zeroValue4
 t9 := Tryz.underlying9
 a9 := Tryz.isAgg9
 z9 := Tryz.sizeOf9
 v9 := Tryz.zeroValue9 }
open Go.Lib in
theorem Tryz.internal_strconv_small (i : Nat) (h : i < 100) (w : World) :
  Calls Tryz.prog 148 #[.int .i64 i] w fun e w' => e = .returned (.string ⟨(Lib.decDigits i).toArray⟩) ∧ w' = w := Any.internal_strconv_small Tryz.lays283 i h w
def Tryz.laysM284_ren : Go.Shelf.Ren := ⟨fun | 284 => 149 | 129 => 176 | 317 => 175 | 318 => 177 | n => n, fun | 53 => 22 | 3 => 3 | 212 => 207 | 0 => 0 | 4 => 4 | 46 => 157 | 5 => 5 | 9 => 9 | n => n, fun | 17 => 4 | n => n⟩
theorem Tryz.laysM284 : Go.Proofs.LaysM.n284 Tryz.prog Tryz.laysM284_ren := {
 mixed := by kernel_rfl
 f129 := Tryz.func176.trans (congrArg some (by kernel_rfl))
 f284 := Tryz.func149.trans (congrArg some (by kernel_rfl))
 f317 := Tryz.func175.trans (congrArg some (by kernel_rfl))
 f318 := Tryz.func177.trans (congrArg some (by kernel_rfl))
 t0 := Tryz.underlying0
 a0 := Tryz.isAgg0
 z0 := Tryz.sizeOf0
 v0 := Tryz.zeroValue0
 t3 := Tryz.underlying3
 a3 := Tryz.isAgg3
 z3 := Tryz.sizeOf3
 v3 := Tryz.zeroValue3
 t4 := Tryz.underlying4
 a4 := Tryz.isAgg4
 z4 := Tryz.sizeOf4
 v4 := Tryz.zeroValue4
 t5 := Tryz.underlying5
 a5 := Tryz.isAgg5
 z5 := Tryz.sizeOf5
 v5 := Tryz.zeroValue5
 t9 := Tryz.underlying9
 a9 := Tryz.isAgg9
 z9 := Tryz.sizeOf9
 v9 := Tryz.zeroValue9
 t46 := Tryz.underlying157
 a46 := Tryz.isAgg157
 z46 := Tryz.sizeOf157
 v46 := Tryz.zeroValue157
 t53 := Tryz.underlying22
 a53 := Tryz.isAgg22
 z53 := Tryz.sizeOf22
 v53 := Tryz.zeroValue22
 t212 := Tryz.underlying207
 a212 := Tryz.isAgg207
 z212 := Tryz.sizeOf207
 v212 := Tryz.zeroValue207
 g17 := by kernel_rfl
 i0 := by kernel_rfl
 i3 := by kernel_rfl
 i4 := by kernel_rfl
 i5 := by kernel_rfl
 i9 := by kernel_rfl
 i46 := by kernel_rfl
 i53 := by kernel_rfl
 i212 := by kernel_rfl
 m17 := by kernel_rfl }
open Go.Lib in
theorem Tryz.internal_strconv_numDigits (u : Nat) (h1 : 1 ≤ u) (h2 : u < 18446744073709551616) (w : World) (htab : Lib.TabIs Tryz.prog w "internal/strconv.uint64pow10" .u64 Lib.pow10Tab) :
  Calls Tryz.prog 149 #[.int .u64 u] w fun e w' => e = .returned (.int .i64 (Lib.nDigits u)) ∧ w' = w := Any.internal_strconv_numDigits Tryz.laysM284 u h1 h2 w htab
def Tryz.lays285_ren : Go.Shelf.Ren := ⟨fun | 285 => 150 | n => n, fun | 37 => 72 | 53 => 22 | 3 => 3 | 4 => 4 | 51 => 181 | 9 => 9 | 5 => 5 | 0 => 0 | n => n, fun | n => n⟩
theorem Tryz.lays285 : Go.Proofs.Lays.n285 Tryz.prog Tryz.lays285_ren := {
 mixed := by kernel_rfl
 f285 := Tryz.func150.trans (congrArg some (by kernel_rfl))
 t0 := Tryz.underlying0
 a0 := Tryz.isAgg0
 z0 := Tryz.sizeOf0
 v0 := Tryz.zeroValue0
 t3 := Tryz.underlying3
 a3 := Tryz.isAgg3
 z3 := Tryz.sizeOf3
 v3 := Tryz.zeroValue3
 t4 := Tryz.underlying4
 a4 := Tryz.isAgg4
 z4 := Tryz.sizeOf4
 v4 := Tryz.zeroValue4
 t5 := Tryz.underlying5
 a5 := Tryz.isAgg5
 z5 := Tryz.sizeOf5
 v5 := Tryz.zeroValue5
 t9 := Tryz.underlying9
 a9 := Tryz.isAgg9
 z9 := Tryz.sizeOf9
 v9 := Tryz.zeroValue9
 t37 := Tryz.underlying72
 a37 := Tryz.isAgg72
 z37 := Tryz.sizeOf72
 v37 := Tryz.zeroValue72
 t51 := Tryz.underlying181
 a51 := Tryz.isAgg181
 z51 := Tryz.sizeOf181
 v51 := Tryz.zeroValue181
 t53 := Tryz.underlying22
 a53 := Tryz.isAgg22
 z53 := Tryz.sizeOf22
 v53 := Tryz.zeroValue22 }
open Go.RowKit Go.Sort Go.Lib in
theorem Tryz.internal_strconv_formatBase10 (blk off cap : Nat) (u : Nat) (d : Array UInt8) (w : World) (hH : Holds (fun (b : UInt8) => Value.int .u8 (b.toNat : Int)) w blk off d) (hu : u < 10 ^ d.size) (hu64 : u < 18446744073709551616) (hsz : d.size < 4611686018427387904) :
  Calls Tryz.prog 150 #[.slice (some ⟨blk, off, none⟩) d.size cap, .int .u64 u] w fun e w' =>
   e = .returned (.tuple #[]) ∧ ∃ (n v' : Nat) (dk : Array UInt8), w' = (putRow (fun (b : UInt8) => Value.int .u8 (b.toNat : Int)) w blk off dk).drewN n ∧ FmtInv d.size u 0 v' dk := Any.internal_strconv_formatBase10 Tryz.lays285 blk off cap u d w hH hu hu64 hsz
def Tryz.laysM171_ren : Go.Shelf.Ren := ⟨fun | 171 => 69 | 243 => 95 | 246 => 122 | 283 => 148 | 284 => 149 | 285 => 150 | 286 => 151 | 129 => 176 | 317 => 175 | 318 => 177 | 319 => 178 | 320 => 179 | 337 => 194 | 338 => 195 | n => n, fun | 3 => 3 | 9 => 9 | 2 => 2 | 4 => 4 | 171 => 176 | 0 => 0 | 53 => 22 | 37 => 72 | 5 => 5 | 173 => 179 | 212 => 207 | 51 => 181 | 20 => 20 | 213 => 208 | 46 => 157 | 232 => 243 | 233 => 244 | n => n, fun | 17 => 4 | 18 => 7 | 19 => 8 | n => n⟩
theorem Tryz.laysM171 : Go.Proofs.LaysM.n171 Tryz.prog Tryz.laysM171_ren := {
 mixed := by kernel_rfl
 f129 := Tryz.func176.trans (congrArg some (by kernel_rfl))
 f171 := Tryz.func69.trans (congrArg some (by kernel_rfl))
 f243 := Tryz.func95.trans (congrArg some (by kernel_rfl))
 f246 := Tryz.func122.trans (congrArg some (by kernel_rfl))
 f283 := Tryz.func148.trans (congrArg some (by kernel_rfl))
 f284 := Tryz.func149.trans (congrArg some (by kernel_rfl))
 f285 := Tryz.func150.trans (congrArg some (by kernel_rfl))
 f286 := Tryz.func151.trans (congrArg some (by kernel_rfl))
 f317 := Tryz.func175.trans (congrArg some (by kernel_rfl))
 f318 := Tryz.func177.trans (congrArg some (by kernel_rfl))
 f319 := Tryz.func178.trans (congrArg some (by kernel_rfl))
 f320 := Tryz.func179.trans (congrArg some (by kernel_rfl))
 f337 := Tryz.func194.trans (congrArg some (by kernel_rfl))
 f338 := Tryz.func195.trans (congrArg some (by kernel_rfl))
 t0 := Tryz.underlying0
 a0 := Tryz.isAgg0
 z0 := Tryz.sizeOf0
 v0 := Tryz.zeroValue0
 t2 := Tryz.underlying2
 a2 := Tryz.isAgg2
 z2 := Tryz.sizeOf2
 v2 := Tryz.zeroValue2
 t3 := Tryz.underlying3
 a3 := Tryz.isAgg3
 z3 := Tryz.sizeOf3
 v3 := Tryz.zeroValue3
 t4 := Tryz.underlying4
 a4 := Tryz.isAgg4
 z4 := Tryz.sizeOf4
 v4 := Tryz.zeroValue4
 t5 := Tryz.underlying5
 a5 := Tryz.isAgg5
 z5 := Tryz.sizeOf5
 v5 := Tryz.zeroValue5
 t9 := Tryz.underlying9
 a9 := Tryz.isAgg9
 z9 := Tryz.sizeOf9
 v9 := Tryz.zeroValue9
 t20 := Tryz.underlying20
 a20 := Tryz.isAgg20
 z20 := Tryz.sizeOf20
 v20 := Tryz.zeroValue20
 t37 := Tryz.underlying72
 a37 := Tryz.isAgg72
 z37 := Tryz.sizeOf72
 v37 := Tryz.zeroValue72
 t46 := Tryz.underlying157
 a46 := Tryz.isAgg157
 z46 := Tryz.sizeOf157
 v46 := Tryz.zeroValue157
 t51 := Tryz.underlying181
 a51 := Tryz.isAgg181
 z51 := Tryz.sizeOf181
 v51 := Tryz.zeroValue181
 t53 := Tryz.underlying22
 a53 := Tryz.isAgg22
 z53 := Tryz.sizeOf22
 v53 := Tryz.zeroValue22
 t171 := Tryz.underlying176
 a171 := Tryz.isAgg176
 z171 := Tryz.sizeOf176
 v171 := Tryz.zeroValue176
 t173 := Tryz.underlying179
 a173 := Tryz.isAgg179
 z173 := Tryz.sizeOf179
 v173 := Tryz.zeroValue179
 t212 := Tryz.underlying207
 a212 := Tryz.isAgg207
 z212 := Tryz.sizeOf207
 v212 := Tryz.zeroValue207
 t213 := Tryz.underlying208
 a213 := Tryz.isAgg208
 z213 := Tryz.sizeOf208
 t232 := Tryz.underlying243
 a232 := Tryz.isAgg243
 z232 := Tryz.sizeOf243
 v232 := Tryz.zeroValue243
 t233 := Tryz.underlying244
 a233 := Tryz.isAgg244
 z233 := Tryz.sizeOf244
 v233 := Tryz.zeroValue244
 g17 := by kernel_rfl
 g18 := by kernel_rfl
 g19 := by kernel_rfl
 i0 := by kernel_rfl
 i2 := by kernel_rfl
 i3 := by kernel_rfl
 i4 := by kernel_rfl
 i5 := by kernel_rfl
 i9 := by kernel_rfl
 i20 := by kernel_rfl
 i37 := by kernel_rfl
 i46 := by kernel_rfl
 i51 := by kernel_rfl
 i53 := by kernel_rfl
 i171 := by kernel_rfl
 i173 := by kernel_rfl
 i212 := by kernel_rfl
 i232 := by kernel_rfl
 i233 := by kernel_rfl
 m17 := by kernel_rfl
 m18 := by kernel_rfl
 m19 := by kernel_rfl }
open Go.RowKit Go.Sort Go.Lib in
theorem Tryz.strconv_Itoa (n : Int) (h0 : -9223372036854775808 ≤ n) (h1 : n ≤ 9223372036854775807) (w : World) (htab : Lib.TabIs Tryz.prog w "internal/strconv.uint64pow10" .u64 Lib.pow10Tab) :
  Calls Tryz.prog 69 #[.int .i64 n] w fun e w' => e = .returned (.string ⟨(Lib.itoa n).toArray⟩) ∧ ∃ k os, w' = grow (w.drewN k) os := Any.strconv_Itoa Tryz.laysM171 n h0 h1 w htab
def Tryz.laysC172_ren : Go.Shelf.Ren := ⟨fun | 172 => 72 | 244 => 101 | 245 => 102 | 247 => 129 | 279 => 130 | 280 => 131 | 281 => 132 | 282 => 133 | 287 => 155 | 316 => 156 | 171 => 69 | 205 => 157 | 321 => 180 | 322 => 181 | 243 => 95 | 246 => 122 | 283 => 148 | 284 => 149 | 285 => 150 | 286 => 151 | 129 => 176 | 317 => 175 | 318 => 177 | 319 => 178 | 320 => 179 | 337 => 194 | 338 => 195 | n => n, fun | 9 => 9 | 3 => 3 | 75 => 99 | 76 => 100 | 4 => 4 | 5 => 5 | 167 => 161 | 37 => 72 | 0 => 0 | 85 => 162 | 2 => 2 | 168 => 164 | 53 => 22 | 175 => 184 | 46 => 157 | 210 => 188 | 127 => 167 | 145 => 214 | 143 => 212 | 21 => 21 | 171 => 176 | 173 => 179 | 212 => 207 | 51 => 181 | 20 => 20 | 213 => 208 | 232 => 243 | 233 => 244 | 80 => 139 | n => n, fun | 15 => 2 | 16 => 3 | 17 => 4 | 18 => 7 | 19 => 8 | n => n⟩
theorem Tryz.laysC172 : Go.Proofs.LaysC.n172 Tryz.prog Tryz.laysC172_ren := {
 mixed := by kernel_rfl
 f129 := Tryz.func176.trans (congrArg some (by kernel_rfl))
 f171 := Tryz.func69.trans (congrArg some (by kernel_rfl))
 f172 := Tryz.func72.trans (congrArg some (by kernel_rfl))
 f205 := Tryz.func157.trans (congrArg some (by kernel_rfl))
 f243 := Tryz.func95.trans (congrArg some (by kernel_rfl))
 f244 := Tryz.func101.trans (congrArg some (by kernel_rfl))
 f245 := Tryz.func102.trans (congrArg some (by kernel_rfl))
 f246 := Tryz.func122.trans (congrArg some (by kernel_rfl))
 f247 := Tryz.func129.trans (congrArg some (by kernel_rfl))
 f279 := Tryz.func130.trans (congrArg some (by kernel_rfl))
 f280 := Tryz.func131.trans (congrArg some (by kernel_rfl))
 f281 := Tryz.func132.trans (congrArg some (by kernel_rfl))
 f282 := Tryz.func133.trans (congrArg some (by kernel_rfl))
 f283 := Tryz.func148.trans (congrArg some (by kernel_rfl))
 f284 := Tryz.func149.trans (congrArg some (by kernel_rfl))
 f285 := Tryz.func150.trans (congrArg some (by kernel_rfl))
 f286 := Tryz.func151.trans (congrArg some (by kernel_rfl))
 f287 := Tryz.func155.trans (congrArg some (by kernel_rfl))
 f316 := Tryz.func156.trans (congrArg some (by kernel_rfl))
 f317 := Tryz.func175.trans (congrArg some (by kernel_rfl))
 f318 := Tryz.func177.trans (congrArg some (by kernel_rfl))
 f319 := Tryz.func178.trans (congrArg some (by kernel_rfl))
 f320 := Tryz.func179.trans (congrArg some (by kernel_rfl))
 f321 := Tryz.func180.trans (congrArg some (by kernel_rfl))
 f322 := Tryz.func181.trans (congrArg some (by kernel_rfl))
 f337 := Tryz.func194.trans (congrArg some (by kernel_rfl))
 f338 := Tryz.func195.trans (congrArg some (by kernel_rfl))
 t0 := Tryz.underlying0
 a0 := Tryz.isAgg0
 z0 := Tryz.sizeOf0
 v0 := Tryz.zeroValue0
 t2 := Tryz.underlying2
 a2 := Tryz.isAgg2
 z2 := Tryz.sizeOf2
 v2 := Tryz.zeroValue2
 t3 := Tryz.underlying3
 a3 := Tryz.isAgg3
 z3 := Tryz.sizeOf3
 v3 := Tryz.zeroValue3
 t4 := Tryz.underlying4
 a4 := Tryz.isAgg4
 z4 := Tryz.sizeOf4
 v4 := Tryz.zeroValue4
 t5 := Tryz.underlying5
 a5 := Tryz.isAgg5
 z5 := Tryz.sizeOf5
 v5 := Tryz.zeroValue5
 t9 := Tryz.underlying9
 a9 := Tryz.isAgg9
 z9 := Tryz.sizeOf9
 v9 := Tryz.zeroValue9
 t20 := Tryz.underlying20
 a20 := Tryz.isAgg20
 z20 := Tryz.sizeOf20
 v20 := Tryz.zeroValue20
 t21 := Tryz.underlying21
 a21 := Tryz.isAgg21
 z21 := Tryz.sizeOf21
 v21 := Tryz.zeroValue21
 t37 := Tryz.underlying72
 a37 := Tryz.isAgg72
 z37 := Tryz.sizeOf72
 v37 := Tryz.zeroValue72
 t46 := Tryz.underlying157
 a46 := Tryz.isAgg157
 z46 := Tryz.sizeOf157
 v46 := Tryz.zeroValue157
 t51 := Tryz.underlying181
 a51 := Tryz.isAgg181
 z51 := Tryz.sizeOf181
 v51 := Tryz.zeroValue181
 t53 := Tryz.underlying22
 a53 := Tryz.isAgg22
 z53 := Tryz.sizeOf22
 v53 := Tryz.zeroValue22
 t75 := Tryz.underlying99
 a75 := Tryz.isAgg99
 z75 := Tryz.sizeOf99
 v75 := Tryz.zeroValue99
 t76 := Tryz.underlying100
 a76 := Tryz.isAgg100
 z76 := Tryz.sizeOf100
 v76 := Tryz.zeroValue100
 t85 := Tryz.underlying162
 a85 := Tryz.isAgg162
 z85 := Tryz.sizeOf162
 v85 := Tryz.zeroValue162
 t127 := Tryz.underlying167
 a127 := Tryz.isAgg167
 z127 := Tryz.sizeOf167
 v127 := Tryz.zeroValue167
 t143 := Tryz.underlying212
 a143 := Tryz.isAgg212
 z143 := Tryz.sizeOf212
 v143 := Tryz.zeroValue212
 t145 := Tryz.underlying214
 a145 := Tryz.isAgg214
 z145 := Tryz.sizeOf214
 v145 := Tryz.zeroValue214
 t167 := Tryz.underlying161
 a167 := Tryz.isAgg161
 z167 := Tryz.sizeOf161
 v167 := Tryz.zeroValue161
 t168 := Tryz.underlying164
 a168 := Tryz.isAgg164
 z168 := Tryz.sizeOf164
 v168 := Tryz.zeroValue164
 t171 := Tryz.underlying176
 a171 := Tryz.isAgg176
 z171 := Tryz.sizeOf176
 v171 := Tryz.zeroValue176
 t173 := Tryz.underlying179
 a173 := Tryz.isAgg179
 z173 := Tryz.sizeOf179
 v173 := Tryz.zeroValue179
 t175 := Tryz.underlying184
 a175 := Tryz.isAgg184
 z175 := Tryz.sizeOf184
 v175 := Tryz.zeroValue184
 t210 := Tryz.underlying188
 a210 := Tryz.isAgg188
 z210 := Tryz.sizeOf188
 v210 := Tryz.zeroValue188
 t212 := Tryz.underlying207
 a212 := Tryz.isAgg207
 z212 := Tryz.sizeOf207
 v212 := Tryz.zeroValue207
 t213 := Tryz.underlying208
 a213 := Tryz.isAgg208
 z213 := Tryz.sizeOf208
 t232 := Tryz.underlying243
 a232 := Tryz.isAgg243
 z232 := Tryz.sizeOf243
 v232 := Tryz.zeroValue243
 t233 := Tryz.underlying244
 a233 := Tryz.isAgg244
 z233 := Tryz.sizeOf244
 v233 := Tryz.zeroValue244
 g15 := by kernel_rfl
 g16 := by kernel_rfl
 g17 := by kernel_rfl
 g18 := by kernel_rfl
 g19 := by kernel_rfl
 t80 := Tryz.underlying139
 a80 := Tryz.isAgg139
 z80 := Tryz.sizeOf139
 v80 := Tryz.zeroValue139
 i0 := by kernel_rfl
 i2 := by kernel_rfl
 i3 := by kernel_rfl
 i4 := by kernel_rfl
 i5 := by kernel_rfl
 i9 := by kernel_rfl
 i20 := by kernel_rfl
 i21 := by kernel_rfl
 i37 := by kernel_rfl
 i46 := by kernel_rfl
 i51 := by kernel_rfl
 i53 := by kernel_rfl
 i75 := by kernel_rfl
 i76 := by kernel_rfl
 i80 := by kernel_rfl
 i85 := by kernel_rfl
 i127 := by kernel_rfl
 i143 := by kernel_rfl
 i145 := by kernel_rfl
 i167 := by kernel_rfl
 i168 := by kernel_rfl
 i171 := by kernel_rfl
 i173 := by kernel_rfl
 i175 := by kernel_rfl
 i210 := by kernel_rfl
 i212 := by kernel_rfl
 i232 := by kernel_rfl
 i233 := by kernel_rfl
 m15 := by kernel_rfl
 m16 := by kernel_rfl
 m17 := by kernel_rfl
 m18 := by kernel_rfl
 m19 := by kernel_rfl
 c0 := by kernel_rfl
 c2 := by kernel_rfl
 c3 := by kernel_rfl
 c4 := by kernel_rfl
 c5 := by kernel_rfl
 c9 := by kernel_rfl
 c20 := by kernel_rfl
 c21 := by kernel_rfl
 c37 := by kernel_rfl
 c46 := by kernel_rfl
 c51 := by kernel_rfl
 c53 := by kernel_rfl
 c75 := by kernel_rfl
 c76 := by kernel_rfl
 c80 := by kernel_rfl
 c85 := by kernel_rfl
 c127 := by kernel_rfl
 c143 := by kernel_rfl
 c145 := by kernel_rfl
 c167 := by kernel_rfl
 c168 := by kernel_rfl
 c171 := by kernel_rfl
 c173 := by kernel_rfl
 c175 := by kernel_rfl
 c210 := by kernel_rfl
 c212 := by kernel_rfl
 c213 := by kernel_rfl
 c232 := by kernel_rfl
 c233 := by kernel_rfl }
open Go.RowKit in
theorem Tryz.strconv_Atoi_ok (s : ByteArray) (hmax : s.size ≤ 9223372036854775806) (v : Int) (h : Lib.atoiAll s.data.toList = .ok v) (w : World) :
  Calls Tryz.prog 72 #[.string s] w fun e w' => e = .returned (.tuple #[.int .i64 v, .nilIface]) ∧ (w' = w ∨ ∃ t, w' = Lib.bytesWorld w 5 t) := Any.strconv_Atoi_ok Tryz.laysC172 s hmax v h w
open Go.RowKit in
theorem Tryz.strconv_Atoi_syntax (s : ByteArray) (hlim : s.size ≤ 281474976710656) (h : Lib.atoiAll s.data.toList = Lib.atoiAll []) (ev : Value) (w : World) (hv : w.cell? ⟨2, 0, none⟩ = some ev) (hev : ev = .nilIface ∨ ∃ te pe, ev = .iface te pe) :
  Calls Tryz.prog 72 #[.string s] w fun e w' => ∃ N, e = .returned (.tuple #[.int .i64 (0), .iface 164 (.pointer (some ⟨N, 0, none⟩))]) ∧ w.heap.size ≤ N ∧ w'.heap[N]? = some (.cells #[.string ⟨#[65, 116, 111, 105]⟩, .string s, ev] 188 (0, 0)) ∧ Below w.heap.size w w' := Any.strconv_Atoi_syntax Tryz.laysC172 s hlim h ev w hv hev
open Go.RowKit in
theorem Tryz.strconv_Atoi_range (s : ByteArray) (hlim : s.size ≤ 281474976710656) (h : Lib.atoiAll s.data.toList = .range) (ev : Value) (w : World) (hv : w.cell? ⟨3, 0, none⟩ = some ev) (hev : ev = .nilIface ∨ ∃ te pe, ev = .iface te pe) :
  Calls Tryz.prog 72 #[.string s] w fun e w' => ∃ N, e = .returned (.tuple #[.int .i64 (Lib.atoiSat s.data.toList), .iface 164 (.pointer (some ⟨N, 0, none⟩))]) ∧ w.heap.size ≤ N ∧ w'.heap[N]? = some (.cells #[.string ⟨#[65, 116, 111, 105]⟩, .string s, ev] 188 (0, 0)) ∧ Below w.heap.size w w' := Any.strconv_Atoi_range Tryz.laysC172 s hlim h ev w hv hev
def Tryz.laysPu14_ren : Go.Shelf.Ren := ⟨fun | 14 => 154 | 16 => 155 | 17 => 102 | 19 => 180 | 20 => 181 | 21 => 130 | 22 => 131 | 23 => 132 | 24 => 133 | 25 => 156 | 27 => 69 | 26 => 157 | 28 => 95 | 29 => 122 | 30 => 148 | 31 => 149 | 32 => 150 | 33 => 151 | 35 => 176 | 34 => 175 | 36 => 177 | 37 => 178 | 38 => 179 | 39 => 194 | 40 => 195 | n => n, fun | 9 => 9 | 3 => 3 | 22 => 22 | 24 => 99 | 25 => 184 | 4 => 4 | 34 => 161 | 5 => 5 | 36 => 157 | 37 => 72 | 0 => 0 | 39 => 164 | 21 => 21 | 44 => 188 | 47 => 167 | 50 => 214 | 48 => 212 | 2 => 2 | 52 => 176 | 55 => 179 | 59 => 207 | 60 => 181 | 20 => 20 | 61 => 208 | 65 => 243 | 66 => 244 | 67 => 139 | n => n, fun | 0 => 2 | 1 => 3 | 2 => 4 | 3 => 7 | 4 => 8 | n => n⟩
theorem Tryz.laysPu14 : Go.Proofs.LaysPu.n14 Tryz.prog Tryz.laysPu14_ren := {
 mixed := by kernel_rfl
 f14 := Tryz.func154.trans (congrArg some (by kernel_rfl))
 f16 := Tryz.func155.trans (congrArg some (by kernel_rfl))
 f17 := Tryz.func102.trans (congrArg some (by kernel_rfl))
 f19 := Tryz.func180.trans (congrArg some (by kernel_rfl))
 f20 := Tryz.func181.trans (congrArg some (by kernel_rfl))
 f21 := Tryz.func130.trans (congrArg some (by kernel_rfl))
 f22 := Tryz.func131.trans (congrArg some (by kernel_rfl))
 f23 := Tryz.func132.trans (congrArg some (by kernel_rfl))
 f24 := Tryz.func133.trans (congrArg some (by kernel_rfl))
 f25 := Tryz.func156.trans (congrArg some (by kernel_rfl))
 f26 := Tryz.func157.trans (congrArg some (by kernel_rfl))
 f27 := Tryz.func69.trans (congrArg some (by kernel_rfl))
 f28 := Tryz.func95.trans (congrArg some (by kernel_rfl))
 f29 := Tryz.func122.trans (congrArg some (by kernel_rfl))
 f30 := Tryz.func148.trans (congrArg some (by kernel_rfl))
 f31 := Tryz.func149.trans (congrArg some (by kernel_rfl))
 f32 := Tryz.func150.trans (congrArg some (by kernel_rfl))
 f33 := Tryz.func151.trans (congrArg some (by kernel_rfl))
 f34 := Tryz.func175.trans (congrArg some (by kernel_rfl))
 f35 := Tryz.func176.trans (congrArg some (by kernel_rfl))
 f36 := Tryz.func177.trans (congrArg some (by kernel_rfl))
 f37 := Tryz.func178.trans (congrArg some (by kernel_rfl))
 f38 := Tryz.func179.trans (congrArg some (by kernel_rfl))
 f39 := Tryz.func194.trans (congrArg some (by kernel_rfl))
 f40 := Tryz.func195.trans (congrArg some (by kernel_rfl))
 t0 := Tryz.underlying0
 a0 := Tryz.isAgg0
 z0 := Tryz.sizeOf0
 v0 := Tryz.zeroValue0
 i0 := by kernel_rfl
 t2 := Tryz.underlying2
 a2 := Tryz.isAgg2
 z2 := Tryz.sizeOf2
 v2 := Tryz.zeroValue2
 i2 := by kernel_rfl
 t3 := Tryz.underlying3
 a3 := Tryz.isAgg3
 z3 := Tryz.sizeOf3
 v3 := Tryz.zeroValue3
 i3 := by kernel_rfl
 t4 := Tryz.underlying4
 a4 := Tryz.isAgg4
 z4 := Tryz.sizeOf4
 v4 := Tryz.zeroValue4
 i4 := by kernel_rfl
 t5 := Tryz.underlying5
 a5 := Tryz.isAgg5
 z5 := Tryz.sizeOf5
 v5 := Tryz.zeroValue5
 i5 := by kernel_rfl
 t9 := Tryz.underlying9
 a9 := Tryz.isAgg9
 z9 := Tryz.sizeOf9
 v9 := Tryz.zeroValue9
 i9 := by kernel_rfl
 t20 := Tryz.underlying20
 a20 := Tryz.isAgg20
 z20 := Tryz.sizeOf20
 v20 := Tryz.zeroValue20
 i20 := by kernel_rfl
 t21 := Tryz.underlying21
 a21 := Tryz.isAgg21
 z21 := Tryz.sizeOf21
 v21 := Tryz.zeroValue21
 i21 := by kernel_rfl
 t22 := Tryz.underlying22
 a22 := Tryz.isAgg22
 z22 := Tryz.sizeOf22
 v22 := Tryz.zeroValue22
 i22 := by kernel_rfl
 t24 := Tryz.underlying99
 a24 := Tryz.isAgg99
 z24 := Tryz.sizeOf99
 v24 := Tryz.zeroValue99
 i24 := by kernel_rfl
 t25 := Tryz.underlying184
 a25 := Tryz.isAgg184
 z25 := Tryz.sizeOf184
 v25 := Tryz.zeroValue184
 i25 := by kernel_rfl
 t34 := Tryz.underlying161
 a34 := Tryz.isAgg161
 z34 := Tryz.sizeOf161
 v34 := Tryz.zeroValue161
 i34 := by kernel_rfl
 c34 := by kernel_rfl
 t36 := Tryz.underlying157
 a36 := Tryz.isAgg157
 z36 := Tryz.sizeOf157
 v36 := Tryz.zeroValue157
 i36 := by kernel_rfl
 t37 := Tryz.underlying72
 a37 := Tryz.isAgg72
 z37 := Tryz.sizeOf72
 v37 := Tryz.zeroValue72
 i37 := by kernel_rfl
 t39 := Tryz.underlying164
 a39 := Tryz.isAgg164
 z39 := Tryz.sizeOf164
 v39 := Tryz.zeroValue164
 i39 := by kernel_rfl
 t44 := Tryz.underlying188
 a44 := Tryz.isAgg188
 z44 := Tryz.sizeOf188
 v44 := Tryz.zeroValue188
 i44 := by kernel_rfl
 t47 := Tryz.underlying167
 a47 := Tryz.isAgg167
 z47 := Tryz.sizeOf167
 v47 := Tryz.zeroValue167
 i47 := by kernel_rfl
 t48 := Tryz.underlying212
 a48 := Tryz.isAgg212
 z48 := Tryz.sizeOf212
 v48 := Tryz.zeroValue212
 i48 := by kernel_rfl
 t50 := Tryz.underlying214
 a50 := Tryz.isAgg214
 z50 := Tryz.sizeOf214
 v50 := Tryz.zeroValue214
 i50 := by kernel_rfl
 t52 := Tryz.underlying176
 a52 := Tryz.isAgg176
 z52 := Tryz.sizeOf176
 v52 := Tryz.zeroValue176
 i52 := by kernel_rfl
 t55 := Tryz.underlying179
 a55 := Tryz.isAgg179
 z55 := Tryz.sizeOf179
 v55 := Tryz.zeroValue179
 i55 := by kernel_rfl
 t59 := Tryz.underlying207
 a59 := Tryz.isAgg207
 z59 := Tryz.sizeOf207
 v59 := Tryz.zeroValue207
 i59 := by kernel_rfl
 t60 := Tryz.underlying181
 a60 := Tryz.isAgg181
 z60 := Tryz.sizeOf181
 v60 := Tryz.zeroValue181
 i60 := by kernel_rfl
 t61 := Tryz.underlying208
 a61 := Tryz.isAgg208
 z61 := Tryz.sizeOf208
 t65 := Tryz.underlying243
 a65 := Tryz.isAgg243
 z65 := Tryz.sizeOf243
 v65 := Tryz.zeroValue243
 i65 := by kernel_rfl
 t66 := Tryz.underlying244
 a66 := Tryz.isAgg244
 z66 := Tryz.sizeOf244
 v66 := Tryz.zeroValue244
 i66 := by kernel_rfl
 t67 := Tryz.underlying139
 a67 := Tryz.isAgg139
 z67 := Tryz.sizeOf139
 v67 := Tryz.zeroValue139
 i67 := by kernel_rfl
 g0 := by kernel_rfl
 m0 := by kernel_rfl
 g1 := by kernel_rfl
 m1 := by kernel_rfl
 g2 := by kernel_rfl
 m2 := by kernel_rfl
 g3 := by kernel_rfl
 m3 := by kernel_rfl
 g4 := by kernel_rfl
 m4 := by kernel_rfl }
open Go.RowKit in
theorem Tryz.strconv_ParseUint_10_at32_ok (s : ByteArray) (hmax : s.size ≤ 9223372036854775806) (u : Nat) (h : Lib.parseUintB 32 s.data.toList = .ok u) (w : World) :
  Calls Tryz.prog 154 #[.string s, .int .i64 10, .int .i64 32] w fun e w' => e = .returned (.tuple #[.int .u64 u, .nilIface]) ∧ (w' = w ∨ w' = Lib.bytesWorld w 5 s) := Any.strconv_ParseUint_10_at32_ok Tryz.laysPu14 s hmax u h w
open Go.RowKit in
theorem Tryz.strconv_ParseUint_10_at32_syntax (s : ByteArray) (hlim : s.size ≤ 281474976710656) (h : Lib.parseUintB 32 s.data.toList = Lib.parseUintB 32 []) (ev : Value) (w : World) (hv : w.cell? ⟨2, 0, none⟩ = some ev) (hev : ev = .nilIface ∨ ∃ te pe, ev = .iface te pe) :
  Calls Tryz.prog 154 #[.string s, .int .i64 10, .int .i64 32] w fun e w' => ∃ N, e = .returned (.tuple #[.int .u64 0, .iface 164 (.pointer (some ⟨N, 0, none⟩))]) ∧ w.heap.size ≤ N ∧ w'.heap[N]? = some (.cells #[.string ⟨#[80, 97, 114, 115, 101, 85, 105, 110, 116]⟩, .string s, ev] 188 (0, 0)) ∧ Below w.heap.size w w' := Any.strconv_ParseUint_10_at32_syntax Tryz.laysPu14 s hlim h ev w hv hev
open Go.RowKit in
theorem Tryz.strconv_ParseUint_10_at32_range (s : ByteArray) (hlim : s.size ≤ 281474976710656) (h : Lib.parseUintB 32 s.data.toList = .range) (ev : Value) (w : World) (hv : w.cell? ⟨3, 0, none⟩ = some ev) (hev : ev = .nilIface ∨ ∃ te pe, ev = .iface te pe) :
  Calls Tryz.prog 154 #[.string s, .int .i64 10, .int .i64 32] w fun e w' => ∃ N, e = .returned (.tuple #[.int .u64 4294967295, .iface 164 (.pointer (some ⟨N, 0, none⟩))]) ∧ w.heap.size ≤ N ∧ w'.heap[N]? = some (.cells #[.string ⟨#[80, 97, 114, 115, 101, 85, 105, 110, 116]⟩, .string s, ev] 188 (0, 0)) ∧ Below w.heap.size w w' := Any.strconv_ParseUint_10_at32_range Tryz.laysPu14 s hlim h ev w hv hev
def Tryz.lays219_ren : Go.Shelf.Ren := ⟨fun | 219 => 96 | 217 => 123 | 225 => 124 | 224 => 125 | 267 => 126 | 266 => 152 | 314 => 153 | n => n, fun | 9 => 9 | 3 => 3 | 4 => 4 | 5 => 5 | 46 => 157 | 146 => 182 | 51 => 181 | n => n, fun | 1 => 1 | n => n⟩
theorem Tryz.lays219 : Go.Proofs.Lays.n219 Tryz.prog Tryz.lays219_ren := {
 mixed := by kernel_rfl
 f217 := Tryz.func123.trans (congrArg some (by kernel_rfl))
 f219 := Tryz.func96.trans (congrArg some (by kernel_rfl))
 f224 := Tryz.func125.trans (congrArg some (by kernel_rfl))
 f225 := Tryz.func124.trans (congrArg some (by kernel_rfl))
 f266 := Tryz.func152.trans (congrArg some (by kernel_rfl))
 f267 := Tryz.func126.trans (congrArg some (by kernel_rfl))
 f314 := Tryz.func153.trans (congrArg some (by kernel_rfl))
 t3 := Tryz.underlying3
 a3 := Tryz.isAgg3
 z3 := Tryz.sizeOf3
 v3 := Tryz.zeroValue3
 t4 := Tryz.underlying4
 a4 := Tryz.isAgg4
 z4 := Tryz.sizeOf4
 v4 := Tryz.zeroValue4
 t5 := Tryz.underlying5
 a5 := Tryz.isAgg5
 z5 := Tryz.sizeOf5
 v5 := Tryz.zeroValue5
 t9 := Tryz.underlying9
 a9 := Tryz.isAgg9
 z9 := Tryz.sizeOf9
 v9 := Tryz.zeroValue9
 t46 := Tryz.underlying157
 a46 := Tryz.isAgg157
 z46 := Tryz.sizeOf157
 v46 := Tryz.zeroValue157
 t51 := Tryz.underlying181
 a51 := Tryz.isAgg181
 z51 := Tryz.sizeOf181
 v51 := Tryz.zeroValue181
 t146 := Tryz.underlying182
 a146 := Tryz.isAgg182
 z146 := Tryz.sizeOf182
 v146 := Tryz.zeroValue182
 g1 := by kernel_rfl }
open Go.RowKit Go.Lib in
theorem Tryz.stringslite_Index_one (s : ByteArray) (c : UInt8) (w : World) :
  Calls Tryz.prog 96 #[.string s, .string ⟨#[c]⟩] w fun e w' => e = .returned (.int .i64 (Lib.indexByte s.data.toList c)) ∧ w' = w := Any.stringslite_Index_one Tryz.lays219 s c w
def Tryz.lays143_ren : Go.Shelf.Ren := ⟨fun | 143 => 110 | 219 => 96 | 217 => 123 | 225 => 124 | 224 => 125 | 267 => 126 | 266 => 152 | 314 => 153 | n => n, fun | 9 => 9 | 3 => 3 | 4 => 4 | 5 => 5 | 46 => 157 | 146 => 182 | 51 => 181 | n => n, fun | 1 => 1 | n => n⟩
theorem Tryz.lays143 : Go.Proofs.Lays.n143 Tryz.prog Tryz.lays143_ren := {
 mixed := by kernel_rfl
 f143 := Tryz.func110.trans (congrArg some (by kernel_rfl))
 f217 := Tryz.func123.trans (congrArg some (by kernel_rfl))
 f219 := Tryz.func96.trans (congrArg some (by kernel_rfl))
 f224 := Tryz.func125.trans (congrArg some (by kernel_rfl))
 f225 := Tryz.func124.trans (congrArg some (by kernel_rfl))
 f266 := Tryz.func152.trans (congrArg some (by kernel_rfl))
 f267 := Tryz.func126.trans (congrArg some (by kernel_rfl))
 f314 := Tryz.func153.trans (congrArg some (by kernel_rfl))
 t3 := Tryz.underlying3
 a3 := Tryz.isAgg3
 z3 := Tryz.sizeOf3
 v3 := Tryz.zeroValue3
 t4 := Tryz.underlying4
 a4 := Tryz.isAgg4
 z4 := Tryz.sizeOf4
 v4 := Tryz.zeroValue4
 t5 := Tryz.underlying5
 a5 := Tryz.isAgg5
 z5 := Tryz.sizeOf5
 v5 := Tryz.zeroValue5
 t9 := Tryz.underlying9
 a9 := Tryz.isAgg9
 z9 := Tryz.sizeOf9
 v9 := Tryz.zeroValue9
 t46 := Tryz.underlying157
 a46 := Tryz.isAgg157
 z46 := Tryz.sizeOf157
 v46 := Tryz.zeroValue157
 t51 := Tryz.underlying181
 a51 := Tryz.isAgg181
 z51 := Tryz.sizeOf181
 v51 := Tryz.zeroValue181
 t146 := Tryz.underlying182
 a146 := Tryz.isAgg182
 z146 := Tryz.sizeOf182
 v146 := Tryz.zeroValue182
 g1 := by kernel_rfl }
open Go.RowKit Go.Lib in
theorem Tryz.strings_Index_one (s : ByteArray) (c : UInt8) (w : World) :
  Calls Tryz.prog 110 #[.string s, .string ⟨#[c]⟩] w fun e w' => e = .returned (.int .i64 (Lib.indexByte s.data.toList c)) ∧ w' = w := Any.strings_Index_one Tryz.lays143 s c w
def Tryz.lays144_ren : Go.Shelf.Ren := ⟨fun | 144 => 98 | 143 => 110 | 219 => 96 | 217 => 123 | 225 => 124 | 224 => 125 | 267 => 126 | 266 => 152 | 314 => 153 | n => n, fun | 9 => 9 | 4 => 4 | 3 => 3 | 5 => 5 | 46 => 157 | 146 => 182 | 51 => 181 | n => n, fun | 1 => 1 | n => n⟩
theorem Tryz.lays144 : Go.Proofs.Lays.n144 Tryz.prog Tryz.lays144_ren := {
 mixed := by kernel_rfl
 f143 := Tryz.func110.trans (congrArg some (by kernel_rfl))
 f144 := Tryz.func98.trans (congrArg some (by kernel_rfl))
 f217 := Tryz.func123.trans (congrArg some (by kernel_rfl))
 f219 := Tryz.func96.trans (congrArg some (by kernel_rfl))
 f224 := Tryz.func125.trans (congrArg some (by kernel_rfl))
 f225 := Tryz.func124.trans (congrArg some (by kernel_rfl))
 f266 := Tryz.func152.trans (congrArg some (by kernel_rfl))
 f267 := Tryz.func126.trans (congrArg some (by kernel_rfl))
 f314 := Tryz.func153.trans (congrArg some (by kernel_rfl))
 t3 := Tryz.underlying3
 a3 := Tryz.isAgg3
 z3 := Tryz.sizeOf3
 v3 := Tryz.zeroValue3
 t4 := Tryz.underlying4
 a4 := Tryz.isAgg4
 z4 := Tryz.sizeOf4
 v4 := Tryz.zeroValue4
 t5 := Tryz.underlying5
 a5 := Tryz.isAgg5
 z5 := Tryz.sizeOf5
 v5 := Tryz.zeroValue5
 t9 := Tryz.underlying9
 a9 := Tryz.isAgg9
 z9 := Tryz.sizeOf9
 v9 := Tryz.zeroValue9
 t46 := Tryz.underlying157
 a46 := Tryz.isAgg157
 z46 := Tryz.sizeOf157
 v46 := Tryz.zeroValue157
 t51 := Tryz.underlying181
 a51 := Tryz.isAgg181
 z51 := Tryz.sizeOf181
 v51 := Tryz.zeroValue181
 t146 := Tryz.underlying182
 a146 := Tryz.isAgg182
 z146 := Tryz.sizeOf182
 v146 := Tryz.zeroValue182
 g1 := by kernel_rfl }
open Go.RowKit Go.Lib in
theorem Tryz.strings_Contains_one (s : ByteArray) (c : UInt8) (w : World) :
  Calls Tryz.prog 98 #[.string s, .string ⟨#[c]⟩] w fun e w' => e = .returned (.bool (decide (0 ≤ Lib.indexByte s.data.toList c))) ∧ w' = w := Any.strings_Contains_one Tryz.lays144 s c w
def Tryz.lays145_ren : Go.Shelf.Ren := ⟨fun | 145 => 31 | 220 => 70 | 219 => 96 | 217 => 123 | 225 => 124 | 224 => 125 | 267 => 126 | 266 => 152 | 314 => 153 | n => n, fun | 9 => 9 | 4 => 4 | 59 => 60 | 3 => 3 | 5 => 5 | 46 => 157 | 146 => 182 | 51 => 181 | n => n, fun | 1 => 1 | n => n⟩
theorem Tryz.lays145 : Go.Proofs.Lays.n145 Tryz.prog Tryz.lays145_ren := {
 mixed := by kernel_rfl
 f145 := Tryz.func31.trans (congrArg some (by kernel_rfl))
 f217 := Tryz.func123.trans (congrArg some (by kernel_rfl))
 f219 := Tryz.func96.trans (congrArg some (by kernel_rfl))
 f220 := Tryz.func70.trans (congrArg some (by kernel_rfl))
 f224 := Tryz.func125.trans (congrArg some (by kernel_rfl))
 f225 := Tryz.func124.trans (congrArg some (by kernel_rfl))
 f266 := Tryz.func152.trans (congrArg some (by kernel_rfl))
 f267 := Tryz.func126.trans (congrArg some (by kernel_rfl))
 f314 := Tryz.func153.trans (congrArg some (by kernel_rfl))
 t3 := Tryz.underlying3
 a3 := Tryz.isAgg3
 z3 := Tryz.sizeOf3
 v3 := Tryz.zeroValue3
 t4 := Tryz.underlying4
 a4 := Tryz.isAgg4
 z4 := Tryz.sizeOf4
 v4 := Tryz.zeroValue4
 t5 := Tryz.underlying5
 a5 := Tryz.isAgg5
 z5 := Tryz.sizeOf5
 v5 := Tryz.zeroValue5
 t9 := Tryz.underlying9
 a9 := Tryz.isAgg9
 z9 := Tryz.sizeOf9
 v9 := Tryz.zeroValue9
 t46 := Tryz.underlying157
 a46 := Tryz.isAgg157
 z46 := Tryz.sizeOf157
 v46 := Tryz.zeroValue157
 t51 := Tryz.underlying181
 a51 := Tryz.isAgg181
 z51 := Tryz.sizeOf181
 v51 := Tryz.zeroValue181
 t59 := Tryz.underlying60
 a59 := Tryz.isAgg60
 z59 := Tryz.sizeOf60
 v59 := Tryz.zeroValue60
 t146 := Tryz.underlying182
 a146 := Tryz.isAgg182
 z146 := Tryz.sizeOf182
 v146 := Tryz.zeroValue182
 g1 := by kernel_rfl }
open Go.RowKit Go.Lib in
theorem Tryz.strings_Cut (s sep : ByteArray) (m : Int) (w : World) (hs : s.size < 4294967281) (hm : w.cell? ⟨1, 0, none⟩ = some (.int .i64 m)) :
  Calls Tryz.prog 31 #[.string s, .string sep] w fun e w' => e = .returned (.tuple #[.string ⟨(Lib.cut s.data.toList sep.data.toList).1.toArray⟩, .string ⟨(Lib.cut s.data.toList sep.data.toList).2.1.toArray⟩, .bool (Lib.cut s.data.toList sep.data.toList).2.2]) ∧ ∃ n, w' = w.drewN n := Any.strings_Cut Tryz.lays145 s sep m w hs hm
def Tryz.lays138_ren : Go.Shelf.Ren := ⟨fun | 138 => 109 | 195 => 136 | 218 => 138 | 143 => 110 | 219 => 96 | 217 => 123 | 225 => 124 | 224 => 125 | 267 => 126 | 266 => 152 | 314 => 153 | n => n, fun | 9 => 9 | 3 => 3 | 4 => 4 | 5 => 5 | 0 => 0 | 46 => 157 | 146 => 182 | 51 => 181 | n => n, fun | 1 => 1 | n => n⟩
theorem Tryz.lays138 : Go.Proofs.Lays.n138 Tryz.prog Tryz.lays138_ren := {
 mixed := by kernel_rfl
 f138 := Tryz.func109.trans (congrArg some (by kernel_rfl))
 f143 := Tryz.func110.trans (congrArg some (by kernel_rfl))
 f195 := Tryz.func136.trans (congrArg some (by kernel_rfl))
 f217 := Tryz.func123.trans (congrArg some (by kernel_rfl))
 f218 := Tryz.func138.trans (congrArg some (by kernel_rfl))
 f219 := Tryz.func96.trans (congrArg some (by kernel_rfl))
 f224 := Tryz.func125.trans (congrArg some (by kernel_rfl))
 f225 := Tryz.func124.trans (congrArg some (by kernel_rfl))
 f266 := Tryz.func152.trans (congrArg some (by kernel_rfl))
 f267 := Tryz.func126.trans (congrArg some (by kernel_rfl))
 f314 := Tryz.func153.trans (congrArg some (by kernel_rfl))
 t0 := Tryz.underlying0
 a0 := Tryz.isAgg0
 z0 := Tryz.sizeOf0
 v0 := Tryz.zeroValue0
 t3 := Tryz.underlying3
 a3 := Tryz.isAgg3
 z3 := Tryz.sizeOf3
 v3 := Tryz.zeroValue3
 t4 := Tryz.underlying4
 a4 := Tryz.isAgg4
 z4 := Tryz.sizeOf4
 v4 := Tryz.zeroValue4
 t5 := Tryz.underlying5
 a5 := Tryz.isAgg5
 z5 := Tryz.sizeOf5
 v5 := Tryz.zeroValue5
 t9 := Tryz.underlying9
 a9 := Tryz.isAgg9
 z9 := Tryz.sizeOf9
 v9 := Tryz.zeroValue9
 t46 := Tryz.underlying157
 a46 := Tryz.isAgg157
 z46 := Tryz.sizeOf157
 v46 := Tryz.zeroValue157
 t51 := Tryz.underlying181
 a51 := Tryz.isAgg181
 z51 := Tryz.sizeOf181
 v51 := Tryz.zeroValue181
 t146 := Tryz.underlying182
 a146 := Tryz.isAgg182
 z146 := Tryz.sizeOf182
 v146 := Tryz.zeroValue182
 g1 := by kernel_rfl }
open Go.RowKit Go.Lib in
theorem Tryz.strings_Count_one (s : ByteArray) (c : UInt8) (w : World) :
  Calls Tryz.prog 109 #[.string s, .string ⟨#[c]⟩] w fun e w' => e = .returned (.int .i64 (Lib.countByte s.data.toList c)) ∧ w' = w := Any.strings_Count_one Tryz.lays138 s c w
def Tryz.lays146_ren : Go.Shelf.Ren := ⟨fun | 146 => 57 | 221 => 83 | 268 => 108 | 138 => 109 | 143 => 110 | 195 => 136 | 197 => 137 | 218 => 138 | 219 => 96 | 260 => 160 | 217 => 123 | 225 => 124 | 224 => 125 | 267 => 126 | 266 => 152 | 314 => 153 | n => n, fun | 9 => 9 | 31 => 74 | 3 => 3 | 4 => 4 | 0 => 0 | 105 => 168 | 21 => 21 | 5 => 5 | 46 => 157 | 119 => 215 | 139 => 218 | 138 => 217 | 146 => 182 | 51 => 181 | n => n, fun | 1 => 1 | 3 => 5 | 4 => 6 | n => n⟩
theorem Tryz.lays146 : Go.Proofs.Lays.n146 Tryz.prog Tryz.lays146_ren := {
 mixed := by kernel_rfl
 f138 := Tryz.func109.trans (congrArg some (by kernel_rfl))
 f143 := Tryz.func110.trans (congrArg some (by kernel_rfl))
 f146 := Tryz.func57.trans (congrArg some (by kernel_rfl))
 f195 := Tryz.func136.trans (congrArg some (by kernel_rfl))
 f197 := Tryz.func137.trans (congrArg some (by kernel_rfl))
 f217 := Tryz.func123.trans (congrArg some (by kernel_rfl))
 f218 := Tryz.func138.trans (congrArg some (by kernel_rfl))
 f219 := Tryz.func96.trans (congrArg some (by kernel_rfl))
 f221 := Tryz.func83.trans (congrArg some (by kernel_rfl))
 f224 := Tryz.func125.trans (congrArg some (by kernel_rfl))
 f225 := Tryz.func124.trans (congrArg some (by kernel_rfl))
 f260 := Tryz.func160.trans (congrArg some (by kernel_rfl))
 f266 := Tryz.func152.trans (congrArg some (by kernel_rfl))
 f267 := Tryz.func126.trans (congrArg some (by kernel_rfl))
 f268 := Tryz.func108.trans (congrArg some (by kernel_rfl))
 f314 := Tryz.func153.trans (congrArg some (by kernel_rfl))
 t0 := Tryz.underlying0
 a0 := Tryz.isAgg0
 z0 := Tryz.sizeOf0
 v0 := Tryz.zeroValue0
 t3 := Tryz.underlying3
 a3 := Tryz.isAgg3
 z3 := Tryz.sizeOf3
 v3 := Tryz.zeroValue3
 t4 := Tryz.underlying4
 a4 := Tryz.isAgg4
 z4 := Tryz.sizeOf4
 v4 := Tryz.zeroValue4
 t5 := Tryz.underlying5
 a5 := Tryz.isAgg5
 z5 := Tryz.sizeOf5
 v5 := Tryz.zeroValue5
 t9 := Tryz.underlying9
 a9 := Tryz.isAgg9
 z9 := Tryz.sizeOf9
 v9 := Tryz.zeroValue9
 t21 := Tryz.underlying21
 a21 := Tryz.isAgg21
 z21 := Tryz.sizeOf21
 v21 := Tryz.zeroValue21
 t31 := Tryz.underlying74
 a31 := Tryz.isAgg74
 z31 := Tryz.sizeOf74
 v31 := Tryz.zeroValue74
 t46 := Tryz.underlying157
 a46 := Tryz.isAgg157
 z46 := Tryz.sizeOf157
 v46 := Tryz.zeroValue157
 t51 := Tryz.underlying181
 a51 := Tryz.isAgg181
 z51 := Tryz.sizeOf181
 v51 := Tryz.zeroValue181
 t105 := Tryz.underlying168
 a105 := Tryz.isAgg168
 z105 := Tryz.sizeOf168
 v105 := Tryz.zeroValue168
 t119 := Tryz.underlying215
 a119 := Tryz.isAgg215
 z119 := Tryz.sizeOf215
 t138 := Tryz.underlying217
 a138 := Tryz.isAgg217
 z138 := Tryz.sizeOf217
 v138 := Tryz.zeroValue217
 t139 := Tryz.underlying218
 a139 := Tryz.isAgg218
 z139 := Tryz.sizeOf218
 v139 := Tryz.zeroValue218
 t146 := Tryz.underlying182
 a146 := Tryz.isAgg182
 z146 := Tryz.sizeOf182
 v146 := Tryz.zeroValue182
 g1 := by kernel_rfl
 g3 := by kernel_rfl
 g4 := by kernel_rfl }
end Go.Proofs
namespace Go.Proofs.YtafggolijpopeaaGreatDoor
open Go Go.Ma Go.RowKit Go.Proofs
theorem one_flat {P : Program} {f : FuncId} {ps : List PS} {k : K} {t : PsT ps → Option (PsT [PS.one (.fl k)])} (vals : PsT ps → List Value)
  (hv : ∀ x ρ, denL ρ (encA false ps x 0).1 = vals x) 
  (h : ∀ x y, t x = some (y, ()) → ∀ w, Glob P w → Calls P f (vals x).toArray w fun e w' => e = .returned (den (fun _ => Go.undef) (flV k y)) ∧ Below w.heap.size w w')
  (hr : ∀ (y : k.T), resR [PS.one (.fl k)] (flV k y) [] = some (y, ())) : TrOk P f (con ps [.one (.fl k)] t) :=
 con_of _ _ _ fun x y hx ρ us vs w hG hu => by
  obtain ⟨y1, u⟩ := y
  have hd := hu.den _ (gives_nameOf us)
  rw [hv x] at hd
  rw [← hd]
  refine (h x y1 hx w hG).mono ?_
  rintro e w' ⟨rfl, hb⟩
  exact ⟨fun _ => Go.undef, flV k y1, [], rfl, ⟨hb, fun j o h => by simp at h, fun i j o o' _ h => by simp at h, fun j o h => by simp at h⟩, hr y1⟩
theorem below_drewN (w : World) (n : Nat) : Below w.heap.size w (w.drewN n) := ⟨rfl, rfl, rfl, Nat.le_refl _, fun _ _ => rfl⟩
noncomputable def internal_stringslite_Index_con : Con := con [.one (.fl .str), .one (.fl .str)] [.one (.fl .int)] (fun x => zq5 x.1 x.2.1)
theorem internal_stringslite_Index_ok : TrOk Tryz.prog 96 internal_stringslite_Index_con :=
 one_flat (fun x => [.string x.1, .string x.2.1]) (fun _ _ => rfl) (fun x y hx w hG => by
  obtain ⟨s, sep, u⟩ := x
  unfold zq5 at hx
  simp only at hx
  split at hx
  ·rename_i c hc
   injection hx with hx
   injection hx with hx
   subst hx
   have hsep : sep = ⟨#[c]⟩ := by
    cases sep with | mk a => 
    have : a = #[c] := Array.toList_inj.1 hc
    rw [this]
   subst hsep
   refine (Go.Proofs.Tryz.stringslite_Index_one s c w).mono ?_
   rintro e w' ⟨rfl, rfl⟩
   exact ⟨rfl, Below.refl _ _⟩
  ·cases hx) (fun _ => rfl)
theorem tab_powB {w : World} (hG : Glob Tryz.prog w) : Lib.TabIs Tryz.prog w "internal/strconv.uint64pow10" .u64 Lib.pow10Tab := by
 have hg : Tryz.prog.globalNamed "internal/strconv.uint64pow10" = some 4 := by kernel_rfl
 obtain ⟨t, z, h⟩ := hG.pow _ hg
 have e : pow10s = Lib.pow10Tab := by decide +kernel
 unfold Lib.TabIs World.var?
 simp [hg, h, e]
theorem itoa_nat (i : Nat) : Lib.itoa (i : Int) = Lib.decDigits i := by
 unfold Lib.itoa
 rw [if_neg (by omega)]
 rfl
theorem itoa_walk (i : Nat) (hi : i < 9223372036854775808) (w : World) (hG : Glob Tryz.prog w) : Calls Tryz.prog 69 #[.int .i64 (i : Int)] w fun e w' => e = .returned (.string ⟨(Lib.decDigits i).toArray⟩) ∧ Below w.heap.size w w' := by
 refine (Go.Proofs.Tryz.strconv_Itoa (i : Int) (by omega) (by omega) w (tab_powB hG)).mono ?_
 rintro e w' ⟨rfl, k, os, rfl⟩
 exact ⟨by rw [itoa_nat], Lib.below_grow w.heap.size w (Nat.le_refl _) k os⟩
noncomputable def strconv_Itoa_con : Con := con [.one (.fl .int)] [.one (.fl .str)] (fun x => strconv_Itoa_t x.1)
theorem strconv_Itoa_ok : TrOk Tryz.prog 69 strconv_Itoa_con :=
 one_flat (fun x => [.int .i64 x.1]) (fun _ _ => rfl) (fun x y hx w hG => by
  obtain ⟨n, u⟩ := x
  unfold strconv_Itoa_t at hx
  obtain ⟨hq, hx⟩ := req_some hx
  simp only [Bool.and_eq_true, decide_eq_true_eq] at hq
  injection hx with hx
  injection hx with hx
  subst hx
  obtain ⟨i, rfl⟩ := Int.eq_ofNat_of_zero_le hq.1
  refine (itoa_walk i (by omega) w hG).mono ?_
  rintro e w' ⟨rfl, hb⟩
  exact ⟨rfl, hb⟩) (fun _ => rfl)
theorem str_den (ρ : Nat → Value) : ∀ l : List ByteArray, (List.flatMap (fun a => denL ρ (K.enc .str a)) (show List K.str.T from l)) = l.map Value.string
 | [] => rfl
 | a :: r => by
  show denL ρ (K.enc .str a) ++ List.flatMap (fun a => denL ρ (K.enc .str a)) (show List K.str.T from r) = _
  rw [str_den ρ r]
  rfl
noncomputable def strings_Join_con : Con := con [.one (.row .str 9), .one (.fl .str)] [.one (.fl .str)] (fun x => zq10 x.1 x.2.1)
theorem join_main (l : List ByteArray) (sep : ByteArray) (y : ByteArray × Unit) (hx : zq10 l sep = some y) (ρ : Nat → Value) (us vals : List Value) (w : World)
  (hu : ArgsOk w ρ 0 vals (encA false [.one (.row .str 9), .one (.fl .str)] (l, sep, ()) 0).1 (encA false [.one (.row .str 9), .one (.fl .str)] (l, sep, ()) 0).2 us) :
  Calls Tryz.prog 80 vals.toArray w fun e w' => ∃ ρc r m', e = .returned (den ρc r) ∧ RelM w ρc m' w' ∧ resR [.one (.fl .str)] r m' = some y := by
 have hg := gives_nameOf us
 have hlen := hu.len
 have hdenv := hu.den _ hg
 obtain ⟨v, rfl⟩ : ∃ v, us = [v] := by
  have hl1 : us.length = 1 := hlen
  match us, hl1 with
  | [v], _ => exact ⟨v, rfl⟩
 obtain ⟨hob, _⟩ := hu.obj w _ hg 0 (.row (.ty .str l) 9 false) v rfl rfl
 obtain ⟨_, _, hrow0⟩ := hob
 rw [if_neg (by simp)] at hrow0
 have hrow : RowIs w v l.length 1 (List.flatMap (fun a => denL (nameOf [v]) (K.enc .str a)) (show List K.str.T from l)) := hrow0
 rw [str_den] at hrow
 unfold zq10 at hx
 obtain ⟨hq, hx⟩ := req_some hx
 simp only [Bool.and_eq_true] at hq
 have q2 := Nat.le_of_ble_eq_true hq.1
 have q3 := Nat.le_of_ble_eq_true hq.2
 injection hx with hx
 subst hx
 obtain ⟨_, A, cap, hv, hn, hc, hA, hcells⟩ := hrow
 have hvals : vals = [.slice A l.length cap, .string sep] := hdenv.symm.trans (by rw [hv]; rfl)
 subst hvals
 by_cases hl0 : l = []
 ·subst hl0
  refine (Go.Proofs.Tryz.strings_Join_none A cap sep w).mono ?_
  rintro e w' ⟨rfl, rfl⟩
  exact ⟨fun _ => Go.undef, .s ⟨#[]⟩, [], rfl, ⟨Below.refl _ _, fun j o h => by simp at h, fun i j o o' _ h => by simp at h, fun j o h => by simp at h⟩, rfl⟩
 have q1 : 1 ≤ l.length := by
  cases l with
  | nil => exact absurd rfl hl0
  | cons x r => simp
 cases A with
 | none => have := hA rfl; omega
 | some a =>
  obtain ⟨hlt, hcl⟩ := hcells a rfl
  obtain ⟨blk, off, spot⟩ := a
  have hs : spot = none := by
   have h0 := hcl 0 (.string (l[0]'(by omega))) (by simp)
   rw [show Addr.add ⟨blk, off, spot⟩ 0 = ⟨blk, off, spot⟩ from rfl] at h0
   cases spot with
   | none => rfl
   | some q =>
    unfold World.cell? at h0
    split at h0
    ·simp at h0
    ·cases h0
  subst hs
  have hj := Go.Proofs.Tryz.strings_Join blk off cap l sep w (fun j x hx => by
   have := hcl j (.string x) (by simp [hx])
   rwa [Addr.add_lit] at this) (by first | exact hlt | exact hlt (by omega)) (by omega) hn (by omega)
  refine hj.mono ?_
  rintro e w' ⟨rfl, hb⟩
  refine ⟨fun _ => Go.undef, .s ⟨(Lib.join (l.map (·.data.toList)) sep.data.toList).toArray⟩, [], rfl, ?_, rfl⟩
  exact ⟨hb, fun j o h => by simp at h, fun i j o o' _ h => by simp at h, fun j o h => by simp at h⟩
theorem strings_Join_ok : TrOk Tryz.prog 80 strings_Join_con := con_of _ _ _ fun x y hx ρ us vals w _ hu => join_main x.1 x.2.1 y hx ρ us vals w hu
theorem info9 : (Tryz.prog.info? 9).map (fun i => (i.zero, i.size, i.bytes)) = some (some (.string ByteArray.empty), 1, 16) := by kernel_rfl
set_option maxHeartbeats 1000000 in
theorem split_one (s : ByteArray) (c : UInt8) (w : World) (hs : s.size < 4294967281) :
  Calls Tryz.prog 57 #[.string s, .string ⟨#[c]⟩] w fun e w' =>
   e = .returned (.slice (some ⟨w.heap.size, 0, none⟩) (Lib.countB s ⟨#[c]⟩ + 1) (Lib.countB s ⟨#[c]⟩ + 1)) ∧ w' = w.alloc (.cells ((Lib.splitB ⟨#[c]⟩ 0 (Lib.countB s ⟨#[c]⟩) s).map Value.string).toArray 9) := by
 have h1 : 1 ≤ (⟨#[c]⟩ : ByteArray).size := Nat.le_refl _
 have hle := Lib.countB_le ⟨#[c]⟩ h1 s.size s (Nat.le_refl _)
 have hlen := Lib.splitB_all ⟨#[c]⟩ h1 0 _ s rfl
 have c0 := Go.Proofs.Any.strings_genSplit_core { Go.Proofs.Tryz.lays146 with } info9 s ⟨#[c]⟩ 0 (-1) (Lib.countB s ⟨#[c]⟩ + 1) w hs h1 (Nat.zero_le _)
  (fun x cc hx => (Go.Proofs.Tryz.strings_Index_one x c _).mono fun e w' ⟨he, hw⟩ => ⟨by rw [he, ← Lib.index_one], hw⟩)
  ((Go.Proofs.Tryz.strings_Count_one s c w).mono fun e w' ⟨he, hw⟩ => ⟨by rw [he]; show _ = Ending.returned (Value.int .i64 ((Lib.count s.data.toList [c] : Nat) : Int)); rw [Lib.count_one]; rfl, hw⟩)
  (by decide) (by decide) (by rw [if_pos (by decide)]; omega)
 rw [Nat.add_sub_cancel, hlen] at c0
 have e2 : Lib.cellsOf (Lib.splitB ⟨#[c]⟩ 0 (Lib.countB s ⟨#[c]⟩) s) (Lib.countB s ⟨#[c]⟩ + 1) = ((Lib.splitB ⟨#[c]⟩ 0 (Lib.countB s ⟨#[c]⟩) s).map Value.string).toArray := by rw [← hlen]; exact Lib.cellsOf_full _
 rw [e2] at c0
 have HC : Hid (Calls Tryz.prog 83 #[.string s, .string ⟨#[c]⟩, .int .i64 0, .int .i64 (-1)] w fun e w' => e = .returned (.slice (some ⟨w.heap.size, 0, none⟩) (Lib.countB s ⟨#[c]⟩ + 1) (Lib.countB s ⟨#[c]⟩ + 1)) ∧ w' = w.alloc (.cells ((Lib.splitB ⟨#[c]⟩ 0 (Lib.countB s ⟨#[c]⟩) s).map Value.string).toArray 9)) := c0
 clear c0
 go_enter Tryz.func57, Tryz.ntmps57
 go_wp2_with (go_at_call 83; refine HC.out.mono ?_; rintro e w' ⟨rfl, hw⟩; rw [hw])
 go_ret
 exact ⟨rfl, rfl⟩
noncomputable def strings_Split_con : Con := con [.one (.fl .str), .one (.fl .str)] [.one (.row .str 9)] (fun x => strings_Split_t x.1 x.2.1)
theorem split_main (s sep : ByteArray) (y : List ByteArray × Unit) (hx : strings_Split_t s sep = some y) (ρ : Nat → Value) (us vals : List Value) (w : World)
  (hu : ArgsOk w ρ 0 vals (encA false [.one (.fl .str), .one (.fl .str)] (s, sep, ()) 0).1 (encA false [.one (.fl .str), .one (.fl .str)] (s, sep, ()) 0).2 us) :
  Calls Tryz.prog 57 vals.toArray w fun e w' => ∃ ρc r m', e = .returned (den ρc r) ∧ RelM w ρc m' w' ∧ resR [.one (.row .str 9)] r m' = some y := by
 have hdenv := hu.den _ (gives_nameOf us)
 have hvals : vals = [.string s, .string sep] := hdenv.symm
 subst hvals
 unfold strings_Split_t at hx
 obtain ⟨hq, hx⟩ := req_some hx
 simp only [Bool.and_eq_true] at hq
 have q1 := Nat.le_of_ble_eq_true hq.1
 obtain ⟨c, rfl⟩ := Lib.one_byte sep (Nat.eq_of_beq_eq_true hq.2)
 injection hx with hx
 subst hx
 have hlen := Lib.splitB_all ⟨#[c]⟩ (Nat.le_refl _) 0 _ s rfl
 have hle := Lib.countB_le ⟨#[c]⟩ (Nat.le_refl _) s.size s (Nat.le_refl _)
 refine (split_one s c w (by omega)).mono ?_
 rintro e w' ⟨rfl, rfl⟩
 generalize Lib.splitB ⟨#[c]⟩ 0 (Lib.countB s ⟨#[c]⟩) s = l at hlen ⊢
 rw [← hlen]
 have hn : w.heap[w.heap.size]? = none := by simp
 refine ⟨fun _ => .slice (some ⟨w.heap.size, 0, none⟩) l.length l.length, .row 0, [.row (.ty .str l) 9 true], by simp [den, sliceVal], ?_, rfl⟩
 refine ⟨(Below.refl _ w).alloc (Nat.le_refl _) _, fun j o hj => ?_, fun i j o o' hij hi hj => ?_, fun j o hj => ?_⟩
 ·cases j with
  | zero =>
   simp only [List.getElem?_cons_zero, Option.some.injEq] at hj
   subst hj
   refine ⟨(show 0 < K.sz .str by decide), fun u hu => ?_, ?_⟩
   ·exact flat_one _ .str _ u hu
   ·rw [if_pos rfl]
    have e1 : (C.ty K.str l).den (fun _ => Value.slice (some ⟨w.heap.size, 0, none⟩) l.length l.length) = l.map Value.string := str_den _ _
    rw [e1]
    refine ⟨by show (l.map Value.string).length = l.length * 1; simp, .inr ⟨w.heap.size, l.length, (l.map Value.string).toArray, rfl, Nat.le_refl _, heap_alloc_new w _, Nat.le_refl _, ?_, ?_, ?_⟩⟩
    ·unfold maxLen
     omega
    ·show (l.map Value.string).toArray.size = l.length * 1
     simp
    ·show (l.map Value.string).toArray.toList.take (l.length * 1) = l.map Value.string
     rw [Nat.mul_one, List.take_of_length_le (by simp)]
  | succ j => simp at hj
 ·have h1 := (List.getElem?_eq_some_iff.1 hi).1
  have h2 := (List.getElem?_eq_some_iff.1 hj).1
  simp at h1 h2
  omega
 ·cases j with
  | zero =>
   simp only [List.getElem?_cons_zero, Option.some.injEq] at hj
   subst hj
   rfl
  | succ j => simp at hj
theorem strings_Split_ok : TrOk Tryz.prog 57 strings_Split_con := con_of _ _ _ fun x y hx ρ us vals w _ hu => split_main x.1 x.2.1 y hx ρ us vals w hu
theorem below_bytes (w : World) (e : TypeId) (s : ByteArray) : Below w.heap.size w (Lib.bytesWorld w e s) := by
 refine ⟨?_, ?_, ?_, by rw [Lib.bytesWorld_size]; omega, fun j hj => Lib.bytesWorld_at_old w e s j hj⟩
 ·unfold Lib.bytesWorld World.freeze; rw [if_neg (by decide)]; rfl
 ·unfold Lib.bytesWorld World.freeze; rw [if_neg (by decide)]; rfl
 ·unfold Lib.bytesWorld World.freeze; rw [if_neg (by decide)]; rfl
theorem below_any (w : World) (e : TypeId) {w' : World} (h : ∃ t, w' = Lib.bytesWorld w e t) : Below w.heap.size w w' := by
 obtain ⟨t, rfl⟩ := h
 exact below_bytes w e t
end Go.Proofs.YtafggolijpopeaaGreatDoor
namespace Go.Proofs.YtafggolijpopeaaGreatDoor
open Go Go.Ma Go.RowKit Go.Proofs
theorem gErrS : Tryz.prog.globalNamed "strconv.ErrSyntax" = some 2 := by kernel_rfl
theorem gErrR : Tryz.prog.globalNamed "strconv.ErrRange" = some 3 := by kernel_rfl
def errV (te : Option TypeId) (pe : Value) : Value := match te with | none => .nilIface | some t => .iface t pe
theorem atoi_walk (s : ByteArray) (w : World) (hs : s.size ≤ 1073741824) (hG : Glob Tryz.prog w) : ∃ te : Option TypeId, (te = none ↔ ∃ v, Lib.atoiAll s.data.toList = .ok v) ∧
  Calls Tryz.prog 72 #[.string s] w fun e w' => (∃ pe, e = .returned (.tuple #[.int .i64 (digN s), errV te pe])) ∧ Below w.heap.size w w' := by
 cases ha : Lib.atoiAll s.data.toList with
 | ok v =>
  refine ⟨none, ⟨fun _ => ⟨v, rfl⟩, fun _ => rfl⟩, (Go.Proofs.Tryz.strconv_Atoi_ok s (by omega) v ha w).mono ?_⟩
  rintro e w' ⟨rfl, hw⟩
  refine ⟨⟨.bool true, by unfold digN; rw [ha]; rfl⟩, ?_⟩
  rcases hw with rfl | hw
  ·exact Below.refl _ _
  ·exact below_any _ _ hw
 | range =>
  obtain ⟨er, her, her2⟩ := hG.err _ _ (.inr rfl) gErrR
  obtain ⟨T, hT⟩ : ∃ T : TypeId, Calls Tryz.prog 72 #[.string s] w fun e w' => (∃ pe, e = .returned (.tuple #[.int .i64 (Lib.atoiSat s.data.toList), .iface T pe])) ∧ Below w.heap.size w w' :=
   ⟨_, (Go.Proofs.Tryz.strconv_Atoi_range s (by omega) ha er w her her2).mono fun e w' ⟨N, he, _, _, hb⟩ => ⟨⟨_, he⟩, hb⟩⟩
  refine ⟨some T, ⟨fun h => (by cases h), fun ⟨v, h⟩ => (by cases h)⟩, hT.mono ?_⟩
  rintro e w' ⟨⟨pe, rfl⟩, hb⟩
  exact ⟨⟨pe, by unfold digN; rw [ha]; rfl⟩, hb⟩
 | _ =>
  obtain ⟨es, hes, hes2⟩ := hG.err _ _ (.inl rfl) gErrS
  obtain ⟨T, hT⟩ : ∃ T : TypeId, Calls Tryz.prog 72 #[.string s] w fun e w' => (∃ pe, e = .returned (.tuple #[.int .i64 0, .iface T pe])) ∧ Below w.heap.size w w' :=
   ⟨_, (Go.Proofs.Tryz.strconv_Atoi_syntax s (by omega) ha es w hes hes2).mono fun e w' ⟨N, he, _, _, hb⟩ => ⟨⟨_, he⟩, hb⟩⟩
  refine ⟨some T, ⟨fun h => (by cases h), fun ⟨v, h⟩ => (by cases h)⟩, hT.mono ?_⟩
  rintro e w' ⟨⟨pe, rfl⟩, hb⟩
  exact ⟨⟨pe, by unfold digN; rw [ha]; rfl⟩, hb⟩
set_option maxRecDepth 100000 in
set_option maxHeartbeats 4000000 in
theorem digits_walk (s : ByteArray) (w : World) (hs : s.size ≤ 1073741824) (hG : Glob Tryz.prog w) :
  Calls Tryz.prog 33 #[.string s] w fun e w' => e = .returned (.tuple #[.int .i64 (digN s), .bool (digB s)]) ∧ Below w.heap.size w w' := by
 obtain ⟨te, hte, hA⟩ := atoi_walk s w hs hG
 have HP : Hid (Calls Tryz.prog 72 #[.string s] w fun e w' => (∃ pe, e = .returned (.tuple #[.int .i64 (digN s), errV te pe])) ∧ Below w.heap.size w w') := hA
 cases te with
 | some t =>
  have hB : digB s = false := by
   unfold digB
   split
   ·rename_i v hv; cases hte.2 ⟨v, hv⟩
   ·rfl
  rw [hB]
  clear hA hG hte
  simp only [errV] at HP
  generalize digN s = n at HP ⊢
  go_enter Tryz.func33, Tryz.ntmps33
  go_wp2_with (go_at_call 72; refine HP.out.mono ?_; rintro e w2 ⟨⟨pe, rfl⟩, hb2⟩)
  go_ret2
  exact ⟨rfl, hb2⟩
 | none =>
  obtain ⟨v, hv⟩ := hte.1 rfl
  have hN : digN s = v := by unfold digN; rw [hv]
  have hB : digB s = (decide (0 ≤ v) && (decide (s.size ≤ 4) && ((⟨(Lib.decDigits v.toNat).toArray⟩ : ByteArray) == s))) := by unfold digB; rw [hv]
  obtain ⟨b1, b2⟩ := Lib.atoiAll_bounds hv
  rw [hN] at HP ⊢
  simp only [errV] at HP
  rw [hB]
  clear hA hte hN hB
  by_cases h0 : 0 ≤ v
  rotate_left
  ·have z0 : decide (0 ≤ v) = false := decide_eq_false h0
   clear hG
   rw [z0]
   go_enter Tryz.func33, Tryz.ntmps33
   go_wp2_with (go_at_call 72; refine HP.out.mono ?_; rintro e w2 ⟨⟨pe, rfl⟩, hb2⟩)
   go_ret2
   exact ⟨rfl, hb2⟩
  obtain ⟨i, rfl⟩ := Int.eq_ofNat_of_zero_le h0
  obtain ⟨z, hz⟩ : ∃ z : ByteArray, z = ⟨(Lib.decDigits i).toArray⟩ := ⟨_, rfl⟩
  have HQ : Hid (∀ W, Below w.heap.size w W → Calls Tryz.prog 69 #[.int .i64 (i : Int)] W fun e w' => e = .returned (.string z) ∧ Below W.heap.size W w') := fun W hW => by rw [hz]; exact itoa_walk i (by omega) W (hG.mono hW)
  have hz' : (⟨(Lib.decDigits (i : Int).toNat).toArray⟩ : ByteArray) = z := hz.symm
  rw [hz']
  clear hz hz' hG
  go_enter Tryz.func33, Tryz.ntmps33
  have z0 : decide (0 ≤ (i : Int)) = true := decide_eq_true h0
  by_cases h4 : s.size ≤ 4
  ·have z1 : decide ((s.size : Int) ≤ 4) = true := decide_eq_true (by omega)
   go_wp2_with (first | (go_at_call 72; refine HP.out.mono ?_; rintro e w2 ⟨⟨pe, rfl⟩, hb2⟩) | (go_at_call 69; refine (HQ.out _ hb2).mono ?_; rintro e w3 ⟨rfl, hb3⟩))
   go_ret2
   refine ⟨?_, hb2.trans (hb3.mono hb2.size)⟩
   rw [decide_eq_true h4, decide_eq_true h0, Go.beq_toListBytes]
   rfl
  ·have z1 : decide ((s.size : Int) ≤ 4) = false := decide_eq_false (by omega)
   go_wp2_with (first | (go_at_call 72; refine HP.out.mono ?_; rintro e w2 ⟨⟨pe, rfl⟩, hb2⟩) | (go_at_call 69; refine (HQ.out _ hb2).mono ?_; rintro e w3 ⟨rfl, hb3⟩))
   go_ret2
   refine ⟨?_, hb2⟩
   rw [decide_eq_false h4, decide_eq_true h0]
   rfl
noncomputable def prefix_Digits_con : Con := con [.one (.fl .str)] [.one (.fl .int), .one (.fl .bool)] (fun x => prefix_Digits_t x.1)
theorem prefix_Digits_ok : TrOk Tryz.prog 33 prefix_Digits_con := con_of _ _ _ fun x y hx ρ us vals w hG hu => by
 obtain ⟨s, z⟩ := x
 obtain ⟨r1, r2, z2⟩ := y
 have hd := hu.den _ (gives_nameOf us)
 have hvals : vals = [.string s] := hd.symm
 subst hvals
 unfold prefix_Digits_t at hx
 obtain ⟨hq, hx⟩ := req_some hx
 have h1 : r1 = digN s := by injection hx with hx; injection hx with a b; exact a.symm
 have h2 : r2 = digB s := by injection hx with hx; injection hx with a b; injection b with b c; exact b.symm
 subst h1
 subst h2
 refine (digits_walk s w (Nat.le_of_ble_eq_true hq) hG).mono ?_
 rintro e w' ⟨rfl, hb⟩
 exact ⟨fun _ => Go.undef, .tup [.i .i64 (digN s), .b (digB s)], [], rfl, ⟨hb, fun j o h => by simp at h, fun i j o o' _ h => by simp at h, fun j o h => by simp at h⟩, rfl⟩
end Go.Proofs.YtafggolijpopeaaGreatDoor
namespace Go.Proofs.YtafggolijpopeaaGreatDoor
open Go Go.Ma Go.RowKit Go.Proofs
theorem lower_walk (c : Int) (w : World) : Calls Tryz.prog 180 #[.int .u8 c] w fun e w' => e = .returned (.int .u8 (bits .or .u8 c 32)) ∧ w' = w := by
 go_enter Tryz.func180, Tryz.ntmps180
 go_wp2
 go_ret
 exact ⟨rfl, rfl⟩
set_option maxHeartbeats 32000000 in
set_option maxRecDepth 100000 in
theorem hexInner (t : ByteArray) (hne : t.size ≠ 0) (hmax : t.size ≤ 9223372036854775806) (w : World) :
  Calls Tryz.prog 155 #[.string t, .int .i64 16, .int .i64 32] w fun e w' => (∃ u ev, e = .returned (.tuple #[.int .u64 u, ev]) ∧ HexEnd 161 t.data.toList 0 u ev) ∧ w' = Lib.bytesWorld w 5 t := by
 have hemp : t.toList.isEmpty = false := by
  rw [← decide_eq_emptyBytes]
  exact decide_eq_false (fun h => hne (by rw [h]; rfl))
 have hcv := Lib.run_convert_string_bytes (P := Tryz.prog) w 9 72 5 t (u := .string) Tryz.underlying9 Tryz.underlying72 Tryz.underlying5
 have hB : ∀ j, j < t.size → (Lib.bytesWorld w 5 t).cell? ⟨w.heap.size, j, none⟩ = some (.int .u8 (t.data.toList.getD j 0).toNat) := fun j hj => Lib.bytesWorld_cell w 5 t j hj
 obtain ⟨W1, hW1⟩ : ∃ W1, W1 = Lib.bytesWorld w 5 t := ⟨_, rfl⟩
 rw [← hW1] at hcv hB ⊢
 clear hW1
 obtain ⟨bs, hL⟩ : ∃ bs, bs = t.data.toList := ⟨_, rfl⟩
 have hLn : bs.length = t.size := by rw [hL, Lib.size_eq]
 rw [← hL] at hB ⊢
 clear hL
 have hmv : IntKind.u64.wrap (IntKind.u64.wrap 4294967296 - 1) = 4294967295 := by
  rw [IntKind.wrap_u64, IntKind.wrap_u64]
  decide
 go_enter Tryz.func155, Tryz.ntmps155
 go_wp2
 go_loop [12, 13, 101] (fun vu vn vi => ∃ (k acc : Nat) (a : Int), vu = .bool false ∧ vn = .int .u64 a ∧ vi = .int .i64 k ∧ k ≤ t.size ∧ Hid (a = (acc : Int) ∧ acc ≤ 4294967295 ∧ hexF bs 0 = hexF (bs.drop k) acc))
  (fun _ _ vi => t.size - (intOf vi).toNat)
 case atStart => exact ⟨0, 0, 0, rfl, rfl, rfl, by omega, rfl, by omega, rfl⟩
 case round =>
  obtain ⟨k, acc, a, rfl, rfl, rfl, hk, hh⟩ := hrel
  obtain ⟨ha, hacc, hdec⟩ := hh.out
  clear hh
  have a0 : 0 ≤ a := by omega
  have a1 : a ≤ 4294967295 := by omega
  by_cases hkn : k < t.size
  ·have hc := hB k hkn
   have hdrop : bs.drop k = bs[k]'(by omega) :: bs.drop (k + 1) := List.drop_eq_getElem_cons (by omega)
   have hget : bs.getD k 0 = bs[k]'(by omega) := by simp [List.getD, List.getElem?_eq_getElem (show k < bs.length by omega)]
   rw [hdrop] at hdec
   rw [hget] at hc
   generalize bs[k]'(by omega) = c at hc hdec
   have hc256 : c.toNat < 256 := c.toNat_lt
   clear hB hdrop hget
   rw [hexF] at hdec
   by_cases hdig : 48 ≤ c.toNat ∧ c.toNat ≤ 57
   ·obtain ⟨hd0, hd1⟩ := hdig
    have hv : hexv c = some (c.toNat - 48) := by unfold hexv; rw [if_pos ⟨hd0, hd1⟩]
    rw [hv] at hdec
    simp only at hdec
    by_cases hov : 4294967295 < acc * 16 + (c.toNat - 48)
    ·rw [if_pos hov] at hdec
     have iov : 4294967295 < a * 16 + ((c.toNat : Int) - 48) := by omega
     clear hacc hov ha hv
     go_wp2
     go_ret2
     exact ⟨⟨_, _, rfl, .bad hdec (.inr rfl)⟩, rfl⟩
    ·rw [if_neg hov] at hdec
     have HN : Hid (a * 16 + ((c.toNat : Int) - 48) = ((acc * 16 + (c.toNat - 48) : Nat) : Int) ∧ acc * 16 + (c.toNat - 48) ≤ 4294967295 ∧ hexF bs 0 = hexF (bs.drop (k + 1)) (acc * 16 + (c.toNat - 48))) := Lib.hid ⟨by omega, by omega, hdec⟩
     have iov : a * 16 + ((c.toNat : Int) - 48) ≤ 4294967295 := by omega
     clear hacc hov hdec ha hv
     go_wp2
     refine ⟨⟨k + 1, acc * 16 + (c.toNat - 48), a * 16 + ((c.toNat : Int) - 48), rfl, (by first | rfl | (congr 1; omega)), (by first | rfl | (congr 1; omega)), by omega, HN⟩, by simp [intOf]; omega⟩
   ·have hv0 := bits_lo_u8 .or (c.toNat : Int) 32
    have hv1 := bits_hi_u8 .or (c.toNat : Int) 32
    have hne95 : 97 ≤ bits .or .u8 (c.toNat : Int) 32 → bits .or .u8 (c.toNat : Int) 32 ≤ 122 → ¬ (c.toNat : Int) = 95 := fun h1 h2 h => by
     rw [h] at h2
     exact absurd h2 (by decide)
    have hb95 : (c.toNat : Int) = 95 → bits .or .u8 (c.toNat : Int) 32 = 127 := fun h => by rw [h]; decide
    have e95 : bits .or .u8 95 32 = 127 := by decide
    have HL : Hid (∀ W, Calls Tryz.prog 180 #[.int .u8 (c.toNat : Int)] W fun e w' => e = .returned (.int .u8 (bits .or .u8 (c.toNat : Int) 32)) ∧ w' = W) := fun W => lower_walk _ W
    have hvv : hexv c = if 97 ≤ bits .or .u8 (c.toNat : Int) 32 ∧ bits .or .u8 (c.toNat : Int) 32 ≤ 102 then some ((bits .or .u8 (c.toNat : Int) 32).toNat - 87) else none := by
     unfold hexv lowQ
     rw [if_neg hdig]
    rw [hvv] at hdec
    clear hvv
    generalize bits .or .u8 (c.toNat : Int) 32 = L at HL hv0 hv1 hne95 hb95 hdec
    by_cases hlet : 97 ≤ L ∧ L ≤ 102
    ·rw [if_pos hlet] at hdec
     simp only at hdec
     obtain ⟨l0, l1⟩ := hlet
     have l2 : L ≤ 122 := by omega
     have n95 := hne95 l0 l2
     by_cases hov : 4294967295 < acc * 16 + (L.toNat - 87)
     ·rw [if_pos hov] at hdec
      have iov : 4294967295 < a * 16 + (L - 87) := by omega
      clear hacc hov ha hne95 hb95 e95
      go_wp2_with (go_at_call 180; refine (HL.out _).mono ?_; rintro e w' ⟨rfl, rfl⟩)
      all_goals go_ret2
      all_goals exact ⟨⟨_, _, rfl, .bad hdec (.inr rfl)⟩, rfl⟩
     ·rw [if_neg hov] at hdec
      have HN : Hid (a * 16 + (L - 97 + 10) = ((acc * 16 + (L.toNat - 87) : Nat) : Int) ∧ acc * 16 + (L.toNat - 87) ≤ 4294967295 ∧ hexF bs 0 = hexF (bs.drop (k + 1)) (acc * 16 + (L.toNat - 87))) := Lib.hid ⟨by omega, by omega, hdec⟩
      have iov : a * 16 + (L - 87) ≤ 4294967295 := by omega
      clear hacc hov hdec ha hne95 hb95 e95
      go_wp2_with (go_at_call 180; refine (HL.out _).mono ?_; rintro e w' ⟨rfl, rfl⟩)
      all_goals exact ⟨⟨k + 1, acc * 16 + (L.toNat - 87), a * 16 + (L - 97 + 10), rfl, (by first | rfl | (congr 1; omega)), (by first | rfl | (congr 1; omega)), by omega, HN⟩, by simp [intOf]; omega⟩
    ·rw [if_neg hlet] at hdec
     simp only at hdec
     clear hacc ha
     by_cases h122 : 97 ≤ L ∧ L ≤ 122
     ·obtain ⟨l0, l2⟩ := h122
      have n95 := hne95 l0 l2
      have l3 : 103 ≤ L := by omega
      clear hne95 hlet hb95 e95
      go_wp2_with (go_at_call 180; refine (HL.out _).mono ?_; rintro e w' ⟨rfl, rfl⟩)
      all_goals go_ret2
      all_goals exact ⟨⟨_, _, rfl, .bad hdec (.inl rfl)⟩, rfl⟩
     ·clear hne95 hlet
      by_cases h95 : (c.toNat : Int) = 95
      ·clear hb95 h122 hv0 hv1
       clear HL
       clear L
       go_wp2_with (go_at_call 180; refine (lower_walk 95 _).mono ?_; rintro e w' ⟨rfl, rfl⟩)
       all_goals go_ret2
       all_goals exact ⟨⟨_, _, rfl, .bad hdec (.inl rfl)⟩, rfl⟩
      ·clear hb95 e95
       by_cases h97 : 97 ≤ L
       ·have l3 : 122 < L := by omega
        clear h122
        go_wp2_with (go_at_call 180; refine (HL.out _).mono ?_; rintro e w' ⟨rfl, rfl⟩)
        all_goals go_ret2
        all_goals exact ⟨⟨_, _, rfl, .bad hdec (.inl rfl)⟩, rfl⟩
       ·clear h122
        go_wp2_with (go_at_call 180; refine (HL.out _).mono ?_; rintro e w' ⟨rfl, rfl⟩)
        all_goals go_ret2
        all_goals exact ⟨⟨_, _, rfl, .bad hdec (.inl rfl)⟩, rfl⟩
  ·have hkk : k = t.size := by omega
   subst hkk
   have hF : hexF (bs.drop t.size) acc = some acc := by rw [List.drop_eq_nil_of_le (by omega)]; rfl
   rw [hF] at hdec
   subst ha
   clear hacc hF a0 a1
   go_wp2
   go_ret2
   exact ⟨⟨_, _, rfl, .ok hdec⟩, rfl⟩
def NumOut (o : Option Nat) (u : Int) (ev : Value) : Prop := match o with
 | some n => u = (n : Int) ∧ ev = .nilIface
 | none => ∃ te pe, ev = .iface te pe
def NumEnd (o : Option Nat) (e : Ending) : Prop := ∃ u ev, e = .returned (.tuple #[.int .u64 u, ev]) ∧ NumOut o u ev
theorem numEnd_ok (n : Nat) : NumEnd (some n) (.returned (.tuple #[.int .u64 (n : Int), .nilIface])) := ⟨_, _, rfl, rfl, rfl⟩
theorem numEnd_bad (u : Int) (te : TypeId) (pe : Value) : NumEnd none (.returned (.tuple #[.int .u64 u, .iface te pe])) := ⟨_, _, rfl, _, _, rfl⟩
set_option maxRecDepth 100000 in
theorem hexEmpty (w : World) : Calls Tryz.prog 155 #[.string ByteArray.empty, .int .i64 16, .int .i64 32] w fun e w' => e = .returned (.tuple #[.int .u64 0, .iface 161 (.int .i64 2)]) ∧ w' = w := by
 go_enter Tryz.func155, Tryz.ntmps155
 go_wp2
 go_ret2
 exact ⟨rfl, rfl⟩
def InnerEnd (o : Option Nat) (u : Int) (ev : Value) : Prop := match o with
 | some n => u = (n : Int) ∧ ev = .nilIface
 | none => ev = .iface 161 (.int .i64 2) ∨ ev = .iface 161 (.int .i64 1)
theorem hexAll (s : ByteArray) (hmax : s.size ≤ 9223372036854775806) (w : World) :
  Calls Tryz.prog 155 #[.string s, .int .i64 16, .int .i64 32] w fun e w' => (∃ u ev, e = .returned (.tuple #[.int .u64 u, ev]) ∧ InnerEnd (hexU s) u ev) ∧ Below w.heap.size w w' := by
 by_cases h0 : s.size = 0
 ·have hs : s = ByteArray.empty := by
   cases s with | mk a =>
   have : a = #[] := Array.eq_empty_of_size_eq_zero h0
   rw [this]; rfl
  subst hs
  refine (hexEmpty w).mono ?_
  rintro e w' ⟨rfl, rfl⟩
  exact ⟨⟨_, _, rfl, .inl rfl⟩, Below.refl _ _⟩
 ·refine (hexInner s h0 hmax w).mono ?_
  rintro e w' ⟨⟨u, ev, rfl, hh⟩, rfl⟩
  refine ⟨⟨u, ev, rfl, ?_⟩, Lib.bytesWorld_below _ _ _⟩
  unfold hexU
  rw [if_neg h0]
  cases hh with
  | ok h hu he => rw [h]; exact ⟨hu, he⟩
  | bad h he => rw [h]; exact he
theorem gErrSyntax : Tryz.prog.globalNamed "strconv.ErrSyntax" = some 2 := by kernel_rfl
theorem gErrRange : Tryz.prog.globalNamed "strconv.ErrRange" = some 3 := by kernel_rfl
set_option maxHeartbeats 4000000 in
set_option maxRecDepth 100000 in
theorem hexPublic (s : ByteArray) (hlim : s.size ≤ 281474976710656) (w : World) (hG : Glob Tryz.prog w) :
  Calls Tryz.prog 154 #[.string s, .int .i64 16, .int .i64 32] w fun e w' => NumEnd (hexU s) e ∧ Below w.heap.size w w' := by
 obtain ⟨es, hes, hes2⟩ := hG.err _ _ (.inl rfl) gErrSyntax
 obtain ⟨er, her, her2⟩ := hG.err _ _ (.inr rfl) gErrRange
 have hI := hexAll s (by omega) w
 go_enter Tryz.func154, Tryz.ntmps154
 go_wp2_with (go_at_call 155; refine hI.mono ?_)
 rintro e W1 ⟨⟨u, ev, rfl, hh⟩, hb1⟩
 have hes1 := cell_stays hb1 hes
 have her1 := cell_stays hb1 her
 cases hx : hexU s with
 | some n =>
  rw [hx] at hh
  obtain ⟨rfl, rfl⟩ := hh
  go_wp2
  go_ret2
  exact ⟨by rw [hx]; exact numEnd_ok n, hb1⟩
 | none =>
  rw [hx] at hh
  rcases hh with rfl | rfl
  ·go_wp2_with (go_at_call 102; refine (AnyPu.strconv_toError_syntax (P := Tryz.prog) { Go.Proofs.Tryz.laysPu14 with } ⟨#[80, 97, 114, 115, 101, 85, 105, 110, 116]⟩ s 16 32 es _ hlim hes1 hes2).mono ?_)
   rintro e W2 ⟨N, rfl, h1, h2, h3⟩
   go_wp2
   go_ret2
   exact ⟨by rw [hx]; exact numEnd_bad _ _ _, hb1.trans (h3.mono hb1.size)⟩
  ·go_wp2_with (go_at_call 102; refine (AnyPu.strconv_toError_range (P := Tryz.prog) { Go.Proofs.Tryz.laysPu14 with } ⟨#[80, 97, 114, 115, 101, 85, 105, 110, 116]⟩ s 16 32 er _ hlim her1 her2).mono ?_)
   rintro e W2 ⟨N, rfl, h1, h2, h3⟩
   go_wp2
   go_ret2
   exact ⟨by rw [hx]; exact numEnd_bad _ _ _, hb1.trans (h3.mono hb1.size)⟩
theorem decPublic (s : ByteArray) (hlim : s.size ≤ 281474976710656) (w : World) (hG : Glob Tryz.prog w) :
  Calls Tryz.prog 154 #[.string s, .int .i64 10, .int .i64 32] w fun e w' => NumEnd (decU s) e ∧ Below w.heap.size w w' := by
 obtain ⟨es, hes, hes2⟩ := hG.err _ _ (.inl rfl) gErrSyntax
 obtain ⟨er, her, her2⟩ := hG.err _ _ (.inr rfl) gErrRange
 unfold decU
 cases hx : Lib.parseUintB 32 s.data.toList with
 | ok u =>
  refine (Go.Proofs.Tryz.strconv_ParseUint_10_at32_ok s (by omega) u hx w).mono ?_
  rintro e w' ⟨rfl, hw⟩
  exact ⟨numEnd_ok u, by rcases hw with rfl | rfl; exact Below.refl _ _; exact Lib.bytesWorld_below _ _ _⟩
 | range =>
  refine (Go.Proofs.Tryz.strconv_ParseUint_10_at32_range s hlim hx er w her her2).mono ?_
  rintro e w' ⟨N, rfl, _, _, hb⟩
  exact ⟨numEnd_bad _ _ _, hb⟩
 | _ =>
  refine (Go.Proofs.Tryz.strconv_ParseUint_10_at32_syntax s hlim hx es w hes hes2).mono ?_
  rintro e w' ⟨N, rfl, _, _, hb⟩
  exact ⟨numEnd_bad _ _ _, hb⟩
end Go.Proofs.YtafggolijpopeaaGreatDoor
namespace Go.Proofs.YtafggolijpopeaaGreatDoor
open Go Go.Ma Go.RowKit Go.Proofs
def digits36 : ByteArray := ⟨#[48, 49, 50, 51, 52, 53, 54, 55, 56, 57, 97, 98, 99, 100, 101, 102, 103, 104, 105, 106, 107, 108, 109, 110, 111, 112, 113, 114, 115, 116, 117, 118, 119, 120, 121, 122]⟩
theorem idx36 {P : Program} (t : TypeId) (ht : P.underlying t = some .string) (k : IntKind) (z : Int) (i : Nat) (hz : z = (i : Int)) (hi : i < 16) (w : World) :
  (Instr.index t (.string digits36) (.int k z)).run P w = .ok (.int .u8 ((hexD i).toNat : Int)) w := by
 subst hz
 rw [run_index_string w t digits36 k _ ht, dif_pos ⟨by omega, by show (i : Int) < 36; omega⟩]
 have e : ((i : Int)).toNat = i := by omega
 simp only [e]
 have : i = 0 ∨ i = 1 ∨ i = 2 ∨ i = 3 ∨ i = 4 ∨ i = 5 ∨ i = 6 ∨ i = 7 ∨ i = 8 ∨ i = 9 ∨ i = 10 ∨ i = 11 ∨ i = 12 ∨ i = 13 ∨ i = 14 ∨ i = 15 := by omega
 rcases this with rfl | rfl | rfl | rfl | rfl | rfl | rfl | rfl | rfl | rfl | rfl | rfl | rfl | rfl | rfl | rfl <;> rfl
theorem pow2_walk (w : World) : Calls Tryz.prog 178 #[.int .i64 16] w fun e w' => e = .returned (.bool true) ∧ w' = w := by
 go_enter Tryz.func178, Tryz.ntmps178
 go_wp2
 go_ret
 exact ⟨by first | rfl | decide, rfl⟩
theorem gTab : Tryz.prog.globalNamed "math/bits.deBruijn64tab" = some 8 := by kernel_rfl
theorem key16 : IntKind.u64.wrap (bits BinOp.and IntKind.u64 16 (IntKind.u64.wrap (-16)) * 285870213051353865) / 288230376151711744 = 15 := by decide +kernel
set_option maxRecDepth 100000 in
theorem tz64_walk (w : World) (hcell : w.cell? ⟨8, 15, none⟩ = some (.int .u8 4)) :
  Calls Tryz.prog 195 #[.int .u64 16] w fun e w' => e = .returned (.int .i64 4) ∧ w' = w := by
 have key := key16
 go_enter Tryz.func195, Tryz.ntmps195
 go_wp2_with (simp only [key])
 go_ret
 exact ⟨rfl, rfl⟩
set_option maxRecDepth 100000 in
theorem tz_walk (w : World) (hcell : w.cell? ⟨8, 15, none⟩ = some (.int .u8 4)) :
  Calls Tryz.prog 179 #[.int .u64 16] w fun e w' => e = .returned (.int .i64 4) ∧ w' = w := by
 go_enter Tryz.func179, Tryz.ntmps179
 go_wp2_with (go_at_call 195; refine (tz64_walk _ hcell).mono ?_; rintro e w' ⟨rfl, rfl⟩)
 go_ret
 exact ⟨rfl, rfl⟩
def encB (b : UInt8) : Value := .int .u8 (b.toNat : Int)
theorem pre_cell {w : World} {N m : Nat} {z : Value} {s : List Value} {T : TypeId} (h : w.heap[N]? = some (Go.Obj.cells (List.replicate (m + 1) z ++ s).toArray T (0, 0))) :
  w.cell? ⟨N, m, none⟩ = some z ∧ w.frozen? ⟨N, m, none⟩ = false := by
 constructor
 ·simp [World.cell?, h, List.getElem?_append_left]
 ·simp [World.frozen?, h]
theorem pre_set {w : World} {N m : Nat} {z v : Value} {s : List Value} {T : TypeId} (h : w.heap[N]? = some (Go.Obj.cells (List.replicate (m + 1) z ++ s).toArray T (0, 0))) :
  (w.setCell ⟨N, m, none⟩ v).heap[N]? = some (Go.Obj.cells (List.replicate m z ++ v :: s).toArray T (0, 0)) := by
 rw [setCell_heap w N m v _ T (0, 0) h]
 congr 2
 apply Array.ext'
 simp [List.replicate_succ', List.set_append]
theorem suf_cell {w : World} {N i : Nat} {z : Value} {s : List UInt8} {T : TypeId} (h : w.heap[N]? = some (Go.Obj.cells (List.replicate i z ++ s.map encB).toArray T (0, 0))) (j : Nat) (hj : j < s.length) :
  w.cell? ((⟨N, i, none⟩ : Addr).add j) = some (.int .u8 (s[j].toNat : Int)) := by
 rw [Lib.add_plain]
 simp [World.cell?, h, List.getElem?_append_right, hj, encB]
theorem slice65 (m : Nat) (hm : m < 65) (b : Nat) (W : World) : (Instr.sliceAt 208 (.pointer (some ⟨b, 0, none⟩)) (some (.int .i64 (m : Int))) none none).run Tryz.prog W = .ok (.slice (some ⟨b, m, none⟩) (65 - m) (65 - m)) W := by
 have hal : Tryz.prog.arrayLen 208 = 65 := by simp [Program.arrayLen, Tryz.underlying208]
 rw [run_sliceAt_array_l W 208 ⟨b, 0, none⟩ (by simp [Program.arrayLen, Program.elem, Tryz.underlying208]) .i64 (m : Int) (by omega) (by rw [hal]; omega), hal]
 go_simp
 omega
set_option maxHeartbeats 8000000 in
set_option maxRecDepth 100000 in
theorem bits_hex (n : Nat) (hn : n < 65536) (w : World) (hG : Glob Tryz.prog w) :
  Calls Tryz.prog 151 #[.slice none 0 0, .int .u64 (n : Int), .int .i64 16, .bool false, .bool false] w fun e w' => e = .returned (.tuple #[.slice none 0 0, .string ⟨(hex4 n).toArray⟩]) ∧ Below w.heap.size w w' := by
 obtain ⟨tt, zz, htab⟩ := hG.ctz _ gTab
 have hcell : w.cell? ⟨8, 15, none⟩ = some (.int .u8 4) := by
  unfold World.cell?
  rw [htab]
  rfl
 have HT : Hid (∀ W, Below w.heap.size w W → Calls Tryz.prog 179 #[.int .u64 16] W fun e w' => e = .returned (.int .i64 4) ∧ w' = W) := fun W hb => tz_walk W (cell_stays hb hcell)
 clear hcell htab
 go_enter Tryz.func151, Tryz.ntmps151
 go_wp2_with (first | (go_at_call 178; refine (pow2_walk _).mono ?_; rintro e w' ⟨rfl, rfl⟩) | (go_at_call 179; refine (HT.out _ ((Below.refl _ w).alloc (Nat.le_refl _) _)).mono ?_; rintro e w' ⟨rfl, rfl⟩))
 go_name_world W0 hW0
 have hN0 : W0.heap[w.heap.size]? = some (.cells (List.replicate 65 (Value.int .u8 0) ++ ([] : List UInt8).map encB).toArray 208 (0, 0)) := by rw [← hW0]; exact heap_alloc_new w _
 have hb0 : Below w.heap.size w W0 := by rw [← hW0]; exact (Below.refl _ w).alloc (Nat.le_refl _) _
 clear hW0 HT
 go_loopw [1, 13] (fun vu vi wr => ∃ (u i : Nat) (suf : List UInt8), vu = .int .u64 (u : Int) ∧ vi = .int .i64 (i : Int) ∧ Hid (hex4 u ++ suf = hex4 n ∧ suf.length + i = 65 ∧ u < 16 ^ (i - 61)) ∧ 62 ≤ i ∧ i ≤ 65 ∧ Hid (wr.heap[w.heap.size]? = some (.cells (List.replicate i (Value.int .u8 0) ++ suf.map encB).toArray 208 (0, 0))) ∧ Below w.heap.size w wr) (fun _ vi _ => (intOf vi).toNat)
 case atStart => exact ⟨n, 65, [], rfl, rfl, Lib.hid ⟨List.append_nil _, rfl, hn⟩, by omega, by omega, Lib.hid hN0, hb0⟩
 case round =>
  clear hN0 hb0
  obtain ⟨u, i, suf, rfl, rfl, HS, hi0, hi1, HH, hbw⟩ := hrel
  obtain ⟨e1, e2, e3⟩ := HS.out
  obtain ⟨m, rfl⟩ : ∃ m, i = m + 1 := ⟨i - 1, by omega⟩
  have hh := HH.out
  obtain ⟨hc, hf⟩ := pre_cell hh
  clear hh
  have hu6 : u < 65536 := Nat.lt_of_lt_of_le e3 (by have : 16 ^ (m + 1 - 61) ≤ 16 ^ 4 := Nat.pow_le_pow_right (by omega) (by omega); omega)
  have iu0 : 0 ≤ (u : Int) := by omega
  have iu1 : (u : Int) < 65536 := by omega
  by_cases h16 : 16 ≤ u
  ·have hand : bits .and .u64 (u : Int) 15 = ((u % 16 : Nat) : Int) := by
    have := bits_and_u64_nat u 15 (by omega) (by omega)
    rw [show (15 : Int) = ((15 : Nat) : Int) from rfl, this, show (15 : Nat) = 2 ^ 4 - 1 from rfl, Nat.and_two_pow_sub_one_eq_mod]
   have hX : ∀ W, (Instr.index 9 (.string ⟨#[48, 49, 50, 51, 52, 53, 54, 55, 56, 57, 97, 98, 99, 100, 101, 102, 103, 104, 105, 106, 107, 108, 109, 110, 111, 112, 113, 114, 115, 116, 117, 118, 119, 120, 121, 122]⟩) (.int .u64 (bits .and .u64 (u : Int) 15))).run Tryz.prog W = .ok (.int .u8 ((hexD (u % 16)).toNat : Int)) W := idx36 9 Tryz.underlying9 .u64 _ _ hand (by omega)
   have hge : (16 : Int) ≤ (u : Int) := by omega
   have hm62 : 62 ≤ m := by
    rcases Nat.lt_or_ge m 62 with h | h
    ·have : m = 61 := by omega
     subst this
     have : u < 16 := e3
     omega
    ·exact h
   clear hand
   go_wp2
   refine ⟨⟨u / 16, m, hexD (u % 16) :: suf, by go_num, rfl, Lib.hid ⟨by rw [← e1, hex4_step u h16 hu6, List.append_assoc]; rfl, by simp only [List.length_cons]; omega, ?_⟩, hm62, by omega, Lib.hid (pre_set HH.out), hbw.setCell (Nat.le_refl _) _⟩, by simp [intOf]⟩
   rw [show m + 1 - 61 = (m - 61) + 1 by omega, Nat.pow_succ] at e3
   omega
  ·have hX : ∀ W, (Instr.index 9 (.string ⟨#[48, 49, 50, 51, 52, 53, 54, 55, 56, 57, 97, 98, 99, 100, 101, 102, 103, 104, 105, 106, 107, 108, 109, 110, 111, 112, 113, 114, 115, 116, 117, 118, 119, 120, 121, 122]⟩) (.int .u64 (u : Int))).run Tryz.prog W = .ok (.int .u8 ((hexD u).toNat : Int)) W := idx36 9 Tryz.underlying9 .u64 _ _ rfl (by omega)
   have hlt : (u : Int) < 16 := by omega
   obtain ⟨q, hq⟩ : ∃ q, q = 65 - m := ⟨_, rfl⟩
   have hsl : ∀ W, (Instr.sliceAt 208 (.pointer (some ⟨w.heap.size, 0, none⟩)) (some (.int .i64 (m : Int))) none none).run Tryz.prog W = .ok (.slice (some ⟨w.heap.size, m, none⟩) q q) W := fun W => by rw [hq]; exact slice65 m (by omega) _ W
   have hcv : (convert 72 9 (.slice (some ⟨w.heap.size, m, none⟩) q q)).run Tryz.prog (wr.setCell ⟨w.heap.size, m, none⟩ (.int .u8 ((hexD u).toNat : Int))) = .ok (.string ⟨(hex4 n).toArray⟩) (wr.setCell ⟨w.heap.size, m, none⟩ (.int .u8 ((hexD u).toNat : Int))) := by
    have hs : wr.setCell ⟨w.heap.size, m, none⟩ (.int .u8 ((hexD u).toNat : Int)) = wr.setCell ⟨w.heap.size, m, none⟩ (encB (hexD u)) := rfl
    have h := run_convert_bytes_back (P := Tryz.prog) (wr.setCell ⟨w.heap.size, m, none⟩ (encB (hexD u))) 72 9 5 ⟨w.heap.size, m, none⟩ q (hexD u :: suf) Tryz.underlying72 Tryz.underlying5 Tryz.underlying9 (fun j hj => suf_cell (s := hexD u :: suf) (pre_set HH.out) j hj)
    have hl : (hexD u :: suf).length = q := by rw [hq]; simp only [List.length_cons]; omega
    rw [hl] at h
    have h6 : hex4 n = hexD u :: suf := by rw [← e1]; unfold hex4; rw [if_pos (by omega)]; rfl
    rw [hs, h6]
    exact h
   have hbz := hbw.setCell (p := ⟨w.heap.size, m, none⟩) (Nat.le_refl _) (.int .u8 ((hexD u).toNat : Int))
   clear e1 e2 e3 HS HH hG hbw hq hu6 iu0 iu1 h16
   go_wp2
   go_ret2
   exact ⟨rfl, hbz⟩
set_option maxRecDepth 100000 in
theorem uint_hex (n : Nat) (hn : n < 65536) (w : World) (hG : Glob Tryz.prog w) :
  Calls Tryz.prog 119 #[.int .u64 (n : Int), .int .i64 16] w fun e w' => e = .returned (.string ⟨(hex4 n).toArray⟩) ∧ Below w.heap.size w w' := by
 have HB := Lib.hid (bits_hex n hn w hG)
 clear hG hn
 go_enter Tryz.func119, Tryz.ntmps119
 go_wp2_with (go_at_call 151; refine HB.out.mono ?_; rintro e w' ⟨rfl, hb⟩)
 go_ret
 exact ⟨rfl, hb⟩
theorem tab_pow {w : World} (hG : Glob Tryz.prog w) : Lib.TabIs Tryz.prog w "internal/strconv.uint64pow10" .u64 Lib.pow10Tab := by
 have hg : Tryz.prog.globalNamed "internal/strconv.uint64pow10" = some 4 := by kernel_rfl
 obtain ⟨t, z, h⟩ := hG.pow _ hg
 have e : pow10s = Lib.pow10Tab := by decide +kernel
 unfold Lib.TabIs World.var?
 simp [hg, h, e]
set_option maxHeartbeats 8000000 in
set_option maxRecDepth 100000 in
theorem uint_dec (u : Nat) (h1 : u < 256) (w : World) (hG : Glob Tryz.prog w) :
  Calls Tryz.prog 119 #[.int .u64 (u : Int), .int .i64 10] w fun e w' => e = .returned (.string ⟨(Lib.decDigits u).toArray⟩) ∧ Below w.heap.size w w' := by
 by_cases hs : u < 100
 ·have iu : (u : Int) < 100 := by omega
  go_enter Tryz.func119, Tryz.ntmps119
  go_wp2_with (go_at_call 148; refine (Go.Proofs.Tryz.internal_strconv_small u hs _).mono ?_; rintro e w' ⟨rfl, rfl⟩)
  go_ret
  exact ⟨rfl, Below.refl _ _⟩
 ·have hu : 100 ≤ u := by omega
  have htab := tab_pow hG
  have hu1 : 1 ≤ u := by omega
  have hu64 : u < 18446744073709551616 := by omega
  have hnd20 : Lib.nDigits u ≤ 20 := by have := Lib.numDigits_eq u hu1 hu64; split at this <;> omega
  have hal : Tryz.prog.arrayLen 176 = 24 := by simp [Program.arrayLen, Tryz.underlying176]
  have hsl : ∀ W, (Instr.sliceAt 176 (.pointer (some ⟨w.heap.size, 0, none⟩)) none (some (.int .i64 (Lib.nDigits u : Int))) none).run Tryz.prog W = .ok (.slice (some ⟨w.heap.size, 0, none⟩) (Lib.nDigits u) 24) W := fun W => by
   rw [run_sliceAt_array_h W 176 ⟨w.heap.size, 0, none⟩ (by simp [Program.arrayLen, Program.elem, Tryz.underlying176]) .i64 (Lib.nDigits u : Int) (by omega) (by rw [hal]; omega)]
   go_simp
  have hH0 := Lib.holds_zero0 w 176 (Lib.nDigits u) (by omega)
  have hfmt := Go.Proofs.Tryz.internal_strconv_formatBase10 w.heap.size 0 24 u (Array.replicate (Lib.nDigits u) 0) (w.alloc (.cells Lib.zeros24 176)) hH0 (by rw [Array.size_replicate]; exact Lib.lt_pow_nDigits u) hu64 (by rw [Array.size_replicate]; omega)
  rw [Array.size_replicate] at hfmt
  have HH0 := Lib.hid hH0
  have iu : (100 : Int) ≤ (u : Int) := by omega
  clear hH0 hal hs h1 hG
  go_enter Tryz.func119, Tryz.ntmps119
  go_wp2_with (go_at_call 149; refine (Go.Proofs.Tryz.internal_strconv_numDigits u hu1 hu64 _ (Lib.tabIs_alloc htab _)).mono ?_; rintro e w' ⟨rfl, rfl⟩)
  go_at_call 150
  refine hfmt.mono ?_
  rintro e w' ⟨rfl, k, v', dk, rfl, hF⟩
  have hcv : (convert 72 9 (.slice (some ⟨w.heap.size, 0, none⟩) (Lib.nDigits u) 24)).run Tryz.prog ((Sort.putRow (fun (b : UInt8) => Value.int .u8 (b.toNat : Int)) (w.alloc (.cells Lib.zeros24 176)) w.heap.size 0 dk).drewN k) = .ok (.string ⟨(Lib.decDigits u).toArray⟩) ((Sort.putRow (fun (b : UInt8) => Value.int .u8 (b.toNat : Int)) (w.alloc (.cells Lib.zeros24 176)) w.heap.size 0 dk).drewN k) := by
   have h := run_convert_bytes_back (P := Tryz.prog) ((Sort.putRow (fun (b : UInt8) => Value.int .u8 (b.toNat : Int)) (w.alloc (.cells Lib.zeros24 176)) w.heap.size 0 dk).drewN k) 72 9 5 ⟨w.heap.size, 0, none⟩ 24 (Lib.decDigits u) Tryz.underlying72 Tryz.underlying5 Tryz.underlying9 (fun j hj => by
    rw [Lib.row_is_numeral hF j hj, Lib.add_plain, World.cell?_drewN]
    exact Sort.cell?_putRow (fun (b : UInt8) => Value.int .u8 (b.toNat : Int)) _ w.heap.size 0 _ dk HH0.out (by rw [hF.size, Array.size_replicate]) j (by rw [hF.size]; rw [Lib.decDigits_length] at hj; exact hj))
   rw [Lib.decDigits_length] at h
   exact h
  obtain ⟨os, eo⟩ := Lib.fin_at w (.cells Lib.zeros24 176) dk k 0
  have hnx : Below w.heap.size w ((Sort.putRow (fun (b : UInt8) => Value.int .u8 (b.toNat : Int)) (w.alloc (.cells Lib.zeros24 176)) w.heap.size 0 dk).drewN k) := by rw [eo]; exact Lib.below_grow w.heap.size w (Nat.le_refl _) k os
  generalize (Sort.putRow (fun (b : UInt8) => Value.int .u8 (b.toNat : Int)) (w.alloc (.cells Lib.zeros24 176)) w.heap.size 0 dk).drewN k = W2 at hcv hnx ⊢
  clear eo HH0 hfmt
  go_wp2
  go_ret
  exact ⟨rfl, hnx⟩
set_option maxRecDepth 100000 in
theorem format_walk (n b : Int) (r : ByteArray) (w : World) (H : Calls Tryz.prog 119 #[.int .u64 n, .int .i64 b] w fun e w' => e = .returned (.string r) ∧ Below w.heap.size w w') :
  Calls Tryz.prog 92 #[.int .u64 n, .int .i64 b] w fun e w' => e = .returned (.string r) ∧ Below w.heap.size w w' := by
 have HB := Lib.hid H
 clear H
 go_enter Tryz.func92, Tryz.ntmps92
 go_wp2_with (go_at_call 119; refine HB.out.mono ?_; rintro e w' ⟨rfl, hb⟩)
 go_ret
 exact ⟨rfl, hb⟩
noncomputable def strconv_FormatUint_con : Con := con [.one (.fl .u64), .one (.fl .int)] [.one (.fl .str)] (fun x => zq9 x.1 x.2.1)
theorem format_end {n b : Int} {r : ByteArray} {w : World} (h : Calls Tryz.prog 92 #[.int .u64 n, .int .i64 b] w fun e w' => e = .returned (.string r) ∧ Below w.heap.size w w') :
  Calls Tryz.prog 92 #[.int .u64 n, .int .i64 b] w fun e w' => ∃ ρc r' m', e = .returned (den ρc r') ∧ RelM w ρc m' w' ∧ resR [.one (.fl .str)] r' m' = some (r, ()) := by
 refine h.mono ?_
 rintro e w' ⟨rfl, hb⟩
 exact ⟨fun _ => Go.undef, .s r, [], rfl, ⟨hb, fun j o h => by simp at h, fun i j o o' _ h => by simp at h, fun j o h => by simp at h⟩, rfl⟩
theorem strconv_FormatUint_ok : TrOk Tryz.prog 92 strconv_FormatUint_con := con_of _ _ _ fun x y hx ρ us vals w hG hu => by
 obtain ⟨n, b, z⟩ := x
 have hd := hu.den _ (gives_nameOf us)
 have hvals : vals = [.int .u64 n, .int .i64 b] := hd.symm
 subst hvals
 unfold zq9 at hx
 split at hx
 ·rename_i hb
  simp only at hb
  subst hb
  obtain ⟨hq, hx⟩ := req_some hx
  simp only [Bool.and_eq_true, decide_eq_true_eq] at hq
  injection hx with hx
  subst hx
  obtain ⟨u, rfl⟩ := Int.eq_ofNat_of_zero_le hq.1
  exact format_end (format_walk _ _ _ w (uint_hex u (by omega) w hG))
 ·obtain ⟨hq, hx⟩ := req_some hx
  simp only [Bool.and_eq_true, decide_eq_true_eq] at hq
  obtain ⟨rfl, h0, h1⟩ := hq
  injection hx with hx
  subst hx
  obtain ⟨u, rfl⟩ := Int.eq_ofNat_of_zero_le h0
  have e : (dec3 (u : Int).toNat) = Lib.decDigits u := (dec3_eq u (by omega)).symm
  rw [e]
  exact format_end (format_walk _ _ _ w (uint_dec u (by omega) w hG))
end Go.Proofs.YtafggolijpopeaaGreatDoor
namespace Go.Proofs.YtafggolijpopeaaGreatDoor
open Go Go.Ma Go.RowKit Go.Proofs
def badE : PanicEntry := { v := .iface 130 (.agg #[]), recovered := false }
def EndU (o : Option Int) (e : Ending) : Prop := match o with
 | some v => e = .returned (.int .u64 v)
 | none => e = .panicked [badE]
theorem endU_some {o : Option Int} {v : Int} (h : o = some v) : EndU o (.returned (.int .u64 v)) := by rw [h]; rfl
theorem endU_none {o : Option Int} (h : o = none) : EndU o (.panicked [badE]) := by rw [h]; rfl
set_option maxRecDepth 100000 in
set_option maxHeartbeats 4000000 in
theorem part_walk (s : ByteArray) (b digits most : Int) (hb : b = 10 ∨ b = 16) (hs : s.size ≤ 281474976710656) (w : World) (hG : Glob Tryz.prog w) :
  Calls Tryz.prog 128 #[.string s, .int .i64 b, .int .i64 digits, .int .u64 most] w fun e w' => EndU (partF s b digits most) e ∧ Below w.heap.size w w' := by
 have hcv := fun w s => Lib.run_convert_string_bytes (P := Tryz.prog) w 9 72 5 s Tryz.underlying9 Tryz.underlying72 Tryz.underlying5
 have HP : Hid (∀ W, Glob Tryz.prog W → Calls Tryz.prog 154 #[.string s, .int .i64 b, .int .i64 32] W fun e w' => NumEnd (numU b s) e ∧ Below W.heap.size W w') := fun W hg => by
  rcases hb with rfl | rfl
  ·exact decPublic s hs W hg
  ·exact hexPublic s hs W hg
 have hb10 : b = 10 ∨ ¬ b = 10 := by omega
 go_enter Tryz.func128, Tryz.ntmps128
 go_wp2
 obtain ⟨cap, hcap⟩ : ∃ cap, cap = grownCap w s.size 0 5 := ⟨_, rfl⟩
 rw [← hcap]
 obtain ⟨w1, hw1⟩ : ∃ w1, w1 = Lib.bytesWorld w 5 s := ⟨_, rfl⟩
 rw [← hw1]
 have HC : Hid (∀ k, k < s.size → w1.cell? ⟨w.heap.size, k, none⟩ = some (.int .u8 ((s.data.toList.getD k 0).toNat : Int))) := fun k hk => by rw [hw1]; exact Lib.bytesWorld_cell _ _ _ _ hk
 have hb1 : Below w.heap.size w w1 := by rw [hw1]; exact Lib.bytesWorld_below _ _ _
 have HA : Hid (∀ k, k < 0 → plainB (s.data.toList.getD k 0) = true) := fun k hk => absurd hk (by omega)
 clear hcv hw1 hcap hb
 go_loopw [16] (fun i wr => ∃ k : Nat, k ≤ s.size ∧ i = .int .i64 k ∧ Hid (∀ k, k < s.size → wr.cell? ⟨w.heap.size, k, none⟩ = some (.int .u8 ((s.data.toList.getD k 0).toNat : Int))) ∧ Hid (∀ j, j < k → plainB (s.data.toList.getD j 0) = true) ∧ Below w.heap.size w wr) (fun i _ => s.size - (intOf i).toNat)
 case atStart => exact ⟨0, Nat.zero_le _, rfl, HC, HA, hb1⟩
 case round =>
  clear HC hb1 HA
  obtain ⟨k, hk, rfl, HC, HA, hb1⟩ := hrel
  by_cases hlt : k < s.size
  ·have cB := HC.out k hlt
   have hgd : s.data.toList.getD k 0 ∈ s.data.toList := by
    rw [List.getD_eq_getElem?_getD, List.getElem?_eq_getElem (by simpa using hlt)]
    exact List.getElem_mem _
   have hltI : (k : Int) < (s.size : Int) := by omega
   by_cases hpl : plainB (s.data.toList.getD k 0) = true
   ·have HA' : Hid (∀ j, j < k + 1 → plainB (s.data.toList.getD j 0) = true) := Lib.hid (fun j hj => by
     by_cases hjk : j = k
     ·rw [hjk]; exact hpl
     ·exact HA.out j (by omega))
    generalize s.data.toList.getD k 0 = c at cB hpl
    have n1 : ((c.toNat : Int) == 43) = false := by
     rw [beq_eq_false_iff_ne]; intro e
     have : c = 43 := UInt8.toNat_inj.1 (by show c.toNat = 43; omega)
     subst this; revert hpl; decide
    have n2 : ((c.toNat : Int) == 45) = false := by
     rw [beq_eq_false_iff_ne]; intro e
     have : c = 45 := UInt8.toNat_inj.1 (by show c.toNat = 45; omega)
     subst this; revert hpl; decide
    have n3 : ((c.toNat : Int) == 95) = false := by
     rw [beq_eq_false_iff_ne]; intro e
     have : c = 95 := UInt8.toNat_inj.1 (by show c.toNat = 95; omega)
     subst this; revert hpl; decide
    clear hpl hgd
    go_wp2
    exact ⟨⟨k + 1, by omega, by go_num, HC, HA', hb1⟩, by simp [intOf]; omega⟩
   ·have hnone : partF s b digits most = none := by
     unfold partF
     rw [if_neg (fun h => hpl ((List.all_eq_true.1 h) _ hgd))]
    generalize s.data.toList.getD k 0 = c at cB hpl
    have hc3 : c = 43 ∨ c = 45 ∨ c = 95 := by
     unfold plainB at hpl
     simp only [Bool.and_eq_true, Bool.not_eq_true', beq_eq_false_iff_ne, not_and, Decidable.not_not, ne_eq] at hpl
     by_cases h1 : c = 43
     ·exact .inl h1
     ·by_cases h2 : c = 45
      ·exact .inr (.inl h2)
      ·exact .inr (.inr (hpl ⟨h1, h2⟩))
    clear hpl hgd HA HC
    rcases hc3 with rfl | rfl | rfl
    ·go_wp2
     exact ⟨rfl, endU_none hnone, hb1⟩
    ·go_wp2
     exact ⟨rfl, endU_none hnone, hb1⟩
    ·go_wp2
     exact ⟨rfl, endU_none hnone, hb1⟩
  ·have hkn : k = s.size := by omega
   subst hkn
   have hall : s.data.toList.all plainB = true := by
    rw [List.all_eq_true]
    intro c hc
    obtain ⟨j, hj⟩ := List.mem_iff_getElem?.1 hc
    have hjl := (List.getElem?_eq_some_iff.1 hj).1
    have := HA.out j (by simpa using hjl)
    rw [List.getD_eq_getElem?_getD, hj] at this
    exact this
   clear HC HA
   have hp0 : partF s b digits most = match numU b s with | none => none | some u => if digits < s.size ∨ most < u ∨ (b = 10 ∧ 1 < s.size ∧ s.data.toList.head? = some 48) then none else some (u : Int) := by
    unfold partF
    rw [if_pos hall]
    rfl
   cases hu : numU b s with
   | none =>
    rw [hu] at hp0 HP
    go_wp2_with (go_at_call 154; refine (HP.out _ (hG.mono hb1)).mono ?_; rintro e w2 ⟨⟨u, ev, rfl, te, pe, rfl⟩, hb2⟩)
    exact ⟨rfl, endU_none hp0, hb1.trans (hb2.mono hb1.size)⟩
   | some n =>
    rw [hu] at hp0 HP
    simp only at hp0
    by_cases g1 : digits < (s.size : Int)
    ·rw [if_pos (.inl g1)] at hp0
     have z1 : decide (digits < (s.size : Int)) = true := decide_eq_true g1
     go_wp2_with (go_at_call 154; refine (HP.out _ (hG.mono hb1)).mono ?_; rintro e w2 ⟨⟨u, ev, rfl, hue⟩, hb2⟩; obtain ⟨rfl, rfl⟩ := hue)
     exact ⟨rfl, endU_none hp0, hb1.trans (hb2.mono hb1.size)⟩
    have z1 : decide (digits < (s.size : Int)) = false := decide_eq_false g1
    by_cases g2 : most < (n : Int)
    ·rw [if_pos (.inr (.inl g2))] at hp0
     have z2 : decide (most < (n : Int)) = true := decide_eq_true g2
     go_wp2_with (go_at_call 154; refine (HP.out _ (hG.mono hb1)).mono ?_; rintro e w2 ⟨⟨u, ev, rfl, hue⟩, hb2⟩; obtain ⟨rfl, rfl⟩ := hue)
     exact ⟨rfl, endU_none hp0, hb1.trans (hb2.mono hb1.size)⟩
    have z2 : decide (most < (n : Int)) = false := decide_eq_false g2
    rcases hb10 with rfl | g3
    rotate_left
    ·rw [if_neg (by rintro (h | h | h); exact g1 h; exact g2 h; exact g3 h.1)] at hp0
     have z3 : (b == 10) = false := by rw [beq_eq_false_iff_ne]; exact g3
     go_wp2_with (go_at_call 154; refine (HP.out _ (hG.mono hb1)).mono ?_; rintro e w2 ⟨⟨u, ev, rfl, hue⟩, hb2⟩; obtain ⟨rfl, rfl⟩ := hue)
     go_ret
     exact ⟨endU_some hp0, hb1.trans (hb2.mono hb1.size)⟩
    by_cases g4 : 1 < s.size
    rotate_left
    ·rw [if_neg (by rintro (h | h | h); exact g1 h; exact g2 h; exact g4 h.2.1)] at hp0
     have z4 : decide (1 < (s.size : Int)) = false := decide_eq_false (by omega)
     go_wp2_with (go_at_call 154; refine (HP.out _ (hG.mono hb1)).mono ?_; rintro e w2 ⟨⟨u, ev, rfl, hue⟩, hb2⟩; obtain ⟨rfl, rfl⟩ := hue)
     go_ret
     exact ⟨endU_some hp0, hb1.trans (hb2.mono hb1.size)⟩
    have z4 : decide (1 < (s.size : Int)) = true := decide_eq_true (by omega)
    have hsz : 0 < s.size := by omega
    have hh0 : s.data.toList.head? = some (s[0]'hsz) := by
     rw [List.head?_eq_getElem?, List.getElem?_eq_getElem (by simpa using hsz)]
     rfl
    rw [hh0] at hp0
    by_cases g5 : s[0]'hsz = 48
    ·rw [if_pos (.inr (.inr ⟨rfl, g4, by rw [g5]⟩))] at hp0
     have z5 : (((s[0]'hsz).toNat : Int) == 48) = true := by rw [g5]; rfl
     go_wp2_with (go_at_call 154; refine (HP.out _ (hG.mono hb1)).mono ?_; rintro e w2 ⟨⟨u, ev, rfl, hue⟩, hb2⟩; obtain ⟨rfl, rfl⟩ := hue)
     exact ⟨rfl, endU_none hp0, hb1.trans (hb2.mono hb1.size)⟩
    ·rw [if_neg (by rintro (h | h | h); exact g1 h; exact g2 h; exact g5 (Option.some.inj h.2.2))] at hp0
     have z5 : (((s[0]'hsz).toNat : Int) == 48) = false := by
      rw [beq_eq_false_iff_ne]
      intro e
      exact g5 (UInt8.toNat_inj.1 (by show (s[0]'hsz).toNat = 48; omega))
     go_wp2_with (go_at_call 154; refine (HP.out _ (hG.mono hb1)).mono ?_; rintro e w2 ⟨⟨u, ev, rfl, hue⟩, hb2⟩; obtain ⟨rfl, rfl⟩ := hue)
     go_ret
     exact ⟨endU_some hp0, hb1.trans (hb2.mono hb1.size)⟩
theorem splitOn_len (s : ByteArray) (c : UInt8) : (splitOn s c).length = Lib.countB s ⟨#[c]⟩ + 1 := Lib.splitB_all ⟨#[c]⟩ (Nat.le_refl _) 0 _ s rfl
theorem splitOn_le (s : ByteArray) (c : UInt8) : (splitOn s c).length ≤ s.size + 1 := by
 rw [splitOn_len]
 have := Lib.countB_le ⟨#[c]⟩ (Nat.le_refl _) s.size s (Nat.le_refl _)
 omega
theorem split_calls (s : ByteArray) (c : UInt8) (w : World) (hs : s.size < 4294967281) :
  Calls Tryz.prog 57 #[.string s, .string ⟨#[c]⟩] w fun e w' =>
   e = .returned (.slice (some ⟨w.heap.size, 0, none⟩) (splitOn s c).length (splitOn s c).length) ∧ Below w.heap.size w w' ∧ w.heap.size < w'.heap.size ∧ ∀ (k : Nat) x, (splitOn s c)[k]? = some x → w'.cell? ⟨w.heap.size, k, none⟩ = some (.string x) := by
 refine (split_one s c w hs).mono ?_
 rintro e w' ⟨rfl, rfl⟩
 have hl := splitOn_len s c
 refine ⟨by rw [hl], (Below.refl _ w).alloc (Nat.le_refl _) _, by simp, fun k x hx => ?_⟩
 have hn := heap_alloc_new w (.cells ((splitOn s c).map Value.string).toArray 9)
 show (w.alloc (.cells ((splitOn s c).map Value.string).toArray 9)).cell? _ = _
 unfold World.cell?
 simp only
 rw [hn]
 simp [hx]
theorem splitOn_sizes (s : ByteArray) (c : UInt8) : ∀ x ∈ splitOn s c, x.size ≤ s.size := by
 have key : ∀ (k : Nat) (s : ByteArray), ∀ x ∈ Lib.splitB ⟨#[c]⟩ 0 k s, x.size ≤ s.size := by
  intro k
  induction k with
  | zero => intro s x hx; simp only [Lib.splitB, List.mem_singleton] at hx; rw [hx]; exact Nat.le_refl _
  | succ k ih =>
   intro s x hx
   rw [Lib.splitB] at hx
   split at hx
   ·simp only [List.mem_singleton] at hx; rw [hx]; exact Nat.le_refl _
   ·rcases List.mem_cons.1 hx with rfl | hx
    ·rw [ByteArray.size_extract]; omega
    ·have := ih _ x hx
     rw [ByteArray.size_extract] at this
     omega
 exact key _ s
theorem cells_stay {w w' : World} {b : Nat} {l : List ByteArray} (h : ∀ (k : Nat) x, l[k]? = some x → w.cell? ⟨b, k, none⟩ = some (.string x)) (hb : Below w.heap.size w w') : ∀ (k : Nat) x, l[k]? = some x → w'.cell? ⟨b, k, none⟩ = some (.string x) :=
 fun k x hx => cell_stays hb (h k x hx)
set_option maxRecDepth 100000 in
set_option maxHeartbeats 4000000 in
theorem four_walk (s : ByteArray) (hs : s.size ≤ 4294967200) (w : World) (hG : Glob Tryz.prog w) :
  Calls Tryz.prog 100 #[.string s] w fun e w' => EndU (fourF s) e ∧ Below w.heap.size w w' := by
 have HS := split_calls s 46 w (by omega)
 have hsz := splitOn_sizes s 46
 have hf : fourF s = if (splitOn s 46).length = 4 then fourL (splitOn s 46) 0 else none := rfl
 generalize splitOn s 46 = l at HS hsz hf
 rw [hf]
 clear hf
 have HS := Lib.hid HS
 go_enter Tryz.func100, Tryz.ntmps100
 by_cases h4 : l.length = 4
 rotate_left
 ·have h4i : ((l.length : Int) == 4) = false := by rw [beq_eq_false_iff_ne]; omega
  rw [if_neg h4]
  go_wp2_with (go_at_call 57; refine HS.out.mono ?_; rintro e w1 ⟨rfl, hb1, hn1, hc1⟩)
  exact ⟨rfl, rfl, hb1⟩
 ·rw [if_pos h4]
  have h4i : ((l.length : Int) == 4) = true := by rw [h4]; rfl
  go_wp2_with (go_at_call 57; refine HS.out.mono ?_; rintro e w1 ⟨rfl, hb1, hn1, hc1⟩)
  have HC : Hid (∀ (k : Nat) x, l[k]? = some x → w1.cell? ⟨w.heap.size, k, none⟩ = some (.string x)) := hc1
  clear hc1 HS
  go_loopw [4, 16] (fun vn vi wr => ∃ (k : Nat) (n : Int), vn = .int .u64 n ∧ vi = .int .i64 k ∧ k ≤ l.length ∧ Hid (fourL l 0 = fourL (l.drop k) n) ∧ Hid (∀ (k : Nat) x, l[k]? = some x → wr.cell? ⟨w.heap.size, k, none⟩ = some (.string x)) ∧ Below w.heap.size w wr ∧ w.heap.size < wr.heap.size) (fun _ vi _ => l.length - (intOf vi).toNat)
  case atStart => exact ⟨0, 0, rfl, rfl, Nat.zero_le _, Lib.hid rfl, HC, hb1, hn1⟩
  case round =>
   clear HC hb1 hn1
   obtain ⟨k, n, rfl, rfl, hk, HF, HC, hb1, hn1⟩ := hrel
   by_cases hlt : k < l.length
   ·obtain ⟨x, hx⟩ : ∃ x, l[k]? = some x := ⟨_, List.getElem?_eq_getElem hlt⟩
    have cB := HC.out k x hx
    have hltI : (k : Int) < (l.length : Int) := by omega
    have hfx : fourL l 0 = match partF x 10 3 255 with | none => none | some u => fourL (l.drop (k + 1)) (aop .or .u64 (aop .shl .u64 n 8) u) := by
     rw [HF.out, List.drop_eq_getElem_cons hlt, (List.getElem?_eq_some_iff.1 hx).2]
     rfl
    have HP : Hid (∀ W, Below w.heap.size w W → Calls Tryz.prog 128 #[.string x, .int .i64 10, .int .i64 3, .int .u64 255] W fun e w' => EndU (partF x 10 3 255) e ∧ Below W.heap.size W w') := fun W hW =>
     part_walk x 10 3 255 (.inl rfl) (by have := hsz x (List.mem_of_getElem? hx); omega) W (hG.mono hW)
    cases hp : partF x 10 3 255 with
    | none =>
     rw [hp] at hfx HP
     have hfx : fourL l 0 = none := hfx
     go_wp2_with (go_at_call 128; refine (HP.out _ hb1).mono ?_; rintro e w2 ⟨he, hb2⟩; have he : e = .panicked [badE] := he; subst he)
     exact ⟨rfl, endU_none hfx, hb1.trans (hb2.mono hb1.size)⟩
    | some u =>
     rw [hp] at hfx HP
     simp only at hfx
     go_wp2_with (go_at_call 128; refine (HP.out _ hb1).mono ?_; rintro e w2 ⟨he, hb2⟩; have he : e = .returned (.int .u64 u) := he; subst he)
     exact ⟨⟨k + 1, _, rfl, by go_num, by omega, Lib.hid hfx, Lib.hid (cells_stay HC.out hb2), hb1.trans (hb2.mono hb1.size), Nat.lt_of_lt_of_le hn1 hb2.size⟩, by simp [intOf]; omega⟩
   ·have hkn : k = l.length := by omega
    subst hkn
    have hfx : fourL l 0 = some n := by rw [HF.out, List.drop_length]; rfl
    go_wp2
    go_ret
    exact ⟨endU_some hfx, hb1⟩
theorem infoU64 : (Tryz.prog.info? 22).map (fun i => (i.zero, i.size, i.bytes)) = some (some (.int .u64 0), 1, 8) := by kernel_rfl
theorem below_grownQ {N : Nat} {a w w1 : World} {row : Option Nat} (h : Below N a w) (hg : w.grownBy w1 row) (hr : ∀ b, row = some b → N ≤ b) (hN : N ≤ w.heap.size) : Below N a w1 :=
 ⟨hg.os.trans h.os, hg.tape.trans h.tape, hg.output.trans h.output, Nat.le_trans h.size hg.size, fun k hk => (hg.block k (Nat.lt_of_lt_of_le hk hN) (fun e => absurd (hr k e.symm) (by omega))).trans (h.block k hk)⟩
theorem cells_new (w : World) (cs : List Value) (t : TypeId) : ∀ (j : Nat) u, cs[j]? = some u → (w.alloc (.cells cs.toArray t)).cell? (Addr.add ⟨w.heap.size, 0, none⟩ j) = some u := fun j u hj => by
 have hn := heap_alloc_new w (.cells cs.toArray t)
 rw [Addr.add_lit]
 unfold World.cell?
 simp only
 rw [hn]
 simp [hj]
theorem own_block_ge {w : World} {base : Nat} {e : TypeId} {size : Nat} {v : Value} {n : Nat} {xs : List Value} (h : w.ownsRow base e size v n xs) : ∀ b, v.ownBlock = some b → base ≤ b := fun b hb => by
 obtain ⟨_, ⟨rfl, _⟩ | ⟨g, cap, cur, rfl, hg, _⟩⟩ := h
 ·cases hb
 ·cases hb; exact hg
def EndRow (base : Nat) (o : Option (List Int)) (e : Ending) (w' : World) : Prop := match o with
 | some l => ∃ v, e = .returned v ∧ w'.ownsRow base 22 1 v l.length (l.map (Value.int .u64))
 | none => e = .panicked [badE]
theorem someL_cons {last : Bool} {len : Nat} {l : List ByteArray} {k : Nat} {x : ByteArray} (hx : l[k]? = some x) (out : List Int) : someL last len (l.drop k) k out =
  if last = true ∧ k + 1 = len ∧ dotIn x = true then (match fourF x with | none => none | some n => someL last len (l.drop (k + 1)) (k + 1) (out ++ [n / 65536, aop .and .u64 n 65535]))
  else (match partF x 16 4 65535 with | none => none | some u => someL last len (l.drop (k + 1)) (k + 1) (out ++ [u])) := by
 obtain ⟨h1, h2⟩ := List.getElem?_eq_some_iff.1 hx
 rw [List.drop_eq_getElem_cons h1, h2]
 rfl
set_option maxRecDepth 100000 in
set_option maxHeartbeats 8000000 in
theorem some_walk (s : ByteArray) (last : Bool) (hs : s.size ≤ 4294967200) (w : World) (hG : Glob Tryz.prog w) :
  Calls Tryz.prog 127 #[.string s, .bool last] w fun e w' => EndRow w.heap.size (someF s last) e w' ∧ Below w.heap.size w w' := by
 obtain ⟨i0, hi, hz0, hz1, hz2⟩ := info_parts infoU64
 by_cases h0 : s.size = 0
 ·have hse : s = ByteArray.empty := by
   cases s with | mk a =>
   have : a = #[] := Array.eq_empty_of_size_eq_zero h0
   rw [this]; rfl
  subst hse
  go_enter Tryz.func127, Tryz.ntmps127
  go_wp2
  go_ret
  exact ⟨⟨_, rfl, World.ownsRow_nil _ _ _ _⟩, Below.refl _ _⟩
 have hemp : s.toList.isEmpty = false := by
  rw [← decide_eq_emptyBytes]
  exact decide_eq_false (fun h => h0 (by rw [h]; rfl))
 have HS := split_calls s 58 w (by omega)
 have hsz := splitOn_sizes s 58
 have hle := splitOn_le s 58
 have hf : someF s last = someL last (splitOn s 58).length (splitOn s 58) 0 [] := by unfold someF; rw [if_neg h0]
 generalize splitOn s 58 = l at HS hsz hle hf
 rw [hf]
 clear hf
 have HS := Lib.hid HS
 go_enter Tryz.func127, Tryz.ntmps127
 go_wp2_with (go_at_call 57; refine HS.out.mono ?_; rintro e w1 ⟨rfl, hb1, hn1, hc1⟩)
 have HC : Hid (∀ (k : Nat) x, l[k]? = some x → w1.cell? ⟨w.heap.size, k, none⟩ = some (.string x)) := hc1
 clear hc1 HS
 obtain ⟨B, hB⟩ : ∃ B, B = w1.heap.size := ⟨_, rfl⟩
 go_loopw [5, 16] (fun vo vi wr => ∃ (k : Nat) (out : List Int), vi = .int .i64 k ∧ k ≤ l.length ∧ Hid (someL last l.length l 0 [] = someL last l.length (l.drop k) k out) ∧ Hid (∀ (k : Nat) x, l[k]? = some x → wr.cell? ⟨w.heap.size, k, none⟩ = some (.string x)) ∧ wr.ownsRow B 22 1 vo out.length (out.map (Value.int .u64)) ∧ out.length ≤ 2 * k ∧ Below B w1 wr) (fun _ vi _ => l.length - (intOf vi).toNat)
 case atStart => exact ⟨0, [], rfl, Nat.zero_le _, Lib.hid rfl, HC, World.ownsRow_nil _ _ _ _, by simp, by rw [hB]; exact Below.refl _ _⟩
 case round =>
  clear HC
  obtain ⟨k, out, rfl, hk, HF, HC, hown, hol, hbr⟩ := hrel
  have hbw : Below w.heap.size w wr := hb1.trans (hbr.mono (by omega))
  have hBr : B ≤ wr.heap.size := by rw [hB]; exact hbr.size
  by_cases hlt : k < l.length
  ·obtain ⟨x, hx⟩ : ∃ x, l[k]? = some x := ⟨_, List.getElem?_eq_getElem hlt⟩
   have cB := HC.out k x hx
   have hltI : (k : Int) < (l.length : Int) := by omega
   have hxs := hsz x (List.mem_of_getElem? hx)
   have hfx : someL last l.length l 0 [] = _ := HF.out.trans (someL_cons hx out)
   have HP : Hid (∀ W, Below w.heap.size w W → Calls Tryz.prog 128 #[.string x, .int .i64 16, .int .i64 4, .int .u64 65535] W fun e w' => EndU (partF x 16 4 65535) e ∧ Below W.heap.size W w') := fun W hW =>
    part_walk x 16 4 65535 (.inr rfl) (by omega) W (hG.mono hW)
   have H4 : Hid (∀ W, Below w.heap.size w W → Calls Tryz.prog 100 #[.string x] W fun e w' => EndU (fourF x) e ∧ Below W.heap.size W w') := fun W hW =>
    four_walk x (by omega) W (hG.mono hW)
   have HD : Hid (∀ W, Calls Tryz.prog 98 #[.string x, .string ⟨#[46]⟩] W fun e w' => e = .returned (.bool (dotIn x)) ∧ w' = W) := fun W => Go.Proofs.Tryz.strings_Contains_one x 46 W
   by_cases hcond : last = true ∧ k + 1 = l.length ∧ dotIn x = true
   ·rw [if_pos hcond] at hfx
    obtain ⟨rfl, hk1, hd⟩ := hcond
    rw [hd] at HD
    have hk1i : ((k : Int) == (l.length : Int) - 1) = true := by rw [beq_iff_eq]; omega
    cases hp : fourF x with
    | none =>
     rw [hp] at hfx H4
     have hfx : someL true l.length l 0 [] = none := hfx
     go_wp2_with (first | (go_at_call 98; refine (HD.out _).mono ?_; rintro e w2 ⟨rfl, hw2⟩; have hw2 := hw2.symm; subst hw2) | (go_at_call 100; refine (H4.out _ hbw).mono ?_; rintro e w2 ⟨he, hb2⟩; have he : e = .panicked [badE] := he; subst he))
     exact ⟨rfl, by rw [hfx]; rfl, hbw.trans (hb2.mono hbw.size)⟩
    | some n =>
     rw [hp] at hfx H4
     simp only at hfx
     go_wp2_with (first | (go_at_call 98; refine (HD.out _).mono ?_; rintro e w2 ⟨rfl, hw2⟩; have hw2 := hw2.symm; subst hw2) | (go_at_call 100; refine (H4.out _ hbw).mono ?_; rintro e w2 ⟨he, hb2⟩; have he : e = .returned (.int .u64 n) := he; subst he; have hown2 := hown.kept (below_grown' hb2) (Classical.em _); have hs2 := hb2.size) | (at_builtin; refine wpList_append_own_at _ rfl _ _ 158 rfl B 22 i0 (.int .u64 0) 1 8 Tryz.underlying158 hi hz0 hz1 hz2 rfl (by decide) _ _ _ rfl (hown2.alloc _) ⟨w2.heap.size, 0, none⟩ 2 2 [.int .u64 (n / 65536), .int .u64 (bits .and .u64 n 65535)] rfl rfl (cells_new _ _ _) (by simp [Value.oneCell']) (by unfold maxLen; omega) (by omega) (by simp; omega) ?_; intro v' w3 hown' hgrow hnil hloc))
     have hg3 : w2.grownBy w3 u5.ownBlock := (World.grownBy_alloc w2 _ _).trans hgrow
     have hbe : ∀ b, u5.ownBlock = some b → B ≤ b := own_block_ge hown
     have hh : Below B wr w3 := below_grownQ (hb2.mono hBr) hg3 hbe (by omega)
     have HN : Hid (∀ (k : Nat) x, l[k]? = some x → w3.cell? ⟨w.heap.size, k, none⟩ = some (.string x)) := Lib.hid fun k x hx => (hh.cell (p := ⟨w.heap.size, k, none⟩) (by show w.heap.size < B; omega)).trans (HC.out k x hx)
     exact ⟨⟨k + 1, out ++ [n / 65536, aop .and .u64 n 65535], by go_num, by omega, Lib.hid hfx, HN, by rw [List.length_append, List.map_append]; exact hown', by simp; omega, hbr.trans hh⟩, by simp [intOf]; omega⟩
   ·rw [if_neg hcond] at hfx
    cases last with
    | false =>
     cases hp : partF x 16 4 65535 with
     | none =>
      rw [hp] at hfx HP
      have hfx : someL _ l.length l 0 [] = none := hfx
      go_wp2_with (first | (go_at_call 98; refine (HD.out _).mono ?_; rintro e w2 ⟨rfl, hw2⟩; have hw2 := hw2.symm; subst hw2) | (go_at_call 128; refine (HP.out _ hbw).mono ?_; rintro e w2 ⟨he, hb2⟩; have he : e = .panicked [badE] := he; subst he))
      exact ⟨rfl, by rw [hfx]; rfl, hbw.trans (hb2.mono hbw.size)⟩
     | some u =>
      rw [hp] at hfx HP
      simp only at hfx
      go_wp2_with (first | (go_at_call 98; refine (HD.out _).mono ?_; rintro e w2 ⟨rfl, hw2⟩; have hw2 := hw2.symm; subst hw2) | (go_at_call 128; refine (HP.out _ hbw).mono ?_; rintro e w2 ⟨he, hb2⟩; have he : e = .returned (.int .u64 u) := he; subst he; have hown2 := hown.kept (below_grown' hb2) (Classical.em _); have hs2 := hb2.size) | (at_builtin; refine wpList_append_own_at _ rfl _ _ 158 rfl B 22 i0 (.int .u64 0) 1 8 Tryz.underlying158 hi hz0 hz1 hz2 rfl (by decide) _ _ _ rfl (hown2.alloc _) ⟨w2.heap.size, 0, none⟩ 1 1 [.int .u64 u] rfl rfl (cells_new _ _ _) (by simp [Value.oneCell']) (by unfold maxLen; omega) (by omega) (by simp; omega) ?_; intro v' w3 hown' hgrow hnil hloc))
      have hg3 : w2.grownBy w3 u5.ownBlock := (World.grownBy_alloc w2 _ _).trans hgrow
      have hbe : ∀ b, u5.ownBlock = some b → B ≤ b := own_block_ge hown
      have hh : Below B wr w3 := below_grownQ (hb2.mono hBr) hg3 hbe (by omega)
      have HN : Hid (∀ (k : Nat) x, l[k]? = some x → w3.cell? ⟨w.heap.size, k, none⟩ = some (.string x)) := Lib.hid fun k x hx => (hh.cell (p := ⟨w.heap.size, k, none⟩) (by show w.heap.size < B; omega)).trans (HC.out k x hx)
      exact ⟨⟨k + 1, out ++ [u], by go_num, by omega, Lib.hid hfx, HN, by rw [List.length_append, List.map_append]; exact hown', by simp; omega, hbr.trans hh⟩, by simp [intOf]; omega⟩
    | true =>
     by_cases hk1 : k + 1 = l.length
     ·have hk1i : ((k : Int) == (l.length : Int) - 1) = true := by rw [beq_iff_eq]; omega
      have hd : dotIn x = false := by
       cases hdd : dotIn x
       ·rfl
       ·exact absurd ⟨rfl, hk1, hdd⟩ hcond
      rw [hd] at HD
      cases hp : partF x 16 4 65535 with
      | none =>
       rw [hp] at hfx HP
       have hfx : someL _ l.length l 0 [] = none := hfx
       go_wp2_with (first | (go_at_call 98; refine (HD.out _).mono ?_; rintro e w2 ⟨rfl, hw2⟩; have hw2 := hw2.symm; subst hw2) | (go_at_call 128; refine (HP.out _ hbw).mono ?_; rintro e w2 ⟨he, hb2⟩; have he : e = .panicked [badE] := he; subst he))
       exact ⟨rfl, by rw [hfx]; rfl, hbw.trans (hb2.mono hbw.size)⟩
      | some u =>
       rw [hp] at hfx HP
       simp only at hfx
       go_wp2_with (first | (go_at_call 98; refine (HD.out _).mono ?_; rintro e w2 ⟨rfl, hw2⟩; have hw2 := hw2.symm; subst hw2) | (go_at_call 128; refine (HP.out _ hbw).mono ?_; rintro e w2 ⟨he, hb2⟩; have he : e = .returned (.int .u64 u) := he; subst he; have hown2 := hown.kept (below_grown' hb2) (Classical.em _); have hs2 := hb2.size) | (at_builtin; refine wpList_append_own_at _ rfl _ _ 158 rfl B 22 i0 (.int .u64 0) 1 8 Tryz.underlying158 hi hz0 hz1 hz2 rfl (by decide) _ _ _ rfl (hown2.alloc _) ⟨w2.heap.size, 0, none⟩ 1 1 [.int .u64 u] rfl rfl (cells_new _ _ _) (by simp [Value.oneCell']) (by unfold maxLen; omega) (by omega) (by simp; omega) ?_; intro v' w3 hown' hgrow hnil hloc))
       have hg3 : w2.grownBy w3 u5.ownBlock := (World.grownBy_alloc w2 _ _).trans hgrow
       have hbe : ∀ b, u5.ownBlock = some b → B ≤ b := own_block_ge hown
       have hh : Below B wr w3 := below_grownQ (hb2.mono hBr) hg3 hbe (by omega)
       have HN : Hid (∀ (k : Nat) x, l[k]? = some x → w3.cell? ⟨w.heap.size, k, none⟩ = some (.string x)) := Lib.hid fun k x hx => (hh.cell (p := ⟨w.heap.size, k, none⟩) (by show w.heap.size < B; omega)).trans (HC.out k x hx)
       exact ⟨⟨k + 1, out ++ [u], by go_num, by omega, Lib.hid hfx, HN, by rw [List.length_append, List.map_append]; exact hown', by simp; omega, hbr.trans hh⟩, by simp [intOf]; omega⟩
     ·have hk1i : ((k : Int) == (l.length : Int) - 1) = false := by rw [beq_eq_false_iff_ne]; omega
      cases hp : partF x 16 4 65535 with
      | none =>
       rw [hp] at hfx HP
       have hfx : someL _ l.length l 0 [] = none := hfx
       go_wp2_with (first | (go_at_call 98; refine (HD.out _).mono ?_; rintro e w2 ⟨rfl, hw2⟩; have hw2 := hw2.symm; subst hw2) | (go_at_call 128; refine (HP.out _ hbw).mono ?_; rintro e w2 ⟨he, hb2⟩; have he : e = .panicked [badE] := he; subst he))
       exact ⟨rfl, by rw [hfx]; rfl, hbw.trans (hb2.mono hbw.size)⟩
      | some u =>
       rw [hp] at hfx HP
       simp only at hfx
       go_wp2_with (first | (go_at_call 98; refine (HD.out _).mono ?_; rintro e w2 ⟨rfl, hw2⟩; have hw2 := hw2.symm; subst hw2) | (go_at_call 128; refine (HP.out _ hbw).mono ?_; rintro e w2 ⟨he, hb2⟩; have he : e = .returned (.int .u64 u) := he; subst he; have hown2 := hown.kept (below_grown' hb2) (Classical.em _); have hs2 := hb2.size) | (at_builtin; refine wpList_append_own_at _ rfl _ _ 158 rfl B 22 i0 (.int .u64 0) 1 8 Tryz.underlying158 hi hz0 hz1 hz2 rfl (by decide) _ _ _ rfl (hown2.alloc _) ⟨w2.heap.size, 0, none⟩ 1 1 [.int .u64 u] rfl rfl (cells_new _ _ _) (by simp [Value.oneCell']) (by unfold maxLen; omega) (by omega) (by simp; omega) ?_; intro v' w3 hown' hgrow hnil hloc))
       have hg3 : w2.grownBy w3 u5.ownBlock := (World.grownBy_alloc w2 _ _).trans hgrow
       have hbe : ∀ b, u5.ownBlock = some b → B ≤ b := own_block_ge hown
       have hh : Below B wr w3 := below_grownQ (hb2.mono hBr) hg3 hbe (by omega)
       have HN : Hid (∀ (k : Nat) x, l[k]? = some x → w3.cell? ⟨w.heap.size, k, none⟩ = some (.string x)) := Lib.hid fun k x hx => (hh.cell (p := ⟨w.heap.size, k, none⟩) (by show w.heap.size < B; omega)).trans (HC.out k x hx)
       exact ⟨⟨k + 1, out ++ [u], by go_num, by omega, Lib.hid hfx, HN, by rw [List.length_append, List.map_append]; exact hown', by simp; omega, hbr.trans hh⟩, by simp [intOf]; omega⟩
  ·have hkn : k = l.length := by omega
   subst hkn
   have hfx : someL last l.length l 0 [] = some out := by rw [HF.out, List.drop_length]; rfl
   go_wp2
   go_ret
   refine ⟨?_, hbw⟩
   rw [hfx]
   exact ⟨_, rfl, hown.mono (by omega)⟩
end Go.Proofs.YtafggolijpopeaaGreatDoor
namespace Go.Proofs.YtafggolijpopeaaGreatDoor
open Go Go.Ma Go.RowKit Go.Proofs
theorem append_zeros_own {P : Program} (w : World) (base : Nat) (t tn ty e : TypeId) (i : TypeInfo) (z : Value) (bytes : Nat) (kn : IntKind) (ht : P.underlying t = some (.slice e)) (htn : P.underlying tn = some (.int kn)) (hi : P.info? e = some i) (hz : i.zero = some z)
  (hsize : i.size = 1) (hby : i.bytes = bytes) (hzs : z.cells.size = 1) (v : Value) (n : Nat) (xs : List Value) (hown : w.ownsRow base e 1 v n xs) (k : Nat) (h0 : 0 < k)
  (h63 : n + k ≤ maxLen) (hbytes : (n + k) * bytes ≤ 140737488355328) (hbase : base ≤ w.heap.size) (h1 : ∀ u ∈ (Builtin.zeroCells z.cells k).toList, u.oneCell' = true) :
  ∃ v' w', (Builtin.append_ #[t, tn] ty #[v, .int .i64 (k : Int)]).run P w = .ok v' w' ∧ w'.ownsRow base e 1 v' (n + k) (xs ++ (Builtin.zeroCells z.cells k).toList) ∧ w.grownBy w' v.ownBlock := by
 subst hby
 have hsmall : n + k ≤ 9223372036854775807 := by simp only [maxLen] at h63; omega
 have hzl : (Builtin.zeroCells z.cells k).toList.length = k := by rw [Array.length_toList, size_zeroCells, hzs, Nat.mul_one]
 have hlen : (xs ++ (Builtin.zeroCells z.cells k).toList).length = (n + k) * 1 := by rw [List.length_append, hown.1, hzl]; omega
 have grown : ∀ (old : Nat), old < n + k → ∀ (row : Option Nat),
   (w.drew.alloc (.cells (xs.toArray ++ Builtin.zeroCells z.cells k ++ Builtin.zeroCells z.cells (grownCap w (n + k) old e - (n + k))) e)).ownsRow base e 1
    (.slice (some ⟨w.heap.size, 0, none⟩) (n + k) (grownCap w (n + k) old e)) (n + k) (xs ++ (Builtin.zeroCells z.cells k).toList) ∧
   w.grownBy (w.drew.alloc (.cells (xs.toArray ++ Builtin.zeroCells z.cells k ++ Builtin.zeroCells z.cells (grownCap w (n + k) old e - (n + k))) e)) row := by
  intro old ho row
  have hge := grownCap_ge w (n + k) old e
  have hcm : grownCap w (n + k) old e ≤ maxLen := grownCap_le_maxLen w (n + k) old e h63
  refine ⟨⟨hlen, .inr ⟨w.heap.size, _, _, rfl, hbase, heap_alloc_new w.drew _, hge, hcm, ?_, ?_⟩⟩, ⟨rfl, rfl, rfl, by simp, fun j hj _ => (by first | exact heap_alloc_old w.drew _ j hj | exact heap_alloc_old w.drew _ hj)⟩⟩
  ·have := hown.1
   simp only [Array.size_append, List.size_toArray, size_zeroCells, hzs]
   omega
  ·simp only [Array.toList_append]
   rw [← hlen]
   exact List.take_left
 rcases hown.2 with ⟨rfl, rfl⟩ | ⟨g, cap, cur, rfl, hbg, hg, hnc, hcm, hcs, htake⟩
 ·have hx : xs = [] := List.eq_nil_of_length_eq_zero (by simpa using hown.1)
  subst hx
  have hr := Lib.run_append_nil_zeros (P := P) w t tn ty e i z .i64 kn ht htn hi hz k h0 (by omega) (by omega) (by simp only [Nat.zero_add] at hbytes; omega)
  have hgr := grown 0 (by omega) (Value.ownBlock (.slice none 0 0))
  simp only [Nat.zero_add, List.nil_append, Array.empty_append] at hgr ⊢
  exact ⟨_, _, hr, hgr.1, hgr.2⟩
 ·by_cases hroom : n + k ≤ cap
  ·have hfit : n + k ≤ cur.size := by rw [hcs]; omega
   have hst := run_storeCells_at P g n e (Builtin.zeroCells z.cells k).toList 0 cur w hg (by rw [hzl]; omega) h1
   simp only [Nat.add_zero] at hst
   have hk0 : k ≠ 0 := by omega
   have hw : IntKind.i64.wrap (k : Int) = k := by rw [IntKind.wrap_i64]; omega
   have hneg : ¬ ((k : Int) < 0) := by omega
   have h48i : ¬ (281474976710656 < (k : Int) * (i.bytes : Int)) := by
    rw [← Int.natCast_mul]
    have : k * i.bytes ≤ (n + k) * i.bytes := Nat.mul_le_mul_right _ (by omega)
    omega
   have hr : (Builtin.append_ #[t, tn] ty #[.slice (some ⟨g, 0, none⟩) n cap, .int .i64 (k : Int)]).run P w = .ok (.slice (some ⟨g, 0, none⟩) (n + k) cap) (w.setRow g (cur.toList.take n ++ (Builtin.zeroCells z.cells k).toList ++ cur.toList.drop (n + (Builtin.zeroCells z.cells k).toList.length)).toArray) := by
    simp [Builtin.append_, run_underlying ht, run_underlying htn, sizeOf, typeInfo, zeroValue, hi, hz, hsize, asInt, asIntOf, hw, hroom, hneg, hk0, h48i, Addr.add_lit, hst]
   refine ⟨_, _, hr, ⟨hlen, .inr ⟨g, cap, _, rfl, hbg, setRow_heap w g cur _ e _ hg, hroom, hcm, ?_, ?_⟩⟩, ⟨rfl, rfl, rfl, by simp, fun k _ hk => setRow_other w g k _ (fun e => hk (by simp [Value.ownBlock, e]))⟩⟩
   ·simp only [List.size_toArray, List.length_append, List.length_take, List.length_drop, Array.length_toList, hzl, size_zeroCells, hzs]
    omega
   ·have ht2 : cur.toList.take n = xs := by rw [← htake, Nat.mul_one]
    rw [ht2, ← hlen]
    exact List.take_left
  ·have holds : ∀ j u, xs[j]? = some u → w.cell? ((⟨g, 0, none⟩ : Addr).add j) = some u := hown.cells (g := g) rfl
   have hold : (Builtin.firstCells i.size n (.slice (some ⟨g, 0, none⟩) n cap)).run P w.drew = .ok xs.toArray w.drew := by
    have := run_firstCells_some (P := P) w.drew i.size n ⟨g, 0, none⟩ n cap xs (by rw [hsize]; exact hown.1) (fun j u hj => holds j u hj)
    exact this
   have hr := Lib.run_append_grow_zeros (P := P) w t tn ty e i z .i64 kn ht htn hi hz (some ⟨g, 0, none⟩) n cap xs hold k h0 (by omega) (by omega) (by omega) (by
     have : k * i.bytes ≤ (n + k) * i.bytes := Nat.mul_le_mul_right _ (by omega)
     omega) (growslice_fits (by omega) hbytes)
   have hgr := grown cap (by omega) (Value.ownBlock (.slice (some ⟨g, 0, none⟩) n cap))
   exact ⟨_, _, hr, hgr.1, hgr.2⟩
theorem row_form {w : World} {base : Nat} {e : TypeId} {v : Value} {l : List Int} (h : w.ownsRow base e 1 v l.length (l.map (Value.int .u64))) (h0 : 0 < l.length) :
  ∃ g cap, v = .slice (some ⟨g, 0, none⟩) l.length cap ∧ base ≤ g ∧ g < w.heap.size ∧ Hid (∀ (j : Nat) x, l[j]? = some x → w.cell? ⟨g, j, none⟩ = some (.int .u64 x)) := by
 have hc := @World.ownsRow.cells w base e 1 v l.length (l.map (Value.int .u64)) h
 obtain ⟨_, ⟨_, hn⟩ | ⟨g, cap, cur, rfl, hg, hh, _⟩⟩ := h
 ·omega
 ·refine ⟨g, cap, rfl, hg, (Array.getElem?_eq_some_iff.1 hh).1, Lib.hid fun j x hx => ?_⟩
  have := hc (g := g) rfl j (.int .u64 x) (by simp [hx])
  rwa [Addr.add_lit, Nat.zero_add] at this
theorem own_slice {w : World} {base : Nat} {e : TypeId} {v : Value} {n : Nat} {xs : List Value} (h : w.ownsRow base e 1 v n xs) :
  ∃ A c, v = .slice A n c ∧ (A = none → n = 0) ∧ ∀ ad, A = some ad → base ≤ ad.block ∧ ad.block < w.heap.size ∧ ∀ j u, xs[j]? = some u → w.cell? (ad.add j) = some u := by
 have hc := fun g => @World.ownsRow.cells w base e 1 v n xs h g
 obtain ⟨_, ⟨rfl, hn⟩ | ⟨g, cap, cur, rfl, hg, hh, _⟩⟩ := h
 ·exact ⟨none, 0, (by rw [hn]), (fun _ => hn), fun ad had => (by cases had)⟩
 ·refine ⟨_, cap, rfl, (fun h => by cases h), fun ad had => ?_⟩
  cases had
  exact ⟨hg, (Array.getElem?_eq_some_iff.1 hh).1, fun j u hj => hc g rfl j u hj⟩
theorem own_block {A : Option Addr} {n c b : Nat} (h : (Value.slice A n c).ownBlock = some b) : ∃ ad, A = some ad ∧ ad.block = b := by
 cases A with
 | none => cases h
 | some ad => exact ⟨ad, rfl, by injection h⟩
theorem zero_list (k : Nat) : (Builtin.zeroCells (Value.int IntKind.u64 0).cells k).toList = (List.replicate k (0 : Int)).map (Value.int .u64) := by
 apply List.ext_getElem?
 intro i
 by_cases h : i < k
 ·simp [Builtin.zeroCells, Value.cells, List.getElem?_replicate, h, Nat.mod_one]
 ·simp [Builtin.zeroCells, Value.cells, List.getElem?_replicate, h]
theorem zero_one (k : Nat) : ∀ u ∈ (Builtin.zeroCells (Value.int IntKind.u64 0).cells k).toList, u.oneCell' = true := by
 rw [zero_list]
 simp [Value.oneCell']
theorem below_own {N : Nat} {a w w1 : World} {row : Option Nat} (h : Below N a w) (hg : w.grownBy w1 row) (hr : ∀ b, row = some b → N ≤ b) (hN : N ≤ w.heap.size) : Below N a w1 :=
 h.trans ⟨hg.os, hg.tape, hg.output, hg.size, fun k hk => hg.block k (by omega) (fun e => by have := hr k e.symm; omega)⟩
theorem add_blockQ (a : Addr) (n : Nat) : (a.add n).block = a.block := by unfold Addr.add; split <;> rfl
theorem two_appends {P : Program} (w : World) (N base1 K : Nat) (t tn e : TypeId) (i : TypeInfo) (ht : P.underlying t = some (.slice e)) (htn : P.underlying tn = some (.int .i64)) (hi : P.info? e = some i)
  (hz0 : i.zero = some (.int .u64 0)) (hz1 : i.size = 1) (hz2 : i.bytes = 8) (A1 : Option Addr) (c1 : Nat) (l : List Int) (hown : w.ownsRow base1 e 1 (.slice A1 l.length c1) l.length (l.map (Value.int .u64)))
  (A2 : Option Addr) (c2 : Nat) (m : List Int) (hA2 : A2 = none → m.length = 0) (hA1 : ∀ ad, A1 = some ad → base1 ≤ ad.block ∧ ad.block < K) (hm : ∀ ad, A2 = some ad → K ≤ ad.block ∧ ad.block < w.heap.size ∧ ∀ (j : Nat) u, (m.map (Value.int .u64))[j]? = some u → w.cell? (ad.add j) = some u)
  (hbase : base1 ≤ w.heap.size) (hN : N ≤ base1) (kz : Nat) (hk : 0 < kz) (h8 : l.length + kz + m.length = 8) :
  ∃ A4 c4 w4 g c5 w5, (Builtin.append_ #[t, tn] t #[.slice A1 l.length c1, .int .i64 (kz : Int)]).run P w = .ok (.slice A4 (l.length + kz) c4) w4 ∧
   (Builtin.append_ #[t, t] t #[.slice A4 (l.length + kz) c4, .slice A2 m.length c2]).run P w4 = .ok (.slice (some ⟨g, 0, none⟩) 8 c5) w5 ∧
   Hid (∀ (j : Nat) x, (l ++ List.replicate kz 0 ++ m)[j]? = some x → w5.cell? ⟨g, j, none⟩ = some (.int .u64 x)) ∧ N ≤ g ∧ g < w5.heap.size ∧ (∀ a, Below N a w → Below N a w5) := by
 have own1 : ∀ b, (Value.slice A1 l.length c1).ownBlock = some b → base1 ≤ b := by
  intro b hb
  obtain ⟨ad, h1, h2⟩ := own_block hb
  have := hA1 ad h1
  omega
 obtain ⟨v4, w4, hr4, hown4, hg4⟩ := append_zeros_own (P := P) w base1 t tn t e i (.int .u64 0) 8 .i64 ht htn hi hz0 hz1 hz2 rfl _ _ _ hown kz hk (by unfold maxLen; omega) (by omega) hbase (zero_one kz)
 rw [zero_list, ← List.map_append] at hown4
 have hb4 : ∀ a, Below N a w → Below N a w4 := fun a ha => below_own ha hg4 (fun b hb => Nat.le_trans hN (own1 b hb)) (by omega)
 obtain ⟨A4, c4, rfl, hA4, hc4⟩ := own_slice hown4
 have own4 : ∀ b, (Value.slice A4 (l.length + kz) c4).ownBlock = some b → base1 ≤ b := by
  intro b hb
  obtain ⟨ad, h1, h2⟩ := own_block hb
  have := (hc4 ad h1).1
  omega
 have hm4 : ∀ ad, A2 = some ad → ∀ (j : Nat) u, (m.map (Value.int .u64))[j]? = some u → w4.cell? (ad.add j) = some u := by
  intro ad had j u hu
  obtain ⟨h1, h2, h3⟩ := hm ad had
  rw [World.cell?_of_block (a := ad.add j) (w := w) (hg4.block (ad.add j).block (by rw [add_blockQ]; exact h2) (fun e => by obtain ⟨a1, h4, h5⟩ := own_block e.symm; have := (hA1 a1 h4).2; rw [add_blockQ] at h5; omega))]
  exact h3 j u hu
 obtain ⟨v5, w5, hr5, hown5, hg5, _⟩ := append_own (P := P) w4 base1 t t e i (.int .u64 0) ht hi hz0 (by rw [hz1]; rfl) (by omega) _ _ _ (by rw [hz1]; exact hown4) A2 m.length c2 (m.map (Value.int .u64)) (by rw [hz1, List.length_map, Nat.mul_one]) hA2 hm4 (by simp [Value.oneCell']) (by unfold maxLen; omega) (by rw [hz2]; omega) (by have := hg4.size; omega)
 rw [hz1, ← List.map_append] at hown5
 have hL : (l ++ List.replicate kz 0 ++ m).length = 8 := by simp only [List.length_append, List.length_replicate]; omega
 rw [show l.length + kz + m.length = (l ++ List.replicate kz 0 ++ m).length by rw [hL, h8]] at hown5
 obtain ⟨g, c5, rfl, hgb, hgl, HR⟩ := row_form hown5 (by omega)
 rw [hL] at hr5
 exact ⟨A4, c4, w4, g, c5, w5, hr4, hr5, HR, by omega, hgl, fun a ha => below_own (hb4 a ha) hg5 (fun b hb => Nat.le_trans hN (own4 b hb)) (by have := hg4.size; omega)⟩
end Go.Proofs.YtafggolijpopeaaGreatDoor
namespace Go.Proofs.YtafggolijpopeaaGreatDoor
open Go Go.Ma Go.RowKit Go.Proofs
theorem gMaxLen : Tryz.prog.globalNamed "internal/bytealg.MaxLen" = some 1 := by kernel_rfl
theorem cut_calls (s : ByteArray) (hs : s.size ≤ 4294967200) (w : World) (hG : Glob Tryz.prog w) :
  Calls Tryz.prog 31 #[.string s, .string ⟨#[58, 58]⟩] w fun e w' => e = .returned (.tuple #[.string (cut1 s), .string (cut2 s), .bool (cut3 s)]) ∧ Below w.heap.size w w' := by
 obtain ⟨m, hm⟩ := hG.num _ gMaxLen
 refine (Go.Proofs.Tryz.strings_Cut s ⟨#[58, 58]⟩ m w (by omega) hm).mono ?_
 rintro e w' ⟨rfl, n, rfl⟩
 exact ⟨rfl, below_drewN w n⟩
theorem cut_sizes (s : ByteArray) : (cut1 s).size ≤ s.size ∧ (cut2 s).size ≤ s.size := by
 have h1 : (cut1 s).size = (Lib.cut s.data.toList [58, 58]).1.length := rfl
 have h2 : (cut2 s).size = (Lib.cut s.data.toList [58, 58]).2.1.length := rfl
 have h3 : s.data.toList.length = s.size := Array.length_toList
 rw [h1, h2]
 unfold Lib.cut
 generalize Lib.index s.data.toList [58, 58] = ix
 by_cases h : 0 ≤ ix
 ·rw [if_pos h]
  simp only [List.length_take, List.length_drop]; omega
 ·rw [if_neg h]
  simp only [List.length_nil]; omega
theorem packI_snoc (x : Int) : ∀ (l : List Int) (a : Int), packI (l ++ [x]) a = aop .or .u64 (aop .shl .u64 (packI l a) 16) x
 | [], _ => rfl
 | y :: r, a => packI_snoc x r _
theorem packI_take {l : List Int} {k : Nat} {x : Int} (hx : l[k]? = some x) (a : Int) : packI (l.take (k + 1)) a = aop .or .u64 (aop .shl .u64 (packI (l.take k) a) 16) x := by
 rw [List.take_add_one, hx]
 exact packI_snoc x _ a
theorem someL_len (last : Bool) (len : Nat) : ∀ (l : List ByteArray) (i : Nat) (out r : List Int), someL last len l i out = some r → r.length ≤ out.length + 2 * l.length
 | [], _, out, r, h => by injection h with h; rw [h]; simp
 | x :: l, i, out, r, h => by
  rw [someL] at h
  split at h
  ·split at h
   ·cases h
   ·have := someL_len last len l _ _ r h
    simp only [List.length_append, List.length_cons, List.length_nil] at this ⊢
    omega
  ·split at h
   ·cases h
   ·have := someL_len last len l _ _ r h
    simp only [List.length_append, List.length_cons, List.length_nil] at this ⊢
    omega
theorem someF_len {s : ByteArray} {last : Bool} {r : List Int} (h : someF s last = some r) : r.length ≤ 2 * (s.size + 1) := by
 unfold someF at h
 split at h
 ·injection h with h; rw [← h]; simp
 ·have h1 := someL_len _ _ _ _ _ _ h
  have h2 := splitOn_le s 58
  simp only [List.length_nil] at h1
  omega
theorem put_one {w wr : World} {N i : Nat} {a b c v : Value} {t : TypeId} (hn : wr.heap[N]? = some (Go.Obj.cells #[a, b, c] t (0, 0))) (hb : Below w.heap.size w wr) (hN : w.heap.size < N) :
  (wr.setCell ⟨N, i, none⟩ v).drew.heap[N]? = some (Go.Obj.cells (#[a, b, c].setIfInBounds i v) t (0, 0)) ∧ (∀ k, k ≠ N → (wr.setCell ⟨N, i, none⟩ v).drew.heap[k]? = wr.heap[k]?) ∧ Below w.heap.size w (wr.setCell ⟨N, i, none⟩ v).drew := by
 have h := hb.setCell (p := ⟨N, i, none⟩) (show w.heap.size ≤ N by omega) v
 exact ⟨setCell_heap wr N i v _ t (0, 0) hn, fun k hk => Below.heap_setCell wr ⟨N, i, none⟩ v k hk, ⟨h.os, h.tape, h.output, h.size, h.block⟩⟩
theorem cells_other {w w' : World} {g N : Nat} {L : List Int} (hg : g ≠ N) (h : ∀ k, k ≠ N → w'.heap[k]? = w.heap[k]?) (hc : ∀ (j : Nat) x, L[j]? = some x → w.cell? ⟨g, j, none⟩ = some (.int .u64 x)) : ∀ (j : Nat) x, L[j]? = some x → w'.cell? ⟨g, j, none⟩ = some (.int .u64 x) :=
 fun j x hx => (World.cell?_of_block (a := ⟨g, j, none⟩) (h g hg)).trans (hc j x hx)
def EndA (o : Option Ad) (e : Ending) : Prop := match o with
 | some a => e = .returned (.agg #[.bool a.v6, .int .u64 a.hi, .int .u64 a.lo])
 | none => e = .panicked [badE]
theorem endA_none {o : Option Ad} (h : o = none) : EndA o (.panicked [badE]) := by rw [h]; rfl
set_option maxRecDepth 100000 in
set_option maxHeartbeats 8000000 in
theorem sixteen_walk (s : ByteArray) (hs : s.size ≤ 4294967200) (w : World) (hG : Glob Tryz.prog w) :
  Calls Tryz.prog 99 #[.string s] w fun e w' => EndA (sixteenF s) e ∧ Below w.heap.size w w' := by
 obtain ⟨i0, hi, hz0, hz1, hz2⟩ := info_parts infoU64
 obtain ⟨hs1, hs2⟩ := cut_sizes s
 have HC : Hid (∀ W, Below w.heap.size w W → Calls Tryz.prog 31 #[.string s, .string ⟨#[58, 58]⟩] W fun e w' => e = .returned (.tuple #[.string (cut1 s), .string (cut2 s), .bool (cut3 s)]) ∧ Below W.heap.size W w') := fun W hW => cut_calls s hs W (hG.mono hW)
 have H1 : Hid (∀ W, Below w.heap.size w W → Calls Tryz.prog 127 #[.string (cut1 s), .bool false] W fun e w' => EndRow W.heap.size (someF (cut1 s) false) e w' ∧ Below W.heap.size W w') := fun W hW => some_walk _ _ (by omega) W (hG.mono hW)
 have H2 : Hid (∀ W, Below w.heap.size w W → Calls Tryz.prog 127 #[.string (cut2 s), .bool true] W fun e w' => EndRow W.heap.size (someF (cut2 s) true) e w' ∧ Below W.heap.size W w') := fun W hW => some_walk _ _ (by omega) W (hG.mono hW)
 have H3 : Hid (∀ W, Below w.heap.size w W → Calls Tryz.prog 127 #[.string s, .bool true] W fun e w' => EndRow W.heap.size (someF s true) e w' ∧ Below W.heap.size W w') := fun W hW => some_walk _ _ (by omega) W (hG.mono hW)
 have hsx : sixteenF s = if cut3 s = true then (match someF (cut1 s) false with
  | none => none
  | some l => match someF (cut2 s) true with
   | none => none
   | some m => if 7 < l.length + m.length then none else some (packA (l ++ List.replicate (8 - l.length - m.length) 0 ++ m)))
 else match someF s true with
  | none => none
  | some l => if l.length = 8 then some (packA l) else none := rfl
 generalize sixteenF s = res at hsx ⊢
 generalize cut1 s = s1 at HC H1 hs1 hsx
 generalize cut2 s = s2 at HC H2 hs2 hsx
 generalize cut3 s = ok at HC hsx
 have hba : Below w.heap.size w (w.alloc (.cells #[.bool false, .int .u64 0, .int .u64 0] 24)) := (Below.refl _ w).alloc (Nat.le_refl _) _
 have hn0 := heap_alloc_new w (.cells #[.bool false, .int .u64 0, .int .u64 0] 24)
 go_enter Tryz.func99, Tryz.ntmps99
 cases ok with
 | false =>
  rw [if_neg (by decide)] at hsx
  cases hp : someF s true with
  | none =>
   rw [hp] at hsx H3
   go_wp2_with (first | (go_at_call 31; refine (HC.out _ hba).mono ?_; rintro e w1 ⟨rfl, hb1⟩) | (go_at_call 127; refine (H3.out _ (hba.trans (hb1.mono hba.size))).mono ?_; rintro e w2 ⟨he, hb2⟩; have he : e = .panicked [badE] := he; subst he))
   exact ⟨rfl, endA_none hsx, hba.trans ((hb1.mono hba.size).trans (hb2.mono (Nat.le_trans hba.size hb1.size)))⟩
  | some l =>
   rw [hp] at hsx H3
   simp only at hsx
   by_cases h8 : l.length = 8
   rotate_left
   ·rw [if_neg h8] at hsx
    have h8i : ((l.length : Int) != 8) = true := by rw [bne_iff_ne]; omega
    go_wp2_with (first | (go_at_call 31; refine (HC.out _ hba).mono ?_; rintro e w1 ⟨rfl, hb1⟩) | (go_at_call 127; refine (H3.out _ (hba.trans (hb1.mono hba.size))).mono ?_; rintro e w2 ⟨⟨v, rfl, hown⟩, hb2⟩; obtain ⟨A, cap, rfl⟩ : ∃ A cap, v = .slice A l.length cap := by obtain ⟨_, ⟨h, h0⟩ | ⟨g, cap, cur, h, _⟩⟩ := hown; exact ⟨none, 0, by rw [h, h0]⟩; exact ⟨_, _, h⟩))
    exact ⟨rfl, endA_none hsx, hba.trans ((hb1.mono hba.size).trans (hb2.mono (Nat.le_trans hba.size hb1.size)))⟩
   rw [if_pos h8] at hsx
   have h8i : ((l.length : Int) != 8) = false := by rw [h8]; rfl
   go_wp2_with (first | (go_at_call 31; refine (HC.out _ hba).mono ?_; rintro e w1 ⟨rfl, hb1⟩) | (go_at_call 127; refine (H3.out _ (hba.trans (hb1.mono hba.size))).mono ?_; rintro e w2 ⟨⟨v, rfl, hown⟩, hb2⟩; obtain ⟨g, cap, rfl, hgw, hgl, HR⟩ := row_form hown (by omega)))
   have hbw : Below w.heap.size w w2 := hba.trans ((hb1.mono hba.size).trans (hb2.mono (Nat.le_trans hba.size hb1.size)))
   have hnw : w2.heap[w.heap.size]? = some (Go.Obj.cells #[.bool false, .int .u64 0, .int .u64 0] 24 (0, 0)) := heap_below hb2 (heap_below hb1 hn0)
   obtain ⟨L, hL⟩ : ∃ L, L = l := ⟨_, rfl⟩
   rw [← hL] at HR h8 hsx
   have hgne : g ≠ w.heap.size := by
    have := hb1.size
    have h2 : (w.alloc (.cells #[.bool false, .int .u64 0, .int .u64 0] 24)).heap.size = w.heap.size + 1 := by simp
    omega
   clear hown hb1 hb2 hba hn0 hL hgw HC H1 H2 H3 hp
   have hN0 := heap_alloc_new w2 (.cells #[.bool true, .int .u64 0, .int .u64 0] 24)
   have hbN : Below w.heap.size w (w2.alloc (.cells #[.bool true, .int .u64 0, .int .u64 0] 24)) := hbw.alloc hbw.size _
   have hnN : (w2.alloc (.cells #[.bool true, .int .u64 0, .int .u64 0] 24)).heap[w.heap.size]? = some (Go.Obj.cells #[.bool false, .int .u64 0, .int .u64 0] 24 (0, 0)) := (Below.heap_alloc _ _ _ (Array.getElem?_eq_some_iff.1 hnw).1).trans hnw
   have HRN : Hid (∀ (j : Nat) x, L[j]? = some x → (w2.alloc (.cells #[.bool true, .int .u64 0, .int .u64 0] 24)).cell? ⟨g, j, none⟩ = some (.int .u64 x)) := Lib.hid fun j x hx => cell_stays ((Below.refl w2.heap.size w2).alloc (Nat.le_refl _) _) (HR.out j x hx)
   obtain ⟨N, hN⟩ : ∃ N, N = w2.heap.size := ⟨_, rfl⟩
   have hgN : g < N := by rw [hN]; exact hgl
   have hwN : w.heap.size < N := by rw [hN]; exact (Array.getElem?_eq_some_iff.1 hnw).1
   rw [← hN] at hN0 ⊢
   generalize w2.alloc (.cells #[.bool true, .int .u64 0, .int .u64 0] 24) = wN at hN0 hbN hnN HRN ⊢
   clear HR hnw hbw hgl hN
   go_loopw [47] (fun vi wr => ∃ (k : Nat) (h l : Int), vi = .int .i64 k ∧ k ≤ 4 ∧ Hid (h = packI (L.take k) 0 ∧ l = packI ((L.drop 4).take k) 0) ∧ wr.heap[N]? = some (Go.Obj.cells #[.bool true, .int .u64 h, .int .u64 l] 24 (0, 0)) ∧ Hid (∀ (j : Nat) x, L[j]? = some x → wr.cell? ⟨g, j, none⟩ = some (.int .u64 x)) ∧ wr.heap[w.heap.size]? = some (Go.Obj.cells #[.bool false, .int .u64 0, .int .u64 0] 24 (0, 0)) ∧ Below w.heap.size w wr) (fun vi _ => 4 - (intOf vi).toNat)
   case atStart => exact ⟨0, 0, 0, rfl, by omega, Lib.hid ⟨rfl, rfl⟩, hN0, HRN, hnN, hbN⟩
   case round =>
    clear hN0 HRN hnN hbN
    obtain ⟨k, h, l, rfl, hk, HP, hN0, HR, hnw, hbw⟩ := hrel
    obtain ⟨m0, m1, m2, m3, m4, m5⟩ := three_cells hN0
    by_cases hlt : k < 4
    ·obtain ⟨x, hx⟩ : ∃ x, L[k]? = some x := ⟨_, List.getElem?_eq_getElem (by omega)⟩
     obtain ⟨y, hy⟩ : ∃ y, L[4 + k]? = some y := ⟨_, List.getElem?_eq_getElem (by omega)⟩
     have c0 := HR.out k x hx
     have c1 := HR.out (4 + k) y hy
     have hltI : (k : Int) < 4 := by omega
     go_wp2
     go_region
     obtain ⟨q1, q2, q3⟩ := put_one (i := 1) (v := .int .u64 (bits .or .u64 (IntKind.u64.wrap (h * 65536)) x)) hN0 hbw hwN
     have HR1 := Lib.hid (cells_other (by omega : g ≠ N) q2 HR.out)
     have hnw1 := (q2 w.heap.size (by omega)).trans hnw
     obtain ⟨h1, hh1⟩ : ∃ h1, h1 = bits .or .u64 (IntKind.u64.wrap (h * 65536)) x := ⟨_, rfl⟩
     rw [← hh1] at q1 q2 q3 HR1 hnw1 ⊢
     generalize (wr.setCell ⟨N, 1, none⟩ (.int .u64 h1)).drew = wA at q1 q3 HR1 hnw1 ⊢
     clear q2 HR hnw hbw hN0 m0 m1 m2 m3 m4 m5 c0 c1
     have q1 : wA.heap[N]? = some (Go.Obj.cells #[.bool true, .int .u64 h1, .int .u64 l] 24 (0, 0)) := q1
     obtain ⟨m0, m1, m2, m3, m4, m5⟩ := three_cells q1
     have c1 := HR1.out (4 + k) y hy
     go_wp2
     go_region
     obtain ⟨r1, r2, r3⟩ := put_one (i := 2) (v := .int .u64 (bits .or .u64 (IntKind.u64.wrap (l * 65536)) y)) q1 q3 hwN
     have HR2 := Lib.hid (cells_other (by omega : g ≠ N) r2 HR1.out)
     have hnw2 := (r2 w.heap.size (by omega)).trans hnw1
     obtain ⟨l1, hl1⟩ : ∃ l1, l1 = bits .or .u64 (IntKind.u64.wrap (l * 65536)) y := ⟨_, rfl⟩
     rw [← hl1] at r1 r2 r3 HR2 hnw2 ⊢
     generalize (wA.setCell ⟨N, 2, none⟩ (.int .u64 l1)).drew = wB at r1 r3 HR2 hnw2 ⊢
     clear r2
     have r1 : wB.heap[N]? = some (Go.Obj.cells #[.bool true, .int .u64 h1, .int .u64 l1] 24 (0, 0)) := r1
     have HP2 : Hid (h1 = packI (L.take (k + 1)) 0 ∧ l1 = packI ((L.drop 4).take (k + 1)) 0) := Lib.hid ⟨by rw [packI_take hx, ← HP.out.1, hh1]; rfl, by rw [packI_take (by rw [List.getElem?_drop]; exact hy), ← HP.out.2, hl1]; rfl⟩
     go_wp2
     exact ⟨⟨k + 1, h1, l1, by go_num, by omega, HP2, r1, HR2, hnw2, r3⟩, by simp [intOf]; omega⟩
    ·have hk4 : k = 4 := by omega
     subst hk4
     obtain ⟨n0, n1, n2, n3, n4, n5⟩ := three_cells hnw
     go_wp2
     obtain ⟨s1, s2, s3⟩ := set3 (a := .bool true) (b := .int .u64 h) (c := .int .u64 l) hnw
     obtain ⟨p0, p1, p2, _⟩ := three_cells s1
     refine bodyPost_ret (v := .agg #[.bool true, .int .u64 h, .int .u64 l]) ?_ rfl ⟨?_, hbw.trans s3⟩
     ·simp [results, Tryz.f99, go_sem, p0, p1, p2]
     ·rw [hsx]
      obtain ⟨e1, e2⟩ := HP.out
      show Ending.returned _ = Ending.returned _
      rw [e1, e2]
      rfl
 | true =>
  rw [if_pos rfl] at hsx
  cases hp1 : someF s1 false with
  | none =>
   rw [hp1] at hsx H1
   go_wp2_with (first | (go_at_call 31; refine (HC.out _ hba).mono ?_; rintro e w1 ⟨rfl, hb1⟩; have hbA := hba.trans (hb1.mono hba.size)) | (go_at_call 127; refine (H1.out _ hbA).mono ?_; rintro e w2 ⟨he, hb2⟩; have he : e = .panicked [badE] := he; subst he))
   exact ⟨rfl, endA_none hsx, hbA.trans (hb2.mono hbA.size)⟩
  | some l =>
   have hl1 := someF_len hp1
   rw [hp1] at hsx H1
   simp only at hsx
   cases hp2 : someF s2 true with
   | none =>
    rw [hp2] at hsx H2
    go_wp2_with (first | (go_at_call 31; refine (HC.out _ hba).mono ?_; rintro e w1 ⟨rfl, hb1⟩; have hbA := hba.trans (hb1.mono hba.size)) | (go_at_call 127; refine (H1.out _ hbA).mono ?_; rintro e w2 ⟨⟨v, rfl, hown⟩, hb2⟩; obtain ⟨A1, c1, rfl, hA1, _⟩ := own_slice hown; have hbB := hbA.trans (hb2.mono hbA.size); clear H1) | (go_at_call 127; refine (H2.out _ hbB).mono ?_; rintro e w3 ⟨he, hb3⟩; have he : e = .panicked [badE] := he; subst he))
    exact ⟨rfl, endA_none hsx, hbB.trans (hb3.mono hbB.size)⟩
   | some m =>
    have hl2 := someF_len hp2
    rw [hp2] at hsx H2
    simp only at hsx
    by_cases h7 : 7 < l.length + m.length
    ·rw [if_pos h7] at hsx
     have h7i : decide (7 < (l.length : Int) + (m.length : Int)) = true := decide_eq_true (by omega)
     go_wp2_with (first | (go_at_call 31; refine (HC.out _ hba).mono ?_; rintro e w1 ⟨rfl, hb1⟩; have hbA := hba.trans (hb1.mono hba.size)) | (go_at_call 127; refine (H1.out _ hbA).mono ?_; rintro e w2 ⟨⟨v, rfl, hown⟩, hb2⟩; obtain ⟨A1, c1, rfl, hA1, _⟩ := own_slice hown; have hbB := hbA.trans (hb2.mono hbA.size); clear H1) | (go_at_call 127; refine (H2.out _ hbB).mono ?_; rintro e w3 ⟨⟨v, rfl, hownm⟩, hb3⟩; obtain ⟨A2, c2, rfl, hA2, hcm⟩ := own_slice hownm; have hbC := hbB.trans (hb3.mono hbB.size)))
     exact ⟨rfl, endA_none hsx, hbC⟩
    ·rw [if_neg h7] at hsx
     have h7i : decide (7 < (l.length : Int) + (m.length : Int)) = false := decide_eq_false (by omega)
     obtain ⟨kz, hkze⟩ : ∃ kz, kz = 8 - l.length - m.length := ⟨_, rfl⟩
     have hkz : 0 < kz := by omega
     have hkzi : (kz : Int) = 8 - (l.length : Int) - (m.length : Int) := by omega
     have hzc : ∀ u ∈ (Builtin.zeroCells (Value.int IntKind.u64 0).cells kz).toList, u.oneCell' = true := zero_one kz
     rw [← hkze] at hsx
     have H8 := Lib.hid (show l.length + kz + m.length = 8 by omega)
     have HKZ := Lib.hid hkzi
     clear hkze hkzi
     go_wp2_with (first | (go_at_call 31; refine (HC.out _ hba).mono ?_; rintro e w1 ⟨rfl, hb1⟩; have hbA := hba.trans (hb1.mono hba.size)) | (go_at_call 127; refine (H1.out _ hbA).mono ?_; rintro e w2 ⟨⟨v, rfl, hown⟩, hb2⟩; obtain ⟨A1, c1, rfl, hA1, hc1⟩ := own_slice hown; have hbB := hbA.trans (hb2.mono hbA.size); clear H1) | (go_at_call 127; refine (H2.out _ hbB).mono ?_; rintro e w3 ⟨⟨v, rfl, hownm⟩, hb3⟩; obtain ⟨A2, c2, rfl, hA2, hc2⟩ := own_slice hownm; obtain ⟨A4, c4, w4, g, c5, w5, hr4, hr5, HR, hgN, hgl, hbE⟩ := two_appends (P := Tryz.prog) w3 w1.heap.size w1.heap.size w2.heap.size 158 3 22 i0 Tryz.underlying158 Tryz.underlying3 hi hz0 hz1 hz2 A1 c1 l (hown.kept (below_grown' hb3) (Classical.em _)) A2 c2 m hA2 (fun ad h => ⟨(hc1 ad h).1, (hc1 ad h).2.1⟩) hc2 (by have := hb2.size; have := hb3.size; omega) (Nat.le_refl _) kz hkz H8.out; rw [HKZ.out] at hr4; have hb15 := hbE _ (hb2.trans (hb3.mono hb2.size)); clear hc1 hc2 hown hownm hbE) | (at_builtin; refine Lib.wpList_append_run _ rfl _ _ _ _ rfl _ _ rfl rfl _ _ hr4 ?_) | (at_builtin; refine Lib.wpList_append_run _ rfl _ _ _ _ rfl _ _ rfl rfl _ _ hr5 ?_))
     have hbw : Below w.heap.size w w5 := hba.trans ((hb1.trans (hb15.mono hb1.size)).mono hba.size)
     have hnw : w5.heap[w.heap.size]? = some (Go.Obj.cells #[.bool false, .int .u64 0, .int .u64 0] 24 (0, 0)) := heap_below hb15 (heap_below hb1 hn0)
     obtain ⟨L, hL⟩ : ∃ L, L = l ++ List.replicate kz 0 ++ m := ⟨_, rfl⟩
     have h8 : L.length = 8 := by have h9 : l.length + kz + m.length = 8 := H8.out; rw [hL]; simp only [List.length_append, List.length_replicate]; omega
     rw [← hL] at HR hsx
     have hgne : g ≠ w.heap.size := by
      have := hb1.size
      have h2 : (w.alloc (.cells #[.bool false, .int .u64 0, .int .u64 0] 24)).heap.size = w.heap.size + 1 := by simp
      omega
     clear hb1 hb2 hb3 hb15 hba hn0 hL hgN HC H2 H3 hp1 hp2 hr4 hr5 hbA hbB H8 HKZ hkz hA1 hA2
     have hN0 := heap_alloc_new w5 (.cells #[.bool true, .int .u64 0, .int .u64 0] 24)
     have hbN : Below w.heap.size w (w5.alloc (.cells #[.bool true, .int .u64 0, .int .u64 0] 24)) := hbw.alloc hbw.size _
     have hnN : (w5.alloc (.cells #[.bool true, .int .u64 0, .int .u64 0] 24)).heap[w.heap.size]? = some (Go.Obj.cells #[.bool false, .int .u64 0, .int .u64 0] 24 (0, 0)) := (Below.heap_alloc _ _ _ (Array.getElem?_eq_some_iff.1 hnw).1).trans hnw
     have HRN : Hid (∀ (j : Nat) x, L[j]? = some x → (w5.alloc (.cells #[.bool true, .int .u64 0, .int .u64 0] 24)).cell? ⟨g, j, none⟩ = some (.int .u64 x)) := Lib.hid fun j x hx => cell_stays ((Below.refl w5.heap.size w5).alloc (Nat.le_refl _) _) (HR.out j x hx)
     obtain ⟨N, hN⟩ : ∃ N, N = w5.heap.size := ⟨_, rfl⟩
     have hgN : g < N := by rw [hN]; exact hgl
     have hwN : w.heap.size < N := by rw [hN]; exact (Array.getElem?_eq_some_iff.1 hnw).1
     rw [← hN] at hN0 ⊢
     generalize w5.alloc (.cells #[.bool true, .int .u64 0, .int .u64 0] 24) = wN at hN0 hbN hnN HRN ⊢
     clear HR hnw hbw hgl hN
     go_loopw [47] (fun vi wr => ∃ (k : Nat) (h l : Int), vi = .int .i64 k ∧ k ≤ 4 ∧ Hid (h = packI (L.take k) 0 ∧ l = packI ((L.drop 4).take k) 0) ∧ wr.heap[N]? = some (Go.Obj.cells #[.bool true, .int .u64 h, .int .u64 l] 24 (0, 0)) ∧ Hid (∀ (j : Nat) x, L[j]? = some x → wr.cell? ⟨g, j, none⟩ = some (.int .u64 x)) ∧ wr.heap[w.heap.size]? = some (Go.Obj.cells #[.bool false, .int .u64 0, .int .u64 0] 24 (0, 0)) ∧ Below w.heap.size w wr) (fun vi _ => 4 - (intOf vi).toNat)
     case atStart => exact ⟨0, 0, 0, rfl, by omega, Lib.hid ⟨rfl, rfl⟩, hN0, HRN, hnN, hbN⟩
     case round =>
      clear hN0 HRN hnN hbN
      obtain ⟨k, h, l, rfl, hk, HP, hN0, HR, hnw, hbw⟩ := hrel
      obtain ⟨m0, m1, m2, m3, m4, m5⟩ := three_cells hN0
      by_cases hlt : k < 4
      ·obtain ⟨x, hx⟩ : ∃ x, L[k]? = some x := ⟨_, List.getElem?_eq_getElem (by omega)⟩
       obtain ⟨y, hy⟩ : ∃ y, L[4 + k]? = some y := ⟨_, List.getElem?_eq_getElem (by omega)⟩
       have c0 := HR.out k x hx
       have c1 := HR.out (4 + k) y hy
       have hltI : (k : Int) < 4 := by omega
       go_wp2
       go_region
       obtain ⟨q1, q2, q3⟩ := put_one (i := 1) (v := .int .u64 (bits .or .u64 (IntKind.u64.wrap (h * 65536)) x)) hN0 hbw hwN
       have HR1 := Lib.hid (cells_other (by omega : g ≠ N) q2 HR.out)
       have hnw1 := (q2 w.heap.size (by omega)).trans hnw
       obtain ⟨h1, hh1⟩ : ∃ h1, h1 = bits .or .u64 (IntKind.u64.wrap (h * 65536)) x := ⟨_, rfl⟩
       rw [← hh1] at q1 q2 q3 HR1 hnw1 ⊢
       generalize (wr.setCell ⟨N, 1, none⟩ (.int .u64 h1)).drew = wA at q1 q3 HR1 hnw1 ⊢
       clear q2 HR hnw hbw hN0 m0 m1 m2 m3 m4 m5 c0 c1
       have q1 : wA.heap[N]? = some (Go.Obj.cells #[.bool true, .int .u64 h1, .int .u64 l] 24 (0, 0)) := q1
       obtain ⟨m0, m1, m2, m3, m4, m5⟩ := three_cells q1
       have c1 := HR1.out (4 + k) y hy
       go_wp2
       go_region
       obtain ⟨r1, r2, r3⟩ := put_one (i := 2) (v := .int .u64 (bits .or .u64 (IntKind.u64.wrap (l * 65536)) y)) q1 q3 hwN
       have HR2 := Lib.hid (cells_other (by omega : g ≠ N) r2 HR1.out)
       have hnw5 := (r2 w.heap.size (by omega)).trans hnw1
       obtain ⟨l1, hl1⟩ : ∃ l1, l1 = bits .or .u64 (IntKind.u64.wrap (l * 65536)) y := ⟨_, rfl⟩
       rw [← hl1] at r1 r2 r3 HR2 hnw5 ⊢
       generalize (wA.setCell ⟨N, 2, none⟩ (.int .u64 l1)).drew = wB at r1 r3 HR2 hnw5 ⊢
       clear r2
       have r1 : wB.heap[N]? = some (Go.Obj.cells #[.bool true, .int .u64 h1, .int .u64 l1] 24 (0, 0)) := r1
       have HP2 : Hid (h1 = packI (L.take (k + 1)) 0 ∧ l1 = packI ((L.drop 4).take (k + 1)) 0) := Lib.hid ⟨by rw [packI_take hx, ← HP.out.1, hh1]; rfl, by rw [packI_take (by rw [List.getElem?_drop]; exact hy), ← HP.out.2, hl1]; rfl⟩
       go_wp2
       exact ⟨⟨k + 1, h1, l1, by go_num, by omega, HP2, r1, HR2, hnw5, r3⟩, by simp [intOf]; omega⟩
      ·have hk4 : k = 4 := by omega
       subst hk4
       obtain ⟨n0, n1, n2, n3, n4, n5⟩ := three_cells hnw
       go_wp2
       obtain ⟨s1, s2, s3⟩ := set3 (a := .bool true) (b := .int .u64 h) (c := .int .u64 l) hnw
       obtain ⟨p0, p1, p2, _⟩ := three_cells s1
       refine bodyPost_ret (v := .agg #[.bool true, .int .u64 h, .int .u64 l]) ?_ rfl ⟨?_, hbw.trans s3⟩
       ·simp [results, Tryz.f99, go_sem, p0, p1, p2]
       ·rw [hsx]
        obtain ⟨e1, e2⟩ := HP.out
        show Ending.returned _ = Ending.returned _
        rw [e1, e2]
        rfl
end Go.Proofs.YtafggolijpopeaaGreatDoor
namespace Go.Proofs.YtafggolijpopeaaGreatDoor
open Go Go.Ma Go.RowKit Go.Proofs
theorem told_idle (p q : Addr) (w : World) :
  CallsD Tryz.prog 97 #[.pointer (some p), .pointer (some q)] .returning w fun e u' w' => e = .returned (.tuple #[]) ∧ u' = .returning ∧ w' = w := by
 refine callsD_of_wpS Tryz.func97 rfl fun c₀ cs hu => ?_
 apply wpS_seq
 apply wpS_region
 simp [wpOpsS, go_sem, recoverD, hu, Tryz.ntmps97, Exit.thenS]
 apply wpS_seq
 apply wpS_region
 simp [wpOpsS, go_sem, Exit.thenS]
 refine wpS_cond (t := false) (by simp [Act.eval, Array.replicate]) ?_
 simp only [Bool.false_eq_true, if_false]
 refine wpS_of_wp (wp_skip ?_)
 cases c₀
 simp_all [bodyPostS, results, Tryz.results97]
noncomputable def laidNo (W : World) (n : Nat) : World := ((((W.setCell ⟨n, 0, none⟩ (.bool false)).setCell ⟨n, 1, none⟩ (.int .u64 0)).setCell ⟨n, 2, none⟩ (.int .u64 0)).setCell ⟨n + 1, 0, none⟩ (.bool false))
theorem ta_bad (T : TypeId) (W : World) : (Instr.typeAssert (.iface 130 (.agg #[])) T 130 true).run Tryz.prog W = .ok (.tuple #[.agg #[], .bool true]) W := by
 simp [Instr.typeAssert, run_underlying Tryz.underlying130]
set_option maxRecDepth 100000 in
set_option maxHeartbeats 2000000 in
theorem told_catch (n : Nat) (w : World) (a b c d : Value) (older : List PanicEntry) (h1 : w.heap[n]? = some (Go.Obj.cells #[a, b, c] 24 (0, 0))) (h2 : w.heap[n + 1]? = some (Go.Obj.cells #[d] 4 (0, 0))) :
  CallsD Tryz.prog 97 #[.pointer (some ⟨n, 0, none⟩), .pointer (some ⟨n + 1, 0, none⟩)] (.panicking (badE :: older)) w fun e u' w' => e = .returned (.tuple #[]) ∧ u' = .panicking ({ badE with recovered := true } :: older) ∧ w' = laidNo (w.alloc (.cells #[] 130)) n := by
 have g1 := (Below.heap_alloc w (.cells #[] 130) n (Array.getElem?_eq_some_iff.1 h1).1).trans h1
 have g2 := (Below.heap_alloc w (.cells #[] 130) (n + 1) (Array.getElem?_eq_some_iff.1 h2).1).trans h2
 obtain ⟨m0, m1, m2, m3, m4, m5⟩ := three_cells g1
 obtain ⟨m6, m7⟩ := cell_of_box_l g2
 clear h1 h2 g1 g2
 refine callsD_of_wpS Tryz.func97 rfl fun c₀ cs hu => ?_
 apply wpS_seq
 apply wpS_region
 simp [wpOpsS, go_sem, recoverD, hu, badE, Tryz.ntmps97, Exit.thenS]
 apply wpS_seq
 apply wpS_region
 simp [wpOpsS, go_sem, Exit.thenS]
 refine wpS_cond (t := true) (by simp [Act.eval, Array.replicate]) ?_
 simp only [if_true]
 refine wpS_of_wp ?_
 have hta : ∀ T W, (Instr.typeAssert (.iface 130 (.agg #[])) T 130 true).run Tryz.prog W = .ok (.tuple #[.agg #[], .bool true]) W := ta_bad
 show Code.wp _ _ _ { tmps := #[.pointer (some ⟨n, 0, none⟩), .pointer (some ⟨n + 1, 0, none⟩), .iface 130 (.agg #[]), Go.undef, Go.undef, .iface 130 (.agg #[]), .iface 130 (.agg #[]), .bool true, Go.undef, Go.undef, Go.undef, Go.undef, Go.undef, Go.undef, Go.undef, Go.undef, Go.undef], defers := [] } _
 go_wp2
 simp [bodyPostS, results, Tryz.results97, laidNo]
theorem laidNo_spec {w : World} {n : Nat} {a b c d : Value} (h1 : w.heap[n]? = some (Go.Obj.cells #[a, b, c] 24 (0, 0))) (h2 : w.heap[n + 1]? = some (Go.Obj.cells #[d] 4 (0, 0))) :
  (laidNo w n).heap[n]? = some (Go.Obj.cells #[.bool false, .int .u64 0, .int .u64 0] 24 (0, 0)) ∧ (laidNo w n).heap[n + 1]? = some (Go.Obj.cells #[.bool false] 4 (0, 0)) ∧ Below n w (laidNo w n) := by
 obtain ⟨s1, s2, s3⟩ := set3 (a := .bool false) (b := .int .u64 0) (c := .int .u64 0) h1
 have i4' := (s2 (n + 1) (by omega)).trans h2
 have t1 := setCell_heap _ (n + 1) 0 (.bool false) #[d] 4 (0, 0) i4'
 have t2 := (Below.heap_setCell _ ⟨n + 1, 0, none⟩ (.bool false) _ (by show n ≠ n + 1; omega)).trans s1
 exact ⟨t2, t1, s3.setCell (p := ⟨n + 1, 0, none⟩) (by show n ≤ n + 1; omega) (.bool false)⟩
set_option maxRecDepth 100000 in
set_option maxHeartbeats 4000000 in
theorem told_four (s : ByteArray) (w : World) (u : Int) (hc : ∀ W, Calls Tryz.prog 98 #[.string s, .string ⟨#[58]⟩] W fun e w' => e = .returned (.bool false) ∧ w' = W) (hx : ∀ W, Below w.heap.size w W → Calls Tryz.prog 100 #[.string s] W fun e w' => e = .returned (.int .u64 u) ∧ Below W.heap.size W w') :
  Calls Tryz.prog 71 #[.string s] w fun e w' => e = .returned (.tuple #[.agg #[.bool false, .int .u64 0, .int .u64 u], .bool true]) ∧ Below w.heap.size w w' := by
 have hmf : ∀ (fn : Fn) (first cap : Array Value) (w : World), (Instr.makeFunc fn first cap).run Tryz.prog w = .ok (.func fn first cap) w := fun _ _ _ _ => rfl
 have HC : Hid (∀ W, Calls Tryz.prog 98 #[.string s, .string ⟨#[58]⟩] W fun e w' => e = .returned (.bool false) ∧ w' = W) := Lib.hid hc
 have HX := Lib.hid hx
 clear hc hx
 go_enter_defers Tryz.func71, Tryz.ntmps71
 have hz1 : ((w.alloc (.cells #[.bool false, .int .u64 0, .int .u64 0] 24)).alloc (.cells #[.bool false] 4)).heap[w.heap.size]? = some (.cells #[.bool false, .int .u64 0, .int .u64 0] 24 (0, 0)) := by
  rw [heap_push, if_neg (by simp only [World.size_alloc]; omega), heap_push, if_pos rfl]
 have hz2 : ((w.alloc (.cells #[.bool false, .int .u64 0, .int .u64 0] 24)).alloc (.cells #[.bool false] 4)).heap[w.heap.size + 1]? = some (.cells #[.bool false] 4 (0, 0)) := by
  rw [heap_push, if_pos (by simp)]
 have hz3 : Below w.heap.size w ((w.alloc (.cells #[.bool false, .int .u64 0, .int .u64 0] 24)).alloc (.cells #[.bool false] 4)) := ((Below.refl _ w).alloc (Nat.le_refl _) _).alloc (by simp) _
 go_wp2_with (first | (go_at_call 98; refine (HC.out _).mono ?_; rintro e w2 ⟨rfl, hw2⟩; have hw2 := hw2.symm; subst hw2) | (go_at_call 100; refine (HX.out _ hz3).mono ?_; rintro e w3 ⟨he, hb3⟩; have he : e = .returned (.int .u64 u) := he; subst he; have i3 := heap_below hb3 hz1; have i4 := heap_below hb3 hz2; have hb4 := hz3.trans (hb3.mono hz3.size); clear hb3 hz1 hz2 hz3 HC; obtain ⟨n0, n1, n2, n3, n4, n5⟩ := three_cells i3; obtain ⟨n6, n7⟩ := cell_of_box_l i4))
 obtain ⟨s1, s2, s3⟩ := set3 (a := .bool false) (b := .int .u64 0) (c := .int .u64 u) i3
 have i4' : (((w3.setCell ⟨w.heap.size, 0, none⟩ (.bool false)).setCell ⟨w.heap.size, 1, none⟩ (.int .u64 0)).setCell ⟨w.heap.size, 2, none⟩ (.int .u64 u)).heap[w.heap.size + 1]? = some (Go.Obj.cells #[.bool false] 4 (0, 0)) := (s2 _ (by omega)).trans i4
 have t1 := setCell_heap _ (w.heap.size + 1) 0 (.bool true) #[.bool false] 4 (0, 0) i4'
 have t2 := (Below.heap_setCell _ ⟨w.heap.size + 1, 0, none⟩ (.bool true) _ (by show w.heap.size ≠ w.heap.size + 1; omega)).trans s1
 obtain ⟨m0, m1, m2, _⟩ := three_cells t2
 obtain ⟨m6, _⟩ := cell_of_box_l t1
 have hbb := (hb4.trans s3).setCell (p := ⟨w.heap.size + 1, 0, none⟩) (by show w.heap.size ≤ w.heap.size + 1; omega) (.bool true)
 generalize (((w3.setCell ⟨w.heap.size, 0, none⟩ (.bool false)).setCell ⟨w.heap.size, 1, none⟩ (.int .u64 0)).setCell ⟨w.heap.size, 2, none⟩ (.int .u64 u)).setCell ⟨w.heap.size + 1, 0, none⟩ (.bool true) = W4 at m0 m1 m2 m6 hbb ⊢
 refine leaves_cons (f := 97) (args := #[.pointer (some ⟨w.heap.size, 0, none⟩), .pointer (some ⟨w.heap.size + 1, 0, none⟩)]) (by simp) (by simp [go_sem]) ?_
 refine (told_idle _ _ _).mono ?_
 rintro e u' w'' ⟨rfl, rfl, rfl⟩
 simp [Leaves, settle, results, Tryz.results71, go_sem, m0, m1, m2, m6]
 exact hbb
set_option maxRecDepth 100000 in
set_option maxHeartbeats 4000000 in
theorem told_sixteen (s : ByteArray) (w : World) (x : Ad) (hc : ∀ W, Calls Tryz.prog 98 #[.string s, .string ⟨#[58]⟩] W fun e w' => e = .returned (.bool true) ∧ w' = W) (hx : ∀ W, Below w.heap.size w W → Calls Tryz.prog 99 #[.string s] W fun e w' => e = .returned (.agg #[.bool x.v6, .int .u64 x.hi, .int .u64 x.lo]) ∧ Below W.heap.size W w') :
  Calls Tryz.prog 71 #[.string s] w fun e w' => e = .returned (.tuple #[.agg #[.bool x.v6, .int .u64 x.hi, .int .u64 x.lo], .bool true]) ∧ Below w.heap.size w w' := by
 have hmf : ∀ (fn : Fn) (first cap : Array Value) (w : World), (Instr.makeFunc fn first cap).run Tryz.prog w = .ok (.func fn first cap) w := fun _ _ _ _ => rfl
 have HC : Hid (∀ W, Calls Tryz.prog 98 #[.string s, .string ⟨#[58]⟩] W fun e w' => e = .returned (.bool true) ∧ w' = W) := Lib.hid hc
 have HX := Lib.hid hx
 clear hc hx
 go_enter_defers Tryz.func71, Tryz.ntmps71
 have hz1 : ((w.alloc (.cells #[.bool false, .int .u64 0, .int .u64 0] 24)).alloc (.cells #[.bool false] 4)).heap[w.heap.size]? = some (.cells #[.bool false, .int .u64 0, .int .u64 0] 24 (0, 0)) := by
  rw [heap_push, if_neg (by simp only [World.size_alloc]; omega), heap_push, if_pos rfl]
 have hz2 : ((w.alloc (.cells #[.bool false, .int .u64 0, .int .u64 0] 24)).alloc (.cells #[.bool false] 4)).heap[w.heap.size + 1]? = some (.cells #[.bool false] 4 (0, 0)) := by
  rw [heap_push, if_pos (by simp)]
 have hz3 : Below w.heap.size w ((w.alloc (.cells #[.bool false, .int .u64 0, .int .u64 0] 24)).alloc (.cells #[.bool false] 4)) := ((Below.refl _ w).alloc (Nat.le_refl _) _).alloc (by simp) _
 go_wp2_with (first | (go_at_call 98; refine (HC.out _).mono ?_; rintro e w2 ⟨rfl, hw2⟩; have hw2 := hw2.symm; subst hw2) | (go_at_call 99; refine (HX.out _ hz3).mono ?_; rintro e w3 ⟨he, hb3⟩; have he : e = .returned (.agg #[.bool x.v6, .int .u64 x.hi, .int .u64 x.lo]) := he; subst he; have i3 := heap_below hb3 hz1; have i4 := heap_below hb3 hz2; have hb4 := hz3.trans (hb3.mono hz3.size); clear hb3 hz1 hz2 hz3 HC; obtain ⟨n0, n1, n2, n3, n4, n5⟩ := three_cells i3; obtain ⟨n6, n7⟩ := cell_of_box_l i4))
 obtain ⟨s1, s2, s3⟩ := set3 (a := .bool x.v6) (b := .int .u64 x.hi) (c := .int .u64 x.lo) i3
 have i4' : (((w3.setCell ⟨w.heap.size, 0, none⟩ (.bool x.v6)).setCell ⟨w.heap.size, 1, none⟩ (.int .u64 x.hi)).setCell ⟨w.heap.size, 2, none⟩ (.int .u64 x.lo)).heap[w.heap.size + 1]? = some (Go.Obj.cells #[.bool false] 4 (0, 0)) := (s2 _ (by omega)).trans i4
 have t1 := setCell_heap _ (w.heap.size + 1) 0 (.bool true) #[.bool false] 4 (0, 0) i4'
 have t2 := (Below.heap_setCell _ ⟨w.heap.size + 1, 0, none⟩ (.bool true) _ (by show w.heap.size ≠ w.heap.size + 1; omega)).trans s1
 obtain ⟨m0, m1, m2, _⟩ := three_cells t2
 obtain ⟨m6, _⟩ := cell_of_box_l t1
 have hbb := (hb4.trans s3).setCell (p := ⟨w.heap.size + 1, 0, none⟩) (by show w.heap.size ≤ w.heap.size + 1; omega) (.bool true)
 generalize (((w3.setCell ⟨w.heap.size, 0, none⟩ (.bool x.v6)).setCell ⟨w.heap.size, 1, none⟩ (.int .u64 x.hi)).setCell ⟨w.heap.size, 2, none⟩ (.int .u64 x.lo)).setCell ⟨w.heap.size + 1, 0, none⟩ (.bool true) = W4 at m0 m1 m2 m6 hbb ⊢
 refine leaves_cons (f := 97) (args := #[.pointer (some ⟨w.heap.size, 0, none⟩), .pointer (some ⟨w.heap.size + 1, 0, none⟩)]) (by simp) (by simp [go_sem]) ?_
 refine (told_idle _ _ _).mono ?_
 rintro e u' w'' ⟨rfl, rfl, rfl⟩
 simp [Leaves, settle, results, Tryz.results71, go_sem, m0, m1, m2, m6]
 exact hbb
set_option maxRecDepth 100000 in
set_option maxHeartbeats 4000000 in
theorem told_four_bad (s : ByteArray) (w : World) (hc : ∀ W, Calls Tryz.prog 98 #[.string s, .string ⟨#[58]⟩] W fun e w' => e = .returned (.bool false) ∧ w' = W) (hx : ∀ W, Below w.heap.size w W → Calls Tryz.prog 100 #[.string s] W fun e w' => e = .panicked [badE] ∧ Below W.heap.size W w') :
  Calls Tryz.prog 71 #[.string s] w fun e w' => e = .returned (.tuple #[.agg #[.bool false, .int .u64 0, .int .u64 0], .bool false]) ∧ Below w.heap.size w w' := by
 have hmf : ∀ (fn : Fn) (first cap : Array Value) (w : World), (Instr.makeFunc fn first cap).run Tryz.prog w = .ok (.func fn first cap) w := fun _ _ _ _ => rfl
 have HC : Hid (∀ W, Calls Tryz.prog 98 #[.string s, .string ⟨#[58]⟩] W fun e w' => e = .returned (.bool false) ∧ w' = W) := Lib.hid hc
 have HX := Lib.hid hx
 clear hc hx
 go_enter_defers Tryz.func71, Tryz.ntmps71
 have hz1 : ((w.alloc (.cells #[.bool false, .int .u64 0, .int .u64 0] 24)).alloc (.cells #[.bool false] 4)).heap[w.heap.size]? = some (.cells #[.bool false, .int .u64 0, .int .u64 0] 24 (0, 0)) := by
  rw [heap_push, if_neg (by simp only [World.size_alloc]; omega), heap_push, if_pos rfl]
 have hz2 : ((w.alloc (.cells #[.bool false, .int .u64 0, .int .u64 0] 24)).alloc (.cells #[.bool false] 4)).heap[w.heap.size + 1]? = some (.cells #[.bool false] 4 (0, 0)) := by
  rw [heap_push, if_pos (by simp)]
 have hz3 : Below w.heap.size w ((w.alloc (.cells #[.bool false, .int .u64 0, .int .u64 0] 24)).alloc (.cells #[.bool false] 4)) := ((Below.refl _ w).alloc (Nat.le_refl _) _).alloc (by simp) _
 go_wp2_with (first | (go_at_call 98; refine (HC.out _).mono ?_; rintro e w2 ⟨rfl, hw2⟩; have hw2 := hw2.symm; subst hw2) | (go_at_call 100; refine (HX.out _ hz3).mono ?_; rintro e w3 ⟨he, hb3⟩; have he : e = .panicked [badE] := he; subst he; have i3 := heap_below hb3 hz1; have i4 := heap_below hb3 hz2; have hb4 := hz3.trans (hb3.mono hz3.size); clear hb3 hz1 hz2 hz3 HC; obtain ⟨n0, n1, n2, n3, n4, n5⟩ := three_cells i3; obtain ⟨n6, n7⟩ := cell_of_box_l i4))
 refine leaves_cons (f := 97) (args := #[.pointer (some ⟨w.heap.size, 0, none⟩), .pointer (some ⟨w.heap.size + 1, 0, none⟩)]) (by simp) (by simp [go_sem]) ?_
 refine (told_catch w.heap.size w3 (.bool false) (.int .u64 0) (.int .u64 0) (.bool false) [] i3 i4).mono ?_
 rintro e u' w'' ⟨rfl, rfl, rfl⟩
 have g1 := (Below.heap_alloc w3 (.cells #[] 130) _ (Array.getElem?_eq_some_iff.1 i3).1).trans i3
 have g2 := (Below.heap_alloc w3 (.cells #[] 130) _ (Array.getElem?_eq_some_iff.1 i4).1).trans i4
 obtain ⟨j1, j2, j3⟩ := laidNo_spec g1 g2
 obtain ⟨m0, m1, m2, _⟩ := three_cells j1
 obtain ⟨m6, _⟩ := cell_of_box_l j2
 have hbb := (hb4.alloc hb4.size (.cells #[] 130)).trans j3
 generalize laidNo (w3.alloc (.cells #[] 130)) w.heap.size = W4 at m0 m1 m2 m6 hbb ⊢
 simp [Leaves, settle, results, Tryz.results71, go_sem, m0, m1, m2, m6]
 exact hbb
set_option maxRecDepth 100000 in
set_option maxHeartbeats 4000000 in
theorem told_sixteen_bad (s : ByteArray) (w : World) (hc : ∀ W, Calls Tryz.prog 98 #[.string s, .string ⟨#[58]⟩] W fun e w' => e = .returned (.bool true) ∧ w' = W) (hx : ∀ W, Below w.heap.size w W → Calls Tryz.prog 99 #[.string s] W fun e w' => e = .panicked [badE] ∧ Below W.heap.size W w') :
  Calls Tryz.prog 71 #[.string s] w fun e w' => e = .returned (.tuple #[.agg #[.bool false, .int .u64 0, .int .u64 0], .bool false]) ∧ Below w.heap.size w w' := by
 have hmf : ∀ (fn : Fn) (first cap : Array Value) (w : World), (Instr.makeFunc fn first cap).run Tryz.prog w = .ok (.func fn first cap) w := fun _ _ _ _ => rfl
 have HC : Hid (∀ W, Calls Tryz.prog 98 #[.string s, .string ⟨#[58]⟩] W fun e w' => e = .returned (.bool true) ∧ w' = W) := Lib.hid hc
 have HX := Lib.hid hx
 clear hc hx
 go_enter_defers Tryz.func71, Tryz.ntmps71
 have hz1 : ((w.alloc (.cells #[.bool false, .int .u64 0, .int .u64 0] 24)).alloc (.cells #[.bool false] 4)).heap[w.heap.size]? = some (.cells #[.bool false, .int .u64 0, .int .u64 0] 24 (0, 0)) := by
  rw [heap_push, if_neg (by simp only [World.size_alloc]; omega), heap_push, if_pos rfl]
 have hz2 : ((w.alloc (.cells #[.bool false, .int .u64 0, .int .u64 0] 24)).alloc (.cells #[.bool false] 4)).heap[w.heap.size + 1]? = some (.cells #[.bool false] 4 (0, 0)) := by
  rw [heap_push, if_pos (by simp)]
 have hz3 : Below w.heap.size w ((w.alloc (.cells #[.bool false, .int .u64 0, .int .u64 0] 24)).alloc (.cells #[.bool false] 4)) := ((Below.refl _ w).alloc (Nat.le_refl _) _).alloc (by simp) _
 go_wp2_with (first | (go_at_call 98; refine (HC.out _).mono ?_; rintro e w2 ⟨rfl, hw2⟩; have hw2 := hw2.symm; subst hw2) | (go_at_call 99; refine (HX.out _ hz3).mono ?_; rintro e w3 ⟨he, hb3⟩; have he : e = .panicked [badE] := he; subst he; have i3 := heap_below hb3 hz1; have i4 := heap_below hb3 hz2; have hb4 := hz3.trans (hb3.mono hz3.size); clear hb3 hz1 hz2 hz3 HC; obtain ⟨n0, n1, n2, n3, n4, n5⟩ := three_cells i3; obtain ⟨n6, n7⟩ := cell_of_box_l i4))
 refine leaves_cons (f := 97) (args := #[.pointer (some ⟨w.heap.size, 0, none⟩), .pointer (some ⟨w.heap.size + 1, 0, none⟩)]) (by simp) (by simp [go_sem]) ?_
 refine (told_catch w.heap.size w3 (.bool false) (.int .u64 0) (.int .u64 0) (.bool false) [] i3 i4).mono ?_
 rintro e u' w'' ⟨rfl, rfl, rfl⟩
 have g1 := (Below.heap_alloc w3 (.cells #[] 130) _ (Array.getElem?_eq_some_iff.1 i3).1).trans i3
 have g2 := (Below.heap_alloc w3 (.cells #[] 130) _ (Array.getElem?_eq_some_iff.1 i4).1).trans i4
 obtain ⟨j1, j2, j3⟩ := laidNo_spec g1 g2
 obtain ⟨m0, m1, m2, _⟩ := three_cells j1
 obtain ⟨m6, _⟩ := cell_of_box_l j2
 have hbb := (hb4.alloc hb4.size (.cells #[] 130)).trans j3
 generalize laidNo (w3.alloc (.cells #[] 130)) w.heap.size = W4 at m0 m1 m2 m6 hbb ⊢
 simp [Leaves, settle, results, Tryz.results71, go_sem, m0, m1, m2, m6]
 exact hbb
theorem told_walk (s : ByteArray) (hs : s.size ≤ 4294967200) (w : World) (hG : Glob Tryz.prog w) :
  Calls Tryz.prog 71 #[.string s] w fun e w' => e = .returned (.tuple #[.agg #[.bool (toldA s).v6, .int .u64 (toldA s).hi, .int .u64 (toldA s).lo], .bool (toldF s).isSome]) ∧ Below w.heap.size w w' := by
 have hc : ∀ W, Calls Tryz.prog 98 #[.string s, .string ⟨#[58]⟩] W fun e w' => e = .returned (.bool (colonIn s)) ∧ w' = W := fun W => Go.Proofs.Tryz.strings_Contains_one s 58 W
 unfold toldA toldF
 cases hcs : colonIn s with
 | true =>
  rw [hcs] at hc
  rw [if_pos rfl]
  have hx : ∀ W, Below w.heap.size w W → Calls Tryz.prog 99 #[.string s] W fun e w' => EndA (sixteenF s) e ∧ Below W.heap.size W w' := fun W hb => sixteen_walk s hs W (hG.mono hb)
  cases h : sixteenF s with
  | some a => rw [h] at hx; exact told_sixteen s w a hc hx
  | none => rw [h] at hx; exact told_sixteen_bad s w hc hx
 | false =>
  rw [hcs] at hc
  rw [if_neg (by decide)]
  have hx : ∀ W, Below w.heap.size w W → Calls Tryz.prog 100 #[.string s] W fun e w' => EndU (fourF s) e ∧ Below W.heap.size W w' := fun W hb => four_walk s hs W (hG.mono hb)
  cases h : fourF s with
  | some u => rw [h] at hx; exact told_four s w u hc hx
  | none => rw [h] at hx; exact told_four_bad s w hc hx
noncomputable def addr_told_con : Con := con [.one (.fl .str)] [.one (.fl .addr), .one (.fl .bool)] (fun x => addr_told_t x.1)
theorem addr_told_ok : TrOk Tryz.prog 71 addr_told_con := con_of _ _ _ fun x y hx ρ us vals w hG hu => by
 obtain ⟨s, z⟩ := x
 have hd := hu.den _ (gives_nameOf us)
 have hvals : vals = [.string s] := hd.symm
 subst hvals
 unfold addr_told_t at hx
 obtain ⟨hq, hx⟩ := req_some hx
 injection hx with hx
 subst hx
 refine (told_walk s (Nat.le_of_ble_eq_true hq) w hG).mono ?_
 rintro e w' ⟨rfl, hb⟩
 exact ⟨fun _ => Go.undef, .tup [.agg [.b (toldA s).v6, .i .u64 (toldA s).hi, .i .u64 (toldA s).lo], .b (toldF s).isSome], [], rfl, ⟨hb, fun j o h => by simp at h, fun i j o o' _ h => by simp at h, fun j o h => by simp at h⟩, rfl⟩
end Go.Proofs.YtafggolijpopeaaGreatDoor
namespace Go.Proofs.YtafggolijpopeaaGreatDoor
open Go Go.Ma
def addr_groups_L3_S : LoopS := { n := 24, base := 0, head := { keep := [2, 3, 7, 8], vals := [.one (.fl .int), .one (.cst (.ptr 0 0)), .one (.cst (.row 1)), .one (.fl .int)], objs := [.blk [.fl .addr] 24 true, .row .str 9 true] }, exits := [⟨some 0, { keep := [7], vals := [.one (.cst (.row 0))], objs := [.row .str 9 true] }⟩] }
noncomputable def addr_groups_env : Env := mkEnv ty fnB [(121, addr_group_con), (92, strconv_FormatUint_con), (80, strings_Join_con)] [(3, (loopTr addr_groups_L3_S (loopN addr_groups_L3 FUEL)))]
theorem addr_groups_envOk : EnvOk Tryz.prog addr_groups_env := envOk tyOk fn_ok (callsCons addr_group_ok (callsCons strconv_FormatUint_ok (callsCons strings_Join_ok callsNil))) _
theorem addr_groups_L3_ok : LOk Tryz.prog (nthLoop (codeOf Tryz.f94) 0) (loopTr addr_groups_L3_S (loopN addr_groups_L3 FUEL)) := by
 have h : loopsOf (nthLoop (codeOf Tryz.f94) 0) = [] := by kernel_rfl
 refine loop_ok addr_groups_envOk (loopsOk h lsNil) addr_groups_L3_S addr_groups_L3 FUEL (fun rec x => ?_)
 kernel_rfl
noncomputable def addr_groups_con : Con := con [.one (.fl .addr), .one (.fl .int), .one (.fl .int)] [.one (.fl .str)] (fun x => zq0 x.1 x.2.1 x.2.2.1)
theorem addr_groups_ok : TrOk Tryz.prog 94 addr_groups_con := by
 have h : loopsOf (codeOf Tryz.f94) = [(nthLoop (codeOf Tryz.f94) 0)] := by kernel_rfl
 refine con_ok addr_groups_envOk Tryz.func94 (bodyOk h (lsCons (one_loop (t := (loopTr addr_groups_L3_S (loopN addr_groups_L3 FUEL))) (by kernel_rfl) addr_groups_L3_ok) lsNil)) _ _ _ (fun x => ?_)
 kernel_rfl
def addr_Text_L4_S : LoopS := { n := 44, base := 0, head := { keep := [1, 3, 4], vals := [.one (.cst (.ptr 0 0)), .one (.cst (.row 1)), .one (.fl .int)], objs := [.blk [.fl .addr] 24 true, .row .str 9 true] }, exits := [⟨some 0, { keep := [3], vals := [.one (.cst (.row 0))], objs := [.row .str 9 true] }⟩] }
noncomputable def addr_Text_env : Env := mkEnv ty fnB [(92, strconv_FormatUint_con), (80, strings_Join_con), (93, addr_longest_con), (94, addr_groups_con)] [(4, (loopTr addr_Text_L4_S (loopN addr_Text_L4 FUEL)))]
theorem addr_Text_envOk : EnvOk Tryz.prog addr_Text_env := envOk tyOk fn_ok (callsCons strconv_FormatUint_ok (callsCons strings_Join_ok (callsCons addr_longest_ok (callsCons addr_groups_ok callsNil)))) _
theorem addr_Text_L4_ok : LOk Tryz.prog (nthLoop (codeOf Tryz.f68) 0) (loopTr addr_Text_L4_S (loopN addr_Text_L4 FUEL)) := by
 have h : loopsOf (nthLoop (codeOf Tryz.f68) 0) = [] := by kernel_rfl
 refine loop_ok addr_Text_envOk (loopsOk h lsNil) addr_Text_L4_S addr_Text_L4 FUEL (fun rec x => ?_)
 kernel_rfl
theorem addr_Text_key (f1 : type_of% zq10) (f2 : type_of% addr_longest_t) (f3 : type_of% zq0) (g0 : type_of% (loopN addr_Text_L4 FUEL)) (x : PsT [.one (.fl .addr)]) : ixF (mkEnv ty fnB [(92, strconv_FormatUint_con), (80, (con [.one (.row .str 9), .one (.fl .str)] [.one (.fl .str)] (fun x => f1 x.1 x.2.1))), (93, (con [.one (.fl .addr)] [.one (.fl .int), .one (.fl .int)] (fun x => f2 x.1))), (94, (con [.one (.fl .addr), .one (.fl .int), .one (.fl .int)] [.one (.fl .str)] (fun x => f3 x.1 x.2.1 x.2.2.1)))] [(4, (loopTr addr_Text_L4_S g0))]) Tryz.f68 (encA false [.one (.fl .addr)] x 0).1 (encA false [.one (.fl .addr)] x 0).2 (resR [.one (.fl .str)]) = (fun (a0 : Ad) => (br (!a0.v6)
  ((g0 (((()), (()), (24, ()), ()), ((a0, ()), ([] : List ByteArray), ()))).bind fun y1 =>
  (f1 y1.2.1 (⟨#[46]⟩ : ByteArray)).bind fun y2 =>
  some (y2.1, ()))
  ((f2 a0).bind fun y1 =>
  br (decide (y1.2.1 = 0))
   ((f3 a0 0 8).bind fun y2 =>
   some (y2.1, ()))
   ((f3 a0 0 y1.1).bind fun y2 =>
   req (roomS (catS y2.1 (⟨#[58, 58]⟩ : ByteArray))) <|
   req (i64ok (y1.1 + y1.2.1)) <|
   (f3 a0 (y1.1 + y1.2.1) 8).bind fun y3 =>
   req (roomS (catS (catS y2.1 (⟨#[58, 58]⟩ : ByteArray)) y3.1)) <|
   some (catS (catS y2.1 (⟨#[58, 58]⟩ : ByteArray)) y3.1, ()))) : Option (ByteArray × Unit))) x.1 := by
 kernel_rfl
noncomputable def addr_Text_con : Con := con [.one (.fl .addr)] [.one (.fl .str)] (fun x => addr_Text_t x.1)
theorem addr_Text_ok : TrOk Tryz.prog 68 addr_Text_con := by
 have h : loopsOf (codeOf Tryz.f68) = [(nthLoop (codeOf Tryz.f68) 0)] := by kernel_rfl
 refine con_ok addr_Text_envOk Tryz.func68 (bodyOk h (lsCons (one_loop (t := (loopTr addr_Text_L4_S (loopN addr_Text_L4 FUEL))) (by kernel_rfl) addr_Text_L4_ok) lsNil)) _ _ _ (fun x => ?_)
 exact addr_Text_key zq10 addr_longest_t zq0 (loopN addr_Text_L4 FUEL) x
noncomputable def prefix_Text_env : Env := mkEnv ty fnB [(68, addr_Text_con), (69, strconv_Itoa_con)] []
theorem prefix_Text_envOk : EnvOk Tryz.prog prefix_Text_env := envOk tyOk fn_ok (callsCons addr_Text_ok (callsCons strconv_Itoa_ok callsNil)) _
noncomputable def prefix_Text_con : Con := con [.one (.fl .pfx)] [.one (.fl .str)] (fun x => prefix_Text_t x.1)
theorem prefix_Text_ok : TrOk Tryz.prog 30 prefix_Text_con := by
 have h : loopsOf (codeOf Tryz.f30) = [] := by kernel_rfl
 refine con_ok prefix_Text_envOk Tryz.func30 (bodyOk h lsNil) _ _ _ (fun x => ?_)
 kernel_rfl
noncomputable def internal_stringslite_Cut_env : Env := mkEnv ty fnB [(96, internal_stringslite_Index_con)] []
theorem internal_stringslite_Cut_envOk : EnvOk Tryz.prog internal_stringslite_Cut_env := envOk tyOk fn_ok (callsCons internal_stringslite_Index_ok callsNil) _
noncomputable def internal_stringslite_Cut_con : Con := con [.one (.fl .str), .one (.fl .str)] [.one (.fl .str), .one (.fl .str), .one (.fl .bool)] (fun x => internal_stringslite_Cut_t x.1 x.2.1)
theorem internal_stringslite_Cut_ok : TrOk Tryz.prog 70 internal_stringslite_Cut_con := by
 have h : loopsOf (codeOf Tryz.f70) = [] := by kernel_rfl
 refine con_ok internal_stringslite_Cut_envOk Tryz.func70 (bodyOk h lsNil) _ _ _ (fun x => ?_)
 kernel_rfl
noncomputable def strings_Cut_env : Env := mkEnv ty fnB [(70, internal_stringslite_Cut_con)] []
theorem strings_Cut_envOk : EnvOk Tryz.prog strings_Cut_env := envOk tyOk fn_ok (callsCons internal_stringslite_Cut_ok callsNil) _
noncomputable def strings_Cut_con : Con := con [.one (.fl .str), .one (.fl .str)] [.one (.fl .str), .one (.fl .str), .one (.fl .bool)] (fun x => strings_Cut_t x.1 x.2.1)
theorem strings_Cut_ok : TrOk Tryz.prog 31 strings_Cut_con := by
 have h : loopsOf (codeOf Tryz.f31) = [] := by kernel_rfl
 refine con_ok strings_Cut_envOk Tryz.func31 (bodyOk h lsNil) _ _ _ (fun x => ?_)
 kernel_rfl
noncomputable def addr_Parse_env : Env := mkEnv ty fnB [(71, addr_told_con)] []
theorem addr_Parse_envOk : EnvOk Tryz.prog addr_Parse_env := envOk tyOk fn_ok (callsCons addr_told_ok callsNil) _
noncomputable def addr_Parse_con : Con := con [.one (.fl .str)] [.one (.fl .addr), .one (.fl .int)] (fun x => addr_Parse_t x.1)
theorem addr_Parse_ok : TrOk Tryz.prog 32 addr_Parse_con := by
 have h : loopsOf (codeOf Tryz.f32) = [] := by kernel_rfl
 refine con_ok addr_Parse_envOk Tryz.func32 (bodyOk h lsNil) _ _ _ (fun x => ?_)
 kernel_rfl
noncomputable def prefix_Parse_env : Env := mkEnv ty fnB [(31, strings_Cut_con), (32, addr_Parse_con), (33, prefix_Digits_con), (20, prefix_Check_con)] []
theorem prefix_Parse_envOk : EnvOk Tryz.prog prefix_Parse_env := envOk tyOk fn_ok (callsCons strings_Cut_ok (callsCons addr_Parse_ok (callsCons prefix_Digits_ok (callsCons prefix_Check_ok callsNil)))) _
noncomputable def prefix_Parse_con : Con := con [.one (.fl .str)] [.one (.fl .pfx), .one (.fl .int)] (fun x => prefix_Parse_t x.1)
theorem prefix_Parse_ok : TrOk Tryz.prog 7 prefix_Parse_con := by
 have h : loopsOf (codeOf Tryz.f7) = [] := by kernel_rfl
 refine con_ok prefix_Parse_envOk Tryz.func7 (bodyOk h lsNil) _ _ _ (fun x => ?_)
 kernel_rfl
noncomputable def text_Line_text_Line_1_env : Env := mkEnv ty fnB [] []
theorem text_Line_text_Line_1_envOk : EnvOk Tryz.prog text_Line_text_Line_1_env := envOk tyOk fn_ok callsNil _
theorem text_Line_text_Line_1_det : TrOk Tryz.prog 79 (detCon text_Line_text_Line_1_env Tryz.f79) := by
 have h : loopsOf (codeOf Tryz.f79) = [] := by kernel_rfl
 exact det_ok text_Line_text_Line_1_envOk Tryz.func79 (bodyOk h lsNil)
noncomputable def text_Line_env : Env := mkEnv ty fnB [(30, prefix_Text_con), (80, strings_Join_con), (79, (detCon text_Line_text_Line_1_env Tryz.f79)), (68, addr_Text_con), (69, strconv_Itoa_con)] []
theorem text_Line_envOk : EnvOk Tryz.prog text_Line_env := envOk tyOk fn_ok (callsCons prefix_Text_ok (callsCons strings_Join_ok (callsCons text_Line_text_Line_1_det (callsCons addr_Text_ok (callsCons strconv_Itoa_ok callsNil))))) _
noncomputable def text_Line_con : Con := con [.one (.fl .op)] [.one (.fl .str)] (fun x => text_Line_t x.1)
theorem text_Line_ok : TrOk Tryz.prog 55 text_Line_con := by
 have h : loopsOf (codeOf Tryz.f55) = [] := by kernel_rfl
 refine con_ok text_Line_envOk Tryz.func55 (bodyOk h lsNil) _ _ _ (fun x => ?_)
 kernel_rfl
noncomputable def text_Print_env : Env := mkEnv ty fnB [(29, state_Form_con), (55, text_Line_con)] []
theorem text_Print_envOk : EnvOk Tryz.prog text_Print_env := envOk tyOk fn_ok (callsCons state_Form_ok (callsCons text_Line_ok callsNil)) _
noncomputable def text_Print_con : Con := con [.one (.fl .op)] [.one (.fl .str), .one (.fl .int)] (fun x => text_Print_t x.1)
theorem text_Print_ok : TrOk Tryz.prog 22 text_Print_con := by
 have h : loopsOf (codeOf Tryz.f22) = [] := by kernel_rfl
 refine con_ok text_Print_envOk Tryz.func22 (bodyOk h lsNil) _ _ _ (fun x => ?_)
 kernel_rfl
noncomputable def text_told_text_told_2_env : Env := mkEnv ty fnB [(81, text_told_1_con), (33, prefix_Digits_con)] []
theorem text_told_text_told_2_envOk : EnvOk Tryz.prog text_told_text_told_2_env := envOk tyOk fn_ok (callsCons text_told_1_ok (callsCons prefix_Digits_ok callsNil)) _
theorem text_told_text_told_2_inl : TrOk Tryz.prog 82 (inlCon text_told_text_told_2_env Tryz.f82) := by
 have h : loopsOf (codeOf Tryz.f82) = [] := by kernel_rfl
 exact inl_ok text_told_text_told_2_envOk Tryz.func82 (bodyOk h lsNil)
def text_told_L3_S : LoopS := { n := 69, base := 1, head := { keep := [1, 2, 3, 8, 9], vals := [.one (.cst (.ptr 1 0)), .one (.cst (.ptr 2 0)), .one (.cst (.ptr 3 0)), .agg [.fl .str, .fl .str, .fl .str, .fl .str, .fl .str, .fl .str], .one (.fl .int)], objs := [.row .str 9 false, .blk [.cst (.row 0)] 74 true, .blk [.fl .op] 51 true, .blk [.fl .op] 51 true] }, exits := [⟨some 0, { keep := [1, 2, 3], vals := [.one (.cst (.ptr 1 0)), .one (.cst (.ptr 2 0)), .one (.cst (.ptr 3 0))], objs := [.row .str 9 false, .blk [.cst (.row 0)] 74 true, .blk [.fl .op] 51 true, .blk [.fl .op] 51 true] }⟩] }
noncomputable def text_told_env : Env := mkEnv ty fnB [(81, text_told_1_con), (7, prefix_Parse_con), (32, addr_Parse_con), (82, (inlCon text_told_text_told_2_env Tryz.f82))] [(3, (loopTr text_told_L3_S (loopN text_told_L3 FUEL)))]
theorem text_told_envOk : EnvOk Tryz.prog text_told_env := envOk tyOk fn_ok (callsCons text_told_1_ok (callsCons prefix_Parse_ok (callsCons addr_Parse_ok (callsCons text_told_text_told_2_inl callsNil)))) _
theorem text_told_L3_ok : LOk Tryz.prog (nthLoop (codeOf Tryz.f56) 0) (loopTr text_told_L3_S (loopN text_told_L3 FUEL)) := by
 have h : loopsOf (nthLoop (codeOf Tryz.f56) 0) = [] := by kernel_rfl
 refine loop_ok text_told_envOk (loopsOk h lsNil) text_told_L3_S text_told_L3 FUEL (fun rec x => ?_)
 kernel_rfl
noncomputable def text_told_con : Con := con [.one (.row .str 9)] [.one (.fl .op)] (fun x => text_told_t x.1)
theorem text_told_ok : TrOk Tryz.prog 56 text_told_con := by
 have h : loopsOf (codeOf Tryz.f56) = [(nthLoop (codeOf Tryz.f56) 0)] := by kernel_rfl
 refine con_ok text_told_envOk Tryz.func56 (bodyOk h (lsCons (one_loop (t := (loopTr text_told_L3_S (loopN text_told_L3 FUEL))) (by kernel_rfl) text_told_L3_ok) lsNil)) _ _ _ (fun x => ?_)
 kernel_rfl
noncomputable def text_Parse_env : Env := mkEnv ty fnB [(57, strings_Split_con), (56, text_told_con), (29, state_Form_con), (55, text_Line_con)] []
theorem text_Parse_envOk : EnvOk Tryz.prog text_Parse_env := envOk tyOk fn_ok (callsCons strings_Split_ok (callsCons text_told_ok (callsCons state_Form_ok (callsCons text_Line_ok callsNil)))) _
noncomputable def text_Parse_con : Con := con [.one (.fl .str)] [.one (.fl .op), .one (.fl .int)] (fun x => text_Parse_t x.1)
theorem text_Parse_ok : TrOk Tryz.prog 23 text_Parse_con := by
 have h : loopsOf (codeOf Tryz.f23) = [] := by kernel_rfl
 refine con_ok text_Parse_envOk Tryz.func23 (bodyOk h lsNil) _ _ _ (fun x => ?_)
 kernel_rfl
noncomputable def law_textBegun_env : Env := mkEnv ty fnB [(60, law_some_con), (22, text_Print_con), (23, text_Parse_con)] []
theorem law_textBegun_envOk : EnvOk Tryz.prog law_textBegun_env := envOk tyOk fn_ok (callsCons law_some_ok (callsCons text_Print_ok (callsCons text_Parse_ok callsNil))) _
noncomputable def law_textBegun_con : Con := con [] [.one (.fl .bool)] (fun x => law_textBegun_t)
theorem law_textBegun_ok : TrOk Tryz.prog 27 law_textBegun_con := by
 have h : loopsOf (codeOf Tryz.f27) = [] := by kernel_rfl
 refine con_ok law_textBegun_envOk Tryz.func27 (bodyOk h lsNil) _ _ _ (fun x => ?_)
 kernel_rfl
noncomputable def law_TextTells_env : Env := mkEnv ty fnB [(22, text_Print_con), (23, text_Parse_con), (24, R_CheckOp_con), (25, R_LineOf_con), (26, R_OpOf_con), (27, law_textBegun_con)] []
theorem law_TextTells_envOk : EnvOk Tryz.prog law_TextTells_env := envOk tyOk fn_ok (callsCons text_Print_ok (callsCons text_Parse_ok (callsCons R_CheckOp_ok (callsCons R_LineOf_ok (callsCons R_OpOf_ok (callsCons law_textBegun_ok callsNil)))))) _
theorem law_TextTells_key (f0 : type_of% text_Print_t) (f1 : type_of% text_Parse_t) (f2 : type_of% R_CheckOp_t) (f3 : type_of% R_LineOf_t) (f4 : type_of% R_OpOf_t) (f5 : type_of% law_textBegun_t) (x : PsT [.one (.fl .op), .one (.fl .str)]) : ixF (mkEnv ty fnB [(22, (con [.one (.fl .op)] [.one (.fl .str), .one (.fl .int)] (fun x => f0 x.1))), (23, (con [.one (.fl .str)] [.one (.fl .op), .one (.fl .int)] (fun x => f1 x.1))), (24, (con [.one (.fl .op)] [.one (.fl .int)] (fun x => f2 x.1))), (25, (con [.one (.fl .op)] [.one (.fl .str)] (fun x => f3 x.1))), (26, (con [.one (.fl .str)] [.one (.fl .op), .one (.fl .bool)] (fun x => f4 x.1))), (27, (con [] [.one (.fl .bool)] (fun x => f5)))] []) Tryz.f4 (encA false [.one (.fl .op), .one (.fl .str)] x 0).1 (encA false [.one (.fl .op), .one (.fl .str)] x 0).2 (resR [.one (.fl .bool)]) = law_TextTells_G f0 f1 f2 f3 f4 f5 x.1 x.2.1 := by
 kernel_rfl
noncomputable def law_TextTells_con : Con := con [.one (.fl .op), .one (.fl .str)] [.one (.fl .bool)] (fun x => law_TextTells_t x.1 x.2.1)
theorem law_TextTells_ok : TrOk Tryz.prog 4 law_TextTells_con := by
 have h : loopsOf (codeOf Tryz.f4) = [] := by kernel_rfl
 refine con_ok law_TextTells_envOk Tryz.func4 (bodyOk h lsNil) _ _ _ (fun x => ?_)
 exact law_TextTells_key text_Print_t text_Parse_t R_CheckOp_t R_LineOf_t R_OpOf_t law_textBegun_t x
end Go.Proofs.YtafggolijpopeaaGreatDoor
namespace Go.Ma
open Go
theorem laidVars_reads {P : Program} {w : World} : ∀ {l : List (String × DataW Unit)} {ps : List MemPlace}, DataW.LaidVars P w l ps → ∀ n d, (n, d) ∈ l → ∃ g t cs fuel p, P.globalNamed n = some g ∧ (P.globals[g]?).map (·.type) = some t ∧ w.var? P n = some cs ∧ DataW.trod (fun _ => ()) P w 0 (fun _ => true) false fuel t cs.toList = some (d, p)
 | [], _, _, _, _, hm => by cases hm
 | (n', d') :: r, ps, h, n, d, hm => by
  obtain ⟨g, t, cs, fuel, p, q, h1, h2, h3, h4, h5, _⟩ := h
  rcases List.mem_cons.1 hm with e | e
  ·cases e
   exact ⟨g, t, cs, fuel, p, h1, h2, h3, h4⟩
  ·exact laidVars_reads h5 n d e
theorem heap_of_var {P : Program} {w : World} {n : String} {g : Nat} {cs : Array Value} (hg : P.globalNamed n = some g) (h : w.var? P n = some cs) : ∃ t z, w.heap[g]? = some (.cells cs t z) := by
 unfold World.var? at h
 rw [hg, Option.bind_some] at h
 split at h
 ·rename_i c t z hh
  injection h with h
  exact ⟨t, z, by rw [hh, h]⟩
 ·cases h
def numB (P : Program) (n : String) : Bool := match P.globalNamed n with
 | none => true
 | some g => match ((begin P (fun _ _ => 0) default).world.heap[g]?).bind Obj.row? with
  | some (zero, t) => decide (g < P.globals.size) && zero.size == 1 && P.buildable t && (match P.cellTypes P.depth t with | some [u] => u == t | _ => false) && (match P.underlying t with | some (.int k) => (match k with | .i64 => true | _ => false) | _ => false)
  | none => false
theorem num_of_B {P : Program} {w : World} (hS : w.ShapedOpen P) {n : String} (h : numB P n = true) {g : Nat} (hg : P.globalNamed n = some g) : ∃ m, w.cell? ⟨g, 0, none⟩ = some (.int .i64 m) := by
 unfold numB at h
 rw [hg] at h
 simp only at h
 split at h
 ·rename_i zero t hz
  simp only [Bool.and_eq_true, decide_eq_true_eq, beq_iff_eq] at h
  obtain ⟨⟨⟨⟨h1, h2⟩, h3⟩, h4⟩, h5⟩ := h
  split at h4
  ·rename_i u hu
   have h4 := eq_of_beq h4
   subst h4
   split at h5
   ·rename_i k hk
    split at h5
    ·exact Go.Proofs.cell_of_shapedOpen_int hS h1 hz h2 h3 hu hk
    ·cases h5
   ·cases h5
  ·cases h4
 ·cases h
def errB (P : Program) (laid : List (String × DataW Unit)) (n : String) : Bool := match P.globalNamed n with
 | none => true
 | some g => (laid.any fun x => x.1 == n && (match x.2 with | .iface _ (.ptr _) => true | _ => false)) && (match (P.globals[g]?).map (·.type) with | some t => (match P.underlying t with | some (.interface _) => true | _ => false) | none => false)
theorem err_of_B {P : Program} {w : World} {laid : List (String × DataW Unit)} (hL : laidMet P laid w) {n : String} (h : errB P laid n = true) {g : Nat} (hg : P.globalNamed n = some g) : ∃ ev, w.cell? ⟨g, 0, none⟩ = some ev ∧ (ev = .nilIface ∨ ∃ te pe, ev = .iface te pe) := by
 unfold errB at h
 rw [hg] at h
 simp only [Bool.and_eq_true, List.any_eq_true, beq_iff_eq] at h
 obtain ⟨⟨⟨n', d⟩, hm, rfl, hd⟩, ht⟩ := h
 obtain ⟨ps, hv, _⟩ := hL
 obtain ⟨g', t, cs, fuel, p, h1, h2, h3, h4⟩ := laidVars_reads hv _ _ hm
 obtain rfl := Option.some.inj (hg.symm.trans h1)
 rw [h2] at ht
 simp only at ht
 split at ht
 ·rename_i ms hi
  simp only at hd
  split at hd
  ·obtain ⟨f1, u, v, hcs, _⟩ := iface_of_trod hi h4
   obtain ⟨t', z, hh⟩ := heap_of_var h1 h3
   refine ⟨.iface u v, ?_, .inr ⟨_, _, rfl⟩⟩
   obtain ⟨l⟩ := cs
   simp only at hcs
   subst hcs
   simp [World.cell?, hh]
  ·cases hd
 ·cases ht
def tabGo (k : IntKind) : List (DataW Unit) → List Int → Bool
 | [], [] => true
 | .lit (.int k' z') :: l, z :: zs => decide (k' = k) && decide (z' = z) && tabGo k l zs
 | _, _ => false
theorem tabGo_eq (k : IntKind) : ∀ (l : List (DataW Unit)) (zs : List Int), tabGo k l zs = true → l = zs.map fun z => .lit (.int k z)
 | [], [], _ => rfl
 | [], _ :: _, h => by simp [tabGo] at h
 | d :: l, [], h => by cases d with
  | lit x => cases x <;> simp [tabGo] at h
  | _ => simp [tabGo] at h
 | d :: l, z :: zs, h => by
  cases d with
  | lit x => cases x with
   | int k' z' =>
    simp only [tabGo, Bool.and_eq_true, decide_eq_true_eq] at h
    obtain ⟨⟨rfl, rfl⟩, h⟩ := h
    rw [tabGo_eq _ l zs h]
    rfl
   | _ => simp [tabGo] at h
  | _ => simp [tabGo] at h
def tabB (P : Program) (laid : List (String × DataW Unit)) (n : String) (k : IntKind) (zs : List Int) : Bool := match P.globalNamed n with
 | none => true
 | some g => (laid.any fun x => x.1 == n && (match x.2 with | .agg l => tabGo k l zs | _ => false)) && (match (P.globals[g]?).map (·.type) with | some t => (match P.underlying t with | some (.array m e) => decide (P.cellsOf t = m) && decide (P.cellsOf e = 1) && (match P.underlying e with | some (.int k') => decide (k' = k) | _ => false) | _ => false) | none => false)
theorem tab_of_B {P : Program} {w : World} {laid : List (String × DataW Unit)} (hL : laidMet P laid w) {n : String} {k : IntKind} {zs : List Int} (h : tabB P laid n k zs = true) {g : Nat} (hg : P.globalNamed n = some g) : ∃ t z, w.heap[g]? = some (.cells (zs.map (Value.int k)).toArray t z) := by
 unfold tabB at h
 rw [hg] at h
 simp only [Bool.and_eq_true, List.any_eq_true, beq_iff_eq] at h
 obtain ⟨⟨⟨n', d⟩, hm, rfl, hd⟩, ht⟩ := h
 obtain ⟨ps, hv, _⟩ := hL
 obtain ⟨g', t, cs, fuel, p, h1, h2, h3, h4⟩ := laidVars_reads hv _ _ hm
 obtain rfl := Option.some.inj (hg.symm.trans h1)
 rw [h2] at ht
 simp only at ht
 split at ht
 ·rename_i m e hu
  simp only [Bool.and_eq_true, decide_eq_true_eq] at ht
  obtain ⟨⟨hc, he⟩, hk⟩ := ht
  split at hk
  ·rename_i k' hk'
   have hk := of_decide_eq_true hk
   subst hk
   simp only at hd
   split at hd
   ·rename_i l
    have := tabGo_eq _ _ _ hd
    subst this
    have := Lib.cells_of_tab hu hk' he hc h4
    obtain ⟨t', z, hh⟩ := heap_of_var h1 h3
    exact ⟨t', z, by rw [hh]; congr 1; rw [← this]⟩
   ·cases hd
  ·cases hk
 ·cases ht
theorem cells_of_stab {H : Type} {enc : TypeId × Value → H} {P : Program} {w : World} {base : Nat} {sp : Nat → Bool} {held : Bool} {fuel : Nat} {t e : TypeId} {n : Nat} {cs : List Value} {zs : List ByteArray} {p : List MemPlace}
  (ht : P.underlying t = some (.array n e)) (he : P.underlying e = some .string) (hce : P.cellsOf e = 1) (hct : P.cellsOf t = n)
  (h : DataW.trod enc P w base sp held fuel t cs = some (.agg (zs.map fun z => .lit (.string z.data.toList)), p)) : cs = zs.map Value.string := by
 cases fuel with
 | zero => simp [DataW.trod] at h
 | succ fuel =>
  simp only [DataW.trod, ht, hce, hct, Nat.mul_one] at h
  split at h
  ·rename_i hl
   obtain ⟨xs, hm, hx⟩ := Option.map_eq_some_iff.1 h
   have hxs : xs.map (·.1) = zs.map fun z => (DataW.lit (.string z.data.toList) : DataW H) := by
    have := congrArg Prod.fst hx
    simpa using this
   have hxl : xs.length = n := by simpa using Lib.mapM_length hm
   have hzl : zs.length = n := by
    have := congrArg List.length hxs
    simp at this
    omega
   apply List.ext_getElem?
   intro i
   by_cases hi : i < n
   ·obtain ⟨b, hb, hf⟩ := Lib.mapM_at hm i i (by simp [hi])
    obtain ⟨z, hc, rfl, _⟩ := DataW.trod_string he hf
    have h1 : cs[i]? = some (.string z) := by
     have := congrArg (·[0]?) hc
     simpa [List.getElem?_take, List.getElem?_drop] using this
    have h2 : (xs.map (·.1))[i]? = some (DataW.lit (.string z.data.toList) : DataW H) := by simp [hb]
    rw [hxs] at h2
    simp only [List.getElem?_map, Option.map_eq_some_iff, DataW.lit.injEq, Lit.string.injEq] at h2
    obtain ⟨z', hz', hzz⟩ := h2
    have : z' = z := by
     apply ByteArray.ext
     exact Array.toList_inj.1 hzz
    subst this
    simp [h1, hz']
   ·rw [List.getElem?_eq_none (by omega), List.getElem?_eq_none (by simp; omega)]
  ·cases h
def stabGo : List (DataW Unit) → List ByteArray → Bool
 | [], [] => true
 | .lit (.string b) :: l, z :: zs => decide (b = z.data.toList) && stabGo l zs
 | _, _ => false
theorem stabGo_eq : ∀ (l : List (DataW Unit)) (zs : List ByteArray), stabGo l zs = true → l = zs.map fun z => .lit (.string z.data.toList)
 | [], [], _ => rfl
 | [], _ :: _, h => by simp [stabGo] at h
 | d :: l, [], h => by cases d with
  | lit x => cases x <;> simp [stabGo] at h
  | _ => simp [stabGo] at h
 | d :: l, z :: zs, h => by
  cases d with
  | lit x => cases x with
   | string b =>
    simp only [stabGo, Bool.and_eq_true, decide_eq_true_eq] at h
    obtain ⟨rfl, h⟩ := h
    rw [stabGo_eq l zs h]
    rfl
   | _ => simp [stabGo] at h
  | _ => simp [stabGo] at h
def stabB (P : Program) (laid : List (String × DataW Unit)) (n : String) (zs : List ByteArray) : Bool := match P.globalNamed n with
 | none => true
 | some g => (laid.any fun x => x.1 == n && (match x.2 with | .agg l => stabGo l zs | _ => false)) && (match (P.globals[g]?).map (·.type) with | some t => (match P.underlying t with | some (.array m e) => decide (P.cellsOf t = m) && decide (P.cellsOf e = 1) && (match P.underlying e with | some .string => true | _ => false) | _ => false) | none => false)
theorem stab_of_B {P : Program} {w : World} {laid : List (String × DataW Unit)} (hL : laidMet P laid w) {n : String} {zs : List ByteArray} (h : stabB P laid n zs = true) {g : Nat} (hg : P.globalNamed n = some g) : ∃ t z, w.heap[g]? = some (.cells (zs.map Value.string).toArray t z) := by
 unfold stabB at h
 rw [hg] at h
 simp only [Bool.and_eq_true, List.any_eq_true, beq_iff_eq] at h
 obtain ⟨⟨⟨n', d⟩, hm, rfl, hd⟩, ht⟩ := h
 obtain ⟨ps, hv, _⟩ := hL
 obtain ⟨g', t, cs, fuel, p, h1, h2, h3, h4⟩ := laidVars_reads hv _ _ hm
 obtain rfl := Option.some.inj (hg.symm.trans h1)
 rw [h2] at ht
 simp only at ht
 split at ht
 ·rename_i m e hu
  simp only [Bool.and_eq_true, decide_eq_true_eq] at ht
  obtain ⟨⟨hc, he⟩, hk⟩ := ht
  split at hk
  ·rename_i hk'
   simp only at hd
   split at hd
   ·rename_i l
    have := stabGo_eq _ _ hd
    subst this
    have := cells_of_stab hu hk' he hc h4
    obtain ⟨t', z, hh⟩ := heap_of_var h1 h3
    exact ⟨t', z, by rw [hh]; congr 1; rw [← this]⟩
   ·cases hd
  ·cases hk
 ·cases ht
def globB (P : Program) (laid : List (String × DataW Unit)) : Bool := numB P "internal/bytealg.MaxLen" && errB P laid "strconv.ErrSyntax" && errB P laid "strconv.ErrRange" && tabB P laid "internal/strconv.uint64pow10" .u64 pow10s && tabB P laid "math/bits.deBruijn64tab" .u8 places64 && stabB P laid "yardarm/text.words" wordsL
theorem Glob.of_B {P : Program} {w : World} {laid : List (String × DataW Unit)} (hS : w.ShapedOpen P) (hL : laidMet P laid w) (h : globB P laid = true) : Glob P w := by
 simp only [globB, Bool.and_eq_true] at h
 obtain ⟨⟨⟨⟨⟨h1, h2⟩, h3⟩, h4⟩, h5⟩, h6⟩ := h
 refine ⟨fun g hg => num_of_B hS h1 hg, fun n g hn hg => ?_, fun g hg => tab_of_B hL h4 hg, fun g hg => tab_of_B hL h5 hg, fun g hg => stab_of_B hL h6 hg⟩
 rcases hn with rfl | rfl
 ·exact err_of_B hL h2 hg
 ·exact err_of_B hL h3 hg
end Go.Ma
namespace Go.Proofs.YtafggolijpopeaaGreatDoor.textTells
open Go Go.Ma Go.ChangeShapes Go.WideShapes Go.ChangeAt Go.RowKit
set_option linter.unusedVariables false
theorem own : ownKnob Tryz.prog.godebug = none := by kernel_rfl
theorem laidOut : laidOutB Tryz.prog = true := by kernel_rfl
theorem one {H : Type} (d : DataW H) : 1 ≤ Rows.uptoBulk d := by
 cases d with
 | lit l => cases l <;> simp [Rows.uptoBulk]
 | _ => simp [Rows.uptoBulk]
theorem len {H : Type} : ∀ l : List (DataW H), l.length ≤ Rows.uptoBulkAll l
 | [] => Nat.zero_le _
 | d :: r => by
  have h1 := one d
  have h2 := len r
  simp only [Rows.uptoBulkAll, List.length_cons]
  omega
theorem part {H : Type} {d : DataW H} : ∀ {l : List (DataW H)}, d ∈ l → Rows.uptoBulk d ≤ Rows.uptoBulkAll l
 | e :: r, h => by
  simp only [Rows.uptoBulkAll]
  rcases List.mem_cons.1 h with rfl | h
  ·omega
  ·have := part h
   omega
theorem small {H : Type} : Small (H := H) 1048576 (fun d => Rows.uptoBulk d ≤ 1048576) := by
 refine ⟨fun es sp _ h => ?_, fun l q hq h => ?_, fun es sp q hq h => ?_, fun s _ h => ?_⟩
 ·have h1 := len es
  simp only [Rows.uptoBulk] at h
  omega
 ·have h1 := part hq
  simp only [Rows.uptoBulk] at h
  omega
 ·have h1 := part hq
  simp only [Rows.uptoBulk] at h
  omega
 ·simp only [Rows.uptoBulk] at h
  omega
theorem plainly : ∀ x, PsIn [.one (.fl .op), .one (.fl .str)] x → PsLe 1048576 [.one (.fl .op), .one (.fl .str)] x → (fun x => law_TextTells_t x.1 x.2.1) x = some ((true : Bool), ()) := fun x hx hl => TextTells_eq hx.1 hl.2.1
set_option maxRecDepth 100000 in
/-- What the walk gives. -/
theorem contract (H : Type) (enc : TypeId × Value → H) (W : World) (base : Nat) (args : Array Value) (ds gs : List (DataW H)) (before : List MemPlace)
  (hval : ∀ (j : Nat) t v, Tryz.f4.params[j]? = some t → args[j]? = some v → Value.okWide Tryz.prog W .any base t v)
  (hW : DataW.Whole enc Tryz.prog Tryz.f4.params.toList Rows.textTellsSpec.vars false W args.toList ds gs before) (hk : Rows.uptoSmall H (ds ++ gs) = true) (hG : Glob Tryz.prog W) :
  Calls Tryz.prog 4 args W fun e W' => ∃ v, e = .returned v ∧ Rows.textTellsSpec.post enc Tryz.prog Tryz.f4 false true false false W args v W' := by
 have hW' := hW
 obtain ⟨p, q, hA0, hV, rfl, hfz, hnd⟩ := hW
 have hA : DataW.TrodAll enc Tryz.prog W 0 (fun _ => true) true Tryz.f4.params.toList args.toList ds p := hA0
 rw [Tryz.params4] at hA hval
 have hA2 := hA
 obtain ⟨v0, vs0, d0, ds0, p0, q0, hargs, rfl, rfl, h0, r0⟩ := trodAll_cons hA
 obtain ⟨v1, vs1, d1, ds1, p1, q1, rfl, rfl, rfl, h1, r1⟩ := trodAll_cons r0
 obtain ⟨rfl, rfl, rfl⟩ := trodAll_nil r1
 obtain rfl : args = #[v0, v1] := by cases args; simp_all
 obtain ⟨rfl, rfl⟩ := trodVars_none hV
 have hb : Rows.uptoBulkAll ([d0, d1] ++ []) ≤ 1048576 := of_decide_eq_true hk
 rw [List.append_nil] at hb
 have call := law_calls_le (enc := enc) small hG law_TextTells_ok plainly (fun x => rfl) (fun x => rfl) (ts := [51, 9]) (vs := [v0, v1]) (by kernel_rfl) (fun j t v h1 h2 => hval j t v (by simpa using h1) (by simpa using h2)) hA2 (fun d hd => Nat.le_trans (part hd) hb)
 refine call.mono fun e W' ⟨he, bel⟩ => ?_
 subst he
 exact ⟨_, rfl, _, _, _, [], _, [], hW', trodAll_mk1 (shut_bool Tryz.underlying4 _), all_back laidOut bel _ _ _ _ (by kernel_rfl) hA2, rfl, bel.frame _, fun h => by cases h⟩
mutual
def flat : DataW Unit → List Value
 | .lit (.int k x) => [.int k x]
 | .lit (.string b) => [.string ⟨b.toArray⟩]
 | .agg l => flats l
 | _ => []
def flats : List (DataW Unit) → List Value
 | [] => []
 | d :: r => flat d ++ flats r
end
noncomputable def low : Nat := (World.holding Tryz.prog default ⟨#[], #[], []⟩).heap.size
noncomputable def laidWorld (os : Os) : World :=
 let w0 := World.holding Tryz.prog os ⟨#[.cells #[.string ⟨#[118, 97, 108, 117, 101, 32, 111, 117, 116, 32, 111, 102, 32, 114, 97, 110, 103, 101]⟩] 214, .cells #[.string ⟨#[105, 110, 118, 97, 108, 105, 100, 32, 115, 121, 110, 116, 97, 120]⟩] 214], #[], []⟩
 {w0 with heap := ((((((((w0.heap.modify 7 fun | .cells _ t frozen => .cells (flat Rows.laid_math_bits_deBruijn32tab).toArray t frozen | o => o).modify 8 fun | .cells _ t frozen => .cells (flat Rows.laid_math_bits_deBruijn64tab).toArray t frozen | o => o).modify 4 fun | .cells _ t frozen => .cells (flat Rows.laid_internal_strconv_uint64pow10).toArray t frozen | o => o).modify 6 fun | .cells _ t frozen => .cells (flat Rows.laid_unicode_utf8_acceptRanges).toArray t frozen | o => o).modify 3 fun | .cells _ t frozen => .cells #[.iface 212 (.pointer (some ⟨low + 0, 0, none⟩))] t frozen | o => o).modify 2 fun | .cells _ t frozen => .cells #[.iface 212 (.pointer (some ⟨low + 1, 0, none⟩))] t frozen | o => o).modify 0 fun | .cells _ t frozen => .cells (flat Rows.laid_yardarm_text_words).toArray t frozen | o => o).modify 5 fun | .cells _ t frozen => .cells (flat Rows.laid_unicode_utf8_first).toArray t frozen | o => o) }
theorem laid_met (os : Os) (args : Array Value) : laidMet Tryz.prog Rows.textTellsUptoRow.laid ((laidWorld os).forCall (fun _ _ => 0) ⟨#[], args, []⟩).memory :=
 laidMet_of_run' 8 (by kernel_rfl) (by kernel_rfl)
theorem reads (os : Os) {H : Type} (enc : TypeId × Value → H) : ∃ places, DataW.whole enc Tryz.prog ((laidWorld os).forCall (fun _ _ => 0) ⟨#[], #[.agg #[.int .i64 0, .bool false, .int .u64 0, .int .u64 0, .int .i64 0, .bool false, .int .u64 0, .int .u64 0, .string ByteArray.empty, .int .i64 0, .int .i64 0], .string ByteArray.empty], []⟩).memory Tryz.f4.params.toList Rows.textTellsSpec.vars false (#[.agg #[.int .i64 0, .bool false, .int .u64 0, .int .u64 0, .int .i64 0, .bool false, .int .u64 0, .int .u64 0, .string ByteArray.empty, .int .i64 0, .int .i64 0], .string ByteArray.empty] : Array Value).toList 8 = some ([.agg [.lit (.int .i64 0), .agg [.agg [.lit (.bool false), .lit (.int .u64 0), .lit (.int .u64 0)], .lit (.int .i64 0)], .agg [.lit (.bool false), .lit (.int .u64 0), .lit (.int .u64 0)], .lit (.string []), .lit (.int .i64 0), .lit (.int .i64 0)], .lit (.string [])], [], places) :=
 ⟨[], by kernel_rfl⟩
set_option maxRecDepth 100000 in
theorem lifted (os : Os) (started : os.Started) (H : Type) (enc : TypeId × Value → H) (F : Stop.Interp) :
  ReturnsInHanded {} Tryz.checked os 4 .any ((Rows.OpenSpec.upto Rows.textTellsSpec).preRow enc Tryz.prog Tryz.f4 Rows.textTellsUptoRow.domain false Rows.textTellsUptoRow.laid) (((Rows.OpenSpec.upto Rows.textTellsSpec).at F).post enc Tryz.prog Tryz.f4 false true false false) := by
 obtain ⟨places, hx⟩ := reads os enc
 refine returnsInHanded_of_row (C := Tryz.checked) (s := Rows.OpenSpec.upto Rows.textTellsSpec) own started (by kernel_rfl) Tryz.func4
  (witness_row_at (enc := enc) (C := Tryz.checked) false (laidWorld os) #[.agg #[.int .i64 0, .bool false, .int .u64 0, .int .u64 0, .int .i64 0, .bool false, .int .u64 0, .int .u64 0, .string ByteArray.empty, .int .i64 0, .int .i64 0], .string ByteArray.empty] rfl (by kernel_rfl) (by kernel_rfl) (by kernel_rfl)
   (OpenSpec.preRow_of_cond 8 hx (by kernel_rfl) (fun k hk => by cases hk; kernel_rfl) (by kernel_rfl) (laid_met os _))) ?_
 intro W base args ds gs before hval hW _ hcond _ hL hS _
 have hL2 : laidMet Tryz.prog Rows.textTellsUptoRow.laid W := by rw [← MakeChecks.laidMetH_plain _ _ _ (by kernel_rfl)]; exact hL
 exact contract H enc W base args ds gs before hval hW (hcond _ rfl) (Glob.of_B hS hL2 (by kernel_rfl))
theorem said : Rows.TextTellsUptoSaid :=
 OpenClaim.holds_of_cond 4 Tryz.f4 rfl rfl rfl rfl rfl rfl rfl ⟨rfl, rfl, rfl, rfl, rfl⟩ rfl rfl rfl rfl rfl (by kernel_rfl) Tryz.func4 (by kernel_rfl)
  (of_decide_eq_true (by kernel_rfl)) (by unfold Func.isWrapper; first | (rw [if_pos (by decide +kernel)]; kernel_rfl) | (rw [if_neg (by decide +kernel)]; exact ⟨rfl, rfl⟩))
  (fun os started H enc _ F => by rw [OpenClaim.pre_eq_preRow]; exact lifted os started H enc F)
theorem plain (f : FuncId) (fn : Func) (hf : Tryz.pinned.checked.prog.funcNamed "yardarm/yardarmlaw.TextTells" = some f) (hfn : Tryz.pinned.checked.prog.funcs[f]? = some fn) :
  true = Tryz.pinned.checked.prog.looks [] ∧ ∀ (j : Nat) t, fn.params[j]? = some t → Tryz.pinned.checked.prog.wantsStandIn t = false := by
 obtain rfl : f = 4 := Option.some.inj ((show Tryz.prog.funcNamed "yardarm/yardarmlaw.TextTells" = some 4 by kernel_rfl).symm.trans hf) |>.symm
 obtain rfl : fn = Tryz.f4 := (Option.some.inj (Tryz.func4.symm.trans hfn)).symm
 refine ⟨by kernel_rfl, fun j t ht => ?_⟩
 rw [Tryz.params4] at ht
 have hm := Array.mem_of_getElem? ht
 have hm2 : t = 51 ∨ t = 9 := by simpa using hm
 rcases hm2 with rfl | rfl
 ·exact (show Tryz.prog.wantsStandIn 51 = false by kernel_rfl)
 ·exact (show Tryz.prog.wantsStandIn 9 = false by kernel_rfl)
theorem card : Rows.TextTellsUptoCardSaid :=
 Claim7.holds_tied_plain_at .later [] _ _ _ _ said (fun _ h => by cases h) (by kernel_rfl) (fun _ h => by cases h) textTellsUpto_row_tie rfl ⟨rfl, rfl⟩ (by kernel_rfl) rfl plain (by kernel_rfl)
end Go.Proofs.YtafggolijpopeaaGreatDoor.textTells
namespace Go.Proofs.YtafggolijpopeaaGreatDoor
theorem textTells_said : Rows.TextTellsUptoCardSaid := textTells.card
end Go.Proofs.YtafggolijpopeaaGreatDoor
