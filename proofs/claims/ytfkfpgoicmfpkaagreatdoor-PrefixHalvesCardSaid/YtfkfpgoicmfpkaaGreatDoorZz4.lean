/-
  Parts: Ty Wk Qs Qb Qt Qe Qr Qg Qm Qn Qo Ir Ie.
-/
import Derived.Test.YtfkfpgoicmfpkaaGreatDoorRows
import Derived.Shelf.Strings.Builder1
import Derived.Shelf.Strings.Builder2
import Derived.Shelf.Strings.OnBuilder
import Derived.Shelf.Small.Bits
import Derived.Shelf.Utf8.RuneCount
import Derived.Shelf.Strconv.Atoi
import Derived.Shelf.Strconv.Itoa0
import Derived.Shelf.Strconv.Itoa1
import Derived.Shelf.LaysM
import Derived.Shelf.Strconv.Itoa2
import Derived.Shelf.Strconv.Itoa3
import Derived.Shelf.Strconv.AtoiErrFast
import Derived.Shelf.Strconv.ParseIntEmpty
import Derived.Shelf.Strconv.AtoiFail
import Derived.Shelf.Strconv.Clone
import Derived.Shelf.Strconv.SyntaxError
import Derived.Shelf.LaysC
import Derived.Shelf.Strconv.ToError
import Derived.Shelf.Strconv.Lower
import Derived.Shelf.Strconv.ParseUint10
import Derived.Shelf.Strconv.ParseUint10Empty
import Derived.Shelf.Strconv.ParseUint10Any
import Derived.Shelf.Strconv.ParseInt10
import Derived.Shelf.Strconv.AtoiLong
import Derived.Shelf.Strconv.AtoiInnerAll
import Derived.Shelf.Strconv.RangeError
import Derived.Shelf.Strconv.ToErrorRange
import Derived.Shelf.Strconv.AtoiAll
import Derived.Ground.MpProg
import Derived.Shelf.Pu.ParseUintPublic10
import Derived.Shelf.Pu.ErrVarParseUint
import Derived.Shelf.Strings.Search1
import Derived.Shelf.Strings.Search2
import Derived.Shelf.Strings.Search3
import Derived.Shelf.Strings.Cut
import Derived.Shelf.Strings.Count
import Derived.Shelf.Strings.Shaped
import Derived.Shelf.Strings.Split
import Derived.Shelf.Strings.SplitShaped
import Derived.Shelf.Unicode.Decode
import Derived.Shelf.Strings.RuneCount
import Derived.Shelf.Strings.Explode
import Derived.Shelf.Unicode.DecodeSlow
import Derived.Shelf.Unicode.DecodeAny
import Derived.Test.YtfkfpgoicmfpkaaGreatDoorProg
import Derived.WalkKit
import Derived.ProofKit
import Derived.Laws.IdiomStrings
import Derived.Lib.AppendIntMem
import Derived.Lib.AtoiAllMem
import Derived.Laws.Strings3
import Derived.Laws.Closers25
import Derived.Laws.Closers25b
import Derived.BigCall
import Derived.BigGuard
import Derived.WalkLawsBesides
import Derived.RegionTactic
import Derived.ChangeAlike
import Derived.BigRegion
import Derived.Maps.OwnRows
import Derived.Maps.AppendAt
import Derived.Maps.GroupsBeside
import Derived.Deep.Onto
import Derived.Lib.AppendZerosOnto
import Derived.Laws.CopyRow
import Derived.Laws.AppendOwn
import Derived.Lib.Hide
import Derived.Defers
import Derived.Recover
import Derived.Laws.Pointers
import Derived.Shelf.SlSortCmp.WholeK
import Derived.Lib.Walk
import Derived.Test.YtfkfpgoicmfpkaaGreatDoorZz3
set_option linter.unusedVariables false
set_option linter.unusedSimpArgs false
namespace Go.Proofs.YtfkfpgoicmfpkaaGreatDoor
open Go Go.Ma
def noTi : TI := { known := false, kind := .other, agg := false, size := 0, zero := [], fields := [], elem := 0 }
def ti_1 : TI := { kind := .other, agg := false, size := 1, zero := [.nilFunc], fields := [], elem := 0, bytes := 8, eq := false, k := none }
def ti_2 : TI := { kind := (.int .i64), agg := false, size := 1, zero := [.int .i64 0], fields := [], elem := 0, bytes := 8, eq := false, k := some .int }
def ti_3 : TI := ti_2
def ti_4 : TI := { kind := .bool, agg := false, size := 1, zero := [.bool false], fields := [], elem := 0, bytes := 1, eq := false, k := some .bool }
def ti_5 : TI := { kind := (.int .u8), agg := false, size := 1, zero := [.int .u8 0], fields := [], elem := 0, bytes := 1, eq := false, k := some .u8 }
def ti_6 : TI := ti_5
def ti_7 : TI := { kind := .struct, agg := true, size := 4, zero := [.int .i64 0, .int .i64 0, .bool false, .int .u8 0], fields := [(0, 2), (1, 3), (2, 4), (3, 6)], elem := 0, bytes := 24, eq := false, k := none }
def ti_8 : TI := ti_7
def ti_9 : TI := { kind := .str, agg := false, size := 1, zero := [.string .empty], fields := [], elem := 0, bytes := 16, eq := false, k := some .str }
def ti_10 : TI := ti_9
def ti_11 : TI := ti_9
def ti_12 : TI := { kind := (.int .u64), agg := false, size := 1, zero := [.int .u64 0], fields := [], elem := 0, bytes := 8, eq := false, k := some .u64 }
def ti_13 : TI := { kind := .struct, agg := true, size := 2, zero := [.string .empty, .int .u64 0], fields := [(0, 9), (1, 12)], elem := 0, bytes := 24, eq := false, k := none }
def ti_14 : TI := ti_13
def ti_15 : TI := { kind := .other, agg := false, size := 1, zero := [.pointer none], fields := [], elem := 0, bytes := 8, eq := false, k := none }
def ti_16 : TI := ti_15
def ti_17 : TI := ti_15
def ti_18 : TI := { kind := .struct, agg := true, size := 1, zero := [.pointer none], fields := [(0, 17)], elem := 0, bytes := 8, eq := false, k := none }
def ti_19 : TI := ti_18
def ti_20 : TI := { kind := .other, agg := false, size := 1, zero := [.nilIface], fields := [], elem := 0, bytes := 16, eq := false, k := none }
def ti_21 : TI := { kind := (.int .i32), agg := false, size := 1, zero := [.int .i32 0], fields := [], elem := 0, bytes := 4, eq := false, k := none }
def ti_22 : TI := { kind := .slice, agg := false, size := 1, zero := [.slice none 0 0], fields := [], elem := 27, bytes := 24, eq := false, k := none, sl := [(0, .inl .pfx, 27)] }
def ti_23 : TI := ti_12
def ti_24 : TI := { kind := .struct, agg := true, size := 3, zero := [.bool false, .int .u64 0, .int .u64 0], fields := [(0, 4), (1, 23), (2, 23)], elem := 0, bytes := 24, eq := false, k := none }
def ti_25 : TI := { kind := .struct, agg := true, size := 3, zero := [.bool false, .int .u64 0, .int .u64 0], fields := [(0, 4), (1, 23), (2, 23)], elem := 0, bytes := 24, eq := true, k := some .addr }
def ti_26 : TI := { kind := .struct, agg := true, size := 4, zero := [.bool false, .int .u64 0, .int .u64 0, .int .i64 0], fields := [(0, 25), (3, 3)], elem := 0, bytes := 32, eq := false, k := none }
def ti_27 : TI := { kind := .struct, agg := true, size := 4, zero := [.bool false, .int .u64 0, .int .u64 0, .int .i64 0], fields := [(0, 25), (3, 3)], elem := 0, bytes := 32, eq := true, k := some .pfx }
def ti_28 : TI := ti_1
def ti_29 : TI := ti_2
def ti_31 : TI := ti_1
def ti_32 : TI := ti_1
def ti_34 : TI := ti_1
def ti_35 : TI := ti_1
def ti_36 : TI := ti_1
def ti_37 : TI := ti_1
def ti_38 : TI := ti_1
def ti_39 : TI := ti_1
def ti_41 : TI := ti_1
def ti_42 : TI := ti_1
def ti_43 : TI := ti_1
def ti_44 : TI := ti_1
def ti_45 : TI := ti_1
def ti_46 : TI := ti_1
def ti_47 : TI := ti_1
def ti_48 : TI := ti_1
def ti_50 : TI := ti_1
def ti_52 : TI := ti_1
def ti_53 : TI := ti_1
def ti_55 : TI := ti_1
def ti_57 : TI := ti_1
def ti_58 : TI := ti_1
def ti_59 : TI := ti_1
def ti_60 : TI := ti_1
def ti_61 : TI := ti_1
def ti_62 : TI := ti_1
def ti_63 : TI := ti_1
def ti_64 : TI := ti_1
def ti_65 : TI := ti_1
def ti_66 : TI := ti_1
def ti_67 : TI := ti_1
def ti_68 : TI := ti_1
def ti_69 : TI := ti_1
def ti_70 : TI := ti_1
def ti_72 : TI := ti_1
def ti_73 : TI := { kind := .slice, agg := false, size := 1, zero := [.slice none 0 0], fields := [], elem := 25, bytes := 24, eq := false, k := none, sl := [(0, .inl .addr, 25)] }
def ti_74 : TI := ti_1
def ti_75 : TI := ti_1
def ti_76 : TI := ti_1
def ti_77 : TI := ti_1
def ti_79 : TI := ti_1
def ti_80 : TI := ti_1
def ti_82 : TI := ti_1
def ti_83 : TI := ti_1
def ti_85 : TI := ti_1
def ti_87 : TI := ti_1
def ti_88 : TI := ti_1
def ti_90 : TI := ti_1
def ti_91 : TI := ti_15
def ti_92 : TI := { kind := .struct, agg := true, size := 1, zero := [.slice none 0 0], fields := [(0, 22)], elem := 0, bytes := 24, eq := false, k := none, sl := [(0, .inl .pfx, 27)] }
def ti_93 : TI := ti_92
def ti_94 : TI := ti_1
def ti_95 : TI := ti_1
def ti_96 : TI := ti_1
def ti_97 : TI := ti_1
def ti_98 : TI := { kind := .slice, agg := false, size := 1, zero := [.slice none 0 0], fields := [], elem := 5, bytes := 24, eq := false, k := none, sl := [(0, .inl .u8, 5)] }
def ti_99 : TI := ti_1
def ti_100 : TI := ti_1
def ti_101 : TI := ti_1
def ti_102 : TI := ti_20
def ti_103 : TI := ti_20
def ti_105 : TI := ti_1
def ti_106 : TI := ti_1
def ti_107 : TI := ti_1
def ti_108 : TI := ti_12
def ti_109 : TI := { kind := .struct, agg := true, size := 0, zero := [], fields := [], elem := 0, bytes := 0, eq := false, k := none }
def ti_110 : TI := ti_109
def ti_112 : TI := ti_1
def ti_113 : TI := ti_1
def ti_114 : TI := ti_1
def ti_115 : TI := { kind := .slice, agg := false, size := 1, zero := [.slice none 0 0], fields := [], elem := 9, bytes := 24, eq := false, k := none, sl := [(0, .inl .str, 9)] }
def ti_116 : TI := ti_1
def ti_117 : TI := ti_1
def ti_119 : TI := ti_1
def ti_120 : TI := ti_1
def ti_121 : TI := ti_1
def ti_122 : TI := ti_1
def ti_123 : TI := ti_1
def ti_124 : TI := ti_2
def ti_126 : TI := ti_1
def ti_127 : TI := ti_1
def ti_128 : TI := ti_1
def ti_129 : TI := ti_1
def ti_130 : TI := ti_1
def ti_131 : TI := { kind := (.int .u32), agg := false, size := 1, zero := [.int .u32 0], fields := [], elem := 0, bytes := 4, eq := false, k := none }
def ti_132 : TI := ti_1
def ti_133 : TI := { kind := .slice, agg := false, size := 1, zero := [.slice none 0 0], fields := [], elem := 23, bytes := 24, eq := false, k := none, sl := [(0, .inl .u64, 23)] }
def ti_134 : TI := ti_1
def ti_135 : TI := ti_1
def ti_136 : TI := ti_1
def ti_137 : TI := ti_15
def ti_138 : TI := { kind := .struct, agg := true, size := 2, zero := [.pointer none, .slice none 0 0], fields := [(0, 137), (1, 98)], elem := 0, bytes := 32, eq := false, k := none, sl := [(1, .inl .u8, 5)] }
def ti_139 : TI := ti_138
def ti_140 : TI := ti_1
def ti_141 : TI := ti_1
def ti_142 : TI := ti_1
def ti_143 : TI := ti_1
def ti_144 : TI := ti_1
def ti_145 : TI := ti_1
def ti_146 : TI := ti_1
def ti_147 : TI := ti_2
def ti_149 : TI := ti_1
def ti_150 : TI := ti_15
def ti_151 : TI := ti_1
def ti_152 : TI := ti_1
def ti_153 : TI := ti_12
def ti_154 : TI := ti_1
def ti_155 : TI := ti_1
def ti_156 : TI := ti_1
def ti_157 : TI := ti_15
def ti_158 : TI := ti_1
def ti_159 : TI := ti_1
def ti_161 : TI := ti_1
def ti_162 : TI := { kind := .other, agg := true, size := 24, zero := [.int .u8 0, .int .u8 0, .int .u8 0, .int .u8 0, .int .u8 0, .int .u8 0, .int .u8 0, .int .u8 0, .int .u8 0, .int .u8 0, .int .u8 0, .int .u8 0, .int .u8 0, .int .u8 0, .int .u8 0, .int .u8 0, .int .u8 0, .int .u8 0, .int .u8 0, .int .u8 0, .int .u8 0, .int .u8 0, .int .u8 0, .int .u8 0], fields := [], elem := 5, bytes := 24, eq := false, k := none }
def ti_163 : TI := ti_1
def ti_165 : TI := ti_1
def ti_166 : TI := ti_15
def ti_168 : TI := ti_1
def ti_169 : TI := ti_1
def ti_170 : TI := { kind := .struct, agg := true, size := 3, zero := [.string .empty, .string .empty, .nilIface], fields := [(0, 9), (1, 9), (2, 103)], elem := 0, bytes := 48, eq := false, k := none }
def ti_171 : TI := ti_170
def ti_172 : TI := ti_1
def ti_173 : TI := ti_15
def ti_174 : TI := ti_1
def ti_175 : TI := ti_1
def ti_176 : TI := ti_1
def ti_177 : TI := { kind := .other, agg := true, size := 20, zero := [.int .u64 0, .int .u64 0, .int .u64 0, .int .u64 0, .int .u64 0, .int .u64 0, .int .u64 0, .int .u64 0, .int .u64 0, .int .u64 0, .int .u64 0, .int .u64 0, .int .u64 0, .int .u64 0, .int .u64 0, .int .u64 0, .int .u64 0, .int .u64 0, .int .u64 0, .int .u64 0], fields := [], elem := 23, bytes := 160, eq := false, k := none }
def ti_179 : TI := ti_1
def ti_180 : TI := ti_15
def ti_181 : TI := ti_1
def ti_182 : TI := ti_1
def ti_183 : TI := ti_1
def ti_184 : TI := ti_1
def ti_185 : TI := ti_15
def ti_186 : TI := { kind := .struct, agg := true, size := 1, zero := [.string .empty], fields := [(0, 9)], elem := 0, bytes := 16, eq := false, k := none }
def ti_187 : TI := ti_186
def ti_188 : TI := ti_1
def ti_190 : TI := ti_1
def ti_191 : TI := { kind := .other, agg := true, size := 32, zero := [.int .u8 0, .int .u8 0, .int .u8 0, .int .u8 0, .int .u8 0, .int .u8 0, .int .u8 0, .int .u8 0, .int .u8 0, .int .u8 0, .int .u8 0, .int .u8 0, .int .u8 0, .int .u8 0, .int .u8 0, .int .u8 0, .int .u8 0, .int .u8 0, .int .u8 0, .int .u8 0, .int .u8 0, .int .u8 0, .int .u8 0, .int .u8 0, .int .u8 0, .int .u8 0, .int .u8 0, .int .u8 0, .int .u8 0, .int .u8 0, .int .u8 0, .int .u8 0], fields := [], elem := 5, bytes := 32, eq := false, k := none }
def ti_192 : TI := { kind := .other, agg := true, size := 64, zero := [.int .u8 0, .int .u8 0, .int .u8 0, .int .u8 0, .int .u8 0, .int .u8 0, .int .u8 0, .int .u8 0, .int .u8 0, .int .u8 0, .int .u8 0, .int .u8 0, .int .u8 0, .int .u8 0, .int .u8 0, .int .u8 0, .int .u8 0, .int .u8 0, .int .u8 0, .int .u8 0, .int .u8 0, .int .u8 0, .int .u8 0, .int .u8 0, .int .u8 0, .int .u8 0, .int .u8 0, .int .u8 0, .int .u8 0, .int .u8 0, .int .u8 0, .int .u8 0, .int .u8 0, .int .u8 0, .int .u8 0, .int .u8 0, .int .u8 0, .int .u8 0, .int .u8 0, .int .u8 0, .int .u8 0, .int .u8 0, .int .u8 0, .int .u8 0, .int .u8 0, .int .u8 0, .int .u8 0, .int .u8 0, .int .u8 0, .int .u8 0, .int .u8 0, .int .u8 0, .int .u8 0, .int .u8 0, .int .u8 0, .int .u8 0, .int .u8 0, .int .u8 0, .int .u8 0, .int .u8 0, .int .u8 0, .int .u8 0, .int .u8 0, .int .u8 0], fields := [], elem := 5, bytes := 64, eq := false, k := none }
def ti_194 : TI := { kind := .struct, agg := true, size := 2, zero := [.int .u8 0, .int .u8 0], fields := [(0, 5), (1, 5)], elem := 0, bytes := 2, eq := false, k := none }
def ti_195 : TI := ti_194
def ti_196 : TI := { kind := .other, agg := true, size := 32, zero := [.int .u8 0, .int .u8 0, .int .u8 0, .int .u8 0, .int .u8 0, .int .u8 0, .int .u8 0, .int .u8 0, .int .u8 0, .int .u8 0, .int .u8 0, .int .u8 0, .int .u8 0, .int .u8 0, .int .u8 0, .int .u8 0, .int .u8 0, .int .u8 0, .int .u8 0, .int .u8 0, .int .u8 0, .int .u8 0, .int .u8 0, .int .u8 0, .int .u8 0, .int .u8 0, .int .u8 0, .int .u8 0, .int .u8 0, .int .u8 0, .int .u8 0, .int .u8 0], fields := [], elem := 195, bytes := 32, eq := false, k := none }
def ti_197 : TI := { kind := .struct, agg := true, size := 4, zero := [.pointer none, .pointer none, .pointer none, .string .empty], fields := [(0, 17), (1, 17), (2, 17), (3, 9)], elem := 0, bytes := 40, eq := false, k := none }
def ti_198 : TI := ti_197
def ti_199 : TI := { kind := .other, agg := true, size := 0, zero := [], fields := [], elem := 16, bytes := 0, eq := false, k := none }
def ti_200 : TI := { kind := .struct, agg := true, size := 0, zero := [], fields := [(0, 199)], elem := 0, bytes := 0, eq := false, k := none }
def ti_201 : TI := ti_200
def ti_202 : TI := ti_1
def ti_203 : TI := ti_5
def ti_204 : TI := ti_5
def ti_205 : TI := ti_1
def ti_206 : TI := ti_21
def ti_207 : TI := ti_21
def ti_208 : TI := { kind := .struct, agg := true, size := 11, zero := [.int .u64 0, .int .u64 0, .int .u32 0, .int .u8 0, .int .u8 0, .int .u8 0, .int .u8 0, .nilFunc, .pointer none, .int .i32 0, .int .i32 0], fields := [(0, 12), (1, 12), (2, 131), (3, 203), (4, 5), (5, 5), (6, 204), (7, 205), (8, 166), (9, 206), (10, 207)], elem := 0, bytes := 48, eq := false, k := none }
def ti_209 : TI := ti_208
def ty (t : Nat) : TI := bif Nat.blt t 224 then (bif Nat.blt t 112 then (bif Nat.blt t 56 then (bif Nat.blt t 28 then (bif Nat.blt t 14 then (bif Nat.blt t 7 then (bif Nat.blt t 3 then (bif Nat.blt t 1 then noTi else (bif Nat.blt t 2 then ti_1 else ti_2)) else (bif Nat.blt t 5 then (bif Nat.blt t 4 then ti_3 else ti_4) else (bif Nat.blt t 6 then ti_5 else ti_6))) else (bif Nat.blt t 10 then (bif Nat.blt t 8 then ti_7 else (bif Nat.blt t 9 then ti_8 else ti_9)) else (bif Nat.blt t 12 then (bif Nat.blt t 11 then ti_10 else ti_11) else (bif Nat.blt t 13 then ti_12 else ti_13)))) else (bif Nat.blt t 21 then (bif Nat.blt t 17 then (bif Nat.blt t 15 then ti_14 else (bif Nat.blt t 16 then ti_15 else ti_16)) else (bif Nat.blt t 19 then (bif Nat.blt t 18 then ti_17 else ti_18) else (bif Nat.blt t 20 then ti_19 else ti_20))) else (bif Nat.blt t 24 then (bif Nat.blt t 22 then ti_21 else (bif Nat.blt t 23 then ti_22 else ti_23)) else (bif Nat.blt t 26 then (bif Nat.blt t 25 then ti_24 else ti_25) else (bif Nat.blt t 27 then ti_26 else ti_27))))) else (bif Nat.blt t 42 then (bif Nat.blt t 35 then (bif Nat.blt t 31 then (bif Nat.blt t 29 then ti_28 else (bif Nat.blt t 30 then ti_29 else noTi)) else (bif Nat.blt t 33 then (bif Nat.blt t 32 then ti_31 else ti_32) else (bif Nat.blt t 34 then noTi else ti_34))) else (bif Nat.blt t 38 then (bif Nat.blt t 36 then ti_35 else (bif Nat.blt t 37 then ti_36 else ti_37)) else (bif Nat.blt t 40 then (bif Nat.blt t 39 then ti_38 else ti_39) else (bif Nat.blt t 41 then noTi else ti_41)))) else (bif Nat.blt t 49 then (bif Nat.blt t 45 then (bif Nat.blt t 43 then ti_42 else (bif Nat.blt t 44 then ti_43 else ti_44)) else (bif Nat.blt t 47 then (bif Nat.blt t 46 then ti_45 else ti_46) else (bif Nat.blt t 48 then ti_47 else ti_48))) else (bif Nat.blt t 52 then (bif Nat.blt t 50 then noTi else (bif Nat.blt t 51 then ti_50 else noTi)) else (bif Nat.blt t 54 then (bif Nat.blt t 53 then ti_52 else ti_53) else (bif Nat.blt t 55 then noTi else ti_55)))))) else (bif Nat.blt t 84 then (bif Nat.blt t 70 then (bif Nat.blt t 63 then (bif Nat.blt t 59 then (bif Nat.blt t 57 then noTi else (bif Nat.blt t 58 then ti_57 else ti_58)) else (bif Nat.blt t 61 then (bif Nat.blt t 60 then ti_59 else ti_60) else (bif Nat.blt t 62 then ti_61 else ti_62))) else (bif Nat.blt t 66 then (bif Nat.blt t 64 then ti_63 else (bif Nat.blt t 65 then ti_64 else ti_65)) else (bif Nat.blt t 68 then (bif Nat.blt t 67 then ti_66 else ti_67) else (bif Nat.blt t 69 then ti_68 else ti_69)))) else (bif Nat.blt t 77 then (bif Nat.blt t 73 then (bif Nat.blt t 71 then ti_70 else (bif Nat.blt t 72 then noTi else ti_72)) else (bif Nat.blt t 75 then (bif Nat.blt t 74 then ti_73 else ti_74) else (bif Nat.blt t 76 then ti_75 else ti_76))) else (bif Nat.blt t 80 then (bif Nat.blt t 78 then ti_77 else (bif Nat.blt t 79 then noTi else ti_79)) else (bif Nat.blt t 82 then (bif Nat.blt t 81 then ti_80 else noTi) else (bif Nat.blt t 83 then ti_82 else ti_83))))) else (bif Nat.blt t 98 then (bif Nat.blt t 91 then (bif Nat.blt t 87 then (bif Nat.blt t 85 then noTi else (bif Nat.blt t 86 then ti_85 else noTi)) else (bif Nat.blt t 89 then (bif Nat.blt t 88 then ti_87 else ti_88) else (bif Nat.blt t 90 then noTi else ti_90))) else (bif Nat.blt t 94 then (bif Nat.blt t 92 then ti_91 else (bif Nat.blt t 93 then ti_92 else ti_93)) else (bif Nat.blt t 96 then (bif Nat.blt t 95 then ti_94 else ti_95) else (bif Nat.blt t 97 then ti_96 else ti_97)))) else (bif Nat.blt t 105 then (bif Nat.blt t 101 then (bif Nat.blt t 99 then ti_98 else (bif Nat.blt t 100 then ti_99 else ti_100)) else (bif Nat.blt t 103 then (bif Nat.blt t 102 then ti_101 else ti_102) else (bif Nat.blt t 104 then ti_103 else noTi))) else (bif Nat.blt t 108 then (bif Nat.blt t 106 then ti_105 else (bif Nat.blt t 107 then ti_106 else ti_107)) else (bif Nat.blt t 110 then (bif Nat.blt t 109 then ti_108 else ti_109) else (bif Nat.blt t 111 then ti_110 else noTi))))))) else (bif Nat.blt t 168 then (bif Nat.blt t 140 then (bif Nat.blt t 126 then (bif Nat.blt t 119 then (bif Nat.blt t 115 then (bif Nat.blt t 113 then ti_112 else (bif Nat.blt t 114 then ti_113 else ti_114)) else (bif Nat.blt t 117 then (bif Nat.blt t 116 then ti_115 else ti_116) else (bif Nat.blt t 118 then ti_117 else noTi))) else (bif Nat.blt t 122 then (bif Nat.blt t 120 then ti_119 else (bif Nat.blt t 121 then ti_120 else ti_121)) else (bif Nat.blt t 124 then (bif Nat.blt t 123 then ti_122 else ti_123) else (bif Nat.blt t 125 then ti_124 else noTi)))) else (bif Nat.blt t 133 then (bif Nat.blt t 129 then (bif Nat.blt t 127 then ti_126 else (bif Nat.blt t 128 then ti_127 else ti_128)) else (bif Nat.blt t 131 then (bif Nat.blt t 130 then ti_129 else ti_130) else (bif Nat.blt t 132 then ti_131 else ti_132))) else (bif Nat.blt t 136 then (bif Nat.blt t 134 then ti_133 else (bif Nat.blt t 135 then ti_134 else ti_135)) else (bif Nat.blt t 138 then (bif Nat.blt t 137 then ti_136 else ti_137) else (bif Nat.blt t 139 then ti_138 else ti_139))))) else (bif Nat.blt t 154 then (bif Nat.blt t 147 then (bif Nat.blt t 143 then (bif Nat.blt t 141 then ti_140 else (bif Nat.blt t 142 then ti_141 else ti_142)) else (bif Nat.blt t 145 then (bif Nat.blt t 144 then ti_143 else ti_144) else (bif Nat.blt t 146 then ti_145 else ti_146))) else (bif Nat.blt t 150 then (bif Nat.blt t 148 then ti_147 else (bif Nat.blt t 149 then noTi else ti_149)) else (bif Nat.blt t 152 then (bif Nat.blt t 151 then ti_150 else ti_151) else (bif Nat.blt t 153 then ti_152 else ti_153)))) else (bif Nat.blt t 161 then (bif Nat.blt t 157 then (bif Nat.blt t 155 then ti_154 else (bif Nat.blt t 156 then ti_155 else ti_156)) else (bif Nat.blt t 159 then (bif Nat.blt t 158 then ti_157 else ti_158) else (bif Nat.blt t 160 then ti_159 else noTi))) else (bif Nat.blt t 164 then (bif Nat.blt t 162 then ti_161 else (bif Nat.blt t 163 then ti_162 else ti_163)) else (bif Nat.blt t 166 then (bif Nat.blt t 165 then noTi else ti_165) else (bif Nat.blt t 167 then ti_166 else noTi)))))) else (bif Nat.blt t 196 then (bif Nat.blt t 182 then (bif Nat.blt t 175 then (bif Nat.blt t 171 then (bif Nat.blt t 169 then ti_168 else (bif Nat.blt t 170 then ti_169 else ti_170)) else (bif Nat.blt t 173 then (bif Nat.blt t 172 then ti_171 else ti_172) else (bif Nat.blt t 174 then ti_173 else ti_174))) else (bif Nat.blt t 178 then (bif Nat.blt t 176 then ti_175 else (bif Nat.blt t 177 then ti_176 else ti_177)) else (bif Nat.blt t 180 then (bif Nat.blt t 179 then noTi else ti_179) else (bif Nat.blt t 181 then ti_180 else ti_181)))) else (bif Nat.blt t 189 then (bif Nat.blt t 185 then (bif Nat.blt t 183 then ti_182 else (bif Nat.blt t 184 then ti_183 else ti_184)) else (bif Nat.blt t 187 then (bif Nat.blt t 186 then ti_185 else ti_186) else (bif Nat.blt t 188 then ti_187 else ti_188))) else (bif Nat.blt t 192 then (bif Nat.blt t 190 then noTi else (bif Nat.blt t 191 then ti_190 else ti_191)) else (bif Nat.blt t 194 then (bif Nat.blt t 193 then ti_192 else noTi) else (bif Nat.blt t 195 then ti_194 else ti_195))))) else (bif Nat.blt t 210 then (bif Nat.blt t 203 then (bif Nat.blt t 199 then (bif Nat.blt t 197 then ti_196 else (bif Nat.blt t 198 then ti_197 else ti_198)) else (bif Nat.blt t 201 then (bif Nat.blt t 200 then ti_199 else ti_200) else (bif Nat.blt t 202 then ti_201 else ti_202))) else (bif Nat.blt t 206 then (bif Nat.blt t 204 then ti_203 else (bif Nat.blt t 205 then ti_204 else ti_205)) else (bif Nat.blt t 208 then (bif Nat.blt t 207 then ti_206 else ti_207) else (bif Nat.blt t 209 then ti_208 else ti_209)))) else (bif Nat.blt t 217 then (bif Nat.blt t 213 then (bif Nat.blt t 211 then noTi else (bif Nat.blt t 212 then noTi else noTi)) else (bif Nat.blt t 215 then (bif Nat.blt t 214 then noTi else noTi) else (bif Nat.blt t 216 then noTi else noTi))) else (bif Nat.blt t 220 then (bif Nat.blt t 218 then noTi else (bif Nat.blt t 219 then noTi else noTi)) else (bif Nat.blt t 222 then (bif Nat.blt t 221 then noTi else noTi) else (bif Nat.blt t 223 then noTi else noTi)))))))) else noTi
theorem ty_dflt (t : Nat) (h : 224 ≤ t) : ty t = noTi := by
 have e : Nat.blt t 224 = false := by
  cases hb : Nat.blt t 224
  ·rfl
  ·have := Nat.le_of_ble_eq_true hb
   omega
 unfold ty
 rw [e]
 rfl
def tyKnown : List Nat := [1, 2, 3, 4, 5, 6, 7, 8, 9, 10, 11, 12, 13, 14, 15, 16, 17, 18, 19, 20, 21, 22, 23, 24, 25, 26, 27, 28, 29, 31, 32, 34, 35, 36, 37, 38, 39, 41, 42, 43, 44, 45, 46, 47, 48, 50, 52, 53, 55, 57, 58, 59, 60, 61, 62, 63, 64, 65, 66, 67, 68, 69, 70, 72, 73, 74, 75, 76, 77, 79, 80, 82, 83, 85, 87, 88, 90, 91, 92, 93, 94, 95, 96, 97, 98, 99, 100, 101, 102, 103, 105, 106, 107, 108, 109, 110, 112, 113, 114, 115, 116, 117, 119, 120, 121, 122, 123, 124, 126, 127, 128, 129, 130, 131, 132, 133, 134, 135, 136, 137, 138, 139, 140, 141, 142, 143, 144, 145, 146, 147, 149, 150, 151, 152, 153, 154, 155, 156, 157, 158, 159, 161, 162, 163, 165, 166, 168, 169, 170, 171, 172, 173, 174, 175, 176, 177, 179, 180, 181, 182, 183, 184, 185, 186, 187, 188, 190, 191, 192, 194, 195, 196, 197, 198, 199, 200, 201, 202, 203, 204, 205, 206, 207, 208, 209]
theorem ty_list : tyKnown.map (fun t => ({ ty t with eq := false, k := none, nk := none, sl := [] } : TI)) = tyKnown.map (tiOf Tryz.prog) := by kernel_rfl
theorem ty_in : (List.range 224).all (fun t => !(ty t).known || tyKnown.contains t) = true := by kernel_rfl
theorem ty_fact (t : Nat) (h : (ty t).known = true) : TyFact Tryz.prog t (ty t) := by
 refine tyFact_of h ?_
 have hlt : t < 224 := by
  rcases Nat.lt_or_ge t 224 with h' | h'
  ·exact h'
  ·have : (ty t) = noTi := ty_dflt t h'
   rw [this] at h
   cases h
 have h1 := List.all_eq_true.1 ty_in t (List.mem_range.2 hlt)
 rw [h] at h1
 have hmem : t ∈ tyKnown := by simpa using h1
 have := List.map_inj_left.1 ty_list t hmem
 exact this
theorem eq_25 : StructEq Tryz.prog 25 (ty 25).zero := structEq ty_fact 25 (ty 25).zero (by kernel_rfl) (by kernel_rfl) (by kernel_rfl)
theorem eq_27 : StructEq Tryz.prog 27 (ty 27).zero := structEq ty_fact 27 (ty 27).zero (by kernel_rfl) (by kernel_rfl) (by kernel_rfl)
def tyEqs : List Nat := [25, 27]
theorem eq_in : (List.range 224).all (fun t => !(ty t).eq || tyEqs.contains t) = true := by kernel_rfl
theorem ty_eq (t : Nat) (h : (ty t).eq = true) : StructEq Tryz.prog t (ty t).zero := by
 have hlt : t < 224 := by
  rcases Nat.lt_or_ge t 224 with h' | h'
  ·exact h'
  ·rw [ty_dflt t h'] at h
   cases h
 have h1 := List.all_eq_true.1 eq_in t (List.mem_range.2 hlt)
 rw [h] at h1
 have hmem : t ∈ tyEqs := by simpa using h1
 simp only [tyEqs, List.mem_cons, List.not_mem_nil, or_false] at hmem
 rcases hmem with rfl | rfl
 ·exact eq_25
 ·exact eq_27
theorem tyOk : TOk Tryz.prog ty := ⟨ty_fact, ty_eq, by kernel_rfl⟩
def fnExt : List Nat := [0, 1, 105, 126, 138, 139, 144, 148, 149, 150, 151, 152, 153, 154, 155, 156, 157, 158, 159, 160, 161, 162, 163, 164, 165, 166, 167, 168, 169, 170, 171, 172, 173, 174, 175, 176]
def fnB (f : Nat) : Bool := decide (f < 178) && !fnExt.contains f
theorem fn_all : (List.range 178).all (fun f => !fnB f || (match Tryz.prog.funcs[f]? with | some fn => fn.body.isSome && !(fn.name == "runtime.NumGoroutine") | none => false)) = true := by kernel_rfl
theorem fn_ok (f : Nat) (h : fnB f = true) : HasBody Tryz.prog f := by
 have hlt : f < 178 := by
  unfold fnB at h
  simp only [Bool.and_eq_true, decide_eq_true_eq] at h
  exact h.1
 have h1 := List.all_eq_true.1 fn_all f (List.mem_range.2 hlt)
 rw [h] at h1
 simp only [Bool.not_true, Bool.false_or] at h1
 unfold HasBody
 cases hf : Tryz.prog.funcs[f]? with
 | none => rw [hf] at h1; cases h1
 | some fn =>
  rw [hf] at h1
  simp only [Bool.and_eq_true, Bool.not_eq_true'] at h1
  exact ⟨fn, rfl, h1.1, h1.2⟩
end Go.Proofs.YtfkfpgoicmfpkaaGreatDoor
namespace Go.Proofs.YtfkfpgoicmfpkaaGreatDoor
open Go Go.Ma
noncomputable def law_v4_env : Env := mkEnv ty fnB [] []
theorem law_v4_envOk : EnvOk Tryz.prog law_v4_env := envOk tyOk fn_ok callsNil _
noncomputable def law_v4_con : Con := con [.one (.fl .u64)] [.one (.fl .addr)] (fun x => law_v4_t x.1)
theorem law_v4_ok : TrOk Tryz.prog 30 law_v4_con := by
 have h : loopsOf (codeOf Tryz.f30) = [] := by kernel_rfl
 refine con_ok law_v4_envOk Tryz.func30 (bodyOk h lsNil) _ _ _ (fun x => ?_)
 kernel_rfl
noncomputable def law_net_env : Env := mkEnv ty fnB [(30, law_v4_con)] []
theorem law_net_envOk : EnvOk Tryz.prog law_net_env := envOk tyOk fn_ok (callsCons law_v4_ok callsNil) _
noncomputable def law_net_con : Con := con [.one (.fl .u64), .one (.fl .int)] [.one (.fl .pfx)] (fun x => law_net_t x.1 x.2.1)
theorem law_net_ok : TrOk Tryz.prog 29 law_net_con := by
 have h : loopsOf (codeOf Tryz.f29) = [] := by kernel_rfl
 refine con_ok law_net_envOk Tryz.func29 (bodyOk h lsNil) _ _ _ (fun x => ?_)
 kernel_rfl
noncomputable def addr_Check_env : Env := mkEnv ty fnB [] []
theorem addr_Check_envOk : EnvOk Tryz.prog addr_Check_env := envOk tyOk fn_ok callsNil _
noncomputable def addr_Check_con : Con := con [.one (.fl .addr)] [.one (.fl .int)] (fun x => addr_Check_t x.1)
theorem addr_Check_ok : TrOk Tryz.prog 34 addr_Check_con := by
 have h : loopsOf (codeOf Tryz.f34) = [] := by kernel_rfl
 refine con_ok addr_Check_envOk Tryz.func34 (bodyOk h lsNil) _ _ _ (fun x => ?_)
 kernel_rfl
noncomputable def prefix_Wide_env : Env := mkEnv ty fnB [] []
theorem prefix_Wide_envOk : EnvOk Tryz.prog prefix_Wide_env := envOk tyOk fn_ok callsNil _
noncomputable def prefix_Wide_con : Con := con [.one (.fl .addr)] [.one (.fl .int)] (fun x => prefix_Wide_t x.1)
theorem prefix_Wide_ok : TrOk Tryz.prog 39 prefix_Wide_con := by
 have h : loopsOf (codeOf Tryz.f39) = [] := by kernel_rfl
 refine con_ok prefix_Wide_envOk Tryz.func39 (bodyOk h lsNil) _ _ _ (fun x => ?_)
 kernel_rfl
noncomputable def prefix_mask_env : Env := mkEnv ty fnB [(39, prefix_Wide_con)] []
theorem prefix_mask_envOk : EnvOk Tryz.prog prefix_mask_env := envOk tyOk fn_ok (callsCons prefix_Wide_ok callsNil) _
noncomputable def prefix_mask_con : Con := con [.one (.fl .addr), .one (.fl .int)] [.one (.fl .addr)] (fun x => prefix_mask_t x.1 x.2.1)
theorem prefix_mask_ok : TrOk Tryz.prog 62 prefix_mask_con := by
 have h : loopsOf (codeOf Tryz.f62) = [] := by kernel_rfl
 refine con_ok prefix_mask_envOk Tryz.func62 (bodyOk h lsNil) _ _ _ (fun x => ?_)
 kernel_rfl
noncomputable def prefix_Cut_env : Env := mkEnv ty fnB [(62, prefix_mask_con)] []
theorem prefix_Cut_envOk : EnvOk Tryz.prog prefix_Cut_env := envOk tyOk fn_ok (callsCons prefix_mask_ok callsNil) _
noncomputable def prefix_Cut_con : Con := con [.one (.fl .addr), .one (.fl .int)] [.one (.fl .addr)] (fun x => prefix_Cut_t x.1 x.2.1)
theorem prefix_Cut_ok : TrOk Tryz.prog 40 prefix_Cut_con := by
 have h : loopsOf (codeOf Tryz.f40) = [] := by kernel_rfl
 refine con_ok prefix_Cut_envOk Tryz.func40 (bodyOk h lsNil) _ _ _ (fun x => ?_)
 kernel_rfl
noncomputable def prefix_Check_env : Env := mkEnv ty fnB [(34, addr_Check_con), (39, prefix_Wide_con), (40, prefix_Cut_con)] []
theorem prefix_Check_envOk : EnvOk Tryz.prog prefix_Check_env := envOk tyOk fn_ok (callsCons addr_Check_ok (callsCons prefix_Wide_ok (callsCons prefix_Cut_ok callsNil))) _
noncomputable def zq17 : Con := con [.one (.fl .pfx)] [.one (.fl .int)] (fun x => zq20 x.1)
theorem zq19 : TrOk Tryz.prog 16 zq17 := by
 have h : loopsOf (codeOf Tryz.f16) = [] := by kernel_rfl
 refine con_ok prefix_Check_envOk Tryz.func16 (bodyOk h lsNil) _ _ _ (fun x => ?_)
 kernel_rfl
def span_Right_L4_S : LoopS := { n := 21, base := 1, head := { keep := [9, 10, 11], vals := [.one (.cst (.row 0)), .one (.fl .int), .one (.fl .int)], objs := [.row .pfx 27 false] }, exits := [⟨none, { keep := [2], vals := [.one (.fl .int)], objs := [.row .pfx 27 false] }⟩, ⟨some 0, { keep := [], vals := [], objs := [.row .pfx 27 false] }⟩] }
noncomputable def span_Right_env : Env := mkEnv ty fnB [(16, zq17)] [(4, (loopTr span_Right_L4_S (loopN span_Right_L4 FUEL)))]
theorem span_Right_envOk : EnvOk Tryz.prog span_Right_env := envOk tyOk fn_ok (callsCons zq19 callsNil) _
theorem span_Right_L4_ok : LOk Tryz.prog (nthLoop (codeOf Tryz.f31) 0) (loopTr span_Right_L4_S (loopN span_Right_L4 FUEL)) := by
 have h : loopsOf (nthLoop (codeOf Tryz.f31) 0) = [] := by kernel_rfl
 refine loop_ok span_Right_envOk (loopsOk h lsNil) span_Right_L4_S span_Right_L4 FUEL (fun rec x => ?_)
 kernel_rfl
noncomputable def span_Right_con : Con := con [.one (.row .pfx 27)] [.one (.fl .int)] (fun x => span_Right_t x.1)
theorem span_Right_ok : TrOk Tryz.prog 31 span_Right_con := by
 have h : loopsOf (codeOf Tryz.f31) = [(nthLoop (codeOf Tryz.f31) 0)] := by kernel_rfl
 refine con_ok span_Right_envOk Tryz.func31 (bodyOk h (lsCons (one_loop (t := (loopTr span_Right_L4_S (loopN span_Right_L4 FUEL))) (by kernel_rfl) span_Right_L4_ok) lsNil)) _ _ _ (fun x => ?_)
 kernel_rfl
noncomputable def slices_Clone___api_Prefix_api_Prefix__env : Env := mkEnv ty fnB [] []
theorem slices_Clone___api_Prefix_api_Prefix__envOk : EnvOk Tryz.prog slices_Clone___api_Prefix_api_Prefix__env := envOk tyOk fn_ok callsNil _
noncomputable def slices_Clone___api_Prefix_api_Prefix__con : Con := con [.one (.row .pfx 27)] [.one (.row .pfx 27)] (fun x => zq23 x.1)
theorem slices_Clone___api_Prefix_api_Prefix__ok : TrOk Tryz.prog 57 slices_Clone___api_Prefix_api_Prefix__con := by
 have h : loopsOf (codeOf Tryz.f57) = [] := by kernel_rfl
 refine con_ok slices_Clone___api_Prefix_api_Prefix__envOk Tryz.func57 (bodyOk h lsNil) _ _ _ (fun x => ?_)
 kernel_rfl
noncomputable def addr_Order_1_env : Env := mkEnv ty fnB [] []
theorem addr_Order_1_envOk : EnvOk Tryz.prog addr_Order_1_env := envOk tyOk fn_ok callsNil _
noncomputable def addr_Order_1_con : Con := con [.one (.fl .u64), .one (.fl .u64)] [.one (.fl .int)] (fun x => addr_Order_1_t x.1 x.2.1)
theorem addr_Order_1_ok : TrOk Tryz.prog 63 addr_Order_1_con := by
 have h : loopsOf (codeOf Tryz.f63) = [] := by kernel_rfl
 refine con_ok addr_Order_1_envOk Tryz.func63 (bodyOk h lsNil) _ _ _ (fun x => ?_)
 kernel_rfl
noncomputable def addr_Order_env : Env := mkEnv ty fnB [(63, addr_Order_1_con)] []
theorem addr_Order_envOk : EnvOk Tryz.prog addr_Order_env := envOk tyOk fn_ok (callsCons addr_Order_1_ok callsNil) _
noncomputable def addr_Order_con : Con := con [.one (.fl .addr), .one (.fl .addr)] [.one (.fl .int)] (fun x => addr_Order_t x.1 x.2.1)
theorem addr_Order_ok : TrOk Tryz.prog 44 addr_Order_con := by
 have h : loopsOf (codeOf Tryz.f44) = [] := by kernel_rfl
 refine con_ok addr_Order_envOk Tryz.func44 (bodyOk h lsNil) _ _ _ (fun x => ?_)
 kernel_rfl
noncomputable def prefix_Holds_env : Env := mkEnv ty fnB [(40, prefix_Cut_con)] []
theorem prefix_Holds_envOk : EnvOk Tryz.prog prefix_Holds_env := envOk tyOk fn_ok (callsCons prefix_Cut_ok callsNil) _
noncomputable def prefix_Holds_con : Con := con [.one (.fl .pfx), .one (.fl .addr)] [.one (.fl .bool)] (fun x => prefix_Holds_t x.1 x.2.1)
theorem prefix_Holds_ok : TrOk Tryz.prog 37 prefix_Holds_con := by
 have h : loopsOf (codeOf Tryz.f37) = [] := by kernel_rfl
 refine con_ok prefix_Holds_envOk Tryz.func37 (bodyOk h lsNil) _ _ _ (fun x => ?_)
 kernel_rfl
noncomputable def prefix_Over_env : Env := mkEnv ty fnB [(37, prefix_Holds_con)] []
theorem prefix_Over_envOk : EnvOk Tryz.prog prefix_Over_env := envOk tyOk fn_ok (callsCons prefix_Holds_ok callsNil) _
noncomputable def prefix_Over_con : Con := con [.one (.fl .pfx), .one (.fl .pfx)] [.one (.fl .bool)] (fun x => prefix_Over_t x.1 x.2.1)
theorem prefix_Over_ok : TrOk Tryz.prog 42 prefix_Over_con := by
 have h : loopsOf (codeOf Tryz.f42) = [] := by kernel_rfl
 refine con_ok prefix_Over_envOk Tryz.func42 (bodyOk h lsNil) _ _ _ (fun x => ?_)
 kernel_rfl
noncomputable def prefix_Last_env : Env := mkEnv ty fnB [(62, prefix_mask_con)] []
theorem prefix_Last_envOk : EnvOk Tryz.prog prefix_Last_env := envOk tyOk fn_ok (callsCons prefix_mask_ok callsNil) _
noncomputable def prefix_Last_con : Con := con [.one (.fl .pfx)] [.one (.fl .addr)] (fun x => prefix_Last_t x.1)
theorem prefix_Last_ok : TrOk Tryz.prog 55 prefix_Last_con := by
 have h : loopsOf (codeOf Tryz.f55) = [] := by kernel_rfl
 refine con_ok prefix_Last_envOk Tryz.func55 (bodyOk h lsNil) _ _ _ (fun x => ?_)
 kernel_rfl
noncomputable def addr_After_env : Env := mkEnv ty fnB [] []
theorem addr_After_envOk : EnvOk Tryz.prog addr_After_env := envOk tyOk fn_ok callsNil _
noncomputable def addr_After_con : Con := con [.one (.fl .addr)] [.one (.fl .addr), .one (.fl .bool)] (fun x => addr_After_t x.1)
theorem addr_After_ok : TrOk Tryz.prog 56 addr_After_con := by
 have h : loopsOf (codeOf Tryz.f56) = [] := by kernel_rfl
 refine con_ok addr_After_envOk Tryz.func56 (bodyOk h lsNil) _ _ _ (fun x => ?_)
 kernel_rfl
noncomputable def prefix_Split_env : Env := mkEnv ty fnB [(55, prefix_Last_con), (56, addr_After_con)] []
theorem prefix_Split_envOk : EnvOk Tryz.prog prefix_Split_env := envOk tyOk fn_ok (callsCons prefix_Last_ok (callsCons addr_After_ok callsNil)) _
noncomputable def prefix_Split_con : Con := con [.one (.fl .pfx)] [.one (.fl .pfx), .one (.fl .pfx)] (fun x => prefix_Split_t x.1)
theorem prefix_Split_ok : TrOk Tryz.prog 51 prefix_Split_con := by
 have h : loopsOf (codeOf Tryz.f51) = [] := by kernel_rfl
 refine con_ok prefix_Split_envOk Tryz.func51 (bodyOk h lsNil) _ _ _ (fun x => ?_)
 kernel_rfl
noncomputable def prefix_Joined_env : Env := mkEnv ty fnB [(40, prefix_Cut_con), (51, prefix_Split_con)] []
theorem prefix_Joined_envOk : EnvOk Tryz.prog prefix_Joined_env := envOk tyOk fn_ok (callsCons prefix_Cut_ok (callsCons prefix_Split_ok callsNil)) _
noncomputable def prefix_Joined_con : Con := con [.one (.fl .pfx), .one (.fl .pfx)] [.one (.fl .pfx), .one (.fl .bool)] (fun x => prefix_Joined_t x.1 x.2.1)
theorem prefix_Joined_ok : TrOk Tryz.prog 43 prefix_Joined_con := by
 have h : loopsOf (codeOf Tryz.f43) = [] := by kernel_rfl
 refine con_ok prefix_Joined_envOk Tryz.func43 (bodyOk h lsNil) _ _ _ (fun x => ?_)
 kernel_rfl
noncomputable def span_Has_1_env : Env := mkEnv ty fnB [(37, prefix_Holds_con)] []
theorem span_Has_1_envOk : EnvOk Tryz.prog span_Has_1_env := envOk tyOk fn_ok (callsCons prefix_Holds_ok callsNil) _
noncomputable def span_Has_1_con : Con := con [.one (.fl .pfx), .ref [.fl .addr] 25] [.one (.fl .bool)] (fun x => span_Has_1_t x.1 x.2.1.1)
theorem span_Has_1_ok : TrOk Tryz.prog 36 span_Has_1_con := by
 have h : loopsOf (codeOf Tryz.f36) = [] := by kernel_rfl
 refine con_ok span_Has_1_envOk Tryz.func36 (bodyOk h lsNil) _ _ _ (fun x => ?_)
 kernel_rfl
def zq27 : LoopS := { n := 19, base := 2, head := { keep := [0, 1, 7, 8], vals := [.one (.cst (.row 0)), .one (.cst (.fn 36 [.ptr 1 0])), .one (.fl .int), .one (.fl .int)], objs := [.row .pfx 27 false, .blk [.fl .addr] 25 true] }, exits := [⟨none, { keep := [4], vals := [.one (.fl .int)], objs := [.row .pfx 27 false, .blk [.fl .addr] 25 true] }⟩, ⟨some 0, { keep := [], vals := [], objs := [.row .pfx 27 false, .blk [.fl .addr] 25 true] }⟩] }
noncomputable def zq29 : Env := mkEnv ty fnB [(36, span_Has_1_con)] [(2, (loopTr zq27 (loopN zq26 FUEL)))]
theorem zq30 : EnvOk Tryz.prog zq29 := envOk tyOk fn_ok (callsCons span_Has_1_ok callsNil) _
theorem zq28 : LOk Tryz.prog (nthLoop (codeOf Tryz.f47) 0) (loopTr zq27 (loopN zq26 FUEL)) := by
 have h : loopsOf (nthLoop (codeOf Tryz.f47) 0) = [] := by kernel_rfl
 refine loop_ok zq30 (loopsOk h lsNil) zq27 zq26 FUEL (fun rec x => ?_)
 kernel_rfl
theorem zq31 : TrOk Tryz.prog 47 (inlCon zq29 Tryz.f47) := by
 have h : loopsOf (codeOf Tryz.f47) = [(nthLoop (codeOf Tryz.f47) 0)] := by kernel_rfl
 exact inl_ok zq30 Tryz.func47 (bodyOk h (lsCons (one_loop (t := (loopTr zq27 (loopN zq26 FUEL))) (by kernel_rfl) zq28) lsNil))
noncomputable def zq25 : Env := mkEnv ty fnB [(47, (inlCon zq29 Tryz.f47))] []
theorem span_Has_slices_ContainsFunc___api_Prefix_api_Prefix__envOk : EnvOk Tryz.prog zq25 := envOk tyOk fn_ok (callsCons zq31 callsNil) _
theorem span_Has_slices_ContainsFunc___api_Prefix_api_Prefix__inl : TrOk Tryz.prog 35 (inlCon zq25 Tryz.f35) := by
 have h : loopsOf (codeOf Tryz.f35) = [] := by kernel_rfl
 exact inl_ok span_Has_slices_ContainsFunc___api_Prefix_api_Prefix__envOk Tryz.func35 (bodyOk h lsNil)
noncomputable def span_Has_env : Env := mkEnv ty fnB [(31, span_Right_con), (34, addr_Check_con), (35, (inlCon zq25 Tryz.f35))] []
theorem span_Has_envOk : EnvOk Tryz.prog span_Has_env := envOk tyOk fn_ok (callsCons span_Right_ok (callsCons addr_Check_ok (callsCons span_Has_slices_ContainsFunc___api_Prefix_api_Prefix__inl callsNil))) _
noncomputable def span_Has_con : Con := con [.one (.row .pfx 27), .one (.fl .addr)] [.one (.fl .bool), .one (.fl .int)] (fun x => span_Has_t x.1 x.2.1)
theorem span_Has_ok : TrOk Tryz.prog 13 span_Has_con := by
 have h : loopsOf (codeOf Tryz.f13) = [] := by kernel_rfl
 refine con_ok span_Has_envOk Tryz.func13 (bodyOk h lsNil) _ _ _ (fun x => ?_)
 kernel_rfl
noncomputable def span_rest_env (span_rest_rec_con : Con) : Env := mkEnv ty fnB [(42, prefix_Over_con), (51, prefix_Split_con), (61, span_rest_rec_con)] []
theorem span_rest_envOk {span_rest_rec_con : Con} (span_rest_rec_ok : TrOk Tryz.prog 61 span_rest_rec_con) : EnvOk Tryz.prog (span_rest_env span_rest_rec_con) := envOk tyOk fn_ok (callsCons prefix_Over_ok (callsCons prefix_Split_ok (callsCons span_rest_rec_ok callsNil))) _
theorem span_rest_step_ok (span_rest_rec_t : Pf → Pf → Option ((List Pf) × Unit)) (span_rest_rec_ok : TrOk Tryz.prog 61 (con [.one (.fl .pfx), .one (.fl .pfx)] [.one (.row .pfx 27)] (fun x => span_rest_rec_t x.1 x.2.1))) : TrOk Tryz.prog 61 (con [.one (.fl .pfx), .one (.fl .pfx)] [.one (.row .pfx 27)] (fun x => span_rest_step span_rest_rec_t x.1 x.2.1)) := by
 have h : loopsOf (codeOf Tryz.f61) = [] := by kernel_rfl
 refine con_ok (span_rest_envOk span_rest_rec_ok) Tryz.func61 (bodyOk h lsNil) _ _ _ (fun x => ?_)
 kernel_rfl
theorem span_rest_fuel_ok : ∀ n, TrOk Tryz.prog 61 (con [.one (.fl .pfx), .one (.fl .pfx)] [.one (.row .pfx 27)] (fun x => span_rest_fuel n x.1 x.2.1))
 | 0 => con_none Tryz.prog 61 [.one (.fl .pfx), .one (.fl .pfx)] [.one (.row .pfx 27)]
 | n + 1 => span_rest_step_ok _ (span_rest_fuel_ok n)
noncomputable def span_rest_con : Con := con [.one (.fl .pfx), .one (.fl .pfx)] [.one (.row .pfx 27)] (fun x => span_rest_t x.1 x.2.1)
theorem span_rest_ok : TrOk Tryz.prog 61 span_rest_con := span_rest_fuel_ok RECN
def R_SamePrefixes_L4_S : LoopS := { n := 26, base := 2, head := { keep := [0, 1, 5], vals := [.one (.cst (.row 0)), .one (.cst (.row 1)), .one (.fl .int)], objs := [.row .pfx 27 false, .row .pfx 27 false] }, exits := [⟨none, { keep := [4], vals := [.one (.fl .bool)], objs := [.row .pfx 27 false, .row .pfx 27 false] }⟩, ⟨some 0, { keep := [], vals := [], objs := [.row .pfx 27 false, .row .pfx 27 false] }⟩] }
noncomputable def R_SamePrefixes_env : Env := mkEnv ty fnB [] [(4, (loopTr R_SamePrefixes_L4_S (loopN zq0 FUEL)))]
theorem R_SamePrefixes_envOk : EnvOk Tryz.prog R_SamePrefixes_env := envOk tyOk fn_ok callsNil _
theorem R_SamePrefixes_L4_ok : LOk Tryz.prog (nthLoop (codeOf Tryz.f15) 0) (loopTr R_SamePrefixes_L4_S (loopN zq0 FUEL)) := by
 have h : loopsOf (nthLoop (codeOf Tryz.f15) 0) = [] := by kernel_rfl
 refine loop_ok R_SamePrefixes_envOk (loopsOk h lsNil) R_SamePrefixes_L4_S zq0 FUEL (fun rec x => ?_)
 kernel_rfl
noncomputable def R_SamePrefixes_con : Con := con [.one (.row .pfx 27), .one (.row .pfx 27)] [.one (.fl .bool)] (fun x => zq1 x.1 x.2.1)
theorem R_SamePrefixes_ok : TrOk Tryz.prog 15 R_SamePrefixes_con := by
 have h : loopsOf (codeOf Tryz.f15) = [(nthLoop (codeOf Tryz.f15) 0)] := by kernel_rfl
 refine con_ok R_SamePrefixes_envOk Tryz.func15 (bodyOk h (lsCons (one_loop (t := (loopTr R_SamePrefixes_L4_S (loopN zq0 FUEL))) (by kernel_rfl) R_SamePrefixes_L4_ok) lsNil)) _ _ _ (fun x => ?_)
 kernel_rfl
def prefix_two_L2_S : LoopS := { n := 18, base := 1, head := { keep := [6, 7, 8], vals := [.one (.cst (.row 0)), .one (.fl .int), .one (.fl .int)], objs := [.row .pfx 27 false] }, exits := [⟨none, { keep := [2], vals := [.one (.fl .int)], objs := [.row .pfx 27 false] }⟩, ⟨some 0, { keep := [], vals := [], objs := [.row .pfx 27 false] }⟩] }
noncomputable def prefix_two_env : Env := mkEnv ty fnB [(16, zq17)] [(2, (loopTr prefix_two_L2_S (loopN prefix_two_L2 FUEL)))]
theorem prefix_two_envOk : EnvOk Tryz.prog prefix_two_env := envOk tyOk fn_ok (callsCons zq19 callsNil) _
theorem prefix_two_L2_ok : LOk Tryz.prog (nthLoop (codeOf Tryz.f41) 0) (loopTr prefix_two_L2_S (loopN prefix_two_L2 FUEL)) := by
 have h : loopsOf (nthLoop (codeOf Tryz.f41) 0) = [] := by kernel_rfl
 refine loop_ok prefix_two_envOk (loopsOk h lsNil) prefix_two_L2_S prefix_two_L2 FUEL (fun rec x => ?_)
 kernel_rfl
noncomputable def prefix_two_con : Con := con [.one (.row .pfx 27)] [.one (.fl .int)] (fun x => prefix_two_t x.1)
theorem prefix_two_ok : TrOk Tryz.prog 41 prefix_two_con := by
 have h : loopsOf (codeOf Tryz.f41) = [(nthLoop (codeOf Tryz.f41) 0)] := by kernel_rfl
 refine con_ok prefix_two_envOk Tryz.func41 (bodyOk h (lsCons (one_loop (t := (loopTr prefix_two_L2_S (loopN prefix_two_L2 FUEL))) (by kernel_rfl) prefix_two_L2_ok) lsNil)) _ _ _ (fun x => ?_)
 kernel_rfl
noncomputable def prefix_Has_env : Env := mkEnv ty fnB [(41, prefix_two_con), (42, prefix_Over_con)] []
theorem prefix_Has_envOk : EnvOk Tryz.prog prefix_Has_env := envOk tyOk fn_ok (callsCons prefix_two_ok (callsCons prefix_Over_ok callsNil)) _
noncomputable def prefix_Has_con : Con := con [.one (.fl .pfx), .one (.fl .pfx)] [.one (.fl .bool), .one (.fl .int)] (fun x => zq21 x.1 x.2.1)
theorem prefix_Has_ok : TrOk Tryz.prog 17 prefix_Has_con := by
 have h : loopsOf (codeOf Tryz.f17) = [] := by kernel_rfl
 refine con_ok prefix_Has_envOk Tryz.func17 (bodyOk h lsNil) _ _ _ (fun x => ?_)
 kernel_rfl
noncomputable def prefix_Ends_env : Env := mkEnv ty fnB [(16, zq17), (55, prefix_Last_con)] []
theorem prefix_Ends_envOk : EnvOk Tryz.prog prefix_Ends_env := envOk tyOk fn_ok (callsCons zq19 (callsCons prefix_Last_ok callsNil)) _
noncomputable def prefix_Ends_con : Con := con [.one (.fl .pfx)] [.one (.fl .addr), .one (.fl .addr), .one (.fl .int)] (fun x => prefix_Ends_t x.1)
theorem prefix_Ends_ok : TrOk Tryz.prog 27 prefix_Ends_con := by
 have h : loopsOf (codeOf Tryz.f27) = [] := by kernel_rfl
 refine con_ok prefix_Ends_envOk Tryz.func27 (bodyOk h lsNil) _ _ _ (fun x => ?_)
 kernel_rfl
noncomputable def prefix_Halves_env : Env := mkEnv ty fnB [(16, zq17), (39, prefix_Wide_con), (51, prefix_Split_con)] []
theorem prefix_Halves_envOk : EnvOk Tryz.prog prefix_Halves_env := envOk tyOk fn_ok (callsCons zq19 (callsCons prefix_Wide_ok (callsCons prefix_Split_ok callsNil))) _
noncomputable def prefix_Halves_con : Con := con [.one (.fl .pfx)] [.one (.fl .pfx), .one (.fl .pfx), .one (.fl .int)] (fun x => prefix_Halves_t x.1)
theorem prefix_Halves_ok : TrOk Tryz.prog 24 prefix_Halves_con := by
 have h : loopsOf (codeOf Tryz.f24) = [] := by kernel_rfl
 refine con_ok prefix_Halves_envOk Tryz.func24 (bodyOk h lsNil) _ _ _ (fun x => ?_)
 kernel_rfl
noncomputable def prefix_Whole_env : Env := mkEnv ty fnB [(41, prefix_two_con), (43, prefix_Joined_con)] []
theorem prefix_Whole_envOk : EnvOk Tryz.prog prefix_Whole_env := envOk tyOk fn_ok (callsCons prefix_two_ok (callsCons prefix_Joined_ok callsNil)) _
noncomputable def prefix_Whole_con : Con := con [.one (.fl .pfx), .one (.fl .pfx)] [.one (.fl .pfx), .one (.fl .int)] (fun x => zq22 x.1 x.2.1)
theorem prefix_Whole_ok : TrOk Tryz.prog 18 prefix_Whole_con := by
 have h : loopsOf (codeOf Tryz.f18) = [] := by kernel_rfl
 refine con_ok prefix_Whole_envOk Tryz.func18 (bodyOk h lsNil) _ _ _ (fun x => ?_)
 kernel_rfl
noncomputable def addr_group_env : Env := mkEnv ty fnB [] []
theorem addr_group_envOk : EnvOk Tryz.prog addr_group_env := envOk tyOk fn_ok callsNil _
noncomputable def addr_group_con : Con := con [.one (.fl .addr), .one (.fl .int)] [.one (.fl .u64)] (fun x => addr_group_t x.1 x.2.1)
theorem addr_group_ok : TrOk Tryz.prog 102 addr_group_con := by
 have h : loopsOf (codeOf Tryz.f102) = [] := by kernel_rfl
 refine con_ok addr_group_envOk Tryz.func102 (bodyOk h lsNil) _ _ _ (fun x => ?_)
 kernel_rfl
def addr_row_L2_S : LoopS := { n := 21, base := 0, head := { keep := [1, 2, 5], vals := [.one (.fl .int), .one (.cst (.ptr 0 0)), .one (.fl .int)], objs := [.blk [.fl .addr] 25 true] }, exits := [⟨some 0, { keep := [5], vals := [.one (.fl .int)], objs := [] }⟩] }
noncomputable def addr_row_env : Env := mkEnv ty fnB [(102, addr_group_con)] [(2, (loopTr addr_row_L2_S (loopN addr_row_L2 FUEL)))]
theorem addr_row_envOk : EnvOk Tryz.prog addr_row_env := envOk tyOk fn_ok (callsCons addr_group_ok callsNil) _
theorem addr_row_L2_ok : LOk Tryz.prog (nthLoop (codeOf Tryz.f101) 0) (loopTr addr_row_L2_S (loopN addr_row_L2 FUEL)) := by
 have h : loopsOf (nthLoop (codeOf Tryz.f101) 0) = [] := by kernel_rfl
 refine loop_ok addr_row_envOk (loopsOk h lsNil) addr_row_L2_S addr_row_L2 FUEL (fun rec x => ?_)
 kernel_rfl
noncomputable def addr_row_con : Con := con [.one (.fl .addr), .one (.fl .int)] [.one (.fl .int)] (fun x => addr_row_t x.1 x.2.1)
theorem addr_row_ok : TrOk Tryz.prog 101 addr_row_con := by
 have h : loopsOf (codeOf Tryz.f101) = [(nthLoop (codeOf Tryz.f101) 0)] := by kernel_rfl
 refine con_ok addr_row_envOk Tryz.func101 (bodyOk h (lsCons (one_loop (t := (loopTr addr_row_L2_S (loopN addr_row_L2 FUEL))) (by kernel_rfl) addr_row_L2_ok) lsNil)) _ _ _ (fun x => ?_)
 kernel_rfl
def addr_longest_L3_S : LoopS := { n := 24, base := 0, head := { keep := [1, 4, 5, 8], vals := [.one (.cst (.ptr 0 0)), .one (.fl .int), .one (.fl .int), .one (.fl .int)], objs := [.blk [.fl .addr] 25 true] }, exits := [⟨some 0, { keep := [4, 5], vals := [.one (.fl .int), .one (.fl .int)], objs := [] }⟩] }
noncomputable def addr_longest_env : Env := mkEnv ty fnB [(101, addr_row_con)] [(3, (loopTr addr_longest_L3_S (loopN zq4 FUEL)))]
theorem addr_longest_envOk : EnvOk Tryz.prog addr_longest_env := envOk tyOk fn_ok (callsCons addr_row_ok callsNil) _
theorem addr_longest_L3_ok : LOk Tryz.prog (nthLoop (codeOf Tryz.f77) 0) (loopTr addr_longest_L3_S (loopN zq4 FUEL)) := by
 have h : loopsOf (nthLoop (codeOf Tryz.f77) 0) = [] := by kernel_rfl
 refine loop_ok addr_longest_envOk (loopsOk h lsNil) addr_longest_L3_S zq4 FUEL (fun rec x => ?_)
 kernel_rfl
noncomputable def addr_longest_con : Con := con [.one (.fl .addr)] [.one (.fl .int), .one (.fl .int)] (fun x => addr_longest_t x.1)
theorem addr_longest_ok : TrOk Tryz.prog 77 addr_longest_con := by
 have h : loopsOf (codeOf Tryz.f77) = [(nthLoop (codeOf Tryz.f77) 0)] := by kernel_rfl
 refine con_ok addr_longest_envOk Tryz.func77 (bodyOk h (lsCons (one_loop (t := (loopTr addr_longest_L3_S (loopN zq4 FUEL))) (by kernel_rfl) addr_longest_L3_ok) lsNil)) _ _ _ (fun x => ?_)
 kernel_rfl
def R_Bits_L3_S : LoopS := { n := 42, base := 0, head := { keep := [1, 3, 4], vals := [.one (.cst (.ptr 0 0)), .one (.cst (.row 1)), .one (.fl .int)], objs := [.blk [.fl .addr] 25 true, .row .u8 5 true] }, exits := [⟨some 0, { keep := [1, 3], vals := [.one (.cst (.ptr 0 0)), .one (.cst (.row 1))], objs := [.blk [.fl .addr] 25 true, .row .u8 5 true] }⟩] }
def R_Bits_L7_S : LoopS := { n := 42, base := 0, head := { keep := [1, 3, 5], vals := [.one (.cst (.ptr 0 0)), .one (.cst (.row 1)), .one (.fl .int)], objs := [.blk [.fl .addr] 25 true, .row .u8 5 true] }, exits := [⟨some 2, { keep := [1, 3], vals := [.one (.cst (.ptr 0 0)), .one (.cst (.row 1))], objs := [.blk [.fl .addr] 25 true, .row .u8 5 true] }⟩] }
noncomputable def R_Bits_env : Env := mkEnv ty fnB [] [(3, (loopTr R_Bits_L3_S (loopN R_Bits_L3 FUEL))), (7, (loopTr R_Bits_L7_S (loopN R_Bits_L7 FUEL)))]
theorem R_Bits_envOk : EnvOk Tryz.prog R_Bits_env := envOk tyOk fn_ok callsNil _
theorem R_Bits_L7_ok : LOk Tryz.prog (nthLoop (codeOf Tryz.f38) 1) (loopTr R_Bits_L7_S (loopN R_Bits_L7 FUEL)) := by
 have h : loopsOf (nthLoop (codeOf Tryz.f38) 1) = [] := by kernel_rfl
 refine loop_ok R_Bits_envOk (loopsOk h lsNil) R_Bits_L7_S R_Bits_L7 FUEL (fun rec x => ?_)
 kernel_rfl
theorem R_Bits_L3_ok : LOk Tryz.prog (nthLoop (codeOf Tryz.f38) 0) (loopTr R_Bits_L3_S (loopN R_Bits_L3 FUEL)) := by
 have h : loopsOf (nthLoop (codeOf Tryz.f38) 0) = [] := by kernel_rfl
 refine loop_ok R_Bits_envOk (loopsOk h lsNil) R_Bits_L3_S R_Bits_L3 FUEL (fun rec x => ?_)
 kernel_rfl
noncomputable def R_Bits_con : Con := con [.one (.fl .addr)] [.one (.fl .str)] (fun x => R_Bits_t x.1)
theorem R_Bits_ok : TrOk Tryz.prog 38 R_Bits_con := by
 have h : loopsOf (codeOf Tryz.f38) = [(nthLoop (codeOf Tryz.f38) 0), (nthLoop (codeOf Tryz.f38) 1)] := by kernel_rfl
 refine con_ok R_Bits_envOk Tryz.func38 (bodyOk h (lsCons (one_loop (t := (loopTr R_Bits_L3_S (loopN R_Bits_L3 FUEL))) (by kernel_rfl) R_Bits_L3_ok) (lsCons (one_loop (t := (loopTr R_Bits_L7_S (loopN R_Bits_L7 FUEL))) (by kernel_rfl) R_Bits_L7_ok) lsNil))) _ _ _ (fun x => ?_)
 kernel_rfl
noncomputable def R_HasAddr_env : Env := mkEnv ty fnB [(38, R_Bits_con)] []
theorem R_HasAddr_envOk : EnvOk Tryz.prog R_HasAddr_env := envOk tyOk fn_ok (callsCons R_Bits_ok callsNil) _
noncomputable def R_HasAddr_con : Con := con [.one (.fl .pfx), .one (.fl .addr)] [.one (.fl .bool)] (fun x => R_HasAddr_t x.1 x.2.1)
theorem R_HasAddr_ok : TrOk Tryz.prog 14 R_HasAddr_con := by
 have h : loopsOf (codeOf Tryz.f14) = [] := by kernel_rfl
 refine con_ok R_HasAddr_envOk Tryz.func14 (bodyOk h lsNil) _ _ _ (fun x => ?_)
 kernel_rfl
def addr_Less_L2_S : LoopS := { n := 27, base := 0, head := { keep := [2, 3, 11, 12, 13], vals := [.one (.cst (.ptr 0 0)), .one (.cst (.ptr 1 0)), .one (.cst (.row 2)), .one (.fl .int), .one (.fl .int)], objs := [.blk [.fl .addr] 25 true, .blk [.fl .addr] 25 true, .row .addr 25 true] }, exits := [⟨none, { keep := [4, 5], vals := [.one (.fl .bool), .one (.fl .int)], objs := [] }⟩, ⟨some 0, { keep := [2, 3], vals := [.one (.cst (.ptr 0 0)), .one (.cst (.ptr 1 0))], objs := [.blk [.fl .addr] 25 true, .blk [.fl .addr] 25 true] }⟩] }
noncomputable def addr_Less_env : Env := mkEnv ty fnB [(34, addr_Check_con), (44, addr_Order_con)] [(2, (loopTr addr_Less_L2_S (loopN addr_Less_L2 FUEL)))]
theorem addr_Less_envOk : EnvOk Tryz.prog addr_Less_env := envOk tyOk fn_ok (callsCons addr_Check_ok (callsCons addr_Order_ok callsNil)) _
theorem addr_Less_L2_ok : LOk Tryz.prog (nthLoop (codeOf Tryz.f19) 0) (loopTr addr_Less_L2_S (loopN addr_Less_L2 FUEL)) := by
 have h : loopsOf (nthLoop (codeOf Tryz.f19) 0) = [] := by kernel_rfl
 refine loop_ok addr_Less_envOk (loopsOk h lsNil) addr_Less_L2_S addr_Less_L2 FUEL (fun rec x => ?_)
 kernel_rfl
noncomputable def addr_Less_con : Con := con [.one (.fl .addr), .one (.fl .addr)] [.one (.fl .bool), .one (.fl .int)] (fun x => zq2 x.1 x.2.1)
theorem addr_Less_ok : TrOk Tryz.prog 19 addr_Less_con := by
 have h : loopsOf (codeOf Tryz.f19) = [(nthLoop (codeOf Tryz.f19) 0)] := by kernel_rfl
 refine con_ok addr_Less_envOk Tryz.func19 (bodyOk h (lsCons (one_loop (t := (loopTr addr_Less_L2_S (loopN addr_Less_L2 FUEL))) (by kernel_rfl) addr_Less_L2_ok) lsNil)) _ _ _ (fun x => ?_)
 kernel_rfl
noncomputable def pick_ready_env : Env := mkEnv ty fnB [(16, zq17), (31, span_Right_con)] []
theorem pick_ready_envOk : EnvOk Tryz.prog pick_ready_env := envOk tyOk fn_ok (callsCons zq19 (callsCons span_Right_ok callsNil)) _
noncomputable def pick_ready_con : Con := con [.one (.fl .pfx), .one (.row .pfx 27)] [.one (.fl .int)] (fun x => pick_ready_t x.1 x.2.1)
theorem pick_ready_ok : TrOk Tryz.prog 45 pick_ready_con := by
 have h : loopsOf (codeOf Tryz.f45) = [] := by kernel_rfl
 refine con_ok pick_ready_envOk Tryz.func45 (bodyOk h lsNil) _ _ _ (fun x => ?_)
 kernel_rfl
noncomputable def pick_First_1_env : Env := mkEnv ty fnB [] []
theorem pick_First_1_envOk : EnvOk Tryz.prog pick_First_1_env := envOk tyOk fn_ok callsNil _
noncomputable def pick_First_1_con : Con := con [.one (.fl .pfx), .ref [.fl .int] 3] [.one (.fl .bool)] (fun x => pick_First_1_t x.1 x.2.1.1)
theorem pick_First_1_ok : TrOk Tryz.prog 48 pick_First_1_con := by
 have h : loopsOf (codeOf Tryz.f48) = [] := by kernel_rfl
 refine con_ok pick_First_1_envOk Tryz.func48 (bodyOk h lsNil) _ _ _ (fun x => ?_)
 kernel_rfl
noncomputable def addr_Next_env : Env := mkEnv ty fnB [(34, addr_Check_con), (56, addr_After_con)] []
theorem addr_Next_envOk : EnvOk Tryz.prog addr_Next_env := envOk tyOk fn_ok (callsCons addr_Check_ok (callsCons addr_After_ok callsNil)) _
noncomputable def addr_Next_con : Con := con [.one (.fl .addr)] [.one (.fl .addr), .one (.fl .bool), .one (.fl .int)] (fun x => addr_Next_t x.1)
theorem addr_Next_ok : TrOk Tryz.prog 28 addr_Next_con := by
 have h : loopsOf (codeOf Tryz.f28) = [] := by kernel_rfl
 refine con_ok addr_Next_envOk Tryz.func28 (bodyOk h lsNil) _ _ _ (fun x => ?_)
 kernel_rfl
end Go.Proofs.YtfkfpgoicmfpkaaGreatDoor
namespace Go.Proofs
open Go.Shelf
def Tryz.lays156_ren : Go.Shelf.Ren := ⟨fun | 156 => 76 | 165 => 98 | 166 => 99 | 169 => 100 | 240 => 124 | 241 => 125 | 276 => 138 | 277 => 139 | n => n, fun | 31 => 115 | 9 => 9 | 3 => 3 | 4 => 4 | 0 => 0 | 20 => 20 | 72 => 139 | 76 => 104 | 70 => 137 | 37 => 98 | 75 => 103 | 127 => 166 | 164 => 180 | 5 => 5 | 80 => 141 | n => n, fun | n => n⟩
theorem Tryz.lays156 : Go.Proofs.Lays.n156 Tryz.prog Tryz.lays156_ren := {
 mixed := by kernel_rfl
 f156 := Tryz.func76.trans (congrArg some (by kernel_rfl))
 f165 := Tryz.func98.trans (congrArg some (by kernel_rfl))
 f166 := Tryz.func99.trans (congrArg some (by kernel_rfl))
 f169 := Tryz.func100.trans (congrArg some (by kernel_rfl))
 f240 := Tryz.func124.trans (congrArg some (by kernel_rfl))
 f241 := Tryz.func125.trans (congrArg some (by kernel_rfl))
 f276 := Tryz.func138.trans (congrArg some (by kernel_rfl))
 f277 := Tryz.func139.trans (congrArg some (by kernel_rfl))
 t0 := Tryz.underlying0
 a0 := Tryz.isAgg0
 z0 := Tryz.sizeOf0
 v0 := Tryz.zeroValue0
 t3 := Tryz.underlying3
 a3 := Tryz.isAgg3
 z3 := Tryz.sizeOf3
 v3 := Tryz.zeroValue3
 t4 := Tryz.underlying4
 a4 := Tryz.isAgg4
 z4 := Tryz.sizeOf4
 v4 := Tryz.zeroValue4
 t9 := Tryz.underlying9
 a9 := Tryz.isAgg9
 z9 := Tryz.sizeOf9
 v9 := Tryz.zeroValue9
 t20 := Tryz.underlying20
 a20 := Tryz.isAgg20
 z20 := Tryz.sizeOf20
 v20 := Tryz.zeroValue20
 t31 := Tryz.underlying115
 a31 := Tryz.isAgg115
 z31 := Tryz.sizeOf115
 v31 := Tryz.zeroValue115
 t37 := Tryz.underlying98
 a37 := Tryz.isAgg98
 z37 := Tryz.sizeOf98
 v37 := Tryz.zeroValue98
 t70 := Tryz.underlying137
 a70 := Tryz.isAgg137
 z70 := Tryz.sizeOf137
 v70 := Tryz.zeroValue137
 t72 := Tryz.underlying139
 a72 := Tryz.isAgg139
 z72 := Tryz.sizeOf139
 v72 := Tryz.zeroValue139
 t75 := Tryz.underlying103
 a75 := Tryz.isAgg103
 z75 := Tryz.sizeOf103
 v75 := Tryz.zeroValue103
 t76 := Tryz.underlying104
 a76 := Tryz.isAgg104
 z76 := Tryz.sizeOf104
 v76 := Tryz.zeroValue104
 t127 := Tryz.underlying166
 a127 := Tryz.isAgg166
 z127 := Tryz.sizeOf166
 v127 := Tryz.zeroValue166
 t164 := Tryz.underlying180
 a164 := Tryz.isAgg180
 z164 := Tryz.sizeOf180
 v164 := Tryz.zeroValue180 }
theorem Tryz.Builder_Extra_156 : Builder.Extra Tryz.prog Tryz.lays156_ren := {
 sizeBuilder := by kernel_rfl
 liesBuilder := by kernel_rfl
 t5 := Tryz.underlying5
 a5 := Tryz.isAgg5
 z5 := Tryz.sizeOf5
 v5 := Tryz.zeroValue5
 infoByte := by kernel_rfl
 cellsByte := by kernel_rfl
 sizeByte := by kernel_rfl
 neB5 := by decide }
open Go.RowKit in
theorem Tryz.strings_Join_none (a : Option Addr) (c : Nat) (sep : ByteArray) (w : World) :
  Calls Tryz.prog 76 #[.slice a 0 c, .string sep] w fun e w' => e = .returned (.string ⟨#[]⟩) ∧ w' = w := Any.strings_Join_none Tryz.lays156 Tryz.Builder_Extra_156 a c sep w
open Go.RowKit in
theorem Tryz.strings_Join (bk o c : Nat) (xs : List ByteArray) (sep : ByteArray) (w : World) (hcells : ∀ (j : Nat) x, xs[j]? = some x → w.cell? ⟨bk, o + j, none⟩ = some (.string x)) (hbk : bk < w.heap.size) (hN : xs.length ≤ 140737488355328) (hcap : xs.length ≤ c) (hlen : (Lib.join (xs.map (·.data.toList)) sep.data.toList).length ≤ 140737488355328) :
  Calls Tryz.prog 76 #[.slice (some ⟨bk, o, none⟩) xs.length c, .string sep] w fun e w' => e = .returned (.string ⟨(Lib.join (xs.map (·.data.toList)) sep.data.toList).toArray⟩) ∧ Below w.heap.size w w' := Any.strings_Join Tryz.lays156 Tryz.Builder_Extra_156 bk o c xs sep w hcells hbk hN hcap hlen
def Tryz.lays172_ren : Go.Shelf.Ren := ⟨fun | 172 => 68 | 244 => 81 | 245 => 82 | 247 => 108 | 279 => 109 | 280 => 110 | 281 => 111 | 282 => 112 | 287 => 128 | 316 => 129 | 171 => 66 | 205 => 130 | 321 => 140 | 322 => 141 | 243 => 79 | 246 => 103 | 283 => 120 | 284 => 121 | 285 => 122 | 286 => 123 | 129 => 92 | 317 => 134 | 318 => 135 | 319 => 136 | 320 => 137 | 337 => 145 | 338 => 146 | n => n, fun | 9 => 9 | 3 => 3 | 75 => 103 | 76 => 104 | 4 => 4 | 5 => 5 | 167 => 147 | 37 => 98 | 0 => 0 | 85 => 148 | 2 => 2 | 168 => 150 | 53 => 23 | 175 => 160 | 46 => 108 | 210 => 171 | 127 => 166 | 145 => 187 | 143 => 185 | 21 => 21 | 171 => 162 | 173 => 164 | 212 => 177 | 51 => 131 | 20 => 20 | 213 => 178 | 232 => 191 | 233 => 192 | 80 => 141 | n => n, fun | 15 => 1 | 16 => 2 | 17 => 3 | 18 => 4 | 19 => 5 | n => n⟩
theorem Tryz.lays172 : Go.Proofs.Lays.n172 Tryz.prog Tryz.lays172_ren := {
 mixed := by kernel_rfl
 f129 := Tryz.func92.trans (congrArg some (by kernel_rfl))
 f171 := Tryz.func66.trans (congrArg some (by kernel_rfl))
 f172 := Tryz.func68.trans (congrArg some (by kernel_rfl))
 f205 := Tryz.func130.trans (congrArg some (by kernel_rfl))
 f243 := Tryz.func79.trans (congrArg some (by kernel_rfl))
 f244 := Tryz.func81.trans (congrArg some (by kernel_rfl))
 f245 := Tryz.func82.trans (congrArg some (by kernel_rfl))
 f246 := Tryz.func103.trans (congrArg some (by kernel_rfl))
 f247 := Tryz.func108.trans (congrArg some (by kernel_rfl))
 f279 := Tryz.func109.trans (congrArg some (by kernel_rfl))
 f280 := Tryz.func110.trans (congrArg some (by kernel_rfl))
 f281 := Tryz.func111.trans (congrArg some (by kernel_rfl))
 f282 := Tryz.func112.trans (congrArg some (by kernel_rfl))
 f283 := Tryz.func120.trans (congrArg some (by kernel_rfl))
 f284 := Tryz.func121.trans (congrArg some (by kernel_rfl))
 f285 := Tryz.func122.trans (congrArg some (by kernel_rfl))
 f286 := Tryz.func123.trans (congrArg some (by kernel_rfl))
 f287 := Tryz.func128.trans (congrArg some (by kernel_rfl))
 f316 := Tryz.func129.trans (congrArg some (by kernel_rfl))
 f317 := Tryz.func134.trans (congrArg some (by kernel_rfl))
 f318 := Tryz.func135.trans (congrArg some (by kernel_rfl))
 f319 := Tryz.func136.trans (congrArg some (by kernel_rfl))
 f320 := Tryz.func137.trans (congrArg some (by kernel_rfl))
 f321 := Tryz.func140.trans (congrArg some (by kernel_rfl))
 f322 := Tryz.func141.trans (congrArg some (by kernel_rfl))
 f337 := Tryz.func145.trans (congrArg some (by kernel_rfl))
 f338 := Tryz.func146.trans (congrArg some (by kernel_rfl))
 t0 := Tryz.underlying0
 a0 := Tryz.isAgg0
 z0 := Tryz.sizeOf0
 v0 := Tryz.zeroValue0
 t2 := Tryz.underlying2
 a2 := Tryz.isAgg2
 z2 := Tryz.sizeOf2
 v2 := Tryz.zeroValue2
 t3 := Tryz.underlying3
 a3 := Tryz.isAgg3
 z3 := Tryz.sizeOf3
 v3 := Tryz.zeroValue3
 t4 := Tryz.underlying4
 a4 := Tryz.isAgg4
 z4 := Tryz.sizeOf4
 v4 := Tryz.zeroValue4
 t5 := Tryz.underlying5
 a5 := Tryz.isAgg5
 z5 := Tryz.sizeOf5
 v5 := Tryz.zeroValue5
 t9 := Tryz.underlying9
 a9 := Tryz.isAgg9
 z9 := Tryz.sizeOf9
 v9 := Tryz.zeroValue9
 t20 := Tryz.underlying20
 a20 := Tryz.isAgg20
 z20 := Tryz.sizeOf20
 v20 := Tryz.zeroValue20
 t21 := Tryz.underlying21
 a21 := Tryz.isAgg21
 z21 := Tryz.sizeOf21
 v21 := Tryz.zeroValue21
 t37 := Tryz.underlying98
 a37 := Tryz.isAgg98
 z37 := Tryz.sizeOf98
 v37 := Tryz.zeroValue98
 t46 := Tryz.underlying108
 a46 := Tryz.isAgg108
 z46 := Tryz.sizeOf108
 v46 := Tryz.zeroValue108
 t51 := Tryz.underlying131
 a51 := Tryz.isAgg131
 z51 := Tryz.sizeOf131
 v51 := Tryz.zeroValue131
 t53 := Tryz.underlying23
 a53 := Tryz.isAgg23
 z53 := Tryz.sizeOf23
 v53 := Tryz.zeroValue23
 t75 := Tryz.underlying103
 a75 := Tryz.isAgg103
 z75 := Tryz.sizeOf103
 v75 := Tryz.zeroValue103
 t76 := Tryz.underlying104
 a76 := Tryz.isAgg104
 z76 := Tryz.sizeOf104
 v76 := Tryz.zeroValue104
 t85 := Tryz.underlying148
 a85 := Tryz.isAgg148
 z85 := Tryz.sizeOf148
 v85 := Tryz.zeroValue148
 t127 := Tryz.underlying166
 a127 := Tryz.isAgg166
 z127 := Tryz.sizeOf166
 v127 := Tryz.zeroValue166
 t143 := Tryz.underlying185
 a143 := Tryz.isAgg185
 z143 := Tryz.sizeOf185
 v143 := Tryz.zeroValue185
 t145 := Tryz.underlying187
 a145 := Tryz.isAgg187
 z145 := Tryz.sizeOf187
 v145 := Tryz.zeroValue187
 t167 := Tryz.underlying147
 a167 := Tryz.isAgg147
 z167 := Tryz.sizeOf147
 v167 := Tryz.zeroValue147
 t168 := Tryz.underlying150
 a168 := Tryz.isAgg150
 z168 := Tryz.sizeOf150
 v168 := Tryz.zeroValue150
 t171 := Tryz.underlying162
 a171 := Tryz.isAgg162
 z171 := Tryz.sizeOf162
 v171 := Tryz.zeroValue162
 t173 := Tryz.underlying164
 a173 := Tryz.isAgg164
 z173 := Tryz.sizeOf164
 v173 := Tryz.zeroValue164
 t175 := Tryz.underlying160
 a175 := Tryz.isAgg160
 z175 := Tryz.sizeOf160
 v175 := Tryz.zeroValue160
 t210 := Tryz.underlying171
 a210 := Tryz.isAgg171
 z210 := Tryz.sizeOf171
 v210 := Tryz.zeroValue171
 t212 := Tryz.underlying177
 a212 := Tryz.isAgg177
 z212 := Tryz.sizeOf177
 v212 := Tryz.zeroValue177
 t213 := Tryz.underlying178
 a213 := Tryz.isAgg178
 z213 := Tryz.sizeOf178
 t232 := Tryz.underlying191
 a232 := Tryz.isAgg191
 z232 := Tryz.sizeOf191
 v232 := Tryz.zeroValue191
 t233 := Tryz.underlying192
 a233 := Tryz.isAgg192
 z233 := Tryz.sizeOf192
 v233 := Tryz.zeroValue192
 g15 := by kernel_rfl
 g16 := by kernel_rfl
 g17 := by kernel_rfl
 g18 := by kernel_rfl
 g19 := by kernel_rfl }
open Go.RowKit in
theorem Tryz.strconv_Atoi (s : ByteArray) (n : Int) (hl : s.size ≤ 18) (h : Lib.atoi s.data.toList = some n) (w : World) :
  Calls Tryz.prog 68 #[.string s] w fun e w' => e = .returned (.tuple #[.int .i64 n, .nilIface]) ∧ ∃ t, w' = Lib.bytesWorld w 5 t := Any.strconv_Atoi Tryz.lays172 s n hl h w
def Tryz.lays283_ren : Go.Shelf.Ren := ⟨fun | 283 => 120 | n => n, fun | 3 => 3 | 9 => 9 | 4 => 4 | n => n, fun | n => n⟩
theorem Tryz.lays283 : Go.Proofs.Lays.n283 Tryz.prog Tryz.lays283_ren := {
 mixed := by kernel_rfl
 f283 := Tryz.func120.trans (congrArg some (by kernel_rfl))
 t3 := Tryz.underlying3
 a3 := Tryz.isAgg3
 z3 := Tryz.sizeOf3
 v3 := Tryz.zeroValue3
 t4 := Tryz.underlying4
 a4 := Tryz.isAgg4
 z4 := Tryz.sizeOf4
 v4 := Tryz.zeroValue4
 t9 := Tryz.underlying9
 a9 := Tryz.isAgg9
 z9 := Tryz.sizeOf9
 v9 := Tryz.zeroValue9 }
open Go.Lib in
theorem Tryz.internal_strconv_small (i : Nat) (h : i < 100) (w : World) :
  Calls Tryz.prog 120 #[.int .i64 i] w fun e w' => e = .returned (.string ⟨(Lib.decDigits i).toArray⟩) ∧ w' = w := Any.internal_strconv_small Tryz.lays283 i h w
def Tryz.laysM284_ren : Go.Shelf.Ren := ⟨fun | 284 => 121 | 129 => 92 | 317 => 134 | 318 => 135 | n => n, fun | 53 => 23 | 3 => 3 | 212 => 177 | 0 => 0 | 4 => 4 | 46 => 108 | 5 => 5 | 9 => 9 | n => n, fun | 17 => 3 | n => n⟩
theorem Tryz.laysM284 : Go.Proofs.LaysM.n284 Tryz.prog Tryz.laysM284_ren := {
 mixed := by kernel_rfl
 f129 := Tryz.func92.trans (congrArg some (by kernel_rfl))
 f284 := Tryz.func121.trans (congrArg some (by kernel_rfl))
 f317 := Tryz.func134.trans (congrArg some (by kernel_rfl))
 f318 := Tryz.func135.trans (congrArg some (by kernel_rfl))
 t0 := Tryz.underlying0
 a0 := Tryz.isAgg0
 z0 := Tryz.sizeOf0
 v0 := Tryz.zeroValue0
 t3 := Tryz.underlying3
 a3 := Tryz.isAgg3
 z3 := Tryz.sizeOf3
 v3 := Tryz.zeroValue3
 t4 := Tryz.underlying4
 a4 := Tryz.isAgg4
 z4 := Tryz.sizeOf4
 v4 := Tryz.zeroValue4
 t5 := Tryz.underlying5
 a5 := Tryz.isAgg5
 z5 := Tryz.sizeOf5
 v5 := Tryz.zeroValue5
 t9 := Tryz.underlying9
 a9 := Tryz.isAgg9
 z9 := Tryz.sizeOf9
 v9 := Tryz.zeroValue9
 t46 := Tryz.underlying108
 a46 := Tryz.isAgg108
 z46 := Tryz.sizeOf108
 v46 := Tryz.zeroValue108
 t53 := Tryz.underlying23
 a53 := Tryz.isAgg23
 z53 := Tryz.sizeOf23
 v53 := Tryz.zeroValue23
 t212 := Tryz.underlying177
 a212 := Tryz.isAgg177
 z212 := Tryz.sizeOf177
 v212 := Tryz.zeroValue177
 g17 := by kernel_rfl
 i0 := by kernel_rfl
 i3 := by kernel_rfl
 i4 := by kernel_rfl
 i5 := by kernel_rfl
 i9 := by kernel_rfl
 i46 := by kernel_rfl
 i53 := by kernel_rfl
 i212 := by kernel_rfl
 m17 := by kernel_rfl }
open Go.Lib in
theorem Tryz.internal_strconv_numDigits (u : Nat) (h1 : 1 ≤ u) (h2 : u < 18446744073709551616) (w : World) (htab : Lib.TabIs Tryz.prog w "internal/strconv.uint64pow10" .u64 Lib.pow10Tab) :
  Calls Tryz.prog 121 #[.int .u64 u] w fun e w' => e = .returned (.int .i64 (Lib.nDigits u)) ∧ w' = w := Any.internal_strconv_numDigits Tryz.laysM284 u h1 h2 w htab
def Tryz.lays285_ren : Go.Shelf.Ren := ⟨fun | 285 => 122 | n => n, fun | 37 => 98 | 53 => 23 | 3 => 3 | 4 => 4 | 51 => 131 | 9 => 9 | 5 => 5 | 0 => 0 | n => n, fun | n => n⟩
theorem Tryz.lays285 : Go.Proofs.Lays.n285 Tryz.prog Tryz.lays285_ren := {
 mixed := by kernel_rfl
 f285 := Tryz.func122.trans (congrArg some (by kernel_rfl))
 t0 := Tryz.underlying0
 a0 := Tryz.isAgg0
 z0 := Tryz.sizeOf0
 v0 := Tryz.zeroValue0
 t3 := Tryz.underlying3
 a3 := Tryz.isAgg3
 z3 := Tryz.sizeOf3
 v3 := Tryz.zeroValue3
 t4 := Tryz.underlying4
 a4 := Tryz.isAgg4
 z4 := Tryz.sizeOf4
 v4 := Tryz.zeroValue4
 t5 := Tryz.underlying5
 a5 := Tryz.isAgg5
 z5 := Tryz.sizeOf5
 v5 := Tryz.zeroValue5
 t9 := Tryz.underlying9
 a9 := Tryz.isAgg9
 z9 := Tryz.sizeOf9
 v9 := Tryz.zeroValue9
 t37 := Tryz.underlying98
 a37 := Tryz.isAgg98
 z37 := Tryz.sizeOf98
 v37 := Tryz.zeroValue98
 t51 := Tryz.underlying131
 a51 := Tryz.isAgg131
 z51 := Tryz.sizeOf131
 v51 := Tryz.zeroValue131
 t53 := Tryz.underlying23
 a53 := Tryz.isAgg23
 z53 := Tryz.sizeOf23
 v53 := Tryz.zeroValue23 }
open Go.RowKit Go.Sort Go.Lib in
theorem Tryz.internal_strconv_formatBase10 (blk off cap : Nat) (u : Nat) (d : Array UInt8) (w : World) (hH : Holds (fun (b : UInt8) => Value.int .u8 (b.toNat : Int)) w blk off d) (hu : u < 10 ^ d.size) (hu64 : u < 18446744073709551616) (hsz : d.size < 4611686018427387904) :
  Calls Tryz.prog 122 #[.slice (some ⟨blk, off, none⟩) d.size cap, .int .u64 u] w fun e w' =>
   e = .returned (.tuple #[]) ∧ ∃ (n v' : Nat) (dk : Array UInt8), w' = (putRow (fun (b : UInt8) => Value.int .u8 (b.toNat : Int)) w blk off dk).drewN n ∧ FmtInv d.size u 0 v' dk := Any.internal_strconv_formatBase10 Tryz.lays285 blk off cap u d w hH hu hu64 hsz
def Tryz.laysM171_ren : Go.Shelf.Ren := ⟨fun | 171 => 66 | 243 => 79 | 246 => 103 | 283 => 120 | 284 => 121 | 285 => 122 | 286 => 123 | 129 => 92 | 317 => 134 | 318 => 135 | 319 => 136 | 320 => 137 | 337 => 145 | 338 => 146 | n => n, fun | 3 => 3 | 9 => 9 | 2 => 2 | 4 => 4 | 171 => 162 | 0 => 0 | 53 => 23 | 37 => 98 | 5 => 5 | 173 => 164 | 212 => 177 | 51 => 131 | 20 => 20 | 213 => 178 | 46 => 108 | 232 => 191 | 233 => 192 | n => n, fun | 17 => 3 | 18 => 4 | 19 => 5 | n => n⟩
theorem Tryz.laysM171 : Go.Proofs.LaysM.n171 Tryz.prog Tryz.laysM171_ren := {
 mixed := by kernel_rfl
 f129 := Tryz.func92.trans (congrArg some (by kernel_rfl))
 f171 := Tryz.func66.trans (congrArg some (by kernel_rfl))
 f243 := Tryz.func79.trans (congrArg some (by kernel_rfl))
 f246 := Tryz.func103.trans (congrArg some (by kernel_rfl))
 f283 := Tryz.func120.trans (congrArg some (by kernel_rfl))
 f284 := Tryz.func121.trans (congrArg some (by kernel_rfl))
 f285 := Tryz.func122.trans (congrArg some (by kernel_rfl))
 f286 := Tryz.func123.trans (congrArg some (by kernel_rfl))
 f317 := Tryz.func134.trans (congrArg some (by kernel_rfl))
 f318 := Tryz.func135.trans (congrArg some (by kernel_rfl))
 f319 := Tryz.func136.trans (congrArg some (by kernel_rfl))
 f320 := Tryz.func137.trans (congrArg some (by kernel_rfl))
 f337 := Tryz.func145.trans (congrArg some (by kernel_rfl))
 f338 := Tryz.func146.trans (congrArg some (by kernel_rfl))
 t0 := Tryz.underlying0
 a0 := Tryz.isAgg0
 z0 := Tryz.sizeOf0
 v0 := Tryz.zeroValue0
 t2 := Tryz.underlying2
 a2 := Tryz.isAgg2
 z2 := Tryz.sizeOf2
 v2 := Tryz.zeroValue2
 t3 := Tryz.underlying3
 a3 := Tryz.isAgg3
 z3 := Tryz.sizeOf3
 v3 := Tryz.zeroValue3
 t4 := Tryz.underlying4
 a4 := Tryz.isAgg4
 z4 := Tryz.sizeOf4
 v4 := Tryz.zeroValue4
 t5 := Tryz.underlying5
 a5 := Tryz.isAgg5
 z5 := Tryz.sizeOf5
 v5 := Tryz.zeroValue5
 t9 := Tryz.underlying9
 a9 := Tryz.isAgg9
 z9 := Tryz.sizeOf9
 v9 := Tryz.zeroValue9
 t20 := Tryz.underlying20
 a20 := Tryz.isAgg20
 z20 := Tryz.sizeOf20
 v20 := Tryz.zeroValue20
 t37 := Tryz.underlying98
 a37 := Tryz.isAgg98
 z37 := Tryz.sizeOf98
 v37 := Tryz.zeroValue98
 t46 := Tryz.underlying108
 a46 := Tryz.isAgg108
 z46 := Tryz.sizeOf108
 v46 := Tryz.zeroValue108
 t51 := Tryz.underlying131
 a51 := Tryz.isAgg131
 z51 := Tryz.sizeOf131
 v51 := Tryz.zeroValue131
 t53 := Tryz.underlying23
 a53 := Tryz.isAgg23
 z53 := Tryz.sizeOf23
 v53 := Tryz.zeroValue23
 t171 := Tryz.underlying162
 a171 := Tryz.isAgg162
 z171 := Tryz.sizeOf162
 v171 := Tryz.zeroValue162
 t173 := Tryz.underlying164
 a173 := Tryz.isAgg164
 z173 := Tryz.sizeOf164
 v173 := Tryz.zeroValue164
 t212 := Tryz.underlying177
 a212 := Tryz.isAgg177
 z212 := Tryz.sizeOf177
 v212 := Tryz.zeroValue177
 t213 := Tryz.underlying178
 a213 := Tryz.isAgg178
 z213 := Tryz.sizeOf178
 t232 := Tryz.underlying191
 a232 := Tryz.isAgg191
 z232 := Tryz.sizeOf191
 v232 := Tryz.zeroValue191
 t233 := Tryz.underlying192
 a233 := Tryz.isAgg192
 z233 := Tryz.sizeOf192
 v233 := Tryz.zeroValue192
 g17 := by kernel_rfl
 g18 := by kernel_rfl
 g19 := by kernel_rfl
 i0 := by kernel_rfl
 i2 := by kernel_rfl
 i3 := by kernel_rfl
 i4 := by kernel_rfl
 i5 := by kernel_rfl
 i9 := by kernel_rfl
 i20 := by kernel_rfl
 i37 := by kernel_rfl
 i46 := by kernel_rfl
 i51 := by kernel_rfl
 i53 := by kernel_rfl
 i171 := by kernel_rfl
 i173 := by kernel_rfl
 i212 := by kernel_rfl
 i232 := by kernel_rfl
 i233 := by kernel_rfl
 m17 := by kernel_rfl
 m18 := by kernel_rfl
 m19 := by kernel_rfl }
open Go.RowKit Go.Sort Go.Lib in
theorem Tryz.strconv_Itoa (n : Int) (h0 : -9223372036854775808 ≤ n) (h1 : n ≤ 9223372036854775807) (w : World) (htab : Lib.TabIs Tryz.prog w "internal/strconv.uint64pow10" .u64 Lib.pow10Tab) :
  Calls Tryz.prog 66 #[.int .i64 n] w fun e w' => e = .returned (.string ⟨(Lib.itoa n).toArray⟩) ∧ ∃ k os, w' = grow (w.drewN k) os := Any.strconv_Itoa Tryz.laysM171 n h0 h1 w htab
def Tryz.laysPu14_ren : Go.Shelf.Ren := ⟨fun | 14 => 119 | 16 => 128 | 17 => 82 | 19 => 140 | 20 => 141 | 21 => 109 | 22 => 110 | 23 => 111 | 24 => 112 | 25 => 129 | 27 => 66 | 26 => 130 | 28 => 79 | 29 => 103 | 30 => 120 | 31 => 121 | 32 => 122 | 33 => 123 | 35 => 92 | 34 => 134 | 36 => 135 | 37 => 136 | 38 => 137 | 39 => 145 | 40 => 146 | n => n, fun | 9 => 9 | 3 => 3 | 22 => 23 | 24 => 103 | 25 => 160 | 4 => 4 | 34 => 147 | 5 => 5 | 36 => 108 | 37 => 98 | 0 => 0 | 39 => 150 | 21 => 21 | 44 => 171 | 47 => 166 | 50 => 187 | 48 => 185 | 2 => 2 | 52 => 162 | 55 => 164 | 59 => 177 | 60 => 131 | 20 => 20 | 61 => 178 | 65 => 191 | 66 => 192 | 67 => 141 | n => n, fun | 0 => 1 | 1 => 2 | 2 => 3 | 3 => 4 | 4 => 5 | n => n⟩
theorem Tryz.laysPu14 : Go.Proofs.LaysPu.n14 Tryz.prog Tryz.laysPu14_ren := {
 mixed := by kernel_rfl
 f14 := Tryz.func119.trans (congrArg some (by kernel_rfl))
 f16 := Tryz.func128.trans (congrArg some (by kernel_rfl))
 f17 := Tryz.func82.trans (congrArg some (by kernel_rfl))
 f19 := Tryz.func140.trans (congrArg some (by kernel_rfl))
 f20 := Tryz.func141.trans (congrArg some (by kernel_rfl))
 f21 := Tryz.func109.trans (congrArg some (by kernel_rfl))
 f22 := Tryz.func110.trans (congrArg some (by kernel_rfl))
 f23 := Tryz.func111.trans (congrArg some (by kernel_rfl))
 f24 := Tryz.func112.trans (congrArg some (by kernel_rfl))
 f25 := Tryz.func129.trans (congrArg some (by kernel_rfl))
 f26 := Tryz.func130.trans (congrArg some (by kernel_rfl))
 f27 := Tryz.func66.trans (congrArg some (by kernel_rfl))
 f28 := Tryz.func79.trans (congrArg some (by kernel_rfl))
 f29 := Tryz.func103.trans (congrArg some (by kernel_rfl))
 f30 := Tryz.func120.trans (congrArg some (by kernel_rfl))
 f31 := Tryz.func121.trans (congrArg some (by kernel_rfl))
 f32 := Tryz.func122.trans (congrArg some (by kernel_rfl))
 f33 := Tryz.func123.trans (congrArg some (by kernel_rfl))
 f34 := Tryz.func134.trans (congrArg some (by kernel_rfl))
 f35 := Tryz.func92.trans (congrArg some (by kernel_rfl))
 f36 := Tryz.func135.trans (congrArg some (by kernel_rfl))
 f37 := Tryz.func136.trans (congrArg some (by kernel_rfl))
 f38 := Tryz.func137.trans (congrArg some (by kernel_rfl))
 f39 := Tryz.func145.trans (congrArg some (by kernel_rfl))
 f40 := Tryz.func146.trans (congrArg some (by kernel_rfl))
 t0 := Tryz.underlying0
 a0 := Tryz.isAgg0
 z0 := Tryz.sizeOf0
 v0 := Tryz.zeroValue0
 i0 := by kernel_rfl
 t2 := Tryz.underlying2
 a2 := Tryz.isAgg2
 z2 := Tryz.sizeOf2
 v2 := Tryz.zeroValue2
 i2 := by kernel_rfl
 t3 := Tryz.underlying3
 a3 := Tryz.isAgg3
 z3 := Tryz.sizeOf3
 v3 := Tryz.zeroValue3
 i3 := by kernel_rfl
 t4 := Tryz.underlying4
 a4 := Tryz.isAgg4
 z4 := Tryz.sizeOf4
 v4 := Tryz.zeroValue4
 i4 := by kernel_rfl
 t5 := Tryz.underlying5
 a5 := Tryz.isAgg5
 z5 := Tryz.sizeOf5
 v5 := Tryz.zeroValue5
 i5 := by kernel_rfl
 t9 := Tryz.underlying9
 a9 := Tryz.isAgg9
 z9 := Tryz.sizeOf9
 v9 := Tryz.zeroValue9
 i9 := by kernel_rfl
 t20 := Tryz.underlying20
 a20 := Tryz.isAgg20
 z20 := Tryz.sizeOf20
 v20 := Tryz.zeroValue20
 i20 := by kernel_rfl
 t21 := Tryz.underlying21
 a21 := Tryz.isAgg21
 z21 := Tryz.sizeOf21
 v21 := Tryz.zeroValue21
 i21 := by kernel_rfl
 t22 := Tryz.underlying23
 a22 := Tryz.isAgg23
 z22 := Tryz.sizeOf23
 v22 := Tryz.zeroValue23
 i22 := by kernel_rfl
 t24 := Tryz.underlying103
 a24 := Tryz.isAgg103
 z24 := Tryz.sizeOf103
 v24 := Tryz.zeroValue103
 i24 := by kernel_rfl
 t25 := Tryz.underlying160
 a25 := Tryz.isAgg160
 z25 := Tryz.sizeOf160
 v25 := Tryz.zeroValue160
 i25 := by kernel_rfl
 t34 := Tryz.underlying147
 a34 := Tryz.isAgg147
 z34 := Tryz.sizeOf147
 v34 := Tryz.zeroValue147
 i34 := by kernel_rfl
 c34 := by kernel_rfl
 t36 := Tryz.underlying108
 a36 := Tryz.isAgg108
 z36 := Tryz.sizeOf108
 v36 := Tryz.zeroValue108
 i36 := by kernel_rfl
 t37 := Tryz.underlying98
 a37 := Tryz.isAgg98
 z37 := Tryz.sizeOf98
 v37 := Tryz.zeroValue98
 i37 := by kernel_rfl
 t39 := Tryz.underlying150
 a39 := Tryz.isAgg150
 z39 := Tryz.sizeOf150
 v39 := Tryz.zeroValue150
 i39 := by kernel_rfl
 t44 := Tryz.underlying171
 a44 := Tryz.isAgg171
 z44 := Tryz.sizeOf171
 v44 := Tryz.zeroValue171
 i44 := by kernel_rfl
 t47 := Tryz.underlying166
 a47 := Tryz.isAgg166
 z47 := Tryz.sizeOf166
 v47 := Tryz.zeroValue166
 i47 := by kernel_rfl
 t48 := Tryz.underlying185
 a48 := Tryz.isAgg185
 z48 := Tryz.sizeOf185
 v48 := Tryz.zeroValue185
 i48 := by kernel_rfl
 t50 := Tryz.underlying187
 a50 := Tryz.isAgg187
 z50 := Tryz.sizeOf187
 v50 := Tryz.zeroValue187
 i50 := by kernel_rfl
 t52 := Tryz.underlying162
 a52 := Tryz.isAgg162
 z52 := Tryz.sizeOf162
 v52 := Tryz.zeroValue162
 i52 := by kernel_rfl
 t55 := Tryz.underlying164
 a55 := Tryz.isAgg164
 z55 := Tryz.sizeOf164
 v55 := Tryz.zeroValue164
 i55 := by kernel_rfl
 t59 := Tryz.underlying177
 a59 := Tryz.isAgg177
 z59 := Tryz.sizeOf177
 v59 := Tryz.zeroValue177
 i59 := by kernel_rfl
 t60 := Tryz.underlying131
 a60 := Tryz.isAgg131
 z60 := Tryz.sizeOf131
 v60 := Tryz.zeroValue131
 i60 := by kernel_rfl
 t61 := Tryz.underlying178
 a61 := Tryz.isAgg178
 z61 := Tryz.sizeOf178
 t65 := Tryz.underlying191
 a65 := Tryz.isAgg191
 z65 := Tryz.sizeOf191
 v65 := Tryz.zeroValue191
 i65 := by kernel_rfl
 t66 := Tryz.underlying192
 a66 := Tryz.isAgg192
 z66 := Tryz.sizeOf192
 v66 := Tryz.zeroValue192
 i66 := by kernel_rfl
 t67 := Tryz.underlying141
 a67 := Tryz.isAgg141
 z67 := Tryz.sizeOf141
 v67 := Tryz.zeroValue141
 i67 := by kernel_rfl
 g0 := by kernel_rfl
 m0 := by kernel_rfl
 g1 := by kernel_rfl
 m1 := by kernel_rfl
 g2 := by kernel_rfl
 m2 := by kernel_rfl
 g3 := by kernel_rfl
 m3 := by kernel_rfl
 g4 := by kernel_rfl
 m4 := by kernel_rfl }
open Go.RowKit in
theorem Tryz.strconv_ParseUint_10_at32_ok (s : ByteArray) (hmax : s.size ≤ 9223372036854775806) (u : Nat) (h : Lib.parseUintB 32 s.data.toList = .ok u) (w : World) :
  Calls Tryz.prog 119 #[.string s, .int .i64 10, .int .i64 32] w fun e w' => e = .returned (.tuple #[.int .u64 u, .nilIface]) ∧ (w' = w ∨ w' = Lib.bytesWorld w 5 s) := Any.strconv_ParseUint_10_at32_ok Tryz.laysPu14 s hmax u h w
open Go.RowKit in
theorem Tryz.strconv_ParseUint_10_at32_syntax (s : ByteArray) (hlim : s.size ≤ 281474976710656) (h : Lib.parseUintB 32 s.data.toList = Lib.parseUintB 32 []) (ev : Value) (w : World) (hv : w.cell? ⟨1, 0, none⟩ = some ev) (hev : ev = .nilIface ∨ ∃ te pe, ev = .iface te pe) :
  Calls Tryz.prog 119 #[.string s, .int .i64 10, .int .i64 32] w fun e w' => ∃ N, e = .returned (.tuple #[.int .u64 0, .iface 150 (.pointer (some ⟨N, 0, none⟩))]) ∧ w.heap.size ≤ N ∧ w'.heap[N]? = some (.cells #[.string ⟨#[80, 97, 114, 115, 101, 85, 105, 110, 116]⟩, .string s, ev] 171 (0, 0)) ∧ Below w.heap.size w w' := Any.strconv_ParseUint_10_at32_syntax Tryz.laysPu14 s hlim h ev w hv hev
open Go.RowKit in
theorem Tryz.strconv_ParseUint_10_at32_range (s : ByteArray) (hlim : s.size ≤ 281474976710656) (h : Lib.parseUintB 32 s.data.toList = .range) (ev : Value) (w : World) (hv : w.cell? ⟨2, 0, none⟩ = some ev) (hev : ev = .nilIface ∨ ∃ te pe, ev = .iface te pe) :
  Calls Tryz.prog 119 #[.string s, .int .i64 10, .int .i64 32] w fun e w' => ∃ N, e = .returned (.tuple #[.int .u64 4294967295, .iface 150 (.pointer (some ⟨N, 0, none⟩))]) ∧ w.heap.size ≤ N ∧ w'.heap[N]? = some (.cells #[.string ⟨#[80, 97, 114, 115, 101, 85, 105, 110, 116]⟩, .string s, ev] 171 (0, 0)) ∧ Below w.heap.size w w' := Any.strconv_ParseUint_10_at32_range Tryz.laysPu14 s hlim h ev w hv hev
def Tryz.lays219_ren : Go.Shelf.Ren := ⟨fun | 219 => 80 | 217 => 104 | 225 => 105 | 224 => 106 | 267 => 107 | 266 => 126 | 314 => 127 | n => n, fun | 9 => 9 | 3 => 3 | 4 => 4 | 5 => 5 | 46 => 108 | 146 => 167 | 51 => 131 | n => n, fun | 1 => 0 | n => n⟩
theorem Tryz.lays219 : Go.Proofs.Lays.n219 Tryz.prog Tryz.lays219_ren := {
 mixed := by kernel_rfl
 f217 := Tryz.func104.trans (congrArg some (by kernel_rfl))
 f219 := Tryz.func80.trans (congrArg some (by kernel_rfl))
 f224 := Tryz.func106.trans (congrArg some (by kernel_rfl))
 f225 := Tryz.func105.trans (congrArg some (by kernel_rfl))
 f266 := Tryz.func126.trans (congrArg some (by kernel_rfl))
 f267 := Tryz.func107.trans (congrArg some (by kernel_rfl))
 f314 := Tryz.func127.trans (congrArg some (by kernel_rfl))
 t3 := Tryz.underlying3
 a3 := Tryz.isAgg3
 z3 := Tryz.sizeOf3
 v3 := Tryz.zeroValue3
 t4 := Tryz.underlying4
 a4 := Tryz.isAgg4
 z4 := Tryz.sizeOf4
 v4 := Tryz.zeroValue4
 t5 := Tryz.underlying5
 a5 := Tryz.isAgg5
 z5 := Tryz.sizeOf5
 v5 := Tryz.zeroValue5
 t9 := Tryz.underlying9
 a9 := Tryz.isAgg9
 z9 := Tryz.sizeOf9
 v9 := Tryz.zeroValue9
 t46 := Tryz.underlying108
 a46 := Tryz.isAgg108
 z46 := Tryz.sizeOf108
 v46 := Tryz.zeroValue108
 t51 := Tryz.underlying131
 a51 := Tryz.isAgg131
 z51 := Tryz.sizeOf131
 v51 := Tryz.zeroValue131
 t146 := Tryz.underlying167
 a146 := Tryz.isAgg167
 z146 := Tryz.sizeOf167
 v146 := Tryz.zeroValue167
 g1 := by kernel_rfl }
open Go.RowKit Go.Lib in
theorem Tryz.stringslite_Index_one (s : ByteArray) (c : UInt8) (w : World) :
  Calls Tryz.prog 80 #[.string s, .string ⟨#[c]⟩] w fun e w' => e = .returned (.int .i64 (Lib.indexByte s.data.toList c)) ∧ w' = w := Any.stringslite_Index_one Tryz.lays219 s c w
def Tryz.lays143_ren : Go.Shelf.Ren := ⟨fun | 143 => 93 | 219 => 80 | 217 => 104 | 225 => 105 | 224 => 106 | 267 => 107 | 266 => 126 | 314 => 127 | n => n, fun | 9 => 9 | 3 => 3 | 4 => 4 | 5 => 5 | 46 => 108 | 146 => 167 | 51 => 131 | n => n, fun | 1 => 0 | n => n⟩
theorem Tryz.lays143 : Go.Proofs.Lays.n143 Tryz.prog Tryz.lays143_ren := {
 mixed := by kernel_rfl
 f143 := Tryz.func93.trans (congrArg some (by kernel_rfl))
 f217 := Tryz.func104.trans (congrArg some (by kernel_rfl))
 f219 := Tryz.func80.trans (congrArg some (by kernel_rfl))
 f224 := Tryz.func106.trans (congrArg some (by kernel_rfl))
 f225 := Tryz.func105.trans (congrArg some (by kernel_rfl))
 f266 := Tryz.func126.trans (congrArg some (by kernel_rfl))
 f267 := Tryz.func107.trans (congrArg some (by kernel_rfl))
 f314 := Tryz.func127.trans (congrArg some (by kernel_rfl))
 t3 := Tryz.underlying3
 a3 := Tryz.isAgg3
 z3 := Tryz.sizeOf3
 v3 := Tryz.zeroValue3
 t4 := Tryz.underlying4
 a4 := Tryz.isAgg4
 z4 := Tryz.sizeOf4
 v4 := Tryz.zeroValue4
 t5 := Tryz.underlying5
 a5 := Tryz.isAgg5
 z5 := Tryz.sizeOf5
 v5 := Tryz.zeroValue5
 t9 := Tryz.underlying9
 a9 := Tryz.isAgg9
 z9 := Tryz.sizeOf9
 v9 := Tryz.zeroValue9
 t46 := Tryz.underlying108
 a46 := Tryz.isAgg108
 z46 := Tryz.sizeOf108
 v46 := Tryz.zeroValue108
 t51 := Tryz.underlying131
 a51 := Tryz.isAgg131
 z51 := Tryz.sizeOf131
 v51 := Tryz.zeroValue131
 t146 := Tryz.underlying167
 a146 := Tryz.isAgg167
 z146 := Tryz.sizeOf167
 v146 := Tryz.zeroValue167
 g1 := by kernel_rfl }
open Go.RowKit Go.Lib in
theorem Tryz.strings_Index_one (s : ByteArray) (c : UInt8) (w : World) :
  Calls Tryz.prog 93 #[.string s, .string ⟨#[c]⟩] w fun e w' => e = .returned (.int .i64 (Lib.indexByte s.data.toList c)) ∧ w' = w := Any.strings_Index_one Tryz.lays143 s c w
def Tryz.lays144_ren : Go.Shelf.Ren := ⟨fun | 144 => 72 | 143 => 93 | 219 => 80 | 217 => 104 | 225 => 105 | 224 => 106 | 267 => 107 | 266 => 126 | 314 => 127 | n => n, fun | 9 => 9 | 4 => 4 | 3 => 3 | 5 => 5 | 46 => 108 | 146 => 167 | 51 => 131 | n => n, fun | 1 => 0 | n => n⟩
theorem Tryz.lays144 : Go.Proofs.Lays.n144 Tryz.prog Tryz.lays144_ren := {
 mixed := by kernel_rfl
 f143 := Tryz.func93.trans (congrArg some (by kernel_rfl))
 f144 := Tryz.func72.trans (congrArg some (by kernel_rfl))
 f217 := Tryz.func104.trans (congrArg some (by kernel_rfl))
 f219 := Tryz.func80.trans (congrArg some (by kernel_rfl))
 f224 := Tryz.func106.trans (congrArg some (by kernel_rfl))
 f225 := Tryz.func105.trans (congrArg some (by kernel_rfl))
 f266 := Tryz.func126.trans (congrArg some (by kernel_rfl))
 f267 := Tryz.func107.trans (congrArg some (by kernel_rfl))
 f314 := Tryz.func127.trans (congrArg some (by kernel_rfl))
 t3 := Tryz.underlying3
 a3 := Tryz.isAgg3
 z3 := Tryz.sizeOf3
 v3 := Tryz.zeroValue3
 t4 := Tryz.underlying4
 a4 := Tryz.isAgg4
 z4 := Tryz.sizeOf4
 v4 := Tryz.zeroValue4
 t5 := Tryz.underlying5
 a5 := Tryz.isAgg5
 z5 := Tryz.sizeOf5
 v5 := Tryz.zeroValue5
 t9 := Tryz.underlying9
 a9 := Tryz.isAgg9
 z9 := Tryz.sizeOf9
 v9 := Tryz.zeroValue9
 t46 := Tryz.underlying108
 a46 := Tryz.isAgg108
 z46 := Tryz.sizeOf108
 v46 := Tryz.zeroValue108
 t51 := Tryz.underlying131
 a51 := Tryz.isAgg131
 z51 := Tryz.sizeOf131
 v51 := Tryz.zeroValue131
 t146 := Tryz.underlying167
 a146 := Tryz.isAgg167
 z146 := Tryz.sizeOf167
 v146 := Tryz.zeroValue167
 g1 := by kernel_rfl }
open Go.RowKit Go.Lib in
theorem Tryz.strings_Contains_one (s : ByteArray) (c : UInt8) (w : World) :
  Calls Tryz.prog 72 #[.string s, .string ⟨#[c]⟩] w fun e w' => e = .returned (.bool (decide (0 ≤ Lib.indexByte s.data.toList c))) ∧ w' = w := Any.strings_Contains_one Tryz.lays144 s c w
def Tryz.lays145_ren : Go.Shelf.Ren := ⟨fun | 145 => 53 | 220 => 67 | 219 => 80 | 217 => 104 | 225 => 105 | 224 => 106 | 267 => 107 | 266 => 126 | 314 => 127 | n => n, fun | 9 => 9 | 4 => 4 | 59 => 84 | 3 => 3 | 5 => 5 | 46 => 108 | 146 => 167 | 51 => 131 | n => n, fun | 1 => 0 | n => n⟩
theorem Tryz.lays145 : Go.Proofs.Lays.n145 Tryz.prog Tryz.lays145_ren := {
 mixed := by kernel_rfl
 f145 := Tryz.func53.trans (congrArg some (by kernel_rfl))
 f217 := Tryz.func104.trans (congrArg some (by kernel_rfl))
 f219 := Tryz.func80.trans (congrArg some (by kernel_rfl))
 f220 := Tryz.func67.trans (congrArg some (by kernel_rfl))
 f224 := Tryz.func106.trans (congrArg some (by kernel_rfl))
 f225 := Tryz.func105.trans (congrArg some (by kernel_rfl))
 f266 := Tryz.func126.trans (congrArg some (by kernel_rfl))
 f267 := Tryz.func107.trans (congrArg some (by kernel_rfl))
 f314 := Tryz.func127.trans (congrArg some (by kernel_rfl))
 t3 := Tryz.underlying3
 a3 := Tryz.isAgg3
 z3 := Tryz.sizeOf3
 v3 := Tryz.zeroValue3
 t4 := Tryz.underlying4
 a4 := Tryz.isAgg4
 z4 := Tryz.sizeOf4
 v4 := Tryz.zeroValue4
 t5 := Tryz.underlying5
 a5 := Tryz.isAgg5
 z5 := Tryz.sizeOf5
 v5 := Tryz.zeroValue5
 t9 := Tryz.underlying9
 a9 := Tryz.isAgg9
 z9 := Tryz.sizeOf9
 v9 := Tryz.zeroValue9
 t46 := Tryz.underlying108
 a46 := Tryz.isAgg108
 z46 := Tryz.sizeOf108
 v46 := Tryz.zeroValue108
 t51 := Tryz.underlying131
 a51 := Tryz.isAgg131
 z51 := Tryz.sizeOf131
 v51 := Tryz.zeroValue131
 t59 := Tryz.underlying84
 a59 := Tryz.isAgg84
 z59 := Tryz.sizeOf84
 v59 := Tryz.zeroValue84
 t146 := Tryz.underlying167
 a146 := Tryz.isAgg167
 z146 := Tryz.sizeOf167
 v146 := Tryz.zeroValue167
 g1 := by kernel_rfl }
open Go.RowKit Go.Lib in
theorem Tryz.strings_Cut (s sep : ByteArray) (m : Int) (w : World) (hs : s.size < 4294967281) (hm : w.cell? ⟨0, 0, none⟩ = some (.int .i64 m)) :
  Calls Tryz.prog 53 #[.string s, .string sep] w fun e w' => e = .returned (.tuple #[.string ⟨(Lib.cut s.data.toList sep.data.toList).1.toArray⟩, .string ⟨(Lib.cut s.data.toList sep.data.toList).2.1.toArray⟩, .bool (Lib.cut s.data.toList sep.data.toList).2.2]) ∧ ∃ n, w' = w.drewN n := Any.strings_Cut Tryz.lays145 s sep m w hs hm
def Tryz.lays138_ren : Go.Shelf.Ren := ⟨fun | 138 => 133 | 195 => 142 | 218 => 144 | 143 => 93 | 219 => 80 | 217 => 104 | 225 => 105 | 224 => 106 | 267 => 107 | 266 => 126 | 314 => 127 | n => n, fun | 9 => 9 | 3 => 3 | 4 => 4 | 5 => 5 | 0 => 0 | 46 => 108 | 146 => 167 | 51 => 131 | n => n, fun | 1 => 0 | n => n⟩
theorem Tryz.lays138 : Go.Proofs.Lays.n138 Tryz.prog Tryz.lays138_ren := {
 mixed := by kernel_rfl
 f138 := Tryz.func133.trans (congrArg some (by kernel_rfl))
 f143 := Tryz.func93.trans (congrArg some (by kernel_rfl))
 f195 := Tryz.func142.trans (congrArg some (by kernel_rfl))
 f217 := Tryz.func104.trans (congrArg some (by kernel_rfl))
 f218 := Tryz.func144.trans (congrArg some (by kernel_rfl))
 f219 := Tryz.func80.trans (congrArg some (by kernel_rfl))
 f224 := Tryz.func106.trans (congrArg some (by kernel_rfl))
 f225 := Tryz.func105.trans (congrArg some (by kernel_rfl))
 f266 := Tryz.func126.trans (congrArg some (by kernel_rfl))
 f267 := Tryz.func107.trans (congrArg some (by kernel_rfl))
 f314 := Tryz.func127.trans (congrArg some (by kernel_rfl))
 t0 := Tryz.underlying0
 a0 := Tryz.isAgg0
 z0 := Tryz.sizeOf0
 v0 := Tryz.zeroValue0
 t3 := Tryz.underlying3
 a3 := Tryz.isAgg3
 z3 := Tryz.sizeOf3
 v3 := Tryz.zeroValue3
 t4 := Tryz.underlying4
 a4 := Tryz.isAgg4
 z4 := Tryz.sizeOf4
 v4 := Tryz.zeroValue4
 t5 := Tryz.underlying5
 a5 := Tryz.isAgg5
 z5 := Tryz.sizeOf5
 v5 := Tryz.zeroValue5
 t9 := Tryz.underlying9
 a9 := Tryz.isAgg9
 z9 := Tryz.sizeOf9
 v9 := Tryz.zeroValue9
 t46 := Tryz.underlying108
 a46 := Tryz.isAgg108
 z46 := Tryz.sizeOf108
 v46 := Tryz.zeroValue108
 t51 := Tryz.underlying131
 a51 := Tryz.isAgg131
 z51 := Tryz.sizeOf131
 v51 := Tryz.zeroValue131
 t146 := Tryz.underlying167
 a146 := Tryz.isAgg167
 z146 := Tryz.sizeOf167
 v146 := Tryz.zeroValue167
 g1 := by kernel_rfl }
open Go.RowKit Go.Lib in
theorem Tryz.strings_Count_one (s : ByteArray) (c : UInt8) (w : World) :
  Calls Tryz.prog 133 #[.string s, .string ⟨#[c]⟩] w fun e w' => e = .returned (.int .i64 (Lib.countByte s.data.toList c)) ∧ w' = w := Any.strings_Count_one Tryz.lays138 s c w
def Tryz.lays146_ren : Go.Shelf.Ren := ⟨fun | 146 => 95 | 221 => 118 | 268 => 132 | 138 => 133 | 143 => 93 | 195 => 142 | 197 => 143 | 218 => 144 | 219 => 80 | 260 => 147 | 217 => 104 | 225 => 105 | 224 => 106 | 267 => 107 | 266 => 126 | 314 => 127 | n => n, fun | 9 => 9 | 31 => 115 | 3 => 3 | 4 => 4 | 0 => 0 | 105 => 189 | 21 => 21 | 5 => 5 | 46 => 108 | 119 => 193 | 139 => 196 | 138 => 195 | 146 => 167 | 51 => 131 | n => n, fun | 1 => 0 | 3 => 6 | 4 => 7 | n => n⟩
theorem Tryz.lays146 : Go.Proofs.Lays.n146 Tryz.prog Tryz.lays146_ren := {
 mixed := by kernel_rfl
 f138 := Tryz.func133.trans (congrArg some (by kernel_rfl))
 f143 := Tryz.func93.trans (congrArg some (by kernel_rfl))
 f146 := Tryz.func95.trans (congrArg some (by kernel_rfl))
 f195 := Tryz.func142.trans (congrArg some (by kernel_rfl))
 f197 := Tryz.func143.trans (congrArg some (by kernel_rfl))
 f217 := Tryz.func104.trans (congrArg some (by kernel_rfl))
 f218 := Tryz.func144.trans (congrArg some (by kernel_rfl))
 f219 := Tryz.func80.trans (congrArg some (by kernel_rfl))
 f221 := Tryz.func118.trans (congrArg some (by kernel_rfl))
 f224 := Tryz.func106.trans (congrArg some (by kernel_rfl))
 f225 := Tryz.func105.trans (congrArg some (by kernel_rfl))
 f260 := Tryz.func147.trans (congrArg some (by kernel_rfl))
 f266 := Tryz.func126.trans (congrArg some (by kernel_rfl))
 f267 := Tryz.func107.trans (congrArg some (by kernel_rfl))
 f268 := Tryz.func132.trans (congrArg some (by kernel_rfl))
 f314 := Tryz.func127.trans (congrArg some (by kernel_rfl))
 t0 := Tryz.underlying0
 a0 := Tryz.isAgg0
 z0 := Tryz.sizeOf0
 v0 := Tryz.zeroValue0
 t3 := Tryz.underlying3
 a3 := Tryz.isAgg3
 z3 := Tryz.sizeOf3
 v3 := Tryz.zeroValue3
 t4 := Tryz.underlying4
 a4 := Tryz.isAgg4
 z4 := Tryz.sizeOf4
 v4 := Tryz.zeroValue4
 t5 := Tryz.underlying5
 a5 := Tryz.isAgg5
 z5 := Tryz.sizeOf5
 v5 := Tryz.zeroValue5
 t9 := Tryz.underlying9
 a9 := Tryz.isAgg9
 z9 := Tryz.sizeOf9
 v9 := Tryz.zeroValue9
 t21 := Tryz.underlying21
 a21 := Tryz.isAgg21
 z21 := Tryz.sizeOf21
 v21 := Tryz.zeroValue21
 t31 := Tryz.underlying115
 a31 := Tryz.isAgg115
 z31 := Tryz.sizeOf115
 v31 := Tryz.zeroValue115
 t46 := Tryz.underlying108
 a46 := Tryz.isAgg108
 z46 := Tryz.sizeOf108
 v46 := Tryz.zeroValue108
 t51 := Tryz.underlying131
 a51 := Tryz.isAgg131
 z51 := Tryz.sizeOf131
 v51 := Tryz.zeroValue131
 t105 := Tryz.underlying189
 a105 := Tryz.isAgg189
 z105 := Tryz.sizeOf189
 v105 := Tryz.zeroValue189
 t119 := Tryz.underlying193
 a119 := Tryz.isAgg193
 z119 := Tryz.sizeOf193
 t138 := Tryz.underlying195
 a138 := Tryz.isAgg195
 z138 := Tryz.sizeOf195
 v138 := Tryz.zeroValue195
 t139 := Tryz.underlying196
 a139 := Tryz.isAgg196
 z139 := Tryz.sizeOf196
 v139 := Tryz.zeroValue196
 t146 := Tryz.underlying167
 a146 := Tryz.isAgg167
 z146 := Tryz.sizeOf167
 v146 := Tryz.zeroValue167
 g1 := by kernel_rfl
 g3 := by kernel_rfl
 g4 := by kernel_rfl }
end Go.Proofs
namespace Go.Proofs.YtfkfpgoicmfpkaaGreatDoor
open Go Go.Ma Go.RowKit Go.Proofs
theorem one_flat {P : Program} {f : FuncId} {ps : List PS} {k : K} {t : PsT ps → Option (PsT [PS.one (.fl k)])} (vals : PsT ps → List Value)
  (hv : ∀ x ρ, denL ρ (encA false ps x 0).1 = vals x) 
  (h : ∀ x y, t x = some (y, ()) → ∀ w, Glob P w → Calls P f (vals x).toArray w fun e w' => e = .returned (den (fun _ => Go.undef) (flV k y)) ∧ Below w.heap.size w w')
  (hr : ∀ (y : k.T), resR [PS.one (.fl k)] (flV k y) [] = some (y, ())) : TrOk P f (con ps [.one (.fl k)] t) :=
 con_of _ _ _ fun x y hx ρ us vs w hG hu => by
  obtain ⟨y1, u⟩ := y
  have hd := hu.den _ (gives_nameOf us)
  rw [hv x] at hd
  rw [← hd]
  refine (h x y1 hx w hG).mono ?_
  rintro e w' ⟨rfl, hb⟩
  exact ⟨fun _ => Go.undef, flV k y1, [], rfl, ⟨hb, fun j o h => by simp at h, fun i j o o' _ h => by simp at h, fun j o h => by simp at h⟩, hr y1⟩
theorem below_drewN (w : World) (n : Nat) : Below w.heap.size w (w.drewN n) := ⟨rfl, rfl, rfl, Nat.le_refl _, fun _ _ => rfl⟩
noncomputable def internal_stringslite_Index_con : Con := con [.one (.fl .str), .one (.fl .str)] [.one (.fl .int)] (fun x => zq6 x.1 x.2.1)
theorem internal_stringslite_Index_ok : TrOk Tryz.prog 80 internal_stringslite_Index_con :=
 one_flat (fun x => [.string x.1, .string x.2.1]) (fun _ _ => rfl) (fun x y hx w hG => by
  obtain ⟨s, sep, u⟩ := x
  unfold zq6 at hx
  simp only at hx
  split at hx
  ·rename_i c hc
   injection hx with hx
   injection hx with hx
   subst hx
   have hsep : sep = ⟨#[c]⟩ := by
    cases sep with | mk a => 
    have : a = #[c] := Array.toList_inj.1 hc
    rw [this]
   subst hsep
   refine (Go.Proofs.Tryz.stringslite_Index_one s c w).mono ?_
   rintro e w' ⟨rfl, rfl⟩
   exact ⟨rfl, Below.refl _ _⟩
  ·cases hx) (fun _ => rfl)
theorem tab_powB {w : World} (hG : Glob Tryz.prog w) : Lib.TabIs Tryz.prog w "internal/strconv.uint64pow10" .u64 Lib.pow10Tab := by
 have hg : Tryz.prog.globalNamed "internal/strconv.uint64pow10" = some 3 := by kernel_rfl
 obtain ⟨t, z, h⟩ := hG.pow _ hg
 have e : pow10s = Lib.pow10Tab := by decide +kernel
 unfold Lib.TabIs World.var?
 simp [hg, h, e]
theorem itoa_nat (i : Nat) : Lib.itoa (i : Int) = Lib.decDigits i := by
 unfold Lib.itoa
 rw [if_neg (by omega)]
 rfl
theorem itoa_walk (i : Nat) (hi : i < 1000) (w : World) (hG : Glob Tryz.prog w) : Calls Tryz.prog 66 #[.int .i64 (i : Int)] w fun e w' => e = .returned (.string ⟨(Lib.decDigits i).toArray⟩) ∧ Below w.heap.size w w' := by
 refine (Go.Proofs.Tryz.strconv_Itoa (i : Int) (by omega) (by omega) w (tab_powB hG)).mono ?_
 rintro e w' ⟨rfl, k, os, rfl⟩
 exact ⟨by rw [itoa_nat], Lib.below_grow w.heap.size w (Nat.le_refl _) k os⟩
noncomputable def strconv_Itoa_con : Con := con [.one (.fl .int)] [.one (.fl .str)] (fun x => strconv_Itoa_t x.1)
theorem strconv_Itoa_ok : TrOk Tryz.prog 66 strconv_Itoa_con :=
 one_flat (fun x => [.int .i64 x.1]) (fun _ _ => rfl) (fun x y hx w hG => by
  obtain ⟨n, u⟩ := x
  unfold strconv_Itoa_t at hx
  obtain ⟨hq, hx⟩ := req_some hx
  simp only [Bool.and_eq_true, decide_eq_true_eq] at hq
  injection hx with hx
  injection hx with hx
  subst hx
  obtain ⟨i, rfl⟩ := Int.eq_ofNat_of_zero_le hq.1
  refine (itoa_walk i (by omega) w hG).mono ?_
  rintro e w' ⟨rfl, hb⟩
  exact ⟨rfl, hb⟩) (fun _ => rfl)
theorem str_den (ρ : Nat → Value) : ∀ l : List ByteArray, (List.flatMap (fun a => denL ρ (K.enc .str a)) (show List K.str.T from l)) = l.map Value.string
 | [] => rfl
 | a :: r => by
  show denL ρ (K.enc .str a) ++ List.flatMap (fun a => denL ρ (K.enc .str a)) (show List K.str.T from r) = _
  rw [str_den ρ r]
  rfl
noncomputable def strings_Join_con : Con := con [.one (.row .str 9), .one (.fl .str)] [.one (.fl .str)] (fun x => strings_Join_t x.1 x.2.1)
theorem join_main (l : List ByteArray) (sep : ByteArray) (y : ByteArray × Unit) (hx : strings_Join_t l sep = some y) (ρ : Nat → Value) (us vals : List Value) (w : World)
  (hu : ArgsOk w ρ 0 vals (encA false [.one (.row .str 9), .one (.fl .str)] (l, sep, ()) 0).1 (encA false [.one (.row .str 9), .one (.fl .str)] (l, sep, ()) 0).2 us) :
  Calls Tryz.prog 76 vals.toArray w fun e w' => ∃ ρc r m', e = .returned (den ρc r) ∧ RelM w ρc m' w' ∧ resR [.one (.fl .str)] r m' = some y := by
 have hg := gives_nameOf us
 have hlen := hu.len
 have hdenv := hu.den _ hg
 obtain ⟨v, rfl⟩ : ∃ v, us = [v] := by
  have hl1 : us.length = 1 := hlen
  match us, hl1 with
  | [v], _ => exact ⟨v, rfl⟩
 obtain ⟨hob, _⟩ := hu.obj w _ hg 0 (.row (.ty .str l) 9 false) v rfl rfl
 obtain ⟨_, _, hrow0⟩ := hob
 rw [if_neg (by simp)] at hrow0
 have hrow : RowIs w v l.length 1 (List.flatMap (fun a => denL (nameOf [v]) (K.enc .str a)) (show List K.str.T from l)) := hrow0
 rw [str_den] at hrow
 unfold strings_Join_t at hx
 obtain ⟨hq, hx⟩ := req_some hx
 simp only [Bool.and_eq_true] at hq
 have q2 := Nat.le_of_ble_eq_true hq.1
 have q3 := Nat.le_of_ble_eq_true hq.2
 injection hx with hx
 subst hx
 obtain ⟨_, A, cap, hv, hn, hc, hA, hcells⟩ := hrow
 have hvals : vals = [.slice A l.length cap, .string sep] := hdenv.symm.trans (by rw [hv]; rfl)
 subst hvals
 by_cases hl0 : l = []
 ·subst hl0
  refine (Go.Proofs.Tryz.strings_Join_none A cap sep w).mono ?_
  rintro e w' ⟨rfl, rfl⟩
  exact ⟨fun _ => Go.undef, .s ⟨#[]⟩, [], rfl, ⟨Below.refl _ _, fun j o h => by simp at h, fun i j o o' _ h => by simp at h, fun j o h => by simp at h⟩, rfl⟩
 have q1 : 1 ≤ l.length := by
  cases l with
  | nil => exact absurd rfl hl0
  | cons x r => simp
 cases A with
 | none => have := hA rfl; omega
 | some a =>
  obtain ⟨hlt, hcl⟩ := hcells a rfl
  obtain ⟨blk, off, spot⟩ := a
  have hs : spot = none := by
   have h0 := hcl 0 (.string (l[0]'(by omega))) (by simp)
   rw [show Addr.add ⟨blk, off, spot⟩ 0 = ⟨blk, off, spot⟩ from rfl] at h0
   cases spot with
   | none => rfl
   | some q =>
    unfold World.cell? at h0
    split at h0
    ·simp at h0
    ·cases h0
  subst hs
  have hj := Go.Proofs.Tryz.strings_Join blk off cap l sep w (fun j x hx => by
   have := hcl j (.string x) (by simp [hx])
   rwa [Addr.add_lit] at this) (by first | exact hlt | exact hlt (by omega)) (by omega) hn (by omega)
  refine hj.mono ?_
  rintro e w' ⟨rfl, hb⟩
  refine ⟨fun _ => Go.undef, .s ⟨(Lib.join (l.map (·.data.toList)) sep.data.toList).toArray⟩, [], rfl, ?_, rfl⟩
  exact ⟨hb, fun j o h => by simp at h, fun i j o o' _ h => by simp at h, fun j o h => by simp at h⟩
theorem strings_Join_ok : TrOk Tryz.prog 76 strings_Join_con := con_of _ _ _ fun x y hx ρ us vals w _ hu => join_main x.1 x.2.1 y hx ρ us vals w hu
theorem info9 : (Tryz.prog.info? 9).map (fun i => (i.zero, i.size, i.bytes)) = some (some (.string ByteArray.empty), 1, 16) := by kernel_rfl
set_option maxHeartbeats 1000000 in
theorem split_one (s : ByteArray) (c : UInt8) (w : World) (hs : s.size < 4294967281) :
  Calls Tryz.prog 95 #[.string s, .string ⟨#[c]⟩] w fun e w' =>
   e = .returned (.slice (some ⟨w.heap.size, 0, none⟩) (Lib.countB s ⟨#[c]⟩ + 1) (Lib.countB s ⟨#[c]⟩ + 1)) ∧ w' = w.alloc (.cells ((Lib.splitB ⟨#[c]⟩ 0 (Lib.countB s ⟨#[c]⟩) s).map Value.string).toArray 9) := by
 have h1 : 1 ≤ (⟨#[c]⟩ : ByteArray).size := Nat.le_refl _
 have hle := Lib.countB_le ⟨#[c]⟩ h1 s.size s (Nat.le_refl _)
 have hlen := Lib.splitB_all ⟨#[c]⟩ h1 0 _ s rfl
 have c0 := Go.Proofs.Any.strings_genSplit_core { Go.Proofs.Tryz.lays146 with } info9 s ⟨#[c]⟩ 0 (-1) (Lib.countB s ⟨#[c]⟩ + 1) w hs h1 (Nat.zero_le _)
  (fun x cc hx => (Go.Proofs.Tryz.strings_Index_one x c _).mono fun e w' ⟨he, hw⟩ => ⟨by rw [he, ← Lib.index_one], hw⟩)
  ((Go.Proofs.Tryz.strings_Count_one s c w).mono fun e w' ⟨he, hw⟩ => ⟨by rw [he]; show _ = Ending.returned (Value.int .i64 ((Lib.count s.data.toList [c] : Nat) : Int)); rw [Lib.count_one]; rfl, hw⟩)
  (by decide) (by decide) (by rw [if_pos (by decide)]; omega)
 rw [Nat.add_sub_cancel, hlen] at c0
 have e2 : Lib.cellsOf (Lib.splitB ⟨#[c]⟩ 0 (Lib.countB s ⟨#[c]⟩) s) (Lib.countB s ⟨#[c]⟩ + 1) = ((Lib.splitB ⟨#[c]⟩ 0 (Lib.countB s ⟨#[c]⟩) s).map Value.string).toArray := by rw [← hlen]; exact Lib.cellsOf_full _
 rw [e2] at c0
 have HC : Hid (Calls Tryz.prog 118 #[.string s, .string ⟨#[c]⟩, .int .i64 0, .int .i64 (-1)] w fun e w' => e = .returned (.slice (some ⟨w.heap.size, 0, none⟩) (Lib.countB s ⟨#[c]⟩ + 1) (Lib.countB s ⟨#[c]⟩ + 1)) ∧ w' = w.alloc (.cells ((Lib.splitB ⟨#[c]⟩ 0 (Lib.countB s ⟨#[c]⟩) s).map Value.string).toArray 9)) := c0
 clear c0
 go_enter Tryz.func95, Tryz.ntmps95
 go_wp2_with (go_at_call 118; refine HC.out.mono ?_; rintro e w' ⟨rfl, hw⟩; rw [hw])
 go_ret
 exact ⟨rfl, rfl⟩
theorem below_bytes (w : World) (e : TypeId) (s : ByteArray) : Below w.heap.size w (Lib.bytesWorld w e s) := by
 refine ⟨?_, ?_, ?_, by rw [Lib.bytesWorld_size]; omega, fun j hj => Lib.bytesWorld_at_old w e s j hj⟩
 ·unfold Lib.bytesWorld World.freeze; rw [if_neg (by decide)]; rfl
 ·unfold Lib.bytesWorld World.freeze; rw [if_neg (by decide)]; rfl
 ·unfold Lib.bytesWorld World.freeze; rw [if_neg (by decide)]; rfl
theorem below_any (w : World) (e : TypeId) {w' : World} (h : ∃ t, w' = Lib.bytesWorld w e t) : Below w.heap.size w w' := by
 obtain ⟨t, rfl⟩ := h
 exact below_bytes w e t
end Go.Proofs.YtfkfpgoicmfpkaaGreatDoor
namespace Go.Proofs.YtfkfpgoicmfpkaaGreatDoor
open Go Go.Ma Go.RowKit Go.Proofs
set_option maxRecDepth 100000 in
set_option maxHeartbeats 4000000 in
theorem digits_walk (s : ByteArray) (n : Int) (w : World) (hs : s.size ≤ 18) (ha : Lib.atoi s.data.toList = some n) (h0 : 0 ≤ n) (h1 : n < 1000) (hG : Glob Tryz.prog w) :
  Calls Tryz.prog 54 #[.string s] w fun e w' => e = .returned (.tuple #[.int .i64 n, .bool (decide (s.size ≤ 4) && ((⟨(Lib.decDigits n.toNat).toArray⟩ : ByteArray) == s))]) ∧ Below w.heap.size w w' := by
 have HP : Hid (∀ W, Calls Tryz.prog 68 #[.string s] W fun e w' => e = .returned (.tuple #[.int .i64 n, .nilIface]) ∧ Below W.heap.size W w') := fun W =>
  (Go.Proofs.Tryz.strconv_Atoi s n hs ha W).mono fun e w' ⟨he, hw⟩ => ⟨he, below_any _ _ hw⟩
 obtain ⟨i, rfl⟩ := Int.eq_ofNat_of_zero_le h0
 obtain ⟨z, hz⟩ : ∃ z : ByteArray, z = ⟨(Lib.decDigits i).toArray⟩ := ⟨_, rfl⟩
 have HQ : Hid (∀ W, Below w.heap.size w W → Calls Tryz.prog 66 #[.int .i64 (i : Int)] W fun e w' => e = .returned (.string z) ∧ Below W.heap.size W w') := fun W hW => by rw [hz]; exact itoa_walk i (by omega) W (hG.mono hW)
 have hz' : (⟨(Lib.decDigits (i : Int).toNat).toArray⟩ : ByteArray) = z := hz.symm
 rw [hz']
 clear hz hz' hG
 go_enter Tryz.func54, Tryz.ntmps54
 have z0 : decide (0 ≤ (i : Int)) = true := decide_eq_true h0
 by_cases h4 : s.size ≤ 4
 ·have z1 : decide ((s.size : Int) ≤ 4) = true := decide_eq_true (by omega)
  go_wp2_with (first | (go_at_call 68; refine (HP.out _).mono ?_; rintro e w2 ⟨rfl, hb2⟩) | (go_at_call 66; refine (HQ.out _ hb2).mono ?_; rintro e w3 ⟨rfl, hb3⟩))
  go_ret2
  refine ⟨?_, hb2.trans (hb3.mono hb2.size)⟩
  rw [decide_eq_true h4, Go.beq_toListBytes]
  rfl
 ·have z1 : decide ((s.size : Int) ≤ 4) = false := decide_eq_false (by omega)
  go_wp2_with (first | (go_at_call 68; refine (HP.out _).mono ?_; rintro e w2 ⟨rfl, hb2⟩) | (go_at_call 66; refine (HQ.out _ hb2).mono ?_; rintro e w3 ⟨rfl, hb3⟩))
  go_ret2
  refine ⟨?_, hb2⟩
  rw [decide_eq_false h4]
  rfl
noncomputable def prefix_Digits_con : Con := con [.one (.fl .str)] [.one (.fl .int), .one (.fl .bool)] (fun x => prefix_Digits_t x.1)
theorem prefix_Digits_ok : TrOk Tryz.prog 54 prefix_Digits_con := con_of _ _ _ fun x y hx ρ us vals w hG hu => by
 obtain ⟨s, z⟩ := x
 obtain ⟨r1, r2, z2⟩ := y
 have hd := hu.den _ (gives_nameOf us)
 have hvals : vals = [.string s] := hd.symm
 subst hvals
 unfold prefix_Digits_t at hx
 obtain ⟨hq, hx⟩ := req_some hx
 split at hx
 ·rename_i n hn
  obtain ⟨hq2, hx⟩ := req_some hx
  simp only [Bool.and_eq_true, decide_eq_true_eq] at hq2
  have h1 : r1 = n := by injection hx with hx; injection hx with a b; exact a.symm
  have h2 : r2 = (decide (s.size ≤ 4) && ((⟨(Lib.decDigits n.toNat).toArray⟩ : ByteArray) == s)) := by injection hx with hx; injection hx with a b; injection b with b c; exact b.symm
  subst h1
  refine (digits_walk s r1 w (Nat.le_of_ble_eq_true hq) hn hq2.1 hq2.2 hG).mono ?_
  rintro e w' ⟨rfl, hb⟩
  rw [← h2]
  exact ⟨fun _ => Go.undef, .tup [.i .i64 r1, .b r2], [], rfl, ⟨hb, fun j o h => by simp at h, fun i j o o' _ h => by simp at h, fun j o h => by simp at h⟩, rfl⟩
 ·cases hx
end Go.Proofs.YtfkfpgoicmfpkaaGreatDoor
namespace Go.Proofs.YtfkfpgoicmfpkaaGreatDoor
open Go Go.Ma Go.RowKit Go.Proofs
theorem lower_walk (c : Int) (w : World) : Calls Tryz.prog 140 #[.int .u8 c] w fun e w' => e = .returned (.int .u8 (bits .or .u8 c 32)) ∧ w' = w := by
 go_enter Tryz.func140, Tryz.ntmps140
 go_wp2
 go_ret
 exact ⟨rfl, rfl⟩
set_option maxHeartbeats 32000000 in
set_option maxRecDepth 100000 in
theorem hexInner (t : ByteArray) (hne : t.size ≠ 0) (hmax : t.size ≤ 9223372036854775806) (w : World) :
  Calls Tryz.prog 128 #[.string t, .int .i64 16, .int .i64 32] w fun e w' => (∃ u ev, e = .returned (.tuple #[.int .u64 u, ev]) ∧ HexEnd 147 t.data.toList 0 u ev) ∧ w' = Lib.bytesWorld w 5 t := by
 have hemp : t.toList.isEmpty = false := by
  rw [← decide_eq_emptyBytes]
  exact decide_eq_false (fun h => hne (by rw [h]; rfl))
 have hcv := Lib.run_convert_string_bytes (P := Tryz.prog) w 9 98 5 t (u := .string) Tryz.underlying9 Tryz.underlying98 Tryz.underlying5
 have hB : ∀ j, j < t.size → (Lib.bytesWorld w 5 t).cell? ⟨w.heap.size, j, none⟩ = some (.int .u8 (t.data.toList.getD j 0).toNat) := fun j hj => Lib.bytesWorld_cell w 5 t j hj
 obtain ⟨W1, hW1⟩ : ∃ W1, W1 = Lib.bytesWorld w 5 t := ⟨_, rfl⟩
 rw [← hW1] at hcv hB ⊢
 clear hW1
 obtain ⟨bs, hL⟩ : ∃ bs, bs = t.data.toList := ⟨_, rfl⟩
 have hLn : bs.length = t.size := by rw [hL, Lib.size_eq]
 rw [← hL] at hB ⊢
 clear hL
 have hmv : IntKind.u64.wrap (IntKind.u64.wrap 4294967296 - 1) = 4294967295 := by
  rw [IntKind.wrap_u64, IntKind.wrap_u64]
  decide
 go_enter Tryz.func128, Tryz.ntmps128
 go_wp2
 go_loop [12, 13, 101] (fun vu vn vi => ∃ (k acc : Nat) (a : Int), vu = .bool false ∧ vn = .int .u64 a ∧ vi = .int .i64 k ∧ k ≤ t.size ∧ Hid (a = (acc : Int) ∧ acc ≤ 4294967295 ∧ hexF bs 0 = hexF (bs.drop k) acc))
  (fun _ _ vi => t.size - (intOf vi).toNat)
 case atStart => exact ⟨0, 0, 0, rfl, rfl, rfl, by omega, rfl, by omega, rfl⟩
 case round =>
  obtain ⟨k, acc, a, rfl, rfl, rfl, hk, hh⟩ := hrel
  obtain ⟨ha, hacc, hdec⟩ := hh.out
  clear hh
  have a0 : 0 ≤ a := by omega
  have a1 : a ≤ 4294967295 := by omega
  by_cases hkn : k < t.size
  ·have hc := hB k hkn
   have hdrop : bs.drop k = bs[k]'(by omega) :: bs.drop (k + 1) := List.drop_eq_getElem_cons (by omega)
   have hget : bs.getD k 0 = bs[k]'(by omega) := by simp [List.getD, List.getElem?_eq_getElem (show k < bs.length by omega)]
   rw [hdrop] at hdec
   rw [hget] at hc
   generalize bs[k]'(by omega) = c at hc hdec
   have hc256 : c.toNat < 256 := c.toNat_lt
   clear hB hdrop hget
   rw [hexF] at hdec
   by_cases hdig : 48 ≤ c.toNat ∧ c.toNat ≤ 57
   ·obtain ⟨hd0, hd1⟩ := hdig
    have hv : hexv c = some (c.toNat - 48) := by unfold hexv; rw [if_pos ⟨hd0, hd1⟩]
    rw [hv] at hdec
    simp only at hdec
    by_cases hov : 4294967295 < acc * 16 + (c.toNat - 48)
    ·rw [if_pos hov] at hdec
     have iov : 4294967295 < a * 16 + ((c.toNat : Int) - 48) := by omega
     clear hacc hov ha hv
     go_wp2
     go_ret2
     exact ⟨⟨_, _, rfl, .bad hdec (.inr rfl)⟩, rfl⟩
    ·rw [if_neg hov] at hdec
     have HN : Hid (a * 16 + ((c.toNat : Int) - 48) = ((acc * 16 + (c.toNat - 48) : Nat) : Int) ∧ acc * 16 + (c.toNat - 48) ≤ 4294967295 ∧ hexF bs 0 = hexF (bs.drop (k + 1)) (acc * 16 + (c.toNat - 48))) := Lib.hid ⟨by omega, by omega, hdec⟩
     have iov : a * 16 + ((c.toNat : Int) - 48) ≤ 4294967295 := by omega
     clear hacc hov hdec ha hv
     go_wp2
     refine ⟨⟨k + 1, acc * 16 + (c.toNat - 48), a * 16 + ((c.toNat : Int) - 48), rfl, (by first | rfl | (congr 1; omega)), (by first | rfl | (congr 1; omega)), by omega, HN⟩, by simp [intOf]; omega⟩
   ·have hv0 := bits_lo_u8 .or (c.toNat : Int) 32
    have hv1 := bits_hi_u8 .or (c.toNat : Int) 32
    have hne95 : 97 ≤ bits .or .u8 (c.toNat : Int) 32 → bits .or .u8 (c.toNat : Int) 32 ≤ 122 → ¬ (c.toNat : Int) = 95 := fun h1 h2 h => by
     rw [h] at h2
     exact absurd h2 (by decide)
    have hb95 : (c.toNat : Int) = 95 → bits .or .u8 (c.toNat : Int) 32 = 127 := fun h => by rw [h]; decide
    have e95 : bits .or .u8 95 32 = 127 := by decide
    have HL : Hid (∀ W, Calls Tryz.prog 140 #[.int .u8 (c.toNat : Int)] W fun e w' => e = .returned (.int .u8 (bits .or .u8 (c.toNat : Int) 32)) ∧ w' = W) := fun W => lower_walk _ W
    have hvv : hexv c = if 97 ≤ bits .or .u8 (c.toNat : Int) 32 ∧ bits .or .u8 (c.toNat : Int) 32 ≤ 102 then some ((bits .or .u8 (c.toNat : Int) 32).toNat - 87) else none := by
     unfold hexv lowQ
     rw [if_neg hdig]
    rw [hvv] at hdec
    clear hvv
    generalize bits .or .u8 (c.toNat : Int) 32 = L at HL hv0 hv1 hne95 hb95 hdec
    by_cases hlet : 97 ≤ L ∧ L ≤ 102
    ·rw [if_pos hlet] at hdec
     simp only at hdec
     obtain ⟨l0, l1⟩ := hlet
     have l2 : L ≤ 122 := by omega
     have n95 := hne95 l0 l2
     by_cases hov : 4294967295 < acc * 16 + (L.toNat - 87)
     ·rw [if_pos hov] at hdec
      have iov : 4294967295 < a * 16 + (L - 87) := by omega
      clear hacc hov ha hne95 hb95 e95
      go_wp2_with (go_at_call 140; refine (HL.out _).mono ?_; rintro e w' ⟨rfl, rfl⟩)
      all_goals go_ret2
      all_goals exact ⟨⟨_, _, rfl, .bad hdec (.inr rfl)⟩, rfl⟩
     ·rw [if_neg hov] at hdec
      have HN : Hid (a * 16 + (L - 97 + 10) = ((acc * 16 + (L.toNat - 87) : Nat) : Int) ∧ acc * 16 + (L.toNat - 87) ≤ 4294967295 ∧ hexF bs 0 = hexF (bs.drop (k + 1)) (acc * 16 + (L.toNat - 87))) := Lib.hid ⟨by omega, by omega, hdec⟩
      have iov : a * 16 + (L - 87) ≤ 4294967295 := by omega
      clear hacc hov hdec ha hne95 hb95 e95
      go_wp2_with (go_at_call 140; refine (HL.out _).mono ?_; rintro e w' ⟨rfl, rfl⟩)
      all_goals exact ⟨⟨k + 1, acc * 16 + (L.toNat - 87), a * 16 + (L - 97 + 10), rfl, (by first | rfl | (congr 1; omega)), (by first | rfl | (congr 1; omega)), by omega, HN⟩, by simp [intOf]; omega⟩
    ·rw [if_neg hlet] at hdec
     simp only at hdec
     clear hacc ha
     by_cases h122 : 97 ≤ L ∧ L ≤ 122
     ·obtain ⟨l0, l2⟩ := h122
      have n95 := hne95 l0 l2
      have l3 : 103 ≤ L := by omega
      clear hne95 hlet hb95 e95
      go_wp2_with (go_at_call 140; refine (HL.out _).mono ?_; rintro e w' ⟨rfl, rfl⟩)
      all_goals go_ret2
      all_goals exact ⟨⟨_, _, rfl, .bad hdec (.inl rfl)⟩, rfl⟩
     ·clear hne95 hlet
      by_cases h95 : (c.toNat : Int) = 95
      ·clear hb95 h122 hv0 hv1
       clear HL
       clear L
       go_wp2_with (go_at_call 140; refine (lower_walk 95 _).mono ?_; rintro e w' ⟨rfl, rfl⟩)
       all_goals go_ret2
       all_goals exact ⟨⟨_, _, rfl, .bad hdec (.inl rfl)⟩, rfl⟩
      ·clear hb95 e95
       by_cases h97 : 97 ≤ L
       ·have l3 : 122 < L := by omega
        clear h122
        go_wp2_with (go_at_call 140; refine (HL.out _).mono ?_; rintro e w' ⟨rfl, rfl⟩)
        all_goals go_ret2
        all_goals exact ⟨⟨_, _, rfl, .bad hdec (.inl rfl)⟩, rfl⟩
       ·clear h122
        go_wp2_with (go_at_call 140; refine (HL.out _).mono ?_; rintro e w' ⟨rfl, rfl⟩)
        all_goals go_ret2
        all_goals exact ⟨⟨_, _, rfl, .bad hdec (.inl rfl)⟩, rfl⟩
  ·have hkk : k = t.size := by omega
   subst hkk
   have hF : hexF (bs.drop t.size) acc = some acc := by rw [List.drop_eq_nil_of_le (by omega)]; rfl
   rw [hF] at hdec
   subst ha
   clear hacc hF a0 a1
   go_wp2
   go_ret2
   exact ⟨⟨_, _, rfl, .ok hdec⟩, rfl⟩
def NumOut (o : Option Nat) (u : Int) (ev : Value) : Prop := match o with
 | some n => u = (n : Int) ∧ ev = .nilIface
 | none => ∃ te pe, ev = .iface te pe
def NumEnd (o : Option Nat) (e : Ending) : Prop := ∃ u ev, e = .returned (.tuple #[.int .u64 u, ev]) ∧ NumOut o u ev
theorem numEnd_ok (n : Nat) : NumEnd (some n) (.returned (.tuple #[.int .u64 (n : Int), .nilIface])) := ⟨_, _, rfl, rfl, rfl⟩
theorem numEnd_bad (u : Int) (te : TypeId) (pe : Value) : NumEnd none (.returned (.tuple #[.int .u64 u, .iface te pe])) := ⟨_, _, rfl, _, _, rfl⟩
set_option maxRecDepth 100000 in
theorem hexEmpty (w : World) : Calls Tryz.prog 128 #[.string ByteArray.empty, .int .i64 16, .int .i64 32] w fun e w' => e = .returned (.tuple #[.int .u64 0, .iface 147 (.int .i64 2)]) ∧ w' = w := by
 go_enter Tryz.func128, Tryz.ntmps128
 go_wp2
 go_ret2
 exact ⟨rfl, rfl⟩
def InnerEnd (o : Option Nat) (u : Int) (ev : Value) : Prop := match o with
 | some n => u = (n : Int) ∧ ev = .nilIface
 | none => ev = .iface 147 (.int .i64 2) ∨ ev = .iface 147 (.int .i64 1)
theorem hexAll (s : ByteArray) (hmax : s.size ≤ 9223372036854775806) (w : World) :
  Calls Tryz.prog 128 #[.string s, .int .i64 16, .int .i64 32] w fun e w' => (∃ u ev, e = .returned (.tuple #[.int .u64 u, ev]) ∧ InnerEnd (hexU s) u ev) ∧ Below w.heap.size w w' := by
 by_cases h0 : s.size = 0
 ·have hs : s = ByteArray.empty := by
   cases s with | mk a =>
   have : a = #[] := Array.eq_empty_of_size_eq_zero h0
   rw [this]; rfl
  subst hs
  refine (hexEmpty w).mono ?_
  rintro e w' ⟨rfl, rfl⟩
  exact ⟨⟨_, _, rfl, .inl rfl⟩, Below.refl _ _⟩
 ·refine (hexInner s h0 hmax w).mono ?_
  rintro e w' ⟨⟨u, ev, rfl, hh⟩, rfl⟩
  refine ⟨⟨u, ev, rfl, ?_⟩, Lib.bytesWorld_below _ _ _⟩
  unfold hexU
  rw [if_neg h0]
  cases hh with
  | ok h hu he => rw [h]; exact ⟨hu, he⟩
  | bad h he => rw [h]; exact he
theorem gErrSyntax : Tryz.prog.globalNamed "strconv.ErrSyntax" = some 1 := by kernel_rfl
theorem gErrRange : Tryz.prog.globalNamed "strconv.ErrRange" = some 2 := by kernel_rfl
set_option maxHeartbeats 4000000 in
set_option maxRecDepth 100000 in
theorem hexPublic (s : ByteArray) (hlim : s.size ≤ 281474976710656) (w : World) (hG : Glob Tryz.prog w) :
  Calls Tryz.prog 119 #[.string s, .int .i64 16, .int .i64 32] w fun e w' => NumEnd (hexU s) e ∧ Below w.heap.size w w' := by
 obtain ⟨es, hes, hes2⟩ := hG.err _ _ (.inl rfl) gErrSyntax
 obtain ⟨er, her, her2⟩ := hG.err _ _ (.inr rfl) gErrRange
 have hI := hexAll s (by omega) w
 go_enter Tryz.func119, Tryz.ntmps119
 go_wp2_with (go_at_call 128; refine hI.mono ?_)
 rintro e W1 ⟨⟨u, ev, rfl, hh⟩, hb1⟩
 have hes1 := cell_stays hb1 hes
 have her1 := cell_stays hb1 her
 cases hx : hexU s with
 | some n =>
  rw [hx] at hh
  obtain ⟨rfl, rfl⟩ := hh
  go_wp2
  go_ret2
  exact ⟨by rw [hx]; exact numEnd_ok n, hb1⟩
 | none =>
  rw [hx] at hh
  rcases hh with rfl | rfl
  ·go_wp2_with (go_at_call 82; refine (AnyPu.strconv_toError_syntax (P := Tryz.prog) { Go.Proofs.Tryz.laysPu14 with } ⟨#[80, 97, 114, 115, 101, 85, 105, 110, 116]⟩ s 16 32 es _ hlim hes1 hes2).mono ?_)
   rintro e W2 ⟨N, rfl, h1, h2, h3⟩
   go_wp2
   go_ret2
   exact ⟨by rw [hx]; exact numEnd_bad _ _ _, hb1.trans (h3.mono hb1.size)⟩
  ·go_wp2_with (go_at_call 82; refine (AnyPu.strconv_toError_range (P := Tryz.prog) { Go.Proofs.Tryz.laysPu14 with } ⟨#[80, 97, 114, 115, 101, 85, 105, 110, 116]⟩ s 16 32 er _ hlim her1 her2).mono ?_)
   rintro e W2 ⟨N, rfl, h1, h2, h3⟩
   go_wp2
   go_ret2
   exact ⟨by rw [hx]; exact numEnd_bad _ _ _, hb1.trans (h3.mono hb1.size)⟩
theorem decPublic (s : ByteArray) (hlim : s.size ≤ 281474976710656) (w : World) (hG : Glob Tryz.prog w) :
  Calls Tryz.prog 119 #[.string s, .int .i64 10, .int .i64 32] w fun e w' => NumEnd (decU s) e ∧ Below w.heap.size w w' := by
 obtain ⟨es, hes, hes2⟩ := hG.err _ _ (.inl rfl) gErrSyntax
 obtain ⟨er, her, her2⟩ := hG.err _ _ (.inr rfl) gErrRange
 unfold decU
 cases hx : Lib.parseUintB 32 s.data.toList with
 | ok u =>
  refine (Go.Proofs.Tryz.strconv_ParseUint_10_at32_ok s (by omega) u hx w).mono ?_
  rintro e w' ⟨rfl, hw⟩
  exact ⟨numEnd_ok u, by rcases hw with rfl | rfl; exact Below.refl _ _; exact Lib.bytesWorld_below _ _ _⟩
 | range =>
  refine (Go.Proofs.Tryz.strconv_ParseUint_10_at32_range s hlim hx er w her her2).mono ?_
  rintro e w' ⟨N, rfl, _, _, hb⟩
  exact ⟨numEnd_bad _ _ _, hb⟩
 | _ =>
  refine (Go.Proofs.Tryz.strconv_ParseUint_10_at32_syntax s hlim hx es w hes hes2).mono ?_
  rintro e w' ⟨N, rfl, _, _, hb⟩
  exact ⟨numEnd_bad _ _ _, hb⟩
end Go.Proofs.YtfkfpgoicmfpkaaGreatDoor
namespace Go.Proofs.YtfkfpgoicmfpkaaGreatDoor
open Go Go.Ma Go.RowKit Go.Proofs
def digits36 : ByteArray := ⟨#[48, 49, 50, 51, 52, 53, 54, 55, 56, 57, 97, 98, 99, 100, 101, 102, 103, 104, 105, 106, 107, 108, 109, 110, 111, 112, 113, 114, 115, 116, 117, 118, 119, 120, 121, 122]⟩
theorem idx36 {P : Program} (t : TypeId) (ht : P.underlying t = some .string) (k : IntKind) (z : Int) (i : Nat) (hz : z = (i : Int)) (hi : i < 16) (w : World) :
  (Instr.index t (.string digits36) (.int k z)).run P w = .ok (.int .u8 ((hexD i).toNat : Int)) w := by
 subst hz
 rw [run_index_string w t digits36 k _ ht, dif_pos ⟨by omega, by show (i : Int) < 36; omega⟩]
 have e : ((i : Int)).toNat = i := by omega
 simp only [e]
 have : i = 0 ∨ i = 1 ∨ i = 2 ∨ i = 3 ∨ i = 4 ∨ i = 5 ∨ i = 6 ∨ i = 7 ∨ i = 8 ∨ i = 9 ∨ i = 10 ∨ i = 11 ∨ i = 12 ∨ i = 13 ∨ i = 14 ∨ i = 15 := by omega
 rcases this with rfl | rfl | rfl | rfl | rfl | rfl | rfl | rfl | rfl | rfl | rfl | rfl | rfl | rfl | rfl | rfl <;> rfl
theorem pow2_walk (w : World) : Calls Tryz.prog 136 #[.int .i64 16] w fun e w' => e = .returned (.bool true) ∧ w' = w := by
 go_enter Tryz.func136, Tryz.ntmps136
 go_wp2
 go_ret
 exact ⟨by first | rfl | decide, rfl⟩
theorem gTab : Tryz.prog.globalNamed "math/bits.deBruijn64tab" = some 5 := by kernel_rfl
theorem key16 : IntKind.u64.wrap (bits BinOp.and IntKind.u64 16 (IntKind.u64.wrap (-16)) * 285870213051353865) / 288230376151711744 = 15 := by decide +kernel
set_option maxRecDepth 100000 in
theorem tz64_walk (w : World) (hcell : w.cell? ⟨5, 15, none⟩ = some (.int .u8 4)) :
  Calls Tryz.prog 146 #[.int .u64 16] w fun e w' => e = .returned (.int .i64 4) ∧ w' = w := by
 have key := key16
 go_enter Tryz.func146, Tryz.ntmps146
 go_wp2_with (simp only [key])
 go_ret
 exact ⟨rfl, rfl⟩
set_option maxRecDepth 100000 in
theorem tz_walk (w : World) (hcell : w.cell? ⟨5, 15, none⟩ = some (.int .u8 4)) :
  Calls Tryz.prog 137 #[.int .u64 16] w fun e w' => e = .returned (.int .i64 4) ∧ w' = w := by
 go_enter Tryz.func137, Tryz.ntmps137
 go_wp2_with (go_at_call 146; refine (tz64_walk _ hcell).mono ?_; rintro e w' ⟨rfl, rfl⟩)
 go_ret
 exact ⟨rfl, rfl⟩
def encB (b : UInt8) : Value := .int .u8 (b.toNat : Int)
theorem pre_cell {w : World} {N m : Nat} {z : Value} {s : List Value} {T : TypeId} (h : w.heap[N]? = some (Go.Obj.cells (List.replicate (m + 1) z ++ s).toArray T (0, 0))) :
  w.cell? ⟨N, m, none⟩ = some z ∧ w.frozen? ⟨N, m, none⟩ = false := by
 constructor
 ·simp [World.cell?, h, List.getElem?_append_left]
 ·simp [World.frozen?, h]
theorem pre_set {w : World} {N m : Nat} {z v : Value} {s : List Value} {T : TypeId} (h : w.heap[N]? = some (Go.Obj.cells (List.replicate (m + 1) z ++ s).toArray T (0, 0))) :
  (w.setCell ⟨N, m, none⟩ v).heap[N]? = some (Go.Obj.cells (List.replicate m z ++ v :: s).toArray T (0, 0)) := by
 rw [setCell_heap w N m v _ T (0, 0) h]
 congr 2
 apply Array.ext'
 simp [List.replicate_succ', List.set_append]
theorem suf_cell {w : World} {N i : Nat} {z : Value} {s : List UInt8} {T : TypeId} (h : w.heap[N]? = some (Go.Obj.cells (List.replicate i z ++ s.map encB).toArray T (0, 0))) (j : Nat) (hj : j < s.length) :
  w.cell? ((⟨N, i, none⟩ : Addr).add j) = some (.int .u8 (s[j].toNat : Int)) := by
 rw [Lib.add_plain]
 simp [World.cell?, h, List.getElem?_append_right, hj, encB]
theorem slice65 (m : Nat) (hm : m < 65) (b : Nat) (W : World) : (Instr.sliceAt 178 (.pointer (some ⟨b, 0, none⟩)) (some (.int .i64 (m : Int))) none none).run Tryz.prog W = .ok (.slice (some ⟨b, m, none⟩) (65 - m) (65 - m)) W := by
 have hal : Tryz.prog.arrayLen 178 = 65 := by simp [Program.arrayLen, Tryz.underlying178]
 rw [run_sliceAt_array_l W 178 ⟨b, 0, none⟩ (by simp [Program.arrayLen, Program.elem, Tryz.underlying178]) .i64 (m : Int) (by omega) (by rw [hal]; omega), hal]
 go_simp
 omega
set_option maxHeartbeats 8000000 in
set_option maxRecDepth 100000 in
theorem bits_hex (n : Nat) (hn : n < 65536) (w : World) (hG : Glob Tryz.prog w) :
  Calls Tryz.prog 123 #[.slice none 0 0, .int .u64 (n : Int), .int .i64 16, .bool false, .bool false] w fun e w' => e = .returned (.tuple #[.slice none 0 0, .string ⟨(hex4 n).toArray⟩]) ∧ Below w.heap.size w w' := by
 obtain ⟨tt, zz, htab⟩ := hG.ctz _ gTab
 have hcell : w.cell? ⟨5, 15, none⟩ = some (.int .u8 4) := by
  unfold World.cell?
  rw [htab]
  rfl
 have HT : Hid (∀ W, Below w.heap.size w W → Calls Tryz.prog 137 #[.int .u64 16] W fun e w' => e = .returned (.int .i64 4) ∧ w' = W) := fun W hb => tz_walk W (cell_stays hb hcell)
 clear hcell htab
 go_enter Tryz.func123, Tryz.ntmps123
 go_wp2_with (first | (go_at_call 136; refine (pow2_walk _).mono ?_; rintro e w' ⟨rfl, rfl⟩) | (go_at_call 137; refine (HT.out _ ((Below.refl _ w).alloc (Nat.le_refl _) _)).mono ?_; rintro e w' ⟨rfl, rfl⟩))
 go_name_world W0 hW0
 have hN0 : W0.heap[w.heap.size]? = some (.cells (List.replicate 65 (Value.int .u8 0) ++ ([] : List UInt8).map encB).toArray 178 (0, 0)) := by rw [← hW0]; exact heap_alloc_new w _
 have hb0 : Below w.heap.size w W0 := by rw [← hW0]; exact (Below.refl _ w).alloc (Nat.le_refl _) _
 clear hW0 HT
 go_loopw [1, 13] (fun vu vi wr => ∃ (u i : Nat) (suf : List UInt8), vu = .int .u64 (u : Int) ∧ vi = .int .i64 (i : Int) ∧ Hid (hex4 u ++ suf = hex4 n ∧ suf.length + i = 65 ∧ u < 16 ^ (i - 61)) ∧ 62 ≤ i ∧ i ≤ 65 ∧ Hid (wr.heap[w.heap.size]? = some (.cells (List.replicate i (Value.int .u8 0) ++ suf.map encB).toArray 178 (0, 0))) ∧ Below w.heap.size w wr) (fun _ vi _ => (intOf vi).toNat)
 case atStart => exact ⟨n, 65, [], rfl, rfl, Lib.hid ⟨List.append_nil _, rfl, hn⟩, by omega, by omega, Lib.hid hN0, hb0⟩
 case round =>
  clear hN0 hb0
  obtain ⟨u, i, suf, rfl, rfl, HS, hi0, hi1, HH, hbw⟩ := hrel
  obtain ⟨e1, e2, e3⟩ := HS.out
  obtain ⟨m, rfl⟩ : ∃ m, i = m + 1 := ⟨i - 1, by omega⟩
  have hh := HH.out
  obtain ⟨hc, hf⟩ := pre_cell hh
  clear hh
  have hu6 : u < 65536 := Nat.lt_of_lt_of_le e3 (by have : 16 ^ (m + 1 - 61) ≤ 16 ^ 4 := Nat.pow_le_pow_right (by omega) (by omega); omega)
  have iu0 : 0 ≤ (u : Int) := by omega
  have iu1 : (u : Int) < 65536 := by omega
  by_cases h16 : 16 ≤ u
  ·have hand : bits .and .u64 (u : Int) 15 = ((u % 16 : Nat) : Int) := by
    have := bits_and_u64_nat u 15 (by omega) (by omega)
    rw [show (15 : Int) = ((15 : Nat) : Int) from rfl, this, show (15 : Nat) = 2 ^ 4 - 1 from rfl, Nat.and_two_pow_sub_one_eq_mod]
   have hX : ∀ W, (Instr.index 9 (.string ⟨#[48, 49, 50, 51, 52, 53, 54, 55, 56, 57, 97, 98, 99, 100, 101, 102, 103, 104, 105, 106, 107, 108, 109, 110, 111, 112, 113, 114, 115, 116, 117, 118, 119, 120, 121, 122]⟩) (.int .u64 (bits .and .u64 (u : Int) 15))).run Tryz.prog W = .ok (.int .u8 ((hexD (u % 16)).toNat : Int)) W := idx36 9 Tryz.underlying9 .u64 _ _ hand (by omega)
   have hge : (16 : Int) ≤ (u : Int) := by omega
   have hm62 : 62 ≤ m := by
    rcases Nat.lt_or_ge m 62 with h | h
    ·have : m = 61 := by omega
     subst this
     have : u < 16 := e3
     omega
    ·exact h
   clear hand
   go_wp2
   refine ⟨⟨u / 16, m, hexD (u % 16) :: suf, by go_num, rfl, Lib.hid ⟨by rw [← e1, hex4_step u h16 hu6, List.append_assoc]; rfl, by simp only [List.length_cons]; omega, ?_⟩, hm62, by omega, Lib.hid (pre_set HH.out), hbw.setCell (Nat.le_refl _) _⟩, by simp [intOf]⟩
   rw [show m + 1 - 61 = (m - 61) + 1 by omega, Nat.pow_succ] at e3
   omega
  ·have hX : ∀ W, (Instr.index 9 (.string ⟨#[48, 49, 50, 51, 52, 53, 54, 55, 56, 57, 97, 98, 99, 100, 101, 102, 103, 104, 105, 106, 107, 108, 109, 110, 111, 112, 113, 114, 115, 116, 117, 118, 119, 120, 121, 122]⟩) (.int .u64 (u : Int))).run Tryz.prog W = .ok (.int .u8 ((hexD u).toNat : Int)) W := idx36 9 Tryz.underlying9 .u64 _ _ rfl (by omega)
   have hlt : (u : Int) < 16 := by omega
   obtain ⟨q, hq⟩ : ∃ q, q = 65 - m := ⟨_, rfl⟩
   have hsl : ∀ W, (Instr.sliceAt 178 (.pointer (some ⟨w.heap.size, 0, none⟩)) (some (.int .i64 (m : Int))) none none).run Tryz.prog W = .ok (.slice (some ⟨w.heap.size, m, none⟩) q q) W := fun W => by rw [hq]; exact slice65 m (by omega) _ W
   have hcv : (convert 98 9 (.slice (some ⟨w.heap.size, m, none⟩) q q)).run Tryz.prog (wr.setCell ⟨w.heap.size, m, none⟩ (.int .u8 ((hexD u).toNat : Int))) = .ok (.string ⟨(hex4 n).toArray⟩) (wr.setCell ⟨w.heap.size, m, none⟩ (.int .u8 ((hexD u).toNat : Int))) := by
    have hs : wr.setCell ⟨w.heap.size, m, none⟩ (.int .u8 ((hexD u).toNat : Int)) = wr.setCell ⟨w.heap.size, m, none⟩ (encB (hexD u)) := rfl
    have h := run_convert_bytes_back (P := Tryz.prog) (wr.setCell ⟨w.heap.size, m, none⟩ (encB (hexD u))) 98 9 5 ⟨w.heap.size, m, none⟩ q (hexD u :: suf) Tryz.underlying98 Tryz.underlying5 Tryz.underlying9 (fun j hj => suf_cell (s := hexD u :: suf) (pre_set HH.out) j hj)
    have hl : (hexD u :: suf).length = q := by rw [hq]; simp only [List.length_cons]; omega
    rw [hl] at h
    have h6 : hex4 n = hexD u :: suf := by rw [← e1]; unfold hex4; rw [if_pos (by omega)]; rfl
    rw [hs, h6]
    exact h
   have hbz := hbw.setCell (p := ⟨w.heap.size, m, none⟩) (Nat.le_refl _) (.int .u8 ((hexD u).toNat : Int))
   clear e1 e2 e3 HS HH hG hbw hq hu6 iu0 iu1 h16
   go_wp2
   go_ret2
   exact ⟨rfl, hbz⟩
set_option maxRecDepth 100000 in
theorem uint_hex (n : Nat) (hn : n < 65536) (w : World) (hG : Glob Tryz.prog w) :
  Calls Tryz.prog 97 #[.int .u64 (n : Int), .int .i64 16] w fun e w' => e = .returned (.string ⟨(hex4 n).toArray⟩) ∧ Below w.heap.size w w' := by
 have HB := Lib.hid (bits_hex n hn w hG)
 clear hG hn
 go_enter Tryz.func97, Tryz.ntmps97
 go_wp2_with (go_at_call 123; refine HB.out.mono ?_; rintro e w' ⟨rfl, hb⟩)
 go_ret
 exact ⟨rfl, hb⟩
theorem tab_pow {w : World} (hG : Glob Tryz.prog w) : Lib.TabIs Tryz.prog w "internal/strconv.uint64pow10" .u64 Lib.pow10Tab := by
 have hg : Tryz.prog.globalNamed "internal/strconv.uint64pow10" = some 3 := by kernel_rfl
 obtain ⟨t, z, h⟩ := hG.pow _ hg
 have e : pow10s = Lib.pow10Tab := by decide +kernel
 unfold Lib.TabIs World.var?
 simp [hg, h, e]
set_option maxHeartbeats 8000000 in
set_option maxRecDepth 100000 in
theorem uint_dec (u : Nat) (h1 : u < 256) (w : World) (hG : Glob Tryz.prog w) :
  Calls Tryz.prog 97 #[.int .u64 (u : Int), .int .i64 10] w fun e w' => e = .returned (.string ⟨(Lib.decDigits u).toArray⟩) ∧ Below w.heap.size w w' := by
 by_cases hs : u < 100
 ·have iu : (u : Int) < 100 := by omega
  go_enter Tryz.func97, Tryz.ntmps97
  go_wp2_with (go_at_call 120; refine (Go.Proofs.Tryz.internal_strconv_small u hs _).mono ?_; rintro e w' ⟨rfl, rfl⟩)
  go_ret
  exact ⟨rfl, Below.refl _ _⟩
 ·have hu : 100 ≤ u := by omega
  have htab := tab_pow hG
  have hu1 : 1 ≤ u := by omega
  have hu64 : u < 18446744073709551616 := by omega
  have hnd20 : Lib.nDigits u ≤ 20 := by have := Lib.numDigits_eq u hu1 hu64; split at this <;> omega
  have hal : Tryz.prog.arrayLen 162 = 24 := by simp [Program.arrayLen, Tryz.underlying162]
  have hsl : ∀ W, (Instr.sliceAt 162 (.pointer (some ⟨w.heap.size, 0, none⟩)) none (some (.int .i64 (Lib.nDigits u : Int))) none).run Tryz.prog W = .ok (.slice (some ⟨w.heap.size, 0, none⟩) (Lib.nDigits u) 24) W := fun W => by
   rw [run_sliceAt_array_h W 162 ⟨w.heap.size, 0, none⟩ (by simp [Program.arrayLen, Program.elem, Tryz.underlying162]) .i64 (Lib.nDigits u : Int) (by omega) (by rw [hal]; omega)]
   go_simp
  have hH0 := Lib.holds_zero0 w 162 (Lib.nDigits u) (by omega)
  have hfmt := Go.Proofs.Tryz.internal_strconv_formatBase10 w.heap.size 0 24 u (Array.replicate (Lib.nDigits u) 0) (w.alloc (.cells Lib.zeros24 162)) hH0 (by rw [Array.size_replicate]; exact Lib.lt_pow_nDigits u) hu64 (by rw [Array.size_replicate]; omega)
  rw [Array.size_replicate] at hfmt
  have HH0 := Lib.hid hH0
  have iu : (100 : Int) ≤ (u : Int) := by omega
  clear hH0 hal hs h1 hG
  go_enter Tryz.func97, Tryz.ntmps97
  go_wp2_with (go_at_call 121; refine (Go.Proofs.Tryz.internal_strconv_numDigits u hu1 hu64 _ (Lib.tabIs_alloc htab _)).mono ?_; rintro e w' ⟨rfl, rfl⟩)
  go_at_call 122
  refine hfmt.mono ?_
  rintro e w' ⟨rfl, k, v', dk, rfl, hF⟩
  have hcv : (convert 98 9 (.slice (some ⟨w.heap.size, 0, none⟩) (Lib.nDigits u) 24)).run Tryz.prog ((Sort.putRow (fun (b : UInt8) => Value.int .u8 (b.toNat : Int)) (w.alloc (.cells Lib.zeros24 162)) w.heap.size 0 dk).drewN k) = .ok (.string ⟨(Lib.decDigits u).toArray⟩) ((Sort.putRow (fun (b : UInt8) => Value.int .u8 (b.toNat : Int)) (w.alloc (.cells Lib.zeros24 162)) w.heap.size 0 dk).drewN k) := by
   have h := run_convert_bytes_back (P := Tryz.prog) ((Sort.putRow (fun (b : UInt8) => Value.int .u8 (b.toNat : Int)) (w.alloc (.cells Lib.zeros24 162)) w.heap.size 0 dk).drewN k) 98 9 5 ⟨w.heap.size, 0, none⟩ 24 (Lib.decDigits u) Tryz.underlying98 Tryz.underlying5 Tryz.underlying9 (fun j hj => by
    rw [Lib.row_is_numeral hF j hj, Lib.add_plain, World.cell?_drewN]
    exact Sort.cell?_putRow (fun (b : UInt8) => Value.int .u8 (b.toNat : Int)) _ w.heap.size 0 _ dk HH0.out (by rw [hF.size, Array.size_replicate]) j (by rw [hF.size]; rw [Lib.decDigits_length] at hj; exact hj))
   rw [Lib.decDigits_length] at h
   exact h
  obtain ⟨os, eo⟩ := Lib.fin_at w (.cells Lib.zeros24 162) dk k 0
  have hnx : Below w.heap.size w ((Sort.putRow (fun (b : UInt8) => Value.int .u8 (b.toNat : Int)) (w.alloc (.cells Lib.zeros24 162)) w.heap.size 0 dk).drewN k) := by rw [eo]; exact Lib.below_grow w.heap.size w (Nat.le_refl _) k os
  generalize (Sort.putRow (fun (b : UInt8) => Value.int .u8 (b.toNat : Int)) (w.alloc (.cells Lib.zeros24 162)) w.heap.size 0 dk).drewN k = W2 at hcv hnx ⊢
  clear eo HH0 hfmt
  go_wp2
  go_ret
  exact ⟨rfl, hnx⟩
set_option maxRecDepth 100000 in
theorem format_walk (n b : Int) (r : ByteArray) (w : World) (H : Calls Tryz.prog 97 #[.int .u64 n, .int .i64 b] w fun e w' => e = .returned (.string r) ∧ Below w.heap.size w w') :
  Calls Tryz.prog 75 #[.int .u64 n, .int .i64 b] w fun e w' => e = .returned (.string r) ∧ Below w.heap.size w w' := by
 have HB := Lib.hid H
 clear H
 go_enter Tryz.func75, Tryz.ntmps75
 go_wp2_with (go_at_call 97; refine HB.out.mono ?_; rintro e w' ⟨rfl, hb⟩)
 go_ret
 exact ⟨rfl, hb⟩
noncomputable def strconv_FormatUint_con : Con := con [.one (.fl .u64), .one (.fl .int)] [.one (.fl .str)] (fun x => zq34 x.1 x.2.1)
theorem format_end {n b : Int} {r : ByteArray} {w : World} (h : Calls Tryz.prog 75 #[.int .u64 n, .int .i64 b] w fun e w' => e = .returned (.string r) ∧ Below w.heap.size w w') :
  Calls Tryz.prog 75 #[.int .u64 n, .int .i64 b] w fun e w' => ∃ ρc r' m', e = .returned (den ρc r') ∧ RelM w ρc m' w' ∧ resR [.one (.fl .str)] r' m' = some (r, ()) := by
 refine h.mono ?_
 rintro e w' ⟨rfl, hb⟩
 exact ⟨fun _ => Go.undef, .s r, [], rfl, ⟨hb, fun j o h => by simp at h, fun i j o o' _ h => by simp at h, fun j o h => by simp at h⟩, rfl⟩
theorem strconv_FormatUint_ok : TrOk Tryz.prog 75 strconv_FormatUint_con := con_of _ _ _ fun x y hx ρ us vals w hG hu => by
 obtain ⟨n, b, z⟩ := x
 have hd := hu.den _ (gives_nameOf us)
 have hvals : vals = [.int .u64 n, .int .i64 b] := hd.symm
 subst hvals
 unfold zq34 at hx
 split at hx
 ·rename_i hb
  simp only at hb
  subst hb
  obtain ⟨hq, hx⟩ := req_some hx
  simp only [Bool.and_eq_true, decide_eq_true_eq] at hq
  injection hx with hx
  subst hx
  obtain ⟨u, rfl⟩ := Int.eq_ofNat_of_zero_le hq.1
  exact format_end (format_walk _ _ _ w (uint_hex u (by omega) w hG))
 ·obtain ⟨hq, hx⟩ := req_some hx
  simp only [Bool.and_eq_true, decide_eq_true_eq] at hq
  obtain ⟨rfl, h0, h1⟩ := hq
  injection hx with hx
  subst hx
  obtain ⟨u, rfl⟩ := Int.eq_ofNat_of_zero_le h0
  have e : (dec3 (u : Int).toNat) = Lib.decDigits u := (dec3_eq u (by omega)).symm
  rw [e]
  exact format_end (format_walk _ _ _ w (uint_dec u (by omega) w hG))
end Go.Proofs.YtfkfpgoicmfpkaaGreatDoor
namespace Go.Proofs.YtfkfpgoicmfpkaaGreatDoor
open Go Go.Ma Go.RowKit Go.Proofs
def badE : PanicEntry := { v := .iface 110 (.agg #[]), recovered := false }
def EndU (o : Option Int) (e : Ending) : Prop := match o with
 | some v => e = .returned (.int .u64 v)
 | none => e = .panicked [badE]
theorem endU_some {o : Option Int} {v : Int} (h : o = some v) : EndU o (.returned (.int .u64 v)) := by rw [h]; rfl
theorem endU_none {o : Option Int} (h : o = none) : EndU o (.panicked [badE]) := by rw [h]; rfl
set_option maxRecDepth 100000 in
set_option maxHeartbeats 4000000 in
theorem part_walk (s : ByteArray) (b digits most : Int) (hb : b = 10 ∨ b = 16) (hs : s.size ≤ 281474976710656) (w : World) (hG : Glob Tryz.prog w) :
  Calls Tryz.prog 96 #[.string s, .int .i64 b, .int .i64 digits, .int .u64 most] w fun e w' => EndU (partF s b digits most) e ∧ Below w.heap.size w w' := by
 have hcv := fun w s => Lib.run_convert_string_bytes (P := Tryz.prog) w 9 98 5 s Tryz.underlying9 Tryz.underlying98 Tryz.underlying5
 have HP : Hid (∀ W, Glob Tryz.prog W → Calls Tryz.prog 119 #[.string s, .int .i64 b, .int .i64 32] W fun e w' => NumEnd (numU b s) e ∧ Below W.heap.size W w') := fun W hg => by
  rcases hb with rfl | rfl
  ·exact decPublic s hs W hg
  ·exact hexPublic s hs W hg
 have hb10 : b = 10 ∨ ¬ b = 10 := by omega
 go_enter Tryz.func96, Tryz.ntmps96
 go_wp2
 obtain ⟨cap, hcap⟩ : ∃ cap, cap = grownCap w s.size 0 5 := ⟨_, rfl⟩
 rw [← hcap]
 obtain ⟨w1, hw1⟩ : ∃ w1, w1 = Lib.bytesWorld w 5 s := ⟨_, rfl⟩
 rw [← hw1]
 have HC : Hid (∀ k, k < s.size → w1.cell? ⟨w.heap.size, k, none⟩ = some (.int .u8 ((s.data.toList.getD k 0).toNat : Int))) := fun k hk => by rw [hw1]; exact Lib.bytesWorld_cell _ _ _ _ hk
 have hb1 : Below w.heap.size w w1 := by rw [hw1]; exact Lib.bytesWorld_below _ _ _
 have HA : Hid (∀ k, k < 0 → plainB (s.data.toList.getD k 0) = true) := fun k hk => absurd hk (by omega)
 clear hcv hw1 hcap hb
 go_loopw [16] (fun i wr => ∃ k : Nat, k ≤ s.size ∧ i = .int .i64 k ∧ Hid (∀ k, k < s.size → wr.cell? ⟨w.heap.size, k, none⟩ = some (.int .u8 ((s.data.toList.getD k 0).toNat : Int))) ∧ Hid (∀ j, j < k → plainB (s.data.toList.getD j 0) = true) ∧ Below w.heap.size w wr) (fun i _ => s.size - (intOf i).toNat)
 case atStart => exact ⟨0, Nat.zero_le _, rfl, HC, HA, hb1⟩
 case round =>
  clear HC hb1 HA
  obtain ⟨k, hk, rfl, HC, HA, hb1⟩ := hrel
  by_cases hlt : k < s.size
  ·have cB := HC.out k hlt
   have hgd : s.data.toList.getD k 0 ∈ s.data.toList := by
    rw [List.getD_eq_getElem?_getD, List.getElem?_eq_getElem (by simpa using hlt)]
    exact List.getElem_mem _
   have hltI : (k : Int) < (s.size : Int) := by omega
   by_cases hpl : plainB (s.data.toList.getD k 0) = true
   ·have HA' : Hid (∀ j, j < k + 1 → plainB (s.data.toList.getD j 0) = true) := Lib.hid (fun j hj => by
     by_cases hjk : j = k
     ·rw [hjk]; exact hpl
     ·exact HA.out j (by omega))
    generalize s.data.toList.getD k 0 = c at cB hpl
    have n1 : ((c.toNat : Int) == 43) = false := by
     rw [beq_eq_false_iff_ne]; intro e
     have : c = 43 := UInt8.toNat_inj.1 (by show c.toNat = 43; omega)
     subst this; revert hpl; decide
    have n2 : ((c.toNat : Int) == 45) = false := by
     rw [beq_eq_false_iff_ne]; intro e
     have : c = 45 := UInt8.toNat_inj.1 (by show c.toNat = 45; omega)
     subst this; revert hpl; decide
    have n3 : ((c.toNat : Int) == 95) = false := by
     rw [beq_eq_false_iff_ne]; intro e
     have : c = 95 := UInt8.toNat_inj.1 (by show c.toNat = 95; omega)
     subst this; revert hpl; decide
    clear hpl hgd
    go_wp2
    exact ⟨⟨k + 1, by omega, by go_num, HC, HA', hb1⟩, by simp [intOf]; omega⟩
   ·have hnone : partF s b digits most = none := by
     unfold partF
     rw [if_neg (fun h => hpl ((List.all_eq_true.1 h) _ hgd))]
    generalize s.data.toList.getD k 0 = c at cB hpl
    have hc3 : c = 43 ∨ c = 45 ∨ c = 95 := by
     unfold plainB at hpl
     simp only [Bool.and_eq_true, Bool.not_eq_true', beq_eq_false_iff_ne, not_and, Decidable.not_not, ne_eq] at hpl
     by_cases h1 : c = 43
     ·exact .inl h1
     ·by_cases h2 : c = 45
      ·exact .inr (.inl h2)
      ·exact .inr (.inr (hpl ⟨h1, h2⟩))
    clear hpl hgd HA HC
    rcases hc3 with rfl | rfl | rfl
    ·go_wp2
     exact ⟨rfl, endU_none hnone, hb1⟩
    ·go_wp2
     exact ⟨rfl, endU_none hnone, hb1⟩
    ·go_wp2
     exact ⟨rfl, endU_none hnone, hb1⟩
  ·have hkn : k = s.size := by omega
   subst hkn
   have hall : s.data.toList.all plainB = true := by
    rw [List.all_eq_true]
    intro c hc
    obtain ⟨j, hj⟩ := List.mem_iff_getElem?.1 hc
    have hjl := (List.getElem?_eq_some_iff.1 hj).1
    have := HA.out j (by simpa using hjl)
    rw [List.getD_eq_getElem?_getD, hj] at this
    exact this
   clear HC HA
   have hp0 : partF s b digits most = match numU b s with | none => none | some u => if digits < s.size ∨ most < u ∨ (b = 10 ∧ 1 < s.size ∧ s.data.toList.head? = some 48) then none else some (u : Int) := by
    unfold partF
    rw [if_pos hall]
    rfl
   cases hu : numU b s with
   | none =>
    rw [hu] at hp0 HP
    go_wp2_with (go_at_call 119; refine (HP.out _ (hG.mono hb1)).mono ?_; rintro e w2 ⟨⟨u, ev, rfl, te, pe, rfl⟩, hb2⟩)
    exact ⟨rfl, endU_none hp0, hb1.trans (hb2.mono hb1.size)⟩
   | some n =>
    rw [hu] at hp0 HP
    simp only at hp0
    by_cases g1 : digits < (s.size : Int)
    ·rw [if_pos (.inl g1)] at hp0
     have z1 : decide (digits < (s.size : Int)) = true := decide_eq_true g1
     go_wp2_with (go_at_call 119; refine (HP.out _ (hG.mono hb1)).mono ?_; rintro e w2 ⟨⟨u, ev, rfl, hue⟩, hb2⟩; obtain ⟨rfl, rfl⟩ := hue)
     exact ⟨rfl, endU_none hp0, hb1.trans (hb2.mono hb1.size)⟩
    have z1 : decide (digits < (s.size : Int)) = false := decide_eq_false g1
    by_cases g2 : most < (n : Int)
    ·rw [if_pos (.inr (.inl g2))] at hp0
     have z2 : decide (most < (n : Int)) = true := decide_eq_true g2
     go_wp2_with (go_at_call 119; refine (HP.out _ (hG.mono hb1)).mono ?_; rintro e w2 ⟨⟨u, ev, rfl, hue⟩, hb2⟩; obtain ⟨rfl, rfl⟩ := hue)
     exact ⟨rfl, endU_none hp0, hb1.trans (hb2.mono hb1.size)⟩
    have z2 : decide (most < (n : Int)) = false := decide_eq_false g2
    rcases hb10 with rfl | g3
    rotate_left
    ·rw [if_neg (by rintro (h | h | h); exact g1 h; exact g2 h; exact g3 h.1)] at hp0
     have z3 : (b == 10) = false := by rw [beq_eq_false_iff_ne]; exact g3
     go_wp2_with (go_at_call 119; refine (HP.out _ (hG.mono hb1)).mono ?_; rintro e w2 ⟨⟨u, ev, rfl, hue⟩, hb2⟩; obtain ⟨rfl, rfl⟩ := hue)
     go_ret
     exact ⟨endU_some hp0, hb1.trans (hb2.mono hb1.size)⟩
    by_cases g4 : 1 < s.size
    rotate_left
    ·rw [if_neg (by rintro (h | h | h); exact g1 h; exact g2 h; exact g4 h.2.1)] at hp0
     have z4 : decide (1 < (s.size : Int)) = false := decide_eq_false (by omega)
     go_wp2_with (go_at_call 119; refine (HP.out _ (hG.mono hb1)).mono ?_; rintro e w2 ⟨⟨u, ev, rfl, hue⟩, hb2⟩; obtain ⟨rfl, rfl⟩ := hue)
     go_ret
     exact ⟨endU_some hp0, hb1.trans (hb2.mono hb1.size)⟩
    have z4 : decide (1 < (s.size : Int)) = true := decide_eq_true (by omega)
    have hsz : 0 < s.size := by omega
    have hh0 : s.data.toList.head? = some (s[0]'hsz) := by
     rw [List.head?_eq_getElem?, List.getElem?_eq_getElem (by simpa using hsz)]
     rfl
    rw [hh0] at hp0
    by_cases g5 : s[0]'hsz = 48
    ·rw [if_pos (.inr (.inr ⟨rfl, g4, by rw [g5]⟩))] at hp0
     have z5 : (((s[0]'hsz).toNat : Int) == 48) = true := by rw [g5]; rfl
     go_wp2_with (go_at_call 119; refine (HP.out _ (hG.mono hb1)).mono ?_; rintro e w2 ⟨⟨u, ev, rfl, hue⟩, hb2⟩; obtain ⟨rfl, rfl⟩ := hue)
     exact ⟨rfl, endU_none hp0, hb1.trans (hb2.mono hb1.size)⟩
    ·rw [if_neg (by rintro (h | h | h); exact g1 h; exact g2 h; exact g5 (Option.some.inj h.2.2))] at hp0
     have z5 : (((s[0]'hsz).toNat : Int) == 48) = false := by
      rw [beq_eq_false_iff_ne]
      intro e
      exact g5 (UInt8.toNat_inj.1 (by show (s[0]'hsz).toNat = 48; omega))
     go_wp2_with (go_at_call 119; refine (HP.out _ (hG.mono hb1)).mono ?_; rintro e w2 ⟨⟨u, ev, rfl, hue⟩, hb2⟩; obtain ⟨rfl, rfl⟩ := hue)
     go_ret
     exact ⟨endU_some hp0, hb1.trans (hb2.mono hb1.size)⟩
theorem splitOn_len (s : ByteArray) (c : UInt8) : (splitOn s c).length = Lib.countB s ⟨#[c]⟩ + 1 := Lib.splitB_all ⟨#[c]⟩ (Nat.le_refl _) 0 _ s rfl
theorem splitOn_le (s : ByteArray) (c : UInt8) : (splitOn s c).length ≤ s.size + 1 := by
 rw [splitOn_len]
 have := Lib.countB_le ⟨#[c]⟩ (Nat.le_refl _) s.size s (Nat.le_refl _)
 omega
theorem split_calls (s : ByteArray) (c : UInt8) (w : World) (hs : s.size < 4294967281) :
  Calls Tryz.prog 95 #[.string s, .string ⟨#[c]⟩] w fun e w' =>
   e = .returned (.slice (some ⟨w.heap.size, 0, none⟩) (splitOn s c).length (splitOn s c).length) ∧ Below w.heap.size w w' ∧ w.heap.size < w'.heap.size ∧ ∀ (k : Nat) x, (splitOn s c)[k]? = some x → w'.cell? ⟨w.heap.size, k, none⟩ = some (.string x) := by
 refine (split_one s c w hs).mono ?_
 rintro e w' ⟨rfl, rfl⟩
 have hl := splitOn_len s c
 refine ⟨by rw [hl], (Below.refl _ w).alloc (Nat.le_refl _) _, by simp, fun k x hx => ?_⟩
 have hn := heap_alloc_new w (.cells ((splitOn s c).map Value.string).toArray 9)
 show (w.alloc (.cells ((splitOn s c).map Value.string).toArray 9)).cell? _ = _
 unfold World.cell?
 simp only
 rw [hn]
 simp [hx]
theorem splitOn_sizes (s : ByteArray) (c : UInt8) : ∀ x ∈ splitOn s c, x.size ≤ s.size := by
 have key : ∀ (k : Nat) (s : ByteArray), ∀ x ∈ Lib.splitB ⟨#[c]⟩ 0 k s, x.size ≤ s.size := by
  intro k
  induction k with
  | zero => intro s x hx; simp only [Lib.splitB, List.mem_singleton] at hx; rw [hx]; exact Nat.le_refl _
  | succ k ih =>
   intro s x hx
   rw [Lib.splitB] at hx
   split at hx
   ·simp only [List.mem_singleton] at hx; rw [hx]; exact Nat.le_refl _
   ·rcases List.mem_cons.1 hx with rfl | hx
    ·rw [ByteArray.size_extract]; omega
    ·have := ih _ x hx
     rw [ByteArray.size_extract] at this
     omega
 exact key _ s
theorem cells_stay {w w' : World} {b : Nat} {l : List ByteArray} (h : ∀ (k : Nat) x, l[k]? = some x → w.cell? ⟨b, k, none⟩ = some (.string x)) (hb : Below w.heap.size w w') : ∀ (k : Nat) x, l[k]? = some x → w'.cell? ⟨b, k, none⟩ = some (.string x) :=
 fun k x hx => cell_stays hb (h k x hx)
set_option maxRecDepth 100000 in
set_option maxHeartbeats 4000000 in
theorem four_walk (s : ByteArray) (hs : s.size ≤ 4294967200) (w : World) (hG : Glob Tryz.prog w) :
  Calls Tryz.prog 74 #[.string s] w fun e w' => EndU (fourF s) e ∧ Below w.heap.size w w' := by
 have HS := split_calls s 46 w (by omega)
 have hsz := splitOn_sizes s 46
 have hf : fourF s = if (splitOn s 46).length = 4 then fourL (splitOn s 46) 0 else none := rfl
 generalize splitOn s 46 = l at HS hsz hf
 rw [hf]
 clear hf
 have HS := Lib.hid HS
 go_enter Tryz.func74, Tryz.ntmps74
 by_cases h4 : l.length = 4
 rotate_left
 ·have h4i : ((l.length : Int) == 4) = false := by rw [beq_eq_false_iff_ne]; omega
  rw [if_neg h4]
  go_wp2_with (go_at_call 95; refine HS.out.mono ?_; rintro e w1 ⟨rfl, hb1, hn1, hc1⟩)
  exact ⟨rfl, rfl, hb1⟩
 ·rw [if_pos h4]
  have h4i : ((l.length : Int) == 4) = true := by rw [h4]; rfl
  go_wp2_with (go_at_call 95; refine HS.out.mono ?_; rintro e w1 ⟨rfl, hb1, hn1, hc1⟩)
  have HC : Hid (∀ (k : Nat) x, l[k]? = some x → w1.cell? ⟨w.heap.size, k, none⟩ = some (.string x)) := hc1
  clear hc1 HS
  go_loopw [4, 16] (fun vn vi wr => ∃ (k : Nat) (n : Int), vn = .int .u64 n ∧ vi = .int .i64 k ∧ k ≤ l.length ∧ Hid (fourL l 0 = fourL (l.drop k) n) ∧ Hid (∀ (k : Nat) x, l[k]? = some x → wr.cell? ⟨w.heap.size, k, none⟩ = some (.string x)) ∧ Below w.heap.size w wr ∧ w.heap.size < wr.heap.size) (fun _ vi _ => l.length - (intOf vi).toNat)
  case atStart => exact ⟨0, 0, rfl, rfl, Nat.zero_le _, Lib.hid rfl, HC, hb1, hn1⟩
  case round =>
   clear HC hb1 hn1
   obtain ⟨k, n, rfl, rfl, hk, HF, HC, hb1, hn1⟩ := hrel
   by_cases hlt : k < l.length
   ·obtain ⟨x, hx⟩ : ∃ x, l[k]? = some x := ⟨_, List.getElem?_eq_getElem hlt⟩
    have cB := HC.out k x hx
    have hltI : (k : Int) < (l.length : Int) := by omega
    have hfx : fourL l 0 = match partF x 10 3 255 with | none => none | some u => fourL (l.drop (k + 1)) (aop .or .u64 (aop .shl .u64 n 8) u) := by
     rw [HF.out, List.drop_eq_getElem_cons hlt, (List.getElem?_eq_some_iff.1 hx).2]
     rfl
    have HP : Hid (∀ W, Below w.heap.size w W → Calls Tryz.prog 96 #[.string x, .int .i64 10, .int .i64 3, .int .u64 255] W fun e w' => EndU (partF x 10 3 255) e ∧ Below W.heap.size W w') := fun W hW =>
     part_walk x 10 3 255 (.inl rfl) (by have := hsz x (List.mem_of_getElem? hx); omega) W (hG.mono hW)
    cases hp : partF x 10 3 255 with
    | none =>
     rw [hp] at hfx HP
     have hfx : fourL l 0 = none := hfx
     go_wp2_with (go_at_call 96; refine (HP.out _ hb1).mono ?_; rintro e w2 ⟨he, hb2⟩; have he : e = .panicked [badE] := he; subst he)
     exact ⟨rfl, endU_none hfx, hb1.trans (hb2.mono hb1.size)⟩
    | some u =>
     rw [hp] at hfx HP
     simp only at hfx
     go_wp2_with (go_at_call 96; refine (HP.out _ hb1).mono ?_; rintro e w2 ⟨he, hb2⟩; have he : e = .returned (.int .u64 u) := he; subst he)
     exact ⟨⟨k + 1, _, rfl, by go_num, by omega, Lib.hid hfx, Lib.hid (cells_stay HC.out hb2), hb1.trans (hb2.mono hb1.size), Nat.lt_of_lt_of_le hn1 hb2.size⟩, by simp [intOf]; omega⟩
   ·have hkn : k = l.length := by omega
    subst hkn
    have hfx : fourL l 0 = some n := by rw [HF.out, List.drop_length]; rfl
    go_wp2
    go_ret
    exact ⟨endU_some hfx, hb1⟩
theorem below_grown' {A C : World} (hb : Below A.heap.size A C) : A.grownBy C none := ⟨hb.os, hb.tape, hb.output, hb.size, fun k hk _ => hb.block k hk⟩
theorem infoU64 : (Tryz.prog.info? 23).map (fun i => (i.zero, i.size, i.bytes)) = some (some (.int .u64 0), 1, 8) := by kernel_rfl
theorem below_grownQ {N : Nat} {a w w1 : World} {row : Option Nat} (h : Below N a w) (hg : w.grownBy w1 row) (hr : ∀ b, row = some b → N ≤ b) (hN : N ≤ w.heap.size) : Below N a w1 :=
 ⟨hg.os.trans h.os, hg.tape.trans h.tape, hg.output.trans h.output, Nat.le_trans h.size hg.size, fun k hk => (hg.block k (Nat.lt_of_lt_of_le hk hN) (fun e => absurd (hr k e.symm) (by omega))).trans (h.block k hk)⟩
theorem cells_new (w : World) (cs : List Value) (t : TypeId) : ∀ (j : Nat) u, cs[j]? = some u → (w.alloc (.cells cs.toArray t)).cell? (Addr.add ⟨w.heap.size, 0, none⟩ j) = some u := fun j u hj => by
 have hn := heap_alloc_new w (.cells cs.toArray t)
 rw [Addr.add_lit]
 unfold World.cell?
 simp only
 rw [hn]
 simp [hj]
theorem own_block_ge {w : World} {base : Nat} {e : TypeId} {size : Nat} {v : Value} {n : Nat} {xs : List Value} (h : w.ownsRow base e size v n xs) : ∀ b, v.ownBlock = some b → base ≤ b := fun b hb => by
 obtain ⟨_, ⟨rfl, _⟩ | ⟨g, cap, cur, rfl, hg, _⟩⟩ := h
 ·cases hb
 ·cases hb; exact hg
def EndRow (base : Nat) (o : Option (List Int)) (e : Ending) (w' : World) : Prop := match o with
 | some l => ∃ v, e = .returned v ∧ w'.ownsRow base 23 1 v l.length (l.map (Value.int .u64))
 | none => e = .panicked [badE]
theorem someL_cons {last : Bool} {len : Nat} {l : List ByteArray} {k : Nat} {x : ByteArray} (hx : l[k]? = some x) (out : List Int) : someL last len (l.drop k) k out =
  if last = true ∧ k + 1 = len ∧ dotIn x = true then (match fourF x with | none => none | some n => someL last len (l.drop (k + 1)) (k + 1) (out ++ [n / 65536, aop .and .u64 n 65535]))
  else (match partF x 16 4 65535 with | none => none | some u => someL last len (l.drop (k + 1)) (k + 1) (out ++ [u])) := by
 obtain ⟨h1, h2⟩ := List.getElem?_eq_some_iff.1 hx
 rw [List.drop_eq_getElem_cons h1, h2]
 rfl
set_option maxRecDepth 100000 in
set_option maxHeartbeats 8000000 in
theorem some_walk (s : ByteArray) (last : Bool) (hs : s.size ≤ 4294967200) (w : World) (hG : Glob Tryz.prog w) :
  Calls Tryz.prog 94 #[.string s, .bool last] w fun e w' => EndRow w.heap.size (someF s last) e w' ∧ Below w.heap.size w w' := by
 obtain ⟨i0, hi, hz0, hz1, hz2⟩ := info_parts infoU64
 by_cases h0 : s.size = 0
 ·have hse : s = ByteArray.empty := by
   cases s with | mk a =>
   have : a = #[] := Array.eq_empty_of_size_eq_zero h0
   rw [this]; rfl
  subst hse
  go_enter Tryz.func94, Tryz.ntmps94
  go_wp2
  go_ret
  exact ⟨⟨_, rfl, World.ownsRow_nil _ _ _ _⟩, Below.refl _ _⟩
 have hemp : s.toList.isEmpty = false := by
  rw [← decide_eq_emptyBytes]
  exact decide_eq_false (fun h => h0 (by rw [h]; rfl))
 have HS := split_calls s 58 w (by omega)
 have hsz := splitOn_sizes s 58
 have hle := splitOn_le s 58
 have hf : someF s last = someL last (splitOn s 58).length (splitOn s 58) 0 [] := by unfold someF; rw [if_neg h0]
 generalize splitOn s 58 = l at HS hsz hle hf
 rw [hf]
 clear hf
 have HS := Lib.hid HS
 go_enter Tryz.func94, Tryz.ntmps94
 go_wp2_with (go_at_call 95; refine HS.out.mono ?_; rintro e w1 ⟨rfl, hb1, hn1, hc1⟩)
 have HC : Hid (∀ (k : Nat) x, l[k]? = some x → w1.cell? ⟨w.heap.size, k, none⟩ = some (.string x)) := hc1
 clear hc1 HS
 obtain ⟨B, hB⟩ : ∃ B, B = w1.heap.size := ⟨_, rfl⟩
 go_loopw [5, 16] (fun vo vi wr => ∃ (k : Nat) (out : List Int), vi = .int .i64 k ∧ k ≤ l.length ∧ Hid (someL last l.length l 0 [] = someL last l.length (l.drop k) k out) ∧ Hid (∀ (k : Nat) x, l[k]? = some x → wr.cell? ⟨w.heap.size, k, none⟩ = some (.string x)) ∧ wr.ownsRow B 23 1 vo out.length (out.map (Value.int .u64)) ∧ out.length ≤ 2 * k ∧ Below B w1 wr) (fun _ vi _ => l.length - (intOf vi).toNat)
 case atStart => exact ⟨0, [], rfl, Nat.zero_le _, Lib.hid rfl, HC, World.ownsRow_nil _ _ _ _, by simp, by rw [hB]; exact Below.refl _ _⟩
 case round =>
  clear HC
  obtain ⟨k, out, rfl, hk, HF, HC, hown, hol, hbr⟩ := hrel
  have hbw : Below w.heap.size w wr := hb1.trans (hbr.mono (by omega))
  have hBr : B ≤ wr.heap.size := by rw [hB]; exact hbr.size
  by_cases hlt : k < l.length
  ·obtain ⟨x, hx⟩ : ∃ x, l[k]? = some x := ⟨_, List.getElem?_eq_getElem hlt⟩
   have cB := HC.out k x hx
   have hltI : (k : Int) < (l.length : Int) := by omega
   have hxs := hsz x (List.mem_of_getElem? hx)
   have hfx : someL last l.length l 0 [] = _ := HF.out.trans (someL_cons hx out)
   have HP : Hid (∀ W, Below w.heap.size w W → Calls Tryz.prog 96 #[.string x, .int .i64 16, .int .i64 4, .int .u64 65535] W fun e w' => EndU (partF x 16 4 65535) e ∧ Below W.heap.size W w') := fun W hW =>
    part_walk x 16 4 65535 (.inr rfl) (by omega) W (hG.mono hW)
   have H4 : Hid (∀ W, Below w.heap.size w W → Calls Tryz.prog 74 #[.string x] W fun e w' => EndU (fourF x) e ∧ Below W.heap.size W w') := fun W hW =>
    four_walk x (by omega) W (hG.mono hW)
   have HD : Hid (∀ W, Calls Tryz.prog 72 #[.string x, .string ⟨#[46]⟩] W fun e w' => e = .returned (.bool (dotIn x)) ∧ w' = W) := fun W => Go.Proofs.Tryz.strings_Contains_one x 46 W
   by_cases hcond : last = true ∧ k + 1 = l.length ∧ dotIn x = true
   ·rw [if_pos hcond] at hfx
    obtain ⟨rfl, hk1, hd⟩ := hcond
    rw [hd] at HD
    have hk1i : ((k : Int) == (l.length : Int) - 1) = true := by rw [beq_iff_eq]; omega
    cases hp : fourF x with
    | none =>
     rw [hp] at hfx H4
     have hfx : someL true l.length l 0 [] = none := hfx
     go_wp2_with (first | (go_at_call 72; refine (HD.out _).mono ?_; rintro e w2 ⟨rfl, hw2⟩; have hw2 := hw2.symm; subst hw2) | (go_at_call 74; refine (H4.out _ hbw).mono ?_; rintro e w2 ⟨he, hb2⟩; have he : e = .panicked [badE] := he; subst he))
     exact ⟨rfl, by rw [hfx]; rfl, hbw.trans (hb2.mono hbw.size)⟩
    | some n =>
     rw [hp] at hfx H4
     simp only at hfx
     go_wp2_with (first | (go_at_call 72; refine (HD.out _).mono ?_; rintro e w2 ⟨rfl, hw2⟩; have hw2 := hw2.symm; subst hw2) | (go_at_call 74; refine (H4.out _ hbw).mono ?_; rintro e w2 ⟨he, hb2⟩; have he : e = .returned (.int .u64 n) := he; subst he; have hown2 := hown.kept (below_grown' hb2) (Classical.em _); have hs2 := hb2.size) | (at_builtin; refine wpList_append_own_at _ rfl _ _ 133 rfl B 23 i0 (.int .u64 0) 1 8 Tryz.underlying133 hi hz0 hz1 hz2 rfl (by decide) _ _ _ rfl (hown2.alloc _) ⟨w2.heap.size, 0, none⟩ 2 2 [.int .u64 (n / 65536), .int .u64 (bits .and .u64 n 65535)] rfl rfl (cells_new _ _ _) (by simp [Value.oneCell']) (by unfold maxLen; omega) (by omega) (by simp; omega) ?_; intro v' w3 hown' hgrow hnil hloc))
     have hg3 : w2.grownBy w3 u5.ownBlock := (World.grownBy_alloc w2 _ _).trans hgrow
     have hbe : ∀ b, u5.ownBlock = some b → B ≤ b := own_block_ge hown
     have hh : Below B wr w3 := below_grownQ (hb2.mono hBr) hg3 hbe (by omega)
     have HN : Hid (∀ (k : Nat) x, l[k]? = some x → w3.cell? ⟨w.heap.size, k, none⟩ = some (.string x)) := Lib.hid fun k x hx => (hh.cell (p := ⟨w.heap.size, k, none⟩) (by show w.heap.size < B; omega)).trans (HC.out k x hx)
     exact ⟨⟨k + 1, out ++ [n / 65536, aop .and .u64 n 65535], by go_num, by omega, Lib.hid hfx, HN, by rw [List.length_append, List.map_append]; exact hown', by simp; omega, hbr.trans hh⟩, by simp [intOf]; omega⟩
   ·rw [if_neg hcond] at hfx
    cases last with
    | false =>
     cases hp : partF x 16 4 65535 with
     | none =>
      rw [hp] at hfx HP
      have hfx : someL _ l.length l 0 [] = none := hfx
      go_wp2_with (first | (go_at_call 72; refine (HD.out _).mono ?_; rintro e w2 ⟨rfl, hw2⟩; have hw2 := hw2.symm; subst hw2) | (go_at_call 96; refine (HP.out _ hbw).mono ?_; rintro e w2 ⟨he, hb2⟩; have he : e = .panicked [badE] := he; subst he))
      exact ⟨rfl, by rw [hfx]; rfl, hbw.trans (hb2.mono hbw.size)⟩
     | some u =>
      rw [hp] at hfx HP
      simp only at hfx
      go_wp2_with (first | (go_at_call 72; refine (HD.out _).mono ?_; rintro e w2 ⟨rfl, hw2⟩; have hw2 := hw2.symm; subst hw2) | (go_at_call 96; refine (HP.out _ hbw).mono ?_; rintro e w2 ⟨he, hb2⟩; have he : e = .returned (.int .u64 u) := he; subst he; have hown2 := hown.kept (below_grown' hb2) (Classical.em _); have hs2 := hb2.size) | (at_builtin; refine wpList_append_own_at _ rfl _ _ 133 rfl B 23 i0 (.int .u64 0) 1 8 Tryz.underlying133 hi hz0 hz1 hz2 rfl (by decide) _ _ _ rfl (hown2.alloc _) ⟨w2.heap.size, 0, none⟩ 1 1 [.int .u64 u] rfl rfl (cells_new _ _ _) (by simp [Value.oneCell']) (by unfold maxLen; omega) (by omega) (by simp; omega) ?_; intro v' w3 hown' hgrow hnil hloc))
      have hg3 : w2.grownBy w3 u5.ownBlock := (World.grownBy_alloc w2 _ _).trans hgrow
      have hbe : ∀ b, u5.ownBlock = some b → B ≤ b := own_block_ge hown
      have hh : Below B wr w3 := below_grownQ (hb2.mono hBr) hg3 hbe (by omega)
      have HN : Hid (∀ (k : Nat) x, l[k]? = some x → w3.cell? ⟨w.heap.size, k, none⟩ = some (.string x)) := Lib.hid fun k x hx => (hh.cell (p := ⟨w.heap.size, k, none⟩) (by show w.heap.size < B; omega)).trans (HC.out k x hx)
      exact ⟨⟨k + 1, out ++ [u], by go_num, by omega, Lib.hid hfx, HN, by rw [List.length_append, List.map_append]; exact hown', by simp; omega, hbr.trans hh⟩, by simp [intOf]; omega⟩
    | true =>
     by_cases hk1 : k + 1 = l.length
     ·have hk1i : ((k : Int) == (l.length : Int) - 1) = true := by rw [beq_iff_eq]; omega
      have hd : dotIn x = false := by
       cases hdd : dotIn x
       ·rfl
       ·exact absurd ⟨rfl, hk1, hdd⟩ hcond
      rw [hd] at HD
      cases hp : partF x 16 4 65535 with
      | none =>
       rw [hp] at hfx HP
       have hfx : someL _ l.length l 0 [] = none := hfx
       go_wp2_with (first | (go_at_call 72; refine (HD.out _).mono ?_; rintro e w2 ⟨rfl, hw2⟩; have hw2 := hw2.symm; subst hw2) | (go_at_call 96; refine (HP.out _ hbw).mono ?_; rintro e w2 ⟨he, hb2⟩; have he : e = .panicked [badE] := he; subst he))
       exact ⟨rfl, by rw [hfx]; rfl, hbw.trans (hb2.mono hbw.size)⟩
      | some u =>
       rw [hp] at hfx HP
       simp only at hfx
       go_wp2_with (first | (go_at_call 72; refine (HD.out _).mono ?_; rintro e w2 ⟨rfl, hw2⟩; have hw2 := hw2.symm; subst hw2) | (go_at_call 96; refine (HP.out _ hbw).mono ?_; rintro e w2 ⟨he, hb2⟩; have he : e = .returned (.int .u64 u) := he; subst he; have hown2 := hown.kept (below_grown' hb2) (Classical.em _); have hs2 := hb2.size) | (at_builtin; refine wpList_append_own_at _ rfl _ _ 133 rfl B 23 i0 (.int .u64 0) 1 8 Tryz.underlying133 hi hz0 hz1 hz2 rfl (by decide) _ _ _ rfl (hown2.alloc _) ⟨w2.heap.size, 0, none⟩ 1 1 [.int .u64 u] rfl rfl (cells_new _ _ _) (by simp [Value.oneCell']) (by unfold maxLen; omega) (by omega) (by simp; omega) ?_; intro v' w3 hown' hgrow hnil hloc))
       have hg3 : w2.grownBy w3 u5.ownBlock := (World.grownBy_alloc w2 _ _).trans hgrow
       have hbe : ∀ b, u5.ownBlock = some b → B ≤ b := own_block_ge hown
       have hh : Below B wr w3 := below_grownQ (hb2.mono hBr) hg3 hbe (by omega)
       have HN : Hid (∀ (k : Nat) x, l[k]? = some x → w3.cell? ⟨w.heap.size, k, none⟩ = some (.string x)) := Lib.hid fun k x hx => (hh.cell (p := ⟨w.heap.size, k, none⟩) (by show w.heap.size < B; omega)).trans (HC.out k x hx)
       exact ⟨⟨k + 1, out ++ [u], by go_num, by omega, Lib.hid hfx, HN, by rw [List.length_append, List.map_append]; exact hown', by simp; omega, hbr.trans hh⟩, by simp [intOf]; omega⟩
     ·have hk1i : ((k : Int) == (l.length : Int) - 1) = false := by rw [beq_eq_false_iff_ne]; omega
      cases hp : partF x 16 4 65535 with
      | none =>
       rw [hp] at hfx HP
       have hfx : someL _ l.length l 0 [] = none := hfx
       go_wp2_with (first | (go_at_call 72; refine (HD.out _).mono ?_; rintro e w2 ⟨rfl, hw2⟩; have hw2 := hw2.symm; subst hw2) | (go_at_call 96; refine (HP.out _ hbw).mono ?_; rintro e w2 ⟨he, hb2⟩; have he : e = .panicked [badE] := he; subst he))
       exact ⟨rfl, by rw [hfx]; rfl, hbw.trans (hb2.mono hbw.size)⟩
      | some u =>
       rw [hp] at hfx HP
       simp only at hfx
       go_wp2_with (first | (go_at_call 72; refine (HD.out _).mono ?_; rintro e w2 ⟨rfl, hw2⟩; have hw2 := hw2.symm; subst hw2) | (go_at_call 96; refine (HP.out _ hbw).mono ?_; rintro e w2 ⟨he, hb2⟩; have he : e = .returned (.int .u64 u) := he; subst he; have hown2 := hown.kept (below_grown' hb2) (Classical.em _); have hs2 := hb2.size) | (at_builtin; refine wpList_append_own_at _ rfl _ _ 133 rfl B 23 i0 (.int .u64 0) 1 8 Tryz.underlying133 hi hz0 hz1 hz2 rfl (by decide) _ _ _ rfl (hown2.alloc _) ⟨w2.heap.size, 0, none⟩ 1 1 [.int .u64 u] rfl rfl (cells_new _ _ _) (by simp [Value.oneCell']) (by unfold maxLen; omega) (by omega) (by simp; omega) ?_; intro v' w3 hown' hgrow hnil hloc))
       have hg3 : w2.grownBy w3 u5.ownBlock := (World.grownBy_alloc w2 _ _).trans hgrow
       have hbe : ∀ b, u5.ownBlock = some b → B ≤ b := own_block_ge hown
       have hh : Below B wr w3 := below_grownQ (hb2.mono hBr) hg3 hbe (by omega)
       have HN : Hid (∀ (k : Nat) x, l[k]? = some x → w3.cell? ⟨w.heap.size, k, none⟩ = some (.string x)) := Lib.hid fun k x hx => (hh.cell (p := ⟨w.heap.size, k, none⟩) (by show w.heap.size < B; omega)).trans (HC.out k x hx)
       exact ⟨⟨k + 1, out ++ [u], by go_num, by omega, Lib.hid hfx, HN, by rw [List.length_append, List.map_append]; exact hown', by simp; omega, hbr.trans hh⟩, by simp [intOf]; omega⟩
  ·have hkn : k = l.length := by omega
   subst hkn
   have hfx : someL last l.length l 0 [] = some out := by rw [HF.out, List.drop_length]; rfl
   go_wp2
   go_ret
   refine ⟨?_, hbw⟩
   rw [hfx]
   exact ⟨_, rfl, hown.mono (by omega)⟩
end Go.Proofs.YtfkfpgoicmfpkaaGreatDoor
namespace Go.Proofs.YtfkfpgoicmfpkaaGreatDoor
open Go Go.Ma Go.RowKit Go.Proofs
theorem append_zeros_own {P : Program} (w : World) (base : Nat) (t tn ty e : TypeId) (i : TypeInfo) (z : Value) (bytes : Nat) (kn : IntKind) (ht : P.underlying t = some (.slice e)) (htn : P.underlying tn = some (.int kn)) (hi : P.info? e = some i) (hz : i.zero = some z)
  (hsize : i.size = 1) (hby : i.bytes = bytes) (hzs : z.cells.size = 1) (v : Value) (n : Nat) (xs : List Value) (hown : w.ownsRow base e 1 v n xs) (k : Nat) (h0 : 0 < k)
  (h63 : n + k ≤ maxLen) (hbytes : (n + k) * bytes ≤ 140737488355328) (hbase : base ≤ w.heap.size) (h1 : ∀ u ∈ (Builtin.zeroCells z.cells k).toList, u.oneCell' = true) :
  ∃ v' w', (Builtin.append_ #[t, tn] ty #[v, .int .i64 (k : Int)]).run P w = .ok v' w' ∧ w'.ownsRow base e 1 v' (n + k) (xs ++ (Builtin.zeroCells z.cells k).toList) ∧ w.grownBy w' v.ownBlock := by
 subst hby
 have hsmall : n + k ≤ 9223372036854775807 := by simp only [maxLen] at h63; omega
 have hzl : (Builtin.zeroCells z.cells k).toList.length = k := by rw [Array.length_toList, size_zeroCells, hzs, Nat.mul_one]
 have hlen : (xs ++ (Builtin.zeroCells z.cells k).toList).length = (n + k) * 1 := by rw [List.length_append, hown.1, hzl]; omega
 have grown : ∀ (old : Nat), old < n + k → ∀ (row : Option Nat),
   (w.drew.alloc (.cells (xs.toArray ++ Builtin.zeroCells z.cells k ++ Builtin.zeroCells z.cells (grownCap w (n + k) old e - (n + k))) e)).ownsRow base e 1
    (.slice (some ⟨w.heap.size, 0, none⟩) (n + k) (grownCap w (n + k) old e)) (n + k) (xs ++ (Builtin.zeroCells z.cells k).toList) ∧
   w.grownBy (w.drew.alloc (.cells (xs.toArray ++ Builtin.zeroCells z.cells k ++ Builtin.zeroCells z.cells (grownCap w (n + k) old e - (n + k))) e)) row := by
  intro old ho row
  have hge := grownCap_ge w (n + k) old e
  have hcm : grownCap w (n + k) old e ≤ maxLen := grownCap_le_maxLen w (n + k) old e h63
  refine ⟨⟨hlen, .inr ⟨w.heap.size, _, _, rfl, hbase, heap_alloc_new w.drew _, hge, hcm, ?_, ?_⟩⟩, ⟨rfl, rfl, rfl, by simp, fun j hj _ => (by first | exact heap_alloc_old w.drew _ j hj | exact heap_alloc_old w.drew _ hj)⟩⟩
  ·have := hown.1
   simp only [Array.size_append, List.size_toArray, size_zeroCells, hzs]
   omega
  ·simp only [Array.toList_append]
   rw [← hlen]
   exact List.take_left
 rcases hown.2 with ⟨rfl, rfl⟩ | ⟨g, cap, cur, rfl, hbg, hg, hnc, hcm, hcs, htake⟩
 ·have hx : xs = [] := List.eq_nil_of_length_eq_zero (by simpa using hown.1)
  subst hx
  have hr := Lib.run_append_nil_zeros (P := P) w t tn ty e i z .i64 kn ht htn hi hz k h0 (by omega) (by omega) (by simp only [Nat.zero_add] at hbytes; omega)
  have hgr := grown 0 (by omega) (Value.ownBlock (.slice none 0 0))
  simp only [Nat.zero_add, List.nil_append, Array.empty_append] at hgr ⊢
  exact ⟨_, _, hr, hgr.1, hgr.2⟩
 ·by_cases hroom : n + k ≤ cap
  ·have hfit : n + k ≤ cur.size := by rw [hcs]; omega
   have hst := run_storeCells_at P g n e (Builtin.zeroCells z.cells k).toList 0 cur w hg (by rw [hzl]; omega) h1
   simp only [Nat.add_zero] at hst
   have hk0 : k ≠ 0 := by omega
   have hw : IntKind.i64.wrap (k : Int) = k := by rw [IntKind.wrap_i64]; omega
   have hneg : ¬ ((k : Int) < 0) := by omega
   have h48i : ¬ (281474976710656 < (k : Int) * (i.bytes : Int)) := by
    rw [← Int.natCast_mul]
    have : k * i.bytes ≤ (n + k) * i.bytes := Nat.mul_le_mul_right _ (by omega)
    omega
   have hr : (Builtin.append_ #[t, tn] ty #[.slice (some ⟨g, 0, none⟩) n cap, .int .i64 (k : Int)]).run P w = .ok (.slice (some ⟨g, 0, none⟩) (n + k) cap) (w.setRow g (cur.toList.take n ++ (Builtin.zeroCells z.cells k).toList ++ cur.toList.drop (n + (Builtin.zeroCells z.cells k).toList.length)).toArray) := by
    simp [Builtin.append_, run_underlying ht, run_underlying htn, sizeOf, typeInfo, zeroValue, hi, hz, hsize, asInt, asIntOf, hw, hroom, hneg, hk0, h48i, Addr.add_lit, hst]
   refine ⟨_, _, hr, ⟨hlen, .inr ⟨g, cap, _, rfl, hbg, setRow_heap w g cur _ e _ hg, hroom, hcm, ?_, ?_⟩⟩, ⟨rfl, rfl, rfl, by simp, fun k _ hk => setRow_other w g k _ (fun e => hk (by simp [Value.ownBlock, e]))⟩⟩
   ·simp only [List.size_toArray, List.length_append, List.length_take, List.length_drop, Array.length_toList, hzl, size_zeroCells, hzs]
    omega
   ·have ht2 : cur.toList.take n = xs := by rw [← htake, Nat.mul_one]
    rw [ht2, ← hlen]
    exact List.take_left
  ·have holds : ∀ j u, xs[j]? = some u → w.cell? ((⟨g, 0, none⟩ : Addr).add j) = some u := hown.cells (g := g) rfl
   have hold : (Builtin.firstCells i.size n (.slice (some ⟨g, 0, none⟩) n cap)).run P w.drew = .ok xs.toArray w.drew := by
    have := run_firstCells_some (P := P) w.drew i.size n ⟨g, 0, none⟩ n cap xs (by rw [hsize]; exact hown.1) (fun j u hj => holds j u hj)
    exact this
   have hr := Lib.run_append_grow_zeros (P := P) w t tn ty e i z .i64 kn ht htn hi hz (some ⟨g, 0, none⟩) n cap xs hold k h0 (by omega) (by omega) (by omega) (by
     have : k * i.bytes ≤ (n + k) * i.bytes := Nat.mul_le_mul_right _ (by omega)
     omega) (growslice_fits (by omega) hbytes)
   have hgr := grown cap (by omega) (Value.ownBlock (.slice (some ⟨g, 0, none⟩) n cap))
   exact ⟨_, _, hr, hgr.1, hgr.2⟩
theorem row_form {w : World} {base : Nat} {e : TypeId} {v : Value} {l : List Int} (h : w.ownsRow base e 1 v l.length (l.map (Value.int .u64))) (h0 : 0 < l.length) :
  ∃ g cap, v = .slice (some ⟨g, 0, none⟩) l.length cap ∧ base ≤ g ∧ g < w.heap.size ∧ Hid (∀ (j : Nat) x, l[j]? = some x → w.cell? ⟨g, j, none⟩ = some (.int .u64 x)) := by
 have hc := @World.ownsRow.cells w base e 1 v l.length (l.map (Value.int .u64)) h
 obtain ⟨_, ⟨_, hn⟩ | ⟨g, cap, cur, rfl, hg, hh, _⟩⟩ := h
 ·omega
 ·refine ⟨g, cap, rfl, hg, (Array.getElem?_eq_some_iff.1 hh).1, Lib.hid fun j x hx => ?_⟩
  have := hc (g := g) rfl j (.int .u64 x) (by simp [hx])
  rwa [Addr.add_lit, Nat.zero_add] at this
theorem own_slice {w : World} {base : Nat} {e : TypeId} {v : Value} {n : Nat} {xs : List Value} (h : w.ownsRow base e 1 v n xs) :
  ∃ A c, v = .slice A n c ∧ (A = none → n = 0) ∧ ∀ ad, A = some ad → base ≤ ad.block ∧ ad.block < w.heap.size ∧ ∀ j u, xs[j]? = some u → w.cell? (ad.add j) = some u := by
 have hc := fun g => @World.ownsRow.cells w base e 1 v n xs h g
 obtain ⟨_, ⟨rfl, hn⟩ | ⟨g, cap, cur, rfl, hg, hh, _⟩⟩ := h
 ·exact ⟨none, 0, (by rw [hn]), (fun _ => hn), fun ad had => (by cases had)⟩
 ·refine ⟨_, cap, rfl, (fun h => by cases h), fun ad had => ?_⟩
  cases had
  exact ⟨hg, (Array.getElem?_eq_some_iff.1 hh).1, fun j u hj => hc g rfl j u hj⟩
theorem own_block {A : Option Addr} {n c b : Nat} (h : (Value.slice A n c).ownBlock = some b) : ∃ ad, A = some ad ∧ ad.block = b := by
 cases A with
 | none => cases h
 | some ad => exact ⟨ad, rfl, by injection h⟩
theorem zero_list (k : Nat) : (Builtin.zeroCells (Value.int IntKind.u64 0).cells k).toList = (List.replicate k (0 : Int)).map (Value.int .u64) := by
 apply List.ext_getElem?
 intro i
 by_cases h : i < k
 ·simp [Builtin.zeroCells, Value.cells, List.getElem?_replicate, h, Nat.mod_one]
 ·simp [Builtin.zeroCells, Value.cells, List.getElem?_replicate, h]
theorem zero_one (k : Nat) : ∀ u ∈ (Builtin.zeroCells (Value.int IntKind.u64 0).cells k).toList, u.oneCell' = true := by
 rw [zero_list]
 simp [Value.oneCell']
theorem below_own {N : Nat} {a w w1 : World} {row : Option Nat} (h : Below N a w) (hg : w.grownBy w1 row) (hr : ∀ b, row = some b → N ≤ b) (hN : N ≤ w.heap.size) : Below N a w1 :=
 h.trans ⟨hg.os, hg.tape, hg.output, hg.size, fun k hk => hg.block k (by omega) (fun e => by have := hr k e.symm; omega)⟩
theorem add_blockQ (a : Addr) (n : Nat) : (a.add n).block = a.block := by unfold Addr.add; split <;> rfl
theorem two_appends {P : Program} (w : World) (N base1 K : Nat) (t tn e : TypeId) (i : TypeInfo) (ht : P.underlying t = some (.slice e)) (htn : P.underlying tn = some (.int .i64)) (hi : P.info? e = some i)
  (hz0 : i.zero = some (.int .u64 0)) (hz1 : i.size = 1) (hz2 : i.bytes = 8) (A1 : Option Addr) (c1 : Nat) (l : List Int) (hown : w.ownsRow base1 e 1 (.slice A1 l.length c1) l.length (l.map (Value.int .u64)))
  (A2 : Option Addr) (c2 : Nat) (m : List Int) (hA2 : A2 = none → m.length = 0) (hA1 : ∀ ad, A1 = some ad → base1 ≤ ad.block ∧ ad.block < K) (hm : ∀ ad, A2 = some ad → K ≤ ad.block ∧ ad.block < w.heap.size ∧ ∀ (j : Nat) u, (m.map (Value.int .u64))[j]? = some u → w.cell? (ad.add j) = some u)
  (hbase : base1 ≤ w.heap.size) (hN : N ≤ base1) (kz : Nat) (hk : 0 < kz) (h8 : l.length + kz + m.length = 8) :
  ∃ A4 c4 w4 g c5 w5, (Builtin.append_ #[t, tn] t #[.slice A1 l.length c1, .int .i64 (kz : Int)]).run P w = .ok (.slice A4 (l.length + kz) c4) w4 ∧
   (Builtin.append_ #[t, t] t #[.slice A4 (l.length + kz) c4, .slice A2 m.length c2]).run P w4 = .ok (.slice (some ⟨g, 0, none⟩) 8 c5) w5 ∧
   Hid (∀ (j : Nat) x, (l ++ List.replicate kz 0 ++ m)[j]? = some x → w5.cell? ⟨g, j, none⟩ = some (.int .u64 x)) ∧ N ≤ g ∧ g < w5.heap.size ∧ (∀ a, Below N a w → Below N a w5) := by
 have own1 : ∀ b, (Value.slice A1 l.length c1).ownBlock = some b → base1 ≤ b := by
  intro b hb
  obtain ⟨ad, h1, h2⟩ := own_block hb
  have := hA1 ad h1
  omega
 obtain ⟨v4, w4, hr4, hown4, hg4⟩ := append_zeros_own (P := P) w base1 t tn t e i (.int .u64 0) 8 .i64 ht htn hi hz0 hz1 hz2 rfl _ _ _ hown kz hk (by unfold maxLen; omega) (by omega) hbase (zero_one kz)
 rw [zero_list, ← List.map_append] at hown4
 have hb4 : ∀ a, Below N a w → Below N a w4 := fun a ha => below_own ha hg4 (fun b hb => Nat.le_trans hN (own1 b hb)) (by omega)
 obtain ⟨A4, c4, rfl, hA4, hc4⟩ := own_slice hown4
 have own4 : ∀ b, (Value.slice A4 (l.length + kz) c4).ownBlock = some b → base1 ≤ b := by
  intro b hb
  obtain ⟨ad, h1, h2⟩ := own_block hb
  have := (hc4 ad h1).1
  omega
 have hm4 : ∀ ad, A2 = some ad → ∀ (j : Nat) u, (m.map (Value.int .u64))[j]? = some u → w4.cell? (ad.add j) = some u := by
  intro ad had j u hu
  obtain ⟨h1, h2, h3⟩ := hm ad had
  rw [World.cell?_of_block (a := ad.add j) (w := w) (hg4.block (ad.add j).block (by rw [add_blockQ]; exact h2) (fun e => by obtain ⟨a1, h4, h5⟩ := own_block e.symm; have := (hA1 a1 h4).2; rw [add_blockQ] at h5; omega))]
  exact h3 j u hu
 obtain ⟨v5, w5, hr5, hown5, hg5, _⟩ := append_own (P := P) w4 base1 t t e i (.int .u64 0) ht hi hz0 (by rw [hz1]; rfl) (by omega) _ _ _ (by rw [hz1]; exact hown4) A2 m.length c2 (m.map (Value.int .u64)) (by rw [hz1, List.length_map, Nat.mul_one]) hA2 hm4 (by simp [Value.oneCell']) (by unfold maxLen; omega) (by rw [hz2]; omega) (by have := hg4.size; omega)
 rw [hz1, ← List.map_append] at hown5
 have hL : (l ++ List.replicate kz 0 ++ m).length = 8 := by simp only [List.length_append, List.length_replicate]; omega
 rw [show l.length + kz + m.length = (l ++ List.replicate kz 0 ++ m).length by rw [hL, h8]] at hown5
 obtain ⟨g, c5, rfl, hgb, hgl, HR⟩ := row_form hown5 (by omega)
 rw [hL] at hr5
 exact ⟨A4, c4, w4, g, c5, w5, hr4, hr5, HR, by omega, hgl, fun a ha => below_own (hb4 a ha) hg5 (fun b hb => Nat.le_trans hN (own4 b hb)) (by have := hg4.size; omega)⟩
end Go.Proofs.YtfkfpgoicmfpkaaGreatDoor
namespace Go.Proofs.YtfkfpgoicmfpkaaGreatDoor
open Go Go.Ma Go.RowKit Go.Proofs
theorem gMaxLen : Tryz.prog.globalNamed "internal/bytealg.MaxLen" = some 0 := by kernel_rfl
theorem cut_calls (s : ByteArray) (hs : s.size ≤ 4294967200) (w : World) (hG : Glob Tryz.prog w) :
  Calls Tryz.prog 53 #[.string s, .string ⟨#[58, 58]⟩] w fun e w' => e = .returned (.tuple #[.string (cut1 s), .string (cut2 s), .bool (cut3 s)]) ∧ Below w.heap.size w w' := by
 obtain ⟨m, hm⟩ := hG.num _ gMaxLen
 refine (Go.Proofs.Tryz.strings_Cut s ⟨#[58, 58]⟩ m w (by omega) hm).mono ?_
 rintro e w' ⟨rfl, n, rfl⟩
 exact ⟨rfl, below_drewN w n⟩
theorem cut_sizes (s : ByteArray) : (cut1 s).size ≤ s.size ∧ (cut2 s).size ≤ s.size := by
 have h1 : (cut1 s).size = (Lib.cut s.data.toList [58, 58]).1.length := rfl
 have h2 : (cut2 s).size = (Lib.cut s.data.toList [58, 58]).2.1.length := rfl
 have h3 : s.data.toList.length = s.size := Array.length_toList
 rw [h1, h2]
 unfold Lib.cut
 generalize Lib.index s.data.toList [58, 58] = ix
 by_cases h : 0 ≤ ix
 ·rw [if_pos h]
  simp only [List.length_take, List.length_drop]; omega
 ·rw [if_neg h]
  simp only [List.length_nil]; omega
theorem heap_below {A C : World} (hb : Below A.heap.size A C) {b : Nat} {o : Go.Obj} (h : A.heap[b]? = some o) : C.heap[b]? = some o := (hb.block b (Array.getElem?_eq_some_iff.1 h).1).trans h
theorem three_cells {w : World} {N : Nat} {a b c : Value} {t : TypeId} (this : w.heap[N]? = some (Go.Obj.cells #[a, b, c] t (0, 0))) :
  w.cell? ⟨N, 0, none⟩ = some a ∧ w.cell? ⟨N, 1, none⟩ = some b ∧ w.cell? ⟨N, 2, none⟩ = some c ∧ w.frozen? ⟨N, 0, none⟩ = false ∧ w.frozen? ⟨N, 1, none⟩ = false ∧ w.frozen? ⟨N, 2, none⟩ = false := by
 refine ⟨?_, ?_, ?_, ?_, ?_, ?_⟩ <;> simp [World.cell?, World.frozen?, this]
theorem set3 {w : World} {N : Nat} {x y z a b c : Value} {t : TypeId} (h : w.heap[N]? = some (Go.Obj.cells #[x, y, z] t (0, 0))) :
  (((w.setCell ⟨N, 0, none⟩ a).setCell ⟨N, 1, none⟩ b).setCell ⟨N, 2, none⟩ c).heap[N]? = some (Go.Obj.cells #[a, b, c] t (0, 0)) ∧
  (∀ k, k ≠ N → (((w.setCell ⟨N, 0, none⟩ a).setCell ⟨N, 1, none⟩ b).setCell ⟨N, 2, none⟩ c).heap[k]? = w.heap[k]?) ∧
  Below N w (((w.setCell ⟨N, 0, none⟩ a).setCell ⟨N, 1, none⟩ b).setCell ⟨N, 2, none⟩ c) := by
 obtain ⟨h1, h2, _⟩ := setCells_spec w N 0 [a, b, c] #[x, y, z] t (0, 0) h
 refine ⟨h1, h2, ?_⟩
 exact (((Below.refl N w).setCell (p := ⟨N, 0, none⟩) (Nat.le_refl _) _).setCell (p := ⟨N, 1, none⟩) (Nat.le_refl _) _).setCell (p := ⟨N, 2, none⟩) (Nat.le_refl _) _
theorem packI_snoc (x : Int) : ∀ (l : List Int) (a : Int), packI (l ++ [x]) a = aop .or .u64 (aop .shl .u64 (packI l a) 16) x
 | [], _ => rfl
 | y :: r, a => packI_snoc x r _
theorem packI_take {l : List Int} {k : Nat} {x : Int} (hx : l[k]? = some x) (a : Int) : packI (l.take (k + 1)) a = aop .or .u64 (aop .shl .u64 (packI (l.take k) a) 16) x := by
 rw [List.take_add_one, hx]
 exact packI_snoc x _ a
theorem someL_len (last : Bool) (len : Nat) : ∀ (l : List ByteArray) (i : Nat) (out r : List Int), someL last len l i out = some r → r.length ≤ out.length + 2 * l.length
 | [], _, out, r, h => by injection h with h; rw [h]; simp
 | x :: l, i, out, r, h => by
  rw [someL] at h
  split at h
  ·split at h
   ·cases h
   ·have := someL_len last len l _ _ r h
    simp only [List.length_append, List.length_cons, List.length_nil] at this ⊢
    omega
  ·split at h
   ·cases h
   ·have := someL_len last len l _ _ r h
    simp only [List.length_append, List.length_cons, List.length_nil] at this ⊢
    omega
theorem someF_len {s : ByteArray} {last : Bool} {r : List Int} (h : someF s last = some r) : r.length ≤ 2 * (s.size + 1) := by
 unfold someF at h
 split at h
 ·injection h with h; rw [← h]; simp
 ·have h1 := someL_len _ _ _ _ _ _ h
  have h2 := splitOn_le s 58
  simp only [List.length_nil] at h1
  omega
theorem put_one {w wr : World} {N i : Nat} {a b c v : Value} {t : TypeId} (hn : wr.heap[N]? = some (Go.Obj.cells #[a, b, c] t (0, 0))) (hb : Below w.heap.size w wr) (hN : w.heap.size < N) :
  (wr.setCell ⟨N, i, none⟩ v).drew.heap[N]? = some (Go.Obj.cells (#[a, b, c].setIfInBounds i v) t (0, 0)) ∧ (∀ k, k ≠ N → (wr.setCell ⟨N, i, none⟩ v).drew.heap[k]? = wr.heap[k]?) ∧ Below w.heap.size w (wr.setCell ⟨N, i, none⟩ v).drew := by
 have h := hb.setCell (p := ⟨N, i, none⟩) (show w.heap.size ≤ N by omega) v
 exact ⟨setCell_heap wr N i v _ t (0, 0) hn, fun k hk => Below.heap_setCell wr ⟨N, i, none⟩ v k hk, ⟨h.os, h.tape, h.output, h.size, h.block⟩⟩
theorem cells_other {w w' : World} {g N : Nat} {L : List Int} (hg : g ≠ N) (h : ∀ k, k ≠ N → w'.heap[k]? = w.heap[k]?) (hc : ∀ (j : Nat) x, L[j]? = some x → w.cell? ⟨g, j, none⟩ = some (.int .u64 x)) : ∀ (j : Nat) x, L[j]? = some x → w'.cell? ⟨g, j, none⟩ = some (.int .u64 x) :=
 fun j x hx => (World.cell?_of_block (a := ⟨g, j, none⟩) (h g hg)).trans (hc j x hx)
def EndA (o : Option Ad) (e : Ending) : Prop := match o with
 | some a => e = .returned (.agg #[.bool a.v6, .int .u64 a.hi, .int .u64 a.lo])
 | none => e = .panicked [badE]
theorem endA_none {o : Option Ad} (h : o = none) : EndA o (.panicked [badE]) := by rw [h]; rfl
set_option maxRecDepth 100000 in
set_option maxHeartbeats 8000000 in
theorem sixteen_walk (s : ByteArray) (hs : s.size ≤ 4294967200) (w : World) (hG : Glob Tryz.prog w) :
  Calls Tryz.prog 73 #[.string s] w fun e w' => EndA (sixteenF s) e ∧ Below w.heap.size w w' := by
 obtain ⟨i0, hi, hz0, hz1, hz2⟩ := info_parts infoU64
 obtain ⟨hs1, hs2⟩ := cut_sizes s
 have HC : Hid (∀ W, Below w.heap.size w W → Calls Tryz.prog 53 #[.string s, .string ⟨#[58, 58]⟩] W fun e w' => e = .returned (.tuple #[.string (cut1 s), .string (cut2 s), .bool (cut3 s)]) ∧ Below W.heap.size W w') := fun W hW => cut_calls s hs W (hG.mono hW)
 have H1 : Hid (∀ W, Below w.heap.size w W → Calls Tryz.prog 94 #[.string (cut1 s), .bool false] W fun e w' => EndRow W.heap.size (someF (cut1 s) false) e w' ∧ Below W.heap.size W w') := fun W hW => some_walk _ _ (by omega) W (hG.mono hW)
 have H2 : Hid (∀ W, Below w.heap.size w W → Calls Tryz.prog 94 #[.string (cut2 s), .bool true] W fun e w' => EndRow W.heap.size (someF (cut2 s) true) e w' ∧ Below W.heap.size W w') := fun W hW => some_walk _ _ (by omega) W (hG.mono hW)
 have H3 : Hid (∀ W, Below w.heap.size w W → Calls Tryz.prog 94 #[.string s, .bool true] W fun e w' => EndRow W.heap.size (someF s true) e w' ∧ Below W.heap.size W w') := fun W hW => some_walk _ _ (by omega) W (hG.mono hW)
 have hsx : sixteenF s = if cut3 s = true then (match someF (cut1 s) false with
  | none => none
  | some l => match someF (cut2 s) true with
   | none => none
   | some m => if 7 < l.length + m.length then none else some (packA (l ++ List.replicate (8 - l.length - m.length) 0 ++ m)))
 else match someF s true with
  | none => none
  | some l => if l.length = 8 then some (packA l) else none := rfl
 generalize sixteenF s = res at hsx ⊢
 generalize cut1 s = s1 at HC H1 hs1 hsx
 generalize cut2 s = s2 at HC H2 hs2 hsx
 generalize cut3 s = ok at HC hsx
 have hba : Below w.heap.size w (w.alloc (.cells #[.bool false, .int .u64 0, .int .u64 0] 25)) := (Below.refl _ w).alloc (Nat.le_refl _) _
 have hn0 := heap_alloc_new w (.cells #[.bool false, .int .u64 0, .int .u64 0] 25)
 go_enter Tryz.func73, Tryz.ntmps73
 cases ok with
 | false =>
  rw [if_neg (by decide)] at hsx
  cases hp : someF s true with
  | none =>
   rw [hp] at hsx H3
   go_wp2_with (first | (go_at_call 53; refine (HC.out _ hba).mono ?_; rintro e w1 ⟨rfl, hb1⟩) | (go_at_call 94; refine (H3.out _ (hba.trans (hb1.mono hba.size))).mono ?_; rintro e w2 ⟨he, hb2⟩; have he : e = .panicked [badE] := he; subst he))
   exact ⟨rfl, endA_none hsx, hba.trans ((hb1.mono hba.size).trans (hb2.mono (Nat.le_trans hba.size hb1.size)))⟩
  | some l =>
   rw [hp] at hsx H3
   simp only at hsx
   by_cases h8 : l.length = 8
   rotate_left
   ·rw [if_neg h8] at hsx
    have h8i : ((l.length : Int) != 8) = true := by rw [bne_iff_ne]; omega
    go_wp2_with (first | (go_at_call 53; refine (HC.out _ hba).mono ?_; rintro e w1 ⟨rfl, hb1⟩) | (go_at_call 94; refine (H3.out _ (hba.trans (hb1.mono hba.size))).mono ?_; rintro e w2 ⟨⟨v, rfl, hown⟩, hb2⟩; obtain ⟨A, cap, rfl⟩ : ∃ A cap, v = .slice A l.length cap := by obtain ⟨_, ⟨h, h0⟩ | ⟨g, cap, cur, h, _⟩⟩ := hown; exact ⟨none, 0, by rw [h, h0]⟩; exact ⟨_, _, h⟩))
    exact ⟨rfl, endA_none hsx, hba.trans ((hb1.mono hba.size).trans (hb2.mono (Nat.le_trans hba.size hb1.size)))⟩
   rw [if_pos h8] at hsx
   have h8i : ((l.length : Int) != 8) = false := by rw [h8]; rfl
   go_wp2_with (first | (go_at_call 53; refine (HC.out _ hba).mono ?_; rintro e w1 ⟨rfl, hb1⟩) | (go_at_call 94; refine (H3.out _ (hba.trans (hb1.mono hba.size))).mono ?_; rintro e w2 ⟨⟨v, rfl, hown⟩, hb2⟩; obtain ⟨g, cap, rfl, hgw, hgl, HR⟩ := row_form hown (by omega)))
   have hbw : Below w.heap.size w w2 := hba.trans ((hb1.mono hba.size).trans (hb2.mono (Nat.le_trans hba.size hb1.size)))
   have hnw : w2.heap[w.heap.size]? = some (Go.Obj.cells #[.bool false, .int .u64 0, .int .u64 0] 25 (0, 0)) := heap_below hb2 (heap_below hb1 hn0)
   obtain ⟨L, hL⟩ : ∃ L, L = l := ⟨_, rfl⟩
   rw [← hL] at HR h8 hsx
   have hgne : g ≠ w.heap.size := by
    have := hb1.size
    have h2 : (w.alloc (.cells #[.bool false, .int .u64 0, .int .u64 0] 25)).heap.size = w.heap.size + 1 := by simp
    omega
   clear hown hb1 hb2 hba hn0 hL hgw HC H1 H2 H3 hp
   have hN0 := heap_alloc_new w2 (.cells #[.bool true, .int .u64 0, .int .u64 0] 25)
   have hbN : Below w.heap.size w (w2.alloc (.cells #[.bool true, .int .u64 0, .int .u64 0] 25)) := hbw.alloc hbw.size _
   have hnN : (w2.alloc (.cells #[.bool true, .int .u64 0, .int .u64 0] 25)).heap[w.heap.size]? = some (Go.Obj.cells #[.bool false, .int .u64 0, .int .u64 0] 25 (0, 0)) := (Below.heap_alloc _ _ _ (Array.getElem?_eq_some_iff.1 hnw).1).trans hnw
   have HRN : Hid (∀ (j : Nat) x, L[j]? = some x → (w2.alloc (.cells #[.bool true, .int .u64 0, .int .u64 0] 25)).cell? ⟨g, j, none⟩ = some (.int .u64 x)) := Lib.hid fun j x hx => cell_stays ((Below.refl w2.heap.size w2).alloc (Nat.le_refl _) _) (HR.out j x hx)
   obtain ⟨N, hN⟩ : ∃ N, N = w2.heap.size := ⟨_, rfl⟩
   have hgN : g < N := by rw [hN]; exact hgl
   have hwN : w.heap.size < N := by rw [hN]; exact (Array.getElem?_eq_some_iff.1 hnw).1
   rw [← hN] at hN0 ⊢
   generalize w2.alloc (.cells #[.bool true, .int .u64 0, .int .u64 0] 25) = wN at hN0 hbN hnN HRN ⊢
   clear HR hnw hbw hgl hN
   go_loopw [47] (fun vi wr => ∃ (k : Nat) (h l : Int), vi = .int .i64 k ∧ k ≤ 4 ∧ Hid (h = packI (L.take k) 0 ∧ l = packI ((L.drop 4).take k) 0) ∧ wr.heap[N]? = some (Go.Obj.cells #[.bool true, .int .u64 h, .int .u64 l] 25 (0, 0)) ∧ Hid (∀ (j : Nat) x, L[j]? = some x → wr.cell? ⟨g, j, none⟩ = some (.int .u64 x)) ∧ wr.heap[w.heap.size]? = some (Go.Obj.cells #[.bool false, .int .u64 0, .int .u64 0] 25 (0, 0)) ∧ Below w.heap.size w wr) (fun vi _ => 4 - (intOf vi).toNat)
   case atStart => exact ⟨0, 0, 0, rfl, by omega, Lib.hid ⟨rfl, rfl⟩, hN0, HRN, hnN, hbN⟩
   case round =>
    clear hN0 HRN hnN hbN
    obtain ⟨k, h, l, rfl, hk, HP, hN0, HR, hnw, hbw⟩ := hrel
    obtain ⟨m0, m1, m2, m3, m4, m5⟩ := three_cells hN0
    by_cases hlt : k < 4
    ·obtain ⟨x, hx⟩ : ∃ x, L[k]? = some x := ⟨_, List.getElem?_eq_getElem (by omega)⟩
     obtain ⟨y, hy⟩ : ∃ y, L[4 + k]? = some y := ⟨_, List.getElem?_eq_getElem (by omega)⟩
     have c0 := HR.out k x hx
     have c1 := HR.out (4 + k) y hy
     have hltI : (k : Int) < 4 := by omega
     go_wp2
     go_region
     obtain ⟨q1, q2, q3⟩ := put_one (i := 1) (v := .int .u64 (bits .or .u64 (IntKind.u64.wrap (h * 65536)) x)) hN0 hbw hwN
     have HR1 := Lib.hid (cells_other (by omega : g ≠ N) q2 HR.out)
     have hnw1 := (q2 w.heap.size (by omega)).trans hnw
     obtain ⟨h1, hh1⟩ : ∃ h1, h1 = bits .or .u64 (IntKind.u64.wrap (h * 65536)) x := ⟨_, rfl⟩
     rw [← hh1] at q1 q2 q3 HR1 hnw1 ⊢
     generalize (wr.setCell ⟨N, 1, none⟩ (.int .u64 h1)).drew = wA at q1 q3 HR1 hnw1 ⊢
     clear q2 HR hnw hbw hN0 m0 m1 m2 m3 m4 m5 c0 c1
     have q1 : wA.heap[N]? = some (Go.Obj.cells #[.bool true, .int .u64 h1, .int .u64 l] 25 (0, 0)) := q1
     obtain ⟨m0, m1, m2, m3, m4, m5⟩ := three_cells q1
     have c1 := HR1.out (4 + k) y hy
     go_wp2
     go_region
     obtain ⟨r1, r2, r3⟩ := put_one (i := 2) (v := .int .u64 (bits .or .u64 (IntKind.u64.wrap (l * 65536)) y)) q1 q3 hwN
     have HR2 := Lib.hid (cells_other (by omega : g ≠ N) r2 HR1.out)
     have hnw2 := (r2 w.heap.size (by omega)).trans hnw1
     obtain ⟨l1, hl1⟩ : ∃ l1, l1 = bits .or .u64 (IntKind.u64.wrap (l * 65536)) y := ⟨_, rfl⟩
     rw [← hl1] at r1 r2 r3 HR2 hnw2 ⊢
     generalize (wA.setCell ⟨N, 2, none⟩ (.int .u64 l1)).drew = wB at r1 r3 HR2 hnw2 ⊢
     clear r2
     have r1 : wB.heap[N]? = some (Go.Obj.cells #[.bool true, .int .u64 h1, .int .u64 l1] 25 (0, 0)) := r1
     have HP2 : Hid (h1 = packI (L.take (k + 1)) 0 ∧ l1 = packI ((L.drop 4).take (k + 1)) 0) := Lib.hid ⟨by rw [packI_take hx, ← HP.out.1, hh1]; rfl, by rw [packI_take (by rw [List.getElem?_drop]; exact hy), ← HP.out.2, hl1]; rfl⟩
     go_wp2
     exact ⟨⟨k + 1, h1, l1, by go_num, by omega, HP2, r1, HR2, hnw2, r3⟩, by simp [intOf]; omega⟩
    ·have hk4 : k = 4 := by omega
     subst hk4
     obtain ⟨n0, n1, n2, n3, n4, n5⟩ := three_cells hnw
     go_wp2
     obtain ⟨s1, s2, s3⟩ := set3 (a := .bool true) (b := .int .u64 h) (c := .int .u64 l) hnw
     obtain ⟨p0, p1, p2, _⟩ := three_cells s1
     refine bodyPost_ret (v := .agg #[.bool true, .int .u64 h, .int .u64 l]) ?_ rfl ⟨?_, hbw.trans s3⟩
     ·simp [results, Tryz.f73, go_sem, p0, p1, p2]
     ·rw [hsx]
      obtain ⟨e1, e2⟩ := HP.out
      show Ending.returned _ = Ending.returned _
      rw [e1, e2]
      rfl
 | true =>
  rw [if_pos rfl] at hsx
  cases hp1 : someF s1 false with
  | none =>
   rw [hp1] at hsx H1
   go_wp2_with (first | (go_at_call 53; refine (HC.out _ hba).mono ?_; rintro e w1 ⟨rfl, hb1⟩; have hbA := hba.trans (hb1.mono hba.size)) | (go_at_call 94; refine (H1.out _ hbA).mono ?_; rintro e w2 ⟨he, hb2⟩; have he : e = .panicked [badE] := he; subst he))
   exact ⟨rfl, endA_none hsx, hbA.trans (hb2.mono hbA.size)⟩
  | some l =>
   have hl1 := someF_len hp1
   rw [hp1] at hsx H1
   simp only at hsx
   cases hp2 : someF s2 true with
   | none =>
    rw [hp2] at hsx H2
    go_wp2_with (first | (go_at_call 53; refine (HC.out _ hba).mono ?_; rintro e w1 ⟨rfl, hb1⟩; have hbA := hba.trans (hb1.mono hba.size)) | (go_at_call 94; refine (H1.out _ hbA).mono ?_; rintro e w2 ⟨⟨v, rfl, hown⟩, hb2⟩; obtain ⟨A1, c1, rfl, hA1, _⟩ := own_slice hown; have hbB := hbA.trans (hb2.mono hbA.size); clear H1) | (go_at_call 94; refine (H2.out _ hbB).mono ?_; rintro e w3 ⟨he, hb3⟩; have he : e = .panicked [badE] := he; subst he))
    exact ⟨rfl, endA_none hsx, hbB.trans (hb3.mono hbB.size)⟩
   | some m =>
    have hl2 := someF_len hp2
    rw [hp2] at hsx H2
    simp only at hsx
    by_cases h7 : 7 < l.length + m.length
    ·rw [if_pos h7] at hsx
     have h7i : decide (7 < (l.length : Int) + (m.length : Int)) = true := decide_eq_true (by omega)
     go_wp2_with (first | (go_at_call 53; refine (HC.out _ hba).mono ?_; rintro e w1 ⟨rfl, hb1⟩; have hbA := hba.trans (hb1.mono hba.size)) | (go_at_call 94; refine (H1.out _ hbA).mono ?_; rintro e w2 ⟨⟨v, rfl, hown⟩, hb2⟩; obtain ⟨A1, c1, rfl, hA1, _⟩ := own_slice hown; have hbB := hbA.trans (hb2.mono hbA.size); clear H1) | (go_at_call 94; refine (H2.out _ hbB).mono ?_; rintro e w3 ⟨⟨v, rfl, hownm⟩, hb3⟩; obtain ⟨A2, c2, rfl, hA2, hcm⟩ := own_slice hownm; have hbC := hbB.trans (hb3.mono hbB.size)))
     exact ⟨rfl, endA_none hsx, hbC⟩
    ·rw [if_neg h7] at hsx
     have h7i : decide (7 < (l.length : Int) + (m.length : Int)) = false := decide_eq_false (by omega)
     obtain ⟨kz, hkze⟩ : ∃ kz, kz = 8 - l.length - m.length := ⟨_, rfl⟩
     have hkz : 0 < kz := by omega
     have hkzi : (kz : Int) = 8 - (l.length : Int) - (m.length : Int) := by omega
     have hzc : ∀ u ∈ (Builtin.zeroCells (Value.int IntKind.u64 0).cells kz).toList, u.oneCell' = true := zero_one kz
     rw [← hkze] at hsx
     have H8 := Lib.hid (show l.length + kz + m.length = 8 by omega)
     have HKZ := Lib.hid hkzi
     clear hkze hkzi
     go_wp2_with (first | (go_at_call 53; refine (HC.out _ hba).mono ?_; rintro e w1 ⟨rfl, hb1⟩; have hbA := hba.trans (hb1.mono hba.size)) | (go_at_call 94; refine (H1.out _ hbA).mono ?_; rintro e w2 ⟨⟨v, rfl, hown⟩, hb2⟩; obtain ⟨A1, c1, rfl, hA1, hc1⟩ := own_slice hown; have hbB := hbA.trans (hb2.mono hbA.size); clear H1) | (go_at_call 94; refine (H2.out _ hbB).mono ?_; rintro e w3 ⟨⟨v, rfl, hownm⟩, hb3⟩; obtain ⟨A2, c2, rfl, hA2, hc2⟩ := own_slice hownm; obtain ⟨A4, c4, w4, g, c5, w5, hr4, hr5, HR, hgN, hgl, hbE⟩ := two_appends (P := Tryz.prog) w3 w1.heap.size w1.heap.size w2.heap.size 133 3 23 i0 Tryz.underlying133 Tryz.underlying3 hi hz0 hz1 hz2 A1 c1 l (hown.kept (below_grown' hb3) (Classical.em _)) A2 c2 m hA2 (fun ad h => ⟨(hc1 ad h).1, (hc1 ad h).2.1⟩) hc2 (by have := hb2.size; have := hb3.size; omega) (Nat.le_refl _) kz hkz H8.out; rw [HKZ.out] at hr4; have hb15 := hbE _ (hb2.trans (hb3.mono hb2.size)); clear hc1 hc2 hown hownm hbE) | (at_builtin; refine Lib.wpList_append_run _ rfl _ _ _ _ rfl _ _ rfl rfl _ _ hr4 ?_) | (at_builtin; refine Lib.wpList_append_run _ rfl _ _ _ _ rfl _ _ rfl rfl _ _ hr5 ?_))
     have hbw : Below w.heap.size w w5 := hba.trans ((hb1.trans (hb15.mono hb1.size)).mono hba.size)
     have hnw : w5.heap[w.heap.size]? = some (Go.Obj.cells #[.bool false, .int .u64 0, .int .u64 0] 25 (0, 0)) := heap_below hb15 (heap_below hb1 hn0)
     obtain ⟨L, hL⟩ : ∃ L, L = l ++ List.replicate kz 0 ++ m := ⟨_, rfl⟩
     have h8 : L.length = 8 := by have h9 : l.length + kz + m.length = 8 := H8.out; rw [hL]; simp only [List.length_append, List.length_replicate]; omega
     rw [← hL] at HR hsx
     have hgne : g ≠ w.heap.size := by
      have := hb1.size
      have h2 : (w.alloc (.cells #[.bool false, .int .u64 0, .int .u64 0] 25)).heap.size = w.heap.size + 1 := by simp
      omega
     clear hb1 hb2 hb3 hb15 hba hn0 hL hgN HC H2 H3 hp1 hp2 hr4 hr5 hbA hbB H8 HKZ hkz hA1 hA2
     have hN0 := heap_alloc_new w5 (.cells #[.bool true, .int .u64 0, .int .u64 0] 25)
     have hbN : Below w.heap.size w (w5.alloc (.cells #[.bool true, .int .u64 0, .int .u64 0] 25)) := hbw.alloc hbw.size _
     have hnN : (w5.alloc (.cells #[.bool true, .int .u64 0, .int .u64 0] 25)).heap[w.heap.size]? = some (Go.Obj.cells #[.bool false, .int .u64 0, .int .u64 0] 25 (0, 0)) := (Below.heap_alloc _ _ _ (Array.getElem?_eq_some_iff.1 hnw).1).trans hnw
     have HRN : Hid (∀ (j : Nat) x, L[j]? = some x → (w5.alloc (.cells #[.bool true, .int .u64 0, .int .u64 0] 25)).cell? ⟨g, j, none⟩ = some (.int .u64 x)) := Lib.hid fun j x hx => cell_stays ((Below.refl w5.heap.size w5).alloc (Nat.le_refl _) _) (HR.out j x hx)
     obtain ⟨N, hN⟩ : ∃ N, N = w5.heap.size := ⟨_, rfl⟩
     have hgN : g < N := by rw [hN]; exact hgl
     have hwN : w.heap.size < N := by rw [hN]; exact (Array.getElem?_eq_some_iff.1 hnw).1
     rw [← hN] at hN0 ⊢
     generalize w5.alloc (.cells #[.bool true, .int .u64 0, .int .u64 0] 25) = wN at hN0 hbN hnN HRN ⊢
     clear HR hnw hbw hgl hN
     go_loopw [47] (fun vi wr => ∃ (k : Nat) (h l : Int), vi = .int .i64 k ∧ k ≤ 4 ∧ Hid (h = packI (L.take k) 0 ∧ l = packI ((L.drop 4).take k) 0) ∧ wr.heap[N]? = some (Go.Obj.cells #[.bool true, .int .u64 h, .int .u64 l] 25 (0, 0)) ∧ Hid (∀ (j : Nat) x, L[j]? = some x → wr.cell? ⟨g, j, none⟩ = some (.int .u64 x)) ∧ wr.heap[w.heap.size]? = some (Go.Obj.cells #[.bool false, .int .u64 0, .int .u64 0] 25 (0, 0)) ∧ Below w.heap.size w wr) (fun vi _ => 4 - (intOf vi).toNat)
     case atStart => exact ⟨0, 0, 0, rfl, by omega, Lib.hid ⟨rfl, rfl⟩, hN0, HRN, hnN, hbN⟩
     case round =>
      clear hN0 HRN hnN hbN
      obtain ⟨k, h, l, rfl, hk, HP, hN0, HR, hnw, hbw⟩ := hrel
      obtain ⟨m0, m1, m2, m3, m4, m5⟩ := three_cells hN0
      by_cases hlt : k < 4
      ·obtain ⟨x, hx⟩ : ∃ x, L[k]? = some x := ⟨_, List.getElem?_eq_getElem (by omega)⟩
       obtain ⟨y, hy⟩ : ∃ y, L[4 + k]? = some y := ⟨_, List.getElem?_eq_getElem (by omega)⟩
       have c0 := HR.out k x hx
       have c1 := HR.out (4 + k) y hy
       have hltI : (k : Int) < 4 := by omega
       go_wp2
       go_region
       obtain ⟨q1, q2, q3⟩ := put_one (i := 1) (v := .int .u64 (bits .or .u64 (IntKind.u64.wrap (h * 65536)) x)) hN0 hbw hwN
       have HR1 := Lib.hid (cells_other (by omega : g ≠ N) q2 HR.out)
       have hnw1 := (q2 w.heap.size (by omega)).trans hnw
       obtain ⟨h1, hh1⟩ : ∃ h1, h1 = bits .or .u64 (IntKind.u64.wrap (h * 65536)) x := ⟨_, rfl⟩
       rw [← hh1] at q1 q2 q3 HR1 hnw1 ⊢
       generalize (wr.setCell ⟨N, 1, none⟩ (.int .u64 h1)).drew = wA at q1 q3 HR1 hnw1 ⊢
       clear q2 HR hnw hbw hN0 m0 m1 m2 m3 m4 m5 c0 c1
       have q1 : wA.heap[N]? = some (Go.Obj.cells #[.bool true, .int .u64 h1, .int .u64 l] 25 (0, 0)) := q1
       obtain ⟨m0, m1, m2, m3, m4, m5⟩ := three_cells q1
       have c1 := HR1.out (4 + k) y hy
       go_wp2
       go_region
       obtain ⟨r1, r2, r3⟩ := put_one (i := 2) (v := .int .u64 (bits .or .u64 (IntKind.u64.wrap (l * 65536)) y)) q1 q3 hwN
       have HR2 := Lib.hid (cells_other (by omega : g ≠ N) r2 HR1.out)
       have hnw5 := (r2 w.heap.size (by omega)).trans hnw1
       obtain ⟨l1, hl1⟩ : ∃ l1, l1 = bits .or .u64 (IntKind.u64.wrap (l * 65536)) y := ⟨_, rfl⟩
       rw [← hl1] at r1 r2 r3 HR2 hnw5 ⊢
       generalize (wA.setCell ⟨N, 2, none⟩ (.int .u64 l1)).drew = wB at r1 r3 HR2 hnw5 ⊢
       clear r2
       have r1 : wB.heap[N]? = some (Go.Obj.cells #[.bool true, .int .u64 h1, .int .u64 l1] 25 (0, 0)) := r1
       have HP2 : Hid (h1 = packI (L.take (k + 1)) 0 ∧ l1 = packI ((L.drop 4).take (k + 1)) 0) := Lib.hid ⟨by rw [packI_take hx, ← HP.out.1, hh1]; rfl, by rw [packI_take (by rw [List.getElem?_drop]; exact hy), ← HP.out.2, hl1]; rfl⟩
       go_wp2
       exact ⟨⟨k + 1, h1, l1, by go_num, by omega, HP2, r1, HR2, hnw5, r3⟩, by simp [intOf]; omega⟩
      ·have hk4 : k = 4 := by omega
       subst hk4
       obtain ⟨n0, n1, n2, n3, n4, n5⟩ := three_cells hnw
       go_wp2
       obtain ⟨s1, s2, s3⟩ := set3 (a := .bool true) (b := .int .u64 h) (c := .int .u64 l) hnw
       obtain ⟨p0, p1, p2, _⟩ := three_cells s1
       refine bodyPost_ret (v := .agg #[.bool true, .int .u64 h, .int .u64 l]) ?_ rfl ⟨?_, hbw.trans s3⟩
       ·simp [results, Tryz.f73, go_sem, p0, p1, p2]
       ·rw [hsx]
        obtain ⟨e1, e2⟩ := HP.out
        show Ending.returned _ = Ending.returned _
        rw [e1, e2]
        rfl
end Go.Proofs.YtfkfpgoicmfpkaaGreatDoor
namespace Go.Proofs.YtfkfpgoicmfpkaaGreatDoor
open Go Go.Ma Go.RowKit Go.Proofs
theorem heap_push (w : World) (o : Go.Obj) (k : Nat) : (w.alloc o).heap[k]? = if k = w.heap.size then some o else w.heap[k]? := by
 show (w.heap.push o)[k]? = _
 exact Array.getElem?_push
theorem cell_of_box_l {W : World} {B : Nat} {v : Value} {t : TypeId} (h : W.heap[B]? = some (Go.Obj.cells #[v] t (0, 0))) : W.cell? ⟨B, 0, none⟩ = some v ∧ W.frozen? ⟨B, 0, none⟩ = false := by
 constructor <;> simp [World.cell?, World.frozen?, h]
theorem told_idle (p q : Addr) (w : World) :
  CallsD Tryz.prog 71 #[.pointer (some p), .pointer (some q)] .returning w fun e u' w' => e = .returned (.tuple #[]) ∧ u' = .returning ∧ w' = w := by
 refine callsD_of_wpS Tryz.func71 rfl fun c₀ cs hu => ?_
 apply wpS_seq
 apply wpS_region
 simp [wpOpsS, go_sem, recoverD, hu, Tryz.ntmps71, Exit.thenS]
 apply wpS_seq
 apply wpS_region
 simp [wpOpsS, go_sem, Exit.thenS]
 refine wpS_cond (t := false) (by simp [Act.eval, Array.replicate]) ?_
 simp only [Bool.false_eq_true, if_false]
 refine wpS_of_wp (wp_skip ?_)
 cases c₀
 simp_all [bodyPostS, results, Tryz.results71]
noncomputable def laidNo (W : World) (n : Nat) : World := ((((W.setCell ⟨n, 0, none⟩ (.bool false)).setCell ⟨n, 1, none⟩ (.int .u64 0)).setCell ⟨n, 2, none⟩ (.int .u64 0)).setCell ⟨n + 1, 0, none⟩ (.bool false))
theorem ta_bad (T : TypeId) (W : World) : (Instr.typeAssert (.iface 110 (.agg #[])) T 110 true).run Tryz.prog W = .ok (.tuple #[.agg #[], .bool true]) W := by
 simp [Instr.typeAssert, run_underlying Tryz.underlying110]
set_option maxRecDepth 100000 in
set_option maxHeartbeats 2000000 in
theorem told_catch (n : Nat) (w : World) (a b c d : Value) (older : List PanicEntry) (h1 : w.heap[n]? = some (Go.Obj.cells #[a, b, c] 25 (0, 0))) (h2 : w.heap[n + 1]? = some (Go.Obj.cells #[d] 4 (0, 0))) :
  CallsD Tryz.prog 71 #[.pointer (some ⟨n, 0, none⟩), .pointer (some ⟨n + 1, 0, none⟩)] (.panicking (badE :: older)) w fun e u' w' => e = .returned (.tuple #[]) ∧ u' = .panicking ({ badE with recovered := true } :: older) ∧ w' = laidNo (w.alloc (.cells #[] 110)) n := by
 have g1 := (Below.heap_alloc w (.cells #[] 110) n (Array.getElem?_eq_some_iff.1 h1).1).trans h1
 have g2 := (Below.heap_alloc w (.cells #[] 110) (n + 1) (Array.getElem?_eq_some_iff.1 h2).1).trans h2
 obtain ⟨m0, m1, m2, m3, m4, m5⟩ := three_cells g1
 obtain ⟨m6, m7⟩ := cell_of_box_l g2
 clear h1 h2 g1 g2
 refine callsD_of_wpS Tryz.func71 rfl fun c₀ cs hu => ?_
 apply wpS_seq
 apply wpS_region
 simp [wpOpsS, go_sem, recoverD, hu, badE, Tryz.ntmps71, Exit.thenS]
 apply wpS_seq
 apply wpS_region
 simp [wpOpsS, go_sem, Exit.thenS]
 refine wpS_cond (t := true) (by simp [Act.eval, Array.replicate]) ?_
 simp only [if_true]
 refine wpS_of_wp ?_
 have hta : ∀ T W, (Instr.typeAssert (.iface 110 (.agg #[])) T 110 true).run Tryz.prog W = .ok (.tuple #[.agg #[], .bool true]) W := ta_bad
 show Code.wp _ _ _ { tmps := #[.pointer (some ⟨n, 0, none⟩), .pointer (some ⟨n + 1, 0, none⟩), .iface 110 (.agg #[]), Go.undef, Go.undef, .iface 110 (.agg #[]), .iface 110 (.agg #[]), .bool true, Go.undef, Go.undef, Go.undef, Go.undef, Go.undef, Go.undef, Go.undef, Go.undef, Go.undef], defers := [] } _
 go_wp2
 simp [bodyPostS, results, Tryz.results71, laidNo]
theorem laidNo_spec {w : World} {n : Nat} {a b c d : Value} (h1 : w.heap[n]? = some (Go.Obj.cells #[a, b, c] 25 (0, 0))) (h2 : w.heap[n + 1]? = some (Go.Obj.cells #[d] 4 (0, 0))) :
  (laidNo w n).heap[n]? = some (Go.Obj.cells #[.bool false, .int .u64 0, .int .u64 0] 25 (0, 0)) ∧ (laidNo w n).heap[n + 1]? = some (Go.Obj.cells #[.bool false] 4 (0, 0)) ∧ Below n w (laidNo w n) := by
 obtain ⟨s1, s2, s3⟩ := set3 (a := .bool false) (b := .int .u64 0) (c := .int .u64 0) h1
 have i4' := (s2 (n + 1) (by omega)).trans h2
 have t1 := setCell_heap _ (n + 1) 0 (.bool false) #[d] 4 (0, 0) i4'
 have t2 := (Below.heap_setCell _ ⟨n + 1, 0, none⟩ (.bool false) _ (by show n ≠ n + 1; omega)).trans s1
 exact ⟨t2, t1, s3.setCell (p := ⟨n + 1, 0, none⟩) (by show n ≤ n + 1; omega) (.bool false)⟩
set_option maxRecDepth 100000 in
set_option maxHeartbeats 4000000 in
theorem told_four (s : ByteArray) (w : World) (u : Int) (hc : ∀ W, Calls Tryz.prog 72 #[.string s, .string ⟨#[58]⟩] W fun e w' => e = .returned (.bool false) ∧ w' = W) (hx : ∀ W, Below w.heap.size w W → Calls Tryz.prog 74 #[.string s] W fun e w' => e = .returned (.int .u64 u) ∧ Below W.heap.size W w') :
  Calls Tryz.prog 64 #[.string s] w fun e w' => e = .returned (.tuple #[.agg #[.bool false, .int .u64 0, .int .u64 u], .bool true]) ∧ Below w.heap.size w w' := by
 have hmf : ∀ (fn : Fn) (first cap : Array Value) (w : World), (Instr.makeFunc fn first cap).run Tryz.prog w = .ok (.func fn first cap) w := fun _ _ _ _ => rfl
 have HC : Hid (∀ W, Calls Tryz.prog 72 #[.string s, .string ⟨#[58]⟩] W fun e w' => e = .returned (.bool false) ∧ w' = W) := Lib.hid hc
 have HX := Lib.hid hx
 clear hc hx
 go_enter_defers Tryz.func64, Tryz.ntmps64
 have hz1 : ((w.alloc (.cells #[.bool false, .int .u64 0, .int .u64 0] 25)).alloc (.cells #[.bool false] 4)).heap[w.heap.size]? = some (.cells #[.bool false, .int .u64 0, .int .u64 0] 25 (0, 0)) := by
  rw [heap_push, if_neg (by simp only [World.size_alloc]; omega), heap_push, if_pos rfl]
 have hz2 : ((w.alloc (.cells #[.bool false, .int .u64 0, .int .u64 0] 25)).alloc (.cells #[.bool false] 4)).heap[w.heap.size + 1]? = some (.cells #[.bool false] 4 (0, 0)) := by
  rw [heap_push, if_pos (by simp)]
 have hz3 : Below w.heap.size w ((w.alloc (.cells #[.bool false, .int .u64 0, .int .u64 0] 25)).alloc (.cells #[.bool false] 4)) := ((Below.refl _ w).alloc (Nat.le_refl _) _).alloc (by simp) _
 go_wp2_with (first | (go_at_call 72; refine (HC.out _).mono ?_; rintro e w2 ⟨rfl, hw2⟩; have hw2 := hw2.symm; subst hw2) | (go_at_call 74; refine (HX.out _ hz3).mono ?_; rintro e w3 ⟨he, hb3⟩; have he : e = .returned (.int .u64 u) := he; subst he; have i3 := heap_below hb3 hz1; have i4 := heap_below hb3 hz2; have hb4 := hz3.trans (hb3.mono hz3.size); clear hb3 hz1 hz2 hz3 HC; obtain ⟨n0, n1, n2, n3, n4, n5⟩ := three_cells i3; obtain ⟨n6, n7⟩ := cell_of_box_l i4))
 obtain ⟨s1, s2, s3⟩ := set3 (a := .bool false) (b := .int .u64 0) (c := .int .u64 u) i3
 have i4' : (((w3.setCell ⟨w.heap.size, 0, none⟩ (.bool false)).setCell ⟨w.heap.size, 1, none⟩ (.int .u64 0)).setCell ⟨w.heap.size, 2, none⟩ (.int .u64 u)).heap[w.heap.size + 1]? = some (Go.Obj.cells #[.bool false] 4 (0, 0)) := (s2 _ (by omega)).trans i4
 have t1 := setCell_heap _ (w.heap.size + 1) 0 (.bool true) #[.bool false] 4 (0, 0) i4'
 have t2 := (Below.heap_setCell _ ⟨w.heap.size + 1, 0, none⟩ (.bool true) _ (by show w.heap.size ≠ w.heap.size + 1; omega)).trans s1
 obtain ⟨m0, m1, m2, _⟩ := three_cells t2
 obtain ⟨m6, _⟩ := cell_of_box_l t1
 have hbb := (hb4.trans s3).setCell (p := ⟨w.heap.size + 1, 0, none⟩) (by show w.heap.size ≤ w.heap.size + 1; omega) (.bool true)
 generalize (((w3.setCell ⟨w.heap.size, 0, none⟩ (.bool false)).setCell ⟨w.heap.size, 1, none⟩ (.int .u64 0)).setCell ⟨w.heap.size, 2, none⟩ (.int .u64 u)).setCell ⟨w.heap.size + 1, 0, none⟩ (.bool true) = W4 at m0 m1 m2 m6 hbb ⊢
 refine leaves_cons (f := 71) (args := #[.pointer (some ⟨w.heap.size, 0, none⟩), .pointer (some ⟨w.heap.size + 1, 0, none⟩)]) (by simp) (by simp [go_sem]) ?_
 refine (told_idle _ _ _).mono ?_
 rintro e u' w'' ⟨rfl, rfl, rfl⟩
 simp [Leaves, settle, results, Tryz.results64, go_sem, m0, m1, m2, m6]
 exact hbb
set_option maxRecDepth 100000 in
set_option maxHeartbeats 4000000 in
theorem told_sixteen (s : ByteArray) (w : World) (x : Ad) (hc : ∀ W, Calls Tryz.prog 72 #[.string s, .string ⟨#[58]⟩] W fun e w' => e = .returned (.bool true) ∧ w' = W) (hx : ∀ W, Below w.heap.size w W → Calls Tryz.prog 73 #[.string s] W fun e w' => e = .returned (.agg #[.bool x.v6, .int .u64 x.hi, .int .u64 x.lo]) ∧ Below W.heap.size W w') :
  Calls Tryz.prog 64 #[.string s] w fun e w' => e = .returned (.tuple #[.agg #[.bool x.v6, .int .u64 x.hi, .int .u64 x.lo], .bool true]) ∧ Below w.heap.size w w' := by
 have hmf : ∀ (fn : Fn) (first cap : Array Value) (w : World), (Instr.makeFunc fn first cap).run Tryz.prog w = .ok (.func fn first cap) w := fun _ _ _ _ => rfl
 have HC : Hid (∀ W, Calls Tryz.prog 72 #[.string s, .string ⟨#[58]⟩] W fun e w' => e = .returned (.bool true) ∧ w' = W) := Lib.hid hc
 have HX := Lib.hid hx
 clear hc hx
 go_enter_defers Tryz.func64, Tryz.ntmps64
 have hz1 : ((w.alloc (.cells #[.bool false, .int .u64 0, .int .u64 0] 25)).alloc (.cells #[.bool false] 4)).heap[w.heap.size]? = some (.cells #[.bool false, .int .u64 0, .int .u64 0] 25 (0, 0)) := by
  rw [heap_push, if_neg (by simp only [World.size_alloc]; omega), heap_push, if_pos rfl]
 have hz2 : ((w.alloc (.cells #[.bool false, .int .u64 0, .int .u64 0] 25)).alloc (.cells #[.bool false] 4)).heap[w.heap.size + 1]? = some (.cells #[.bool false] 4 (0, 0)) := by
  rw [heap_push, if_pos (by simp)]
 have hz3 : Below w.heap.size w ((w.alloc (.cells #[.bool false, .int .u64 0, .int .u64 0] 25)).alloc (.cells #[.bool false] 4)) := ((Below.refl _ w).alloc (Nat.le_refl _) _).alloc (by simp) _
 go_wp2_with (first | (go_at_call 72; refine (HC.out _).mono ?_; rintro e w2 ⟨rfl, hw2⟩; have hw2 := hw2.symm; subst hw2) | (go_at_call 73; refine (HX.out _ hz3).mono ?_; rintro e w3 ⟨he, hb3⟩; have he : e = .returned (.agg #[.bool x.v6, .int .u64 x.hi, .int .u64 x.lo]) := he; subst he; have i3 := heap_below hb3 hz1; have i4 := heap_below hb3 hz2; have hb4 := hz3.trans (hb3.mono hz3.size); clear hb3 hz1 hz2 hz3 HC; obtain ⟨n0, n1, n2, n3, n4, n5⟩ := three_cells i3; obtain ⟨n6, n7⟩ := cell_of_box_l i4))
 obtain ⟨s1, s2, s3⟩ := set3 (a := .bool x.v6) (b := .int .u64 x.hi) (c := .int .u64 x.lo) i3
 have i4' : (((w3.setCell ⟨w.heap.size, 0, none⟩ (.bool x.v6)).setCell ⟨w.heap.size, 1, none⟩ (.int .u64 x.hi)).setCell ⟨w.heap.size, 2, none⟩ (.int .u64 x.lo)).heap[w.heap.size + 1]? = some (Go.Obj.cells #[.bool false] 4 (0, 0)) := (s2 _ (by omega)).trans i4
 have t1 := setCell_heap _ (w.heap.size + 1) 0 (.bool true) #[.bool false] 4 (0, 0) i4'
 have t2 := (Below.heap_setCell _ ⟨w.heap.size + 1, 0, none⟩ (.bool true) _ (by show w.heap.size ≠ w.heap.size + 1; omega)).trans s1
 obtain ⟨m0, m1, m2, _⟩ := three_cells t2
 obtain ⟨m6, _⟩ := cell_of_box_l t1
 have hbb := (hb4.trans s3).setCell (p := ⟨w.heap.size + 1, 0, none⟩) (by show w.heap.size ≤ w.heap.size + 1; omega) (.bool true)
 generalize (((w3.setCell ⟨w.heap.size, 0, none⟩ (.bool x.v6)).setCell ⟨w.heap.size, 1, none⟩ (.int .u64 x.hi)).setCell ⟨w.heap.size, 2, none⟩ (.int .u64 x.lo)).setCell ⟨w.heap.size + 1, 0, none⟩ (.bool true) = W4 at m0 m1 m2 m6 hbb ⊢
 refine leaves_cons (f := 71) (args := #[.pointer (some ⟨w.heap.size, 0, none⟩), .pointer (some ⟨w.heap.size + 1, 0, none⟩)]) (by simp) (by simp [go_sem]) ?_
 refine (told_idle _ _ _).mono ?_
 rintro e u' w'' ⟨rfl, rfl, rfl⟩
 simp [Leaves, settle, results, Tryz.results64, go_sem, m0, m1, m2, m6]
 exact hbb
set_option maxRecDepth 100000 in
set_option maxHeartbeats 4000000 in
theorem told_four_bad (s : ByteArray) (w : World) (hc : ∀ W, Calls Tryz.prog 72 #[.string s, .string ⟨#[58]⟩] W fun e w' => e = .returned (.bool false) ∧ w' = W) (hx : ∀ W, Below w.heap.size w W → Calls Tryz.prog 74 #[.string s] W fun e w' => e = .panicked [badE] ∧ Below W.heap.size W w') :
  Calls Tryz.prog 64 #[.string s] w fun e w' => e = .returned (.tuple #[.agg #[.bool false, .int .u64 0, .int .u64 0], .bool false]) ∧ Below w.heap.size w w' := by
 have hmf : ∀ (fn : Fn) (first cap : Array Value) (w : World), (Instr.makeFunc fn first cap).run Tryz.prog w = .ok (.func fn first cap) w := fun _ _ _ _ => rfl
 have HC : Hid (∀ W, Calls Tryz.prog 72 #[.string s, .string ⟨#[58]⟩] W fun e w' => e = .returned (.bool false) ∧ w' = W) := Lib.hid hc
 have HX := Lib.hid hx
 clear hc hx
 go_enter_defers Tryz.func64, Tryz.ntmps64
 have hz1 : ((w.alloc (.cells #[.bool false, .int .u64 0, .int .u64 0] 25)).alloc (.cells #[.bool false] 4)).heap[w.heap.size]? = some (.cells #[.bool false, .int .u64 0, .int .u64 0] 25 (0, 0)) := by
  rw [heap_push, if_neg (by simp only [World.size_alloc]; omega), heap_push, if_pos rfl]
 have hz2 : ((w.alloc (.cells #[.bool false, .int .u64 0, .int .u64 0] 25)).alloc (.cells #[.bool false] 4)).heap[w.heap.size + 1]? = some (.cells #[.bool false] 4 (0, 0)) := by
  rw [heap_push, if_pos (by simp)]
 have hz3 : Below w.heap.size w ((w.alloc (.cells #[.bool false, .int .u64 0, .int .u64 0] 25)).alloc (.cells #[.bool false] 4)) := ((Below.refl _ w).alloc (Nat.le_refl _) _).alloc (by simp) _
 go_wp2_with (first | (go_at_call 72; refine (HC.out _).mono ?_; rintro e w2 ⟨rfl, hw2⟩; have hw2 := hw2.symm; subst hw2) | (go_at_call 74; refine (HX.out _ hz3).mono ?_; rintro e w3 ⟨he, hb3⟩; have he : e = .panicked [badE] := he; subst he; have i3 := heap_below hb3 hz1; have i4 := heap_below hb3 hz2; have hb4 := hz3.trans (hb3.mono hz3.size); clear hb3 hz1 hz2 hz3 HC; obtain ⟨n0, n1, n2, n3, n4, n5⟩ := three_cells i3; obtain ⟨n6, n7⟩ := cell_of_box_l i4))
 refine leaves_cons (f := 71) (args := #[.pointer (some ⟨w.heap.size, 0, none⟩), .pointer (some ⟨w.heap.size + 1, 0, none⟩)]) (by simp) (by simp [go_sem]) ?_
 refine (told_catch w.heap.size w3 (.bool false) (.int .u64 0) (.int .u64 0) (.bool false) [] i3 i4).mono ?_
 rintro e u' w'' ⟨rfl, rfl, rfl⟩
 have g1 := (Below.heap_alloc w3 (.cells #[] 110) _ (Array.getElem?_eq_some_iff.1 i3).1).trans i3
 have g2 := (Below.heap_alloc w3 (.cells #[] 110) _ (Array.getElem?_eq_some_iff.1 i4).1).trans i4
 obtain ⟨j1, j2, j3⟩ := laidNo_spec g1 g2
 obtain ⟨m0, m1, m2, _⟩ := three_cells j1
 obtain ⟨m6, _⟩ := cell_of_box_l j2
 have hbb := (hb4.alloc hb4.size (.cells #[] 110)).trans j3
 generalize laidNo (w3.alloc (.cells #[] 110)) w.heap.size = W4 at m0 m1 m2 m6 hbb ⊢
 simp [Leaves, settle, results, Tryz.results64, go_sem, m0, m1, m2, m6]
 exact hbb
set_option maxRecDepth 100000 in
set_option maxHeartbeats 4000000 in
theorem told_sixteen_bad (s : ByteArray) (w : World) (hc : ∀ W, Calls Tryz.prog 72 #[.string s, .string ⟨#[58]⟩] W fun e w' => e = .returned (.bool true) ∧ w' = W) (hx : ∀ W, Below w.heap.size w W → Calls Tryz.prog 73 #[.string s] W fun e w' => e = .panicked [badE] ∧ Below W.heap.size W w') :
  Calls Tryz.prog 64 #[.string s] w fun e w' => e = .returned (.tuple #[.agg #[.bool false, .int .u64 0, .int .u64 0], .bool false]) ∧ Below w.heap.size w w' := by
 have hmf : ∀ (fn : Fn) (first cap : Array Value) (w : World), (Instr.makeFunc fn first cap).run Tryz.prog w = .ok (.func fn first cap) w := fun _ _ _ _ => rfl
 have HC : Hid (∀ W, Calls Tryz.prog 72 #[.string s, .string ⟨#[58]⟩] W fun e w' => e = .returned (.bool true) ∧ w' = W) := Lib.hid hc
 have HX := Lib.hid hx
 clear hc hx
 go_enter_defers Tryz.func64, Tryz.ntmps64
 have hz1 : ((w.alloc (.cells #[.bool false, .int .u64 0, .int .u64 0] 25)).alloc (.cells #[.bool false] 4)).heap[w.heap.size]? = some (.cells #[.bool false, .int .u64 0, .int .u64 0] 25 (0, 0)) := by
  rw [heap_push, if_neg (by simp only [World.size_alloc]; omega), heap_push, if_pos rfl]
 have hz2 : ((w.alloc (.cells #[.bool false, .int .u64 0, .int .u64 0] 25)).alloc (.cells #[.bool false] 4)).heap[w.heap.size + 1]? = some (.cells #[.bool false] 4 (0, 0)) := by
  rw [heap_push, if_pos (by simp)]
 have hz3 : Below w.heap.size w ((w.alloc (.cells #[.bool false, .int .u64 0, .int .u64 0] 25)).alloc (.cells #[.bool false] 4)) := ((Below.refl _ w).alloc (Nat.le_refl _) _).alloc (by simp) _
 go_wp2_with (first | (go_at_call 72; refine (HC.out _).mono ?_; rintro e w2 ⟨rfl, hw2⟩; have hw2 := hw2.symm; subst hw2) | (go_at_call 73; refine (HX.out _ hz3).mono ?_; rintro e w3 ⟨he, hb3⟩; have he : e = .panicked [badE] := he; subst he; have i3 := heap_below hb3 hz1; have i4 := heap_below hb3 hz2; have hb4 := hz3.trans (hb3.mono hz3.size); clear hb3 hz1 hz2 hz3 HC; obtain ⟨n0, n1, n2, n3, n4, n5⟩ := three_cells i3; obtain ⟨n6, n7⟩ := cell_of_box_l i4))
 refine leaves_cons (f := 71) (args := #[.pointer (some ⟨w.heap.size, 0, none⟩), .pointer (some ⟨w.heap.size + 1, 0, none⟩)]) (by simp) (by simp [go_sem]) ?_
 refine (told_catch w.heap.size w3 (.bool false) (.int .u64 0) (.int .u64 0) (.bool false) [] i3 i4).mono ?_
 rintro e u' w'' ⟨rfl, rfl, rfl⟩
 have g1 := (Below.heap_alloc w3 (.cells #[] 110) _ (Array.getElem?_eq_some_iff.1 i3).1).trans i3
 have g2 := (Below.heap_alloc w3 (.cells #[] 110) _ (Array.getElem?_eq_some_iff.1 i4).1).trans i4
 obtain ⟨j1, j2, j3⟩ := laidNo_spec g1 g2
 obtain ⟨m0, m1, m2, _⟩ := three_cells j1
 obtain ⟨m6, _⟩ := cell_of_box_l j2
 have hbb := (hb4.alloc hb4.size (.cells #[] 110)).trans j3
 generalize laidNo (w3.alloc (.cells #[] 110)) w.heap.size = W4 at m0 m1 m2 m6 hbb ⊢
 simp [Leaves, settle, results, Tryz.results64, go_sem, m0, m1, m2, m6]
 exact hbb
theorem told_walk (s : ByteArray) (hs : s.size ≤ 4294967200) (w : World) (hG : Glob Tryz.prog w) :
  Calls Tryz.prog 64 #[.string s] w fun e w' => e = .returned (.tuple #[.agg #[.bool (toldA s).v6, .int .u64 (toldA s).hi, .int .u64 (toldA s).lo], .bool (toldF s).isSome]) ∧ Below w.heap.size w w' := by
 have hc : ∀ W, Calls Tryz.prog 72 #[.string s, .string ⟨#[58]⟩] W fun e w' => e = .returned (.bool (colonIn s)) ∧ w' = W := fun W => Go.Proofs.Tryz.strings_Contains_one s 58 W
 unfold toldA toldF
 cases hcs : colonIn s with
 | true =>
  rw [hcs] at hc
  rw [if_pos rfl]
  have hx : ∀ W, Below w.heap.size w W → Calls Tryz.prog 73 #[.string s] W fun e w' => EndA (sixteenF s) e ∧ Below W.heap.size W w' := fun W hb => sixteen_walk s hs W (hG.mono hb)
  cases h : sixteenF s with
  | some a => rw [h] at hx; exact told_sixteen s w a hc hx
  | none => rw [h] at hx; exact told_sixteen_bad s w hc hx
 | false =>
  rw [hcs] at hc
  rw [if_neg (by decide)]
  have hx : ∀ W, Below w.heap.size w W → Calls Tryz.prog 74 #[.string s] W fun e w' => EndU (fourF s) e ∧ Below W.heap.size W w' := fun W hb => four_walk s hs W (hG.mono hb)
  cases h : fourF s with
  | some u => rw [h] at hx; exact told_four s w u hc hx
  | none => rw [h] at hx; exact told_four_bad s w hc hx
noncomputable def addr_told_con : Con := con [.one (.fl .str)] [.one (.fl .addr), .one (.fl .bool)] (fun x => addr_told_t x.1)
theorem addr_told_ok : TrOk Tryz.prog 64 addr_told_con := con_of _ _ _ fun x y hx ρ us vals w hG hu => by
 obtain ⟨s, z⟩ := x
 have hd := hu.den _ (gives_nameOf us)
 have hvals : vals = [.string s] := hd.symm
 subst hvals
 unfold addr_told_t at hx
 obtain ⟨hq, hx⟩ := req_some hx
 injection hx with hx
 subst hx
 refine (told_walk s (Nat.le_of_ble_eq_true hq) w hG).mono ?_
 rintro e w' ⟨rfl, hb⟩
 exact ⟨fun _ => Go.undef, .tup [.agg [.b (toldA s).v6, .i .u64 (toldA s).hi, .i .u64 (toldA s).lo], .b (toldF s).isSome], [], rfl, ⟨hb, fun j o h => by simp at h, fun i j o o' _ h => by simp at h, fun j o h => by simp at h⟩, rfl⟩
end Go.Proofs.YtfkfpgoicmfpkaaGreatDoor
namespace Go.Proofs
open Go.Shelf
def Tryz.sortLs_ren : Go.Shelf.Ren := ⟨fun | 6 => 58 | 15 => 70 | 14 => 69 | 28 => 91 | 29 => 92 | 20 => 83 | 21 => 84 | 22 => 85 | 23 => 86 | 24 => 87 | 25 => 88 | 26 => 89 | 27 => 90 | 46 => 113 | 47 => 114 | 48 => 115 | 49 => 116 | 50 => 117 | 57 => 131 | n => n, fun | 22 => 22 | 24 => 27 | 25 => 95 | 3 => 3 | 39 => 108 | 0 => 0 | 53 => 131 | 55 => 23 | 4 => 4 | 46 => 125 | 45 => 124 | 50 => 86 | 5 => 5 | 9 => 9 | 66 => 153 | 70 => 157 | 76 => 173 | 77 => 118 | n => n, fun | n => n⟩
theorem Tryz.sortLs : Go.Proofs.SlLaysF0.n6 Tryz.prog Tryz.sortLs_ren := {
 mixed := by kernel_rfl
 f6 := ⟨Tryz.f58.name, by decide, Tryz.func58.trans (congrArg some (by kernel_rfl))⟩
 f14 := ⟨Tryz.f69.name, by decide, Tryz.func69.trans (congrArg some (by kernel_rfl))⟩
 f15 := Tryz.func70.trans (congrArg some (by kernel_rfl))
 f20 := ⟨Tryz.f83.name, by decide, Tryz.func83.trans (congrArg some (by kernel_rfl))⟩
 f21 := ⟨Tryz.f84.name, by decide, Tryz.func84.trans (congrArg some (by kernel_rfl))⟩
 f22 := ⟨Tryz.f85.name, by decide, Tryz.func85.trans (congrArg some (by kernel_rfl))⟩
 f23 := ⟨Tryz.f86.name, by decide, Tryz.func86.trans (congrArg some (by kernel_rfl))⟩
 f24 := ⟨Tryz.f87.name, by decide, Tryz.func87.trans (congrArg some (by kernel_rfl))⟩
 f25 := ⟨Tryz.f88.name, by decide, Tryz.func88.trans (congrArg some (by kernel_rfl))⟩
 f26 := ⟨Tryz.f89.name, by decide, Tryz.func89.trans (congrArg some (by kernel_rfl))⟩
 f27 := ⟨Tryz.f90.name, by decide, Tryz.func90.trans (congrArg some (by kernel_rfl))⟩
 f28 := Tryz.func91.trans (congrArg some (by kernel_rfl))
 f29 := Tryz.func92.trans (congrArg some (by kernel_rfl))
 f46 := ⟨Tryz.f113.name, by decide, Tryz.func113.trans (congrArg some (by kernel_rfl))⟩
 f47 := Tryz.func114.trans (congrArg some (by kernel_rfl))
 f48 := Tryz.func115.trans (congrArg some (by kernel_rfl))
 f49 := ⟨Tryz.f116.name, by decide, Tryz.func116.trans (congrArg some (by kernel_rfl))⟩
 f50 := ⟨Tryz.f117.name, by decide, Tryz.func117.trans (congrArg some (by kernel_rfl))⟩
 f57 := ⟨Tryz.f131.name, by decide, Tryz.func131.trans (congrArg some (by kernel_rfl))⟩
 t0 := Tryz.underlying0
 a0 := Tryz.isAgg0
 z0 := Tryz.sizeOf0
 v0 := Tryz.zeroValue0
 t3 := Tryz.underlying3
 a3 := Tryz.isAgg3
 z3 := Tryz.sizeOf3
 v3 := Tryz.zeroValue3
 t4 := Tryz.underlying4
 a4 := Tryz.isAgg4
 z4 := Tryz.sizeOf4
 v4 := Tryz.zeroValue4
 t5 := Tryz.underlying5
 a5 := Tryz.isAgg5
 z5 := Tryz.sizeOf5
 v5 := Tryz.zeroValue5
 t9 := Tryz.underlying9
 a9 := Tryz.isAgg9
 z9 := Tryz.sizeOf9
 v9 := Tryz.zeroValue9
 t22 := Tryz.underlying22
 a22 := Tryz.isAgg22
 z22 := Tryz.sizeOf22
 v22 := Tryz.zeroValue22
 t25 := Tryz.underlying95
 a25 := Tryz.isAgg95
 z25 := Tryz.sizeOf95
 v25 := Tryz.zeroValue95
 t39 := Tryz.underlying108
 a39 := Tryz.isAgg108
 z39 := Tryz.sizeOf108
 v39 := Tryz.zeroValue108
 t45 := Tryz.underlying124
 a45 := Tryz.isAgg124
 z45 := Tryz.sizeOf124
 v45 := Tryz.zeroValue124
 t46 := Tryz.underlying125
 a46 := Tryz.isAgg125
 z46 := Tryz.sizeOf125
 v46 := Tryz.zeroValue125
 t50 := Tryz.underlying86
 a50 := Tryz.isAgg86
 z50 := Tryz.sizeOf86
 v50 := Tryz.zeroValue86
 t53 := Tryz.underlying131
 a53 := Tryz.isAgg131
 z53 := Tryz.sizeOf131
 v53 := Tryz.zeroValue131
 t55 := Tryz.underlying23
 a55 := Tryz.isAgg23
 z55 := Tryz.sizeOf23
 v55 := Tryz.zeroValue23
 t66 := Tryz.underlying153
 a66 := Tryz.isAgg153
 z66 := Tryz.sizeOf153
 v66 := Tryz.zeroValue153
 t70 := Tryz.underlying157
 a70 := Tryz.isAgg157
 z70 := Tryz.sizeOf157
 v70 := Tryz.zeroValue157
 t76 := Tryz.underlying173
 a76 := Tryz.isAgg173
 z76 := Tryz.sizeOf173
 v76 := Tryz.zeroValue173
 t77 := Tryz.underlying118
 a77 := Tryz.isAgg118
 z77 := Tryz.sizeOf118
 v77 := Tryz.zeroValue118 }
end Go.Proofs
namespace Go.Proofs.YtfkfpgoicmfpkaaGreatDoor
open Go Go.Ma Go.RowKit Go.Lib Go.Proofs Go.Sort
def cmpN (x y : Int) : Int := if x < y then -1 else if y < x then 1 else 0
def cmpA (a b : Ad) : Int := if a.v6 != b.v6 then (if b.v6 then -1 else 1) else if a.hi = b.hi then cmpN a.lo b.lo else cmpN a.hi b.hi
def cmpP (p q : Pf) : Int := if cmpA p.ad q.ad ≠ 0 then cmpA p.ad q.ad else p.bits - q.bits
def encPf (x : Pf) : List Value := [.bool x.ad.v6, .int .u64 x.ad.hi, .int .u64 x.ad.lo, .int .i64 x.bits]
set_option maxHeartbeats 1000000 in
theorem cmpN_walk (x y : Int) (W : World) : Calls Tryz.prog 63 #[.int .u64 x, .int .u64 y] W fun e w' => e = .returned (.int .i64 (cmpN x y)) ∧ w' = W := by
 unfold cmpN
 by_cases h1 : x < y
 ·rw [if_pos h1]
  go_enter Tryz.func63, Tryz.ntmps63
  go_wp2
  all_goals (go_ret; exact ⟨rfl, rfl⟩)
 ·rw [if_neg h1]
  by_cases h2 : y < x
  ·rw [if_pos h2]
   go_enter Tryz.func63, Tryz.ntmps63
   go_wp2
   all_goals (go_ret; exact ⟨rfl, rfl⟩)
  ·rw [if_neg h2]
   go_enter Tryz.func63, Tryz.ntmps63
   go_wp2
   all_goals (go_ret; exact ⟨rfl, rfl⟩)
set_option maxHeartbeats 2000000 in
set_option maxRecDepth 100000 in
theorem ord_walk (a b : Ad) (W : World) : Calls Tryz.prog 44 #[.agg #[.bool a.v6, .int .u64 a.hi, .int .u64 a.lo], .agg #[.bool b.v6, .int .u64 b.hi, .int .u64 b.lo]] W fun e w' => e = .returned (.int .i64 (cmpA a b)) ∧ ∃ q os', w' = grow (W.drewN q) os' := by
 obtain ⟨av, ah, al⟩ := a
 obtain ⟨bv, bh, bl⟩ := b
 have hx : ∀ x y : Int, ∃ r, cmpN x y = r ∧ Hid (∀ W', Calls Tryz.prog 63 #[.int .u64 x, .int .u64 y] W' fun e w' => e = .returned (.int .i64 r) ∧ w' = W') := fun x y => ⟨_, rfl, cmpN_walk x y⟩
 cases av <;> cases bv
 ·by_cases h : ah = bh
  ·subst h
   obtain ⟨r, hr, hcon⟩ := hx al bl
   rw [show cmpA ⟨false, ah, al⟩ ⟨false, ah, bl⟩ = r by simp [cmpA, hr]]
   go_enter Tryz.func44, Tryz.ntmps44
   go_wp2_with (go_at_call 63; refine (hcon.out _).mono ?_; rintro e w' ⟨rfl, rfl⟩)
   all_goals (go_ret; exact ⟨rfl, 0, _, by rw [alloc_eq_grow, alloc_eq_grow, grow_grow]; rfl⟩)
  ·obtain ⟨r, hr, hcon⟩ := hx ah bh
   rw [show cmpA ⟨false, ah, al⟩ ⟨false, bh, bl⟩ = r by simp [cmpA, hr, h]]
   go_enter Tryz.func44, Tryz.ntmps44
   go_wp2_with (go_at_call 63; refine (hcon.out _).mono ?_; rintro e w' ⟨rfl, rfl⟩)
   all_goals (go_ret; exact ⟨rfl, 0, _, by rw [alloc_eq_grow, alloc_eq_grow, grow_grow]; rfl⟩)
 ·go_enter Tryz.func44, Tryz.ntmps44
  go_wp2
  all_goals (go_ret; exact ⟨rfl, 0, _, by rw [alloc_eq_grow, alloc_eq_grow, grow_grow]; rfl⟩)
 ·go_enter Tryz.func44, Tryz.ntmps44
  go_wp2
  all_goals (go_ret; exact ⟨rfl, 0, _, by rw [alloc_eq_grow, alloc_eq_grow, grow_grow]; rfl⟩)
 ·by_cases h : ah = bh
  ·subst h
   obtain ⟨r, hr, hcon⟩ := hx al bl
   rw [show cmpA ⟨true, ah, al⟩ ⟨true, ah, bl⟩ = r by simp [cmpA, hr]]
   go_enter Tryz.func44, Tryz.ntmps44
   go_wp2_with (go_at_call 63; refine (hcon.out _).mono ?_; rintro e w' ⟨rfl, rfl⟩)
   all_goals (go_ret; exact ⟨rfl, 0, _, by rw [alloc_eq_grow, alloc_eq_grow, grow_grow]; rfl⟩)
  ·obtain ⟨r, hr, hcon⟩ := hx ah bh
   rw [show cmpA ⟨true, ah, al⟩ ⟨true, bh, bl⟩ = r by simp [cmpA, hr, h]]
   go_enter Tryz.func44, Tryz.ntmps44
   go_wp2_with (go_at_call 63; refine (hcon.out _).mono ?_; rintro e w' ⟨rfl, rfl⟩)
   all_goals (go_ret; exact ⟨rfl, 0, _, by rw [alloc_eq_grow, alloc_eq_grow, grow_grow]; rfl⟩)
theorem cell_grown (w : World) (q : Nat) (os' : Array Go.Obj) {b i : Nat} {v : Value} (h : w.cell? ⟨b, i, none⟩ = some v) : (grow (w.drewN q) os').cell? ⟨b, i, none⟩ = some v := by
 have hb : b < w.heap.size := by
  have h2 := h
  unfold World.cell? at h2
  cases hx : w.heap[b]? with
  | none => rw [hx] at h2; cases h2
  | some o => exact (Array.getElem?_eq_some_iff.1 hx).1
 have e : (grow (w.drewN q) os').heap[b]? = w.heap[b]? := by
  show (w.heap ++ os')[b]? = _
  rw [Array.getElem?_append_left hb]
 unfold World.cell? at h ⊢
 rw [e]
 exact h
set_option maxHeartbeats 2000000 in
set_option maxRecDepth 100000 in
theorem pfCmp_walk (x y : Pf) (hx : 0 ≤ x.bits ∧ x.bits ≤ 128) (hy : 0 ≤ y.bits ∧ y.bits ≤ 128) (W : World) : Calls Tryz.prog 59 #[.agg (encPf x).toArray, .agg (encPf y).toArray] W fun e w' => e = .returned (.int .i64 (cmpP x y)) ∧ ∃ q os', w' = grow (W.drewN q) os' := by
 obtain ⟨⟨av, ah, al⟩, au⟩ := x
 obtain ⟨⟨bv, bh, bl⟩, bu⟩ := y
 simp only at hx hy
 obtain ⟨r, hr, hcon⟩ : ∃ r, cmpA ⟨av, ah, al⟩ ⟨bv, bh, bl⟩ = r ∧ Hid (∀ W', Calls Tryz.prog 44 #[.agg #[.bool av, .int .u64 ah, .int .u64 al], .agg #[.bool bv, .int .u64 bh, .int .u64 bl]] W' fun e w' => e = .returned (.int .i64 r) ∧ ∃ q os', w' = grow (W'.drewN q) os') := ⟨_, rfl, fun W' => ord_walk ⟨av, ah, al⟩ ⟨bv, bh, bl⟩ W'⟩
 unfold cmpP
 simp only
 rw [hr]
 show Calls _ _ #[.agg #[.bool av, .int .u64 ah, .int .u64 al, .int .i64 au], .agg #[.bool bv, .int .u64 bh, .int .u64 bl, .int .i64 bu]] _ _
 have c1 : ((W.alloc (.cells #[.bool av, .int .u64 ah, .int .u64 al, .int .i64 au] 27)).alloc (.cells #[.bool bv, .int .u64 bh, .int .u64 bl, .int .i64 bu] 27)).cell? ⟨W.heap.size, 3, none⟩ = some (.int .i64 au) := by
  have e := (Below.heap_alloc (W.alloc (.cells #[.bool av, .int .u64 ah, .int .u64 al, .int .i64 au] 27)) (.cells #[.bool bv, .int .u64 bh, .int .u64 bl, .int .i64 bu] 27) W.heap.size (by simp)).trans (heap_alloc_new W _)
  simp [World.cell?, e]
 have c2 : ((W.alloc (.cells #[.bool av, .int .u64 ah, .int .u64 al, .int .i64 au] 27)).alloc (.cells #[.bool bv, .int .u64 bh, .int .u64 bl, .int .i64 bu] 27)).cell? ⟨W.heap.size + 1, 3, none⟩ = some (.int .i64 bu) := by
  have e := heap_alloc_new (W.alloc (.cells #[.bool av, .int .u64 ah, .int .u64 al, .int .i64 au] 27)) (.cells #[.bool bv, .int .u64 bh, .int .u64 bl, .int .i64 bu] 27)
  have es : (W.alloc (.cells #[.bool av, .int .u64 ah, .int .u64 al, .int .i64 au] 27)).heap.size = W.heap.size + 1 := by simp
  rw [es] at e
  simp only [World.cell?, e]
  rfl
 have HC : Hid (∀ q os', (grow ((((W.alloc (.cells #[.bool av, .int .u64 ah, .int .u64 al, .int .i64 au] 27)).alloc (.cells #[.bool bv, .int .u64 bh, .int .u64 bl, .int .i64 bu] 27))).drewN q) os').cell? ⟨W.heap.size, 3, none⟩ = some (.int .i64 au) ∧ (grow ((((W.alloc (.cells #[.bool av, .int .u64 ah, .int .u64 al, .int .i64 au] 27)).alloc (.cells #[.bool bv, .int .u64 bh, .int .u64 bl, .int .i64 bu] 27))).drewN q) os').cell? ⟨W.heap.size + 1, 3, none⟩ = some (.int .i64 bu)) := fun q os' => ⟨cell_grown _ q os' c1, cell_grown _ q os' c2⟩
 clear c1 c2
 have hw : IntKind.i64.wrap (au - bu) = au - bu := by rw [IntKind.wrap_i64]; omega
 by_cases h0 : r = 0
 ·subst h0
  go_enter Tryz.func59, Tryz.ntmps59
  go_wp2_with (go_at_call 44; refine (hcon.out _).mono ?_; rintro e w' ⟨rfl, q, os', rfl⟩; obtain ⟨g1, g2⟩ := HC.out q os')
  all_goals (go_ret; refine ⟨by simp [hw], q, ?_⟩)
  rw [alloc_eq_grow, alloc_eq_grow, grow_grow]
  exact ⟨_, grow_grow (W.drewN q) _ os'⟩
 ·go_enter Tryz.func59, Tryz.ntmps59
  go_wp2_with (go_at_call 44; refine (hcon.out _).mono ?_; rintro e w' ⟨rfl, q, os', rfl⟩; obtain ⟨g1, g2⟩ := HC.out q os')
  all_goals (go_ret; refine ⟨by simp [h0], q, ?_⟩)
  rw [alloc_eq_grow, alloc_eq_grow, grow_grow]
  exact ⟨_, grow_grow (W.drewN q) _ os'⟩
end Go.Proofs.YtfkfpgoicmfpkaaGreatDoor
