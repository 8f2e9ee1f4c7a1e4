/-
  Parts: Ty Hd Wk Hf Hg Hh.
-/
import Derived.Test.YtjncjiegmnicbabGreatRows
import Derived.WalkKit
import Derived.ProofKit
import Derived.Lib.Walk
import Derived.Lib.SliceRun
import Derived.Lib.JoinLaws
import Derived.Lib.AppendZeros
import Derived.Lib.AppendZerosOnto
import Derived.Lib.Overlaps
import Derived.Laws.Externs
import Derived.Laws.IdiomCopy
import Derived.Laws.AppendOwn
import Derived.Shelf.Spec.SlicesInsertGrow
import Derived.RangeFuncNested
import Derived.RangeFuncBound
import Derived.RangeFuncCalls
import Derived.RangeFuncLeaves
import Derived.RangeFuncBox
import Derived.Shelf.Abstract
import Derived.Shelf.RegionOpen
import Derived.OwnWalkIn
import Derived.TacticsInMore
import Derived.LoopNIn
import Derived.LoopIn
import Derived.Maps.Own
import Derived.StringKeys
import Derived.Maps.OwnOps
import Derived.Maps.Views
import Derived.Shelf.SlicesQ.Load
import Derived.Laws.IdiomStrings
import Derived.Test.YtjncjiegmnicbabGreatVc4
set_option linter.unusedVariables false
set_option linter.unusedSimpArgs false
namespace Go.Proofs.YtjncjiegmnicbabGreat
open Go Go.Ma
def noTi : TI := { known := false, kind := .other, agg := false, size := 0, zero := [], fields := [], elem := 0 }
def ti_1 : TI := { kind := .other, agg := false, size := 1, zero := [.nilFunc], fields := [], elem := 0, bytes := 8, eq := false, k := none }
def ti_2 : TI := { kind := (.int .i64), agg := false, size := 1, zero := [.int .i64 0], fields := [], elem := 0, bytes := 8, eq := false, k := some .int }
def ti_3 : TI := ti_2
def ti_4 : TI := { kind := .bool, agg := false, size := 1, zero := [.bool false], fields := [], elem := 0, bytes := 1, eq := false, k := some .bool }
def ti_5 : TI := { kind := (.int .u8), agg := false, size := 1, zero := [.int .u8 0], fields := [], elem := 0, bytes := 1, eq := false, k := some .u8 }
def ti_6 : TI := ti_5
def ti_7 : TI := { kind := .struct, agg := true, size := 4, zero := [.int .i64 0, .int .i64 0, .bool false, .int .u8 0], fields := [(0, 2), (1, 3), (2, 4), (3, 6)], elem := 0, bytes := 24, eq := false, k := none }
def ti_8 : TI := ti_7
def ti_9 : TI := { kind := .str, agg := false, size := 1, zero := [.string .empty], fields := [], elem := 0, bytes := 16, eq := false, k := some .str }
def ti_10 : TI := ti_9
def ti_11 : TI := ti_9
def ti_12 : TI := { kind := (.int .u64), agg := false, size := 1, zero := [.int .u64 0], fields := [], elem := 0, bytes := 8, eq := false, k := some .u64 }
def ti_13 : TI := { kind := .struct, agg := true, size := 2, zero := [.string .empty, .int .u64 0], fields := [(0, 9), (1, 12)], elem := 0, bytes := 24, eq := false, k := none }
def ti_14 : TI := ti_13
def ti_15 : TI := { kind := .other, agg := false, size := 1, zero := [.pointer none], fields := [], elem := 0, bytes := 8, eq := false, k := none }
def ti_16 : TI := ti_15
def ti_17 : TI := ti_15
def ti_18 : TI := { kind := .struct, agg := true, size := 1, zero := [.pointer none], fields := [(0, 17)], elem := 0, bytes := 8, eq := false, k := none }
def ti_19 : TI := ti_18
def ti_20 : TI := { kind := .other, agg := false, size := 1, zero := [.nilIface], fields := [], elem := 0, bytes := 16, eq := false, k := none }
def ti_21 : TI := { kind := (.int .i32), agg := false, size := 1, zero := [.int .i32 0], fields := [], elem := 0, bytes := 4, eq := false, k := none }
def ti_22 : TI := { kind := .struct, agg := true, size := 2, zero := [.int .i64 0, .int .i64 0], fields := [(0, 3), (1, 3)], elem := 0, bytes := 16, eq := false, k := none }
def ti_23 : TI := { kind := .struct, agg := true, size := 2, zero := [.int .i64 0, .int .i64 0], fields := [(0, 3), (1, 3)], elem := 0, bytes := 16, eq := true, k := none }
def ti_24 : TI := { kind := .slice, agg := false, size := 1, zero := [.slice none 0 0], fields := [], elem := 68, bytes := 24, eq := false, k := none, sl := [(0, .inl .entry, 68)] }
def ti_25 : TI := { kind := .struct, agg := true, size := 4, zero := [.int .i64 0, .int .i64 0, .int .i64 0, .slice none 0 0], fields := [(0, 3), (1, 23), (3, 24)], elem := 0, bytes := 48, eq := false, k := none, sl := [(3, .inl .entry, 68)] }
def ti_26 : TI := ti_25
def ti_27 : TI := { kind := .slice, agg := false, size := 1, zero := [.slice none 0 0], fields := [], elem := 56, bytes := 24, eq := false, k := none, sl := [(0, .inr (.int, .entry, 68), 56)] }
def ti_28 : TI := { kind := .struct, agg := true, size := 6, zero := [.int .i64 0, .int .i64 0, .int .i64 0, .int .i64 0, .slice none 0 0, .slice none 0 0], fields := [(0, 3), (1, 26), (5, 27)], elem := 0, bytes := 80, eq := false, k := none, sl := [(4, .inl .entry, 68), (5, .inr (.int, .entry, 68), 56)] }
def ti_29 : TI := ti_28
def ti_30 : TI := ti_12
def ti_31 : TI := { kind := .struct, agg := true, size := 3, zero := [.bool false, .int .u64 0, .int .u64 0], fields := [(0, 4), (1, 30), (2, 30)], elem := 0, bytes := 24, eq := false, k := none }
def ti_32 : TI := { kind := .struct, agg := true, size := 3, zero := [.bool false, .int .u64 0, .int .u64 0], fields := [(0, 4), (1, 30), (2, 30)], elem := 0, bytes := 24, eq := true, k := some .addr }
def ti_33 : TI := { kind := .struct, agg := true, size := 4, zero := [.bool false, .int .u64 0, .int .u64 0, .int .i64 0], fields := [(0, 32), (3, 3)], elem := 0, bytes := 32, eq := false, k := none }
def ti_34 : TI := { kind := .struct, agg := true, size := 4, zero := [.bool false, .int .u64 0, .int .u64 0, .int .i64 0], fields := [(0, 32), (3, 3)], elem := 0, bytes := 32, eq := true, k := some .pfx }
def ti_35 : TI := { kind := .struct, agg := true, size := 11, zero := [.int .i64 0, .bool false, .int .u64 0, .int .u64 0, .int .i64 0, .bool false, .int .u64 0, .int .u64 0, .string .empty, .int .i64 0, .int .i64 0], fields := [(0, 3), (1, 34), (5, 32), (8, 9), (9, 3), (10, 3)], elem := 0, bytes := 96, eq := false, k := none }
def ti_36 : TI := { kind := .struct, agg := true, size := 11, zero := [.int .i64 0, .bool false, .int .u64 0, .int .u64 0, .int .i64 0, .bool false, .int .u64 0, .int .u64 0, .string .empty, .int .i64 0, .int .i64 0], fields := [(0, 3), (1, 34), (5, 32), (8, 9), (9, 3), (10, 3)], elem := 0, bytes := 96, eq := true, k := some .op }
def ti_37 : TI := { kind := .struct, agg := true, size := 14, zero := [.int .i64 0, .int .i64 0, .int .i64 0, .int .i64 0, .bool false, .int .u64 0, .int .u64 0, .int .i64 0, .bool false, .int .u64 0, .int .u64 0, .string .empty, .int .i64 0, .int .i64 0], fields := [(0, 3), (1, 3), (2, 3), (3, 36)], elem := 0, bytes := 120, eq := false, k := none }
def ti_38 : TI := { kind := .struct, agg := true, size := 14, zero := [.int .i64 0, .int .i64 0, .int .i64 0, .int .i64 0, .bool false, .int .u64 0, .int .u64 0, .int .i64 0, .bool false, .int .u64 0, .int .u64 0, .string .empty, .int .i64 0, .int .i64 0], fields := [(0, 3), (1, 3), (2, 3), (3, 36)], elem := 0, bytes := 120, eq := true, k := some .event }
def ti_39 : TI := ti_2
def ti_41 : TI := ti_1
def ti_42 : TI := { kind := .slice, agg := false, size := 1, zero := [.slice none 0 0], fields := [], elem := 116, bytes := 24, eq := false, k := none, sl := [(0, .inr (.pfx, .addr, 32), 116)] }
def ti_43 : TI := { kind := .slice, agg := false, size := 1, zero := [.slice none 0 0], fields := [], elem := 127, bytes := 24, eq := false, k := none, sl := [(0, .inl .lease, 127)] }
def ti_44 : TI := { kind := .struct, agg := true, size := 3, zero := [.slice none 0 0, .slice none 0 0, .int .i64 0], fields := [(0, 42), (1, 43), (2, 3)], elem := 0, bytes := 56, eq := false, k := none, sl := [(0, .inr (.pfx, .addr, 32), 116), (1, .inl .lease, 127)] }
def ti_45 : TI := ti_44
def ti_47 : TI := ti_1
def ti_48 : TI := ti_1
def ti_49 : TI := ti_1
def ti_51 : TI := ti_1
def ti_52 : TI := { kind := .slice, agg := false, size := 1, zero := [.slice none 0 0], fields := [], elem := 32, bytes := 24, eq := false, k := none, sl := [(0, .inl .addr, 32)] }
def ti_54 : TI := ti_1
def ti_55 : TI := { kind := .struct, agg := true, size := 2, zero := [.int .i64 0, .slice none 0 0], fields := [(0, 3), (1, 24)], elem := 0, bytes := 32, eq := false, k := none, nk := some (.int, .entry, 68), sl := [(1, .inl .entry, 68)] }
def ti_56 : TI := ti_55
def ti_57 : TI := ti_1
def ti_58 : TI := ti_1
def ti_59 : TI := ti_1
def ti_60 : TI := ti_1
def ti_61 : TI := { kind := .slice, agg := false, size := 1, zero := [.slice none 0 0], fields := [], elem := 38, bytes := 24, eq := false, k := none, sl := [(0, .inl .event, 38)] }
def ti_62 : TI := { kind := .slice, agg := false, size := 1, zero := [.slice none 0 0], fields := [], elem := 4, bytes := 24, eq := false, k := none, sl := [(0, .inl .bool, 4)] }
def ti_64 : TI := ti_1
def ti_65 : TI := ti_1
def ti_66 : TI := ti_1
def ti_67 : TI := { kind := .struct, agg := true, size := 13, zero := [.int .i64 0, .int .i64 0, .int .i64 0, .bool false, .int .u64 0, .int .u64 0, .int .i64 0, .bool false, .int .u64 0, .int .u64 0, .string .empty, .int .i64 0, .int .i64 0], fields := [(0, 3), (1, 3), (2, 36)], elem := 0, bytes := 112, eq := false, k := none }
def ti_68 : TI := { kind := .struct, agg := true, size := 13, zero := [.int .i64 0, .int .i64 0, .int .i64 0, .bool false, .int .u64 0, .int .u64 0, .int .i64 0, .bool false, .int .u64 0, .int .u64 0, .string .empty, .int .i64 0, .int .i64 0], fields := [(0, 3), (1, 3), (2, 36)], elem := 0, bytes := 112, eq := true, k := some .entry }
def ti_69 : TI := ti_1
def ti_70 : TI := ti_1
def ti_71 : TI := ti_1
def ti_73 : TI := ti_1
def ti_74 : TI := ti_1
def ti_75 : TI := ti_1
def ti_77 : TI := ti_1
def ti_78 : TI := ti_1
def ti_80 : TI := ti_1
def ti_82 : TI := ti_1
def ti_83 : TI := { kind := .slice, agg := false, size := 1, zero := [.slice none 0 0], fields := [], elem := 36, bytes := 24, eq := false, k := none, sl := [(0, .inl .op, 36)] }
def ti_84 : TI := ti_1
def ti_86 : TI := ti_1
def ti_87 : TI := ti_1
def ti_88 : TI := ti_1
def ti_89 : TI := ti_1
def ti_90 : TI := ti_1
def ti_91 : TI := ti_1
def ti_92 : TI := ti_15
def ti_93 : TI := ti_1
def ti_94 : TI := ti_1
def ti_95 : TI := { kind := .struct, agg := true, size := 6, zero := [.int .i64 0, .int .i64 0, .int .i64 0, .int .i64 0, .slice none 0 0, .slice none 0 0], fields := [(0, 29)], elem := 0, bytes := 80, eq := false, k := none, sl := [(4, .inl .entry, 68), (5, .inr (.int, .entry, 68), 56)] }
def ti_96 : TI := ti_95
def ti_97 : TI := ti_1
def ti_98 : TI := ti_1
def ti_99 : TI := ti_1
def ti_100 : TI := ti_1
def ti_101 : TI := ti_1
def ti_102 : TI := ti_1
def ti_104 : TI := ti_1
def ti_105 : TI := ti_1
def ti_106 : TI := ti_1
def ti_107 : TI := ti_1
def ti_108 : TI := ti_1
def ti_109 : TI := ti_1
def ti_110 : TI := ti_1
def ti_111 : TI := ti_1
def ti_112 : TI := ti_1
def ti_113 : TI := ti_1
def ti_114 : TI := ti_1
def ti_115 : TI := { kind := .struct, agg := true, size := 5, zero := [.bool false, .int .u64 0, .int .u64 0, .int .i64 0, .slice none 0 0], fields := [(0, 34), (4, 52)], elem := 0, bytes := 56, eq := false, k := none, nk := some (.pfx, .addr, 32), sl := [(4, .inl .addr, 32)] }
def ti_116 : TI := ti_115
def ti_117 : TI := ti_1
def ti_118 : TI := ti_1
def ti_119 : TI := ti_1
def ti_120 : TI := { kind := .slice, agg := false, size := 1, zero := [.slice none 0 0], fields := [], elem := 24, bytes := 24, eq := false, k := none }
def ti_121 : TI := ti_1
def ti_122 : TI := ti_1
def ti_123 : TI := ti_1
def ti_124 : TI := ti_1
def ti_125 : TI := ti_1
def ti_126 : TI := { kind := .struct, agg := true, size := 5, zero := [.bool false, .int .u64 0, .int .u64 0, .string .empty, .int .i64 0], fields := [(0, 32), (3, 9), (4, 3)], elem := 0, bytes := 48, eq := false, k := none }
def ti_127 : TI := { kind := .struct, agg := true, size := 5, zero := [.bool false, .int .u64 0, .int .u64 0, .string .empty, .int .i64 0], fields := [(0, 32), (3, 9), (4, 3)], elem := 0, bytes := 48, eq := true, k := some .lease }
def ti_128 : TI := ti_1
def ti_129 : TI := ti_1
def ti_130 : TI := ti_1
def ti_131 : TI := ti_1
def ti_132 : TI := ti_1
def ti_133 : TI := ti_1
def ti_134 : TI := ti_15
def ti_135 : TI := ti_1
def ti_136 : TI := ti_15
def ti_137 : TI := { kind := .struct, agg := true, size := 4, zero := [.slice none 0 0, .slice none 0 0, .int .i64 0, .slice none 0 0], fields := [(0, 45), (3, 52)], elem := 0, bytes := 80, eq := false, k := none, sl := [(0, .inr (.pfx, .addr, 32), 116), (1, .inl .lease, 127), (3, .inl .addr, 32)] }
def ti_138 : TI := ti_137
def ti_139 : TI := ti_1
def ti_140 : TI := ti_1
def ti_141 : TI := ti_1
def ti_142 : TI := ti_1
def ti_143 : TI := ti_1
def ti_145 : TI := ti_1
def ti_146 : TI := ti_1
def ti_147 : TI := ti_1
def ti_148 : TI := ti_1
def ti_149 : TI := ti_1
def ti_150 : TI := ti_1
def ti_151 : TI := ti_1
def ti_152 : TI := ti_1
def ti_153 : TI := ti_1
def ti_154 : TI := ti_1
def ti_155 : TI := ti_1
def ti_156 : TI := ti_1
def ti_157 : TI := ti_1
def ti_158 : TI := ti_1
def ti_159 : TI := { kind := .other, agg := false, size := 1, zero := [.map none], fields := [], elem := 0, bytes := 8, eq := false, k := none }
def ti_160 : TI := ti_1
def ti_161 : TI := ti_1
def ti_162 : TI := ti_15
def ti_163 : TI := { kind := .struct, agg := true, size := 4, zero := [.int .i64 0, .int .i64 0, .int .i64 0, .slice none 0 0], fields := [(0, 26)], elem := 0, bytes := 48, eq := false, k := none, sl := [(3, .inl .entry, 68)] }
def ti_164 : TI := ti_163
def ti_165 : TI := ti_1
def ti_166 : TI := ti_1
def ti_168 : TI := ti_1
def ti_169 : TI := ti_1
def ti_170 : TI := { kind := .slice, agg := false, size := 1, zero := [.slice none 0 0], fields := [], elem := 5, bytes := 24, eq := false, k := none, sl := [(0, .inl .u8, 5)] }
def ti_171 : TI := ti_15
def ti_172 : TI := ti_1
def ti_173 : TI := { kind := .struct, agg := true, size := 3, zero := [.slice none 0 0, .slice none 0 0, .int .i64 0], fields := [(0, 45)], elem := 0, bytes := 56, eq := false, k := none, sl := [(0, .inr (.pfx, .addr, 32), 116), (1, .inl .lease, 127)] }
def ti_174 : TI := ti_173
def ti_176 : TI := ti_1
def ti_177 : TI := ti_1
def ti_178 : TI := ti_1
def ti_179 : TI := ti_1
def ti_180 : TI := ti_1
def ti_181 : TI := ti_1
def ti_182 : TI := ti_1
def ti_183 : TI := ti_1
def ti_184 : TI := ti_1
def ti_185 : TI := ti_1
def ti_187 : TI := ti_1
def ti_188 : TI := ti_1
def ti_189 : TI := ti_1
def ti_190 : TI := ti_15
def ti_191 : TI := ti_1
def ti_192 : TI := ti_1
def ti_193 : TI := ti_1
def ti_194 : TI := ti_1
def ti_195 : TI := ti_1
def ti_196 : TI := ti_1
def ti_197 : TI := ti_1
def ti_198 : TI := ti_12
def ti_199 : TI := ti_1
def ti_200 : TI := ti_1
def ti_201 : TI := ti_1
def ti_202 : TI := ti_15
def ti_203 : TI := { kind := .struct, agg := true, size := 6, zero := [.bool false, .int .u64 0, .int .u64 0, .int .i64 0, .slice none 0 0, .slice none 0 0], fields := [(0, 116), (5, 43)], elem := 0, bytes := 80, eq := false, k := none, sl := [(4, .inl .addr, 32), (5, .inl .lease, 127)] }
def ti_204 : TI := ti_203
def ti_205 : TI := ti_1
def ti_206 : TI := ti_1
def ti_207 : TI := ti_1
def ti_208 : TI := ti_1
def ti_209 : TI := ti_1
def ti_210 : TI := ti_1
def ti_211 : TI := ti_1
def ti_212 : TI := ti_1
def ti_213 : TI := ti_1
def ti_214 : TI := ti_1
def ti_215 : TI := ti_2
def ti_217 : TI := ti_1
def ti_218 : TI := ti_1
def ti_219 : TI := ti_1
def ti_220 : TI := ti_1
def ti_221 : TI := ti_1
def ti_222 : TI := { kind := (.int .u32), agg := false, size := 1, zero := [.int .u32 0], fields := [], elem := 0, bytes := 4, eq := false, k := none }
def ti_223 : TI := ti_1
def ti_224 : TI := ti_1
def ti_225 : TI := ti_1
def ti_226 : TI := ti_1
def ti_227 : TI := ti_12
def ti_228 : TI := ti_1
def ti_229 : TI := ti_1
def ti_230 : TI := ti_1
def ti_231 : TI := ti_15
def ti_232 : TI := ti_1
def ti_233 : TI := ti_1
def ti_234 : TI := ti_1
def ti_235 : TI := ti_15
def ti_237 : TI := ti_1
def ti_238 : TI := ti_1
def ti_239 : TI := { kind := .struct, agg := true, size := 4, zero := [.pointer none, .pointer none, .pointer none, .string .empty], fields := [(0, 17), (1, 17), (2, 17), (3, 9)], elem := 0, bytes := 40, eq := false, k := none }
def ti_240 : TI := ti_239
def ti_241 : TI := { kind := .other, agg := true, size := 0, zero := [], fields := [], elem := 16, bytes := 0, eq := false, k := none }
def ti_242 : TI := { kind := .struct, agg := true, size := 0, zero := [], fields := [(0, 241)], elem := 0, bytes := 0, eq := false, k := none }
def ti_243 : TI := ti_242
def ti_244 : TI := ti_1
def ti_245 : TI := ti_5
def ti_246 : TI := ti_5
def ti_247 : TI := ti_1
def ti_248 : TI := ti_15
def ti_249 : TI := ti_21
def ti_250 : TI := ti_21
def ti_251 : TI := { kind := .struct, agg := true, size := 11, zero := [.int .u64 0, .int .u64 0, .int .u32 0, .int .u8 0, .int .u8 0, .int .u8 0, .int .u8 0, .nilFunc, .pointer none, .int .i32 0, .int .i32 0], fields := [(0, 12), (1, 12), (2, 222), (3, 245), (4, 5), (5, 5), (6, 246), (7, 247), (8, 248), (9, 249), (10, 250)], elem := 0, bytes := 48, eq := false, k := none }
def ti_252 : TI := ti_251
def ti_253 : TI := ti_15
def ty (t : Nat) : TI := bif Nat.blt t 256 then (bif Nat.blt t 128 then (bif Nat.blt t 64 then (bif Nat.blt t 32 then (bif Nat.blt t 16 then (bif Nat.blt t 8 then (bif Nat.blt t 4 then (bif Nat.blt t 2 then (bif Nat.blt t 1 then noTi else ti_1) else (bif Nat.blt t 3 then ti_2 else ti_3)) else (bif Nat.blt t 6 then (bif Nat.blt t 5 then ti_4 else ti_5) else (bif Nat.blt t 7 then ti_6 else ti_7))) else (bif Nat.blt t 12 then (bif Nat.blt t 10 then (bif Nat.blt t 9 then ti_8 else ti_9) else (bif Nat.blt t 11 then ti_10 else ti_11)) else (bif Nat.blt t 14 then (bif Nat.blt t 13 then ti_12 else ti_13) else (bif Nat.blt t 15 then ti_14 else ti_15)))) else (bif Nat.blt t 24 then (bif Nat.blt t 20 then (bif Nat.blt t 18 then (bif Nat.blt t 17 then ti_16 else ti_17) else (bif Nat.blt t 19 then ti_18 else ti_19)) else (bif Nat.blt t 22 then (bif Nat.blt t 21 then ti_20 else ti_21) else (bif Nat.blt t 23 then ti_22 else ti_23))) else (bif Nat.blt t 28 then (bif Nat.blt t 26 then (bif Nat.blt t 25 then ti_24 else ti_25) else (bif Nat.blt t 27 then ti_26 else ti_27)) else (bif Nat.blt t 30 then (bif Nat.blt t 29 then ti_28 else ti_29) else (bif Nat.blt t 31 then ti_30 else ti_31))))) else (bif Nat.blt t 48 then (bif Nat.blt t 40 then (bif Nat.blt t 36 then (bif Nat.blt t 34 then (bif Nat.blt t 33 then ti_32 else ti_33) else (bif Nat.blt t 35 then ti_34 else ti_35)) else (bif Nat.blt t 38 then (bif Nat.blt t 37 then ti_36 else ti_37) else (bif Nat.blt t 39 then ti_38 else ti_39))) else (bif Nat.blt t 44 then (bif Nat.blt t 42 then (bif Nat.blt t 41 then noTi else ti_41) else (bif Nat.blt t 43 then ti_42 else ti_43)) else (bif Nat.blt t 46 then (bif Nat.blt t 45 then ti_44 else ti_45) else (bif Nat.blt t 47 then noTi else ti_47)))) else (bif Nat.blt t 56 then (bif Nat.blt t 52 then (bif Nat.blt t 50 then (bif Nat.blt t 49 then ti_48 else ti_49) else (bif Nat.blt t 51 then noTi else ti_51)) else (bif Nat.blt t 54 then (bif Nat.blt t 53 then ti_52 else noTi) else (bif Nat.blt t 55 then ti_54 else ti_55))) else (bif Nat.blt t 60 then (bif Nat.blt t 58 then (bif Nat.blt t 57 then ti_56 else ti_57) else (bif Nat.blt t 59 then ti_58 else ti_59)) else (bif Nat.blt t 62 then (bif Nat.blt t 61 then ti_60 else ti_61) else (bif Nat.blt t 63 then ti_62 else noTi)))))) else (bif Nat.blt t 96 then (bif Nat.blt t 80 then (bif Nat.blt t 72 then (bif Nat.blt t 68 then (bif Nat.blt t 66 then (bif Nat.blt t 65 then ti_64 else ti_65) else (bif Nat.blt t 67 then ti_66 else ti_67)) else (bif Nat.blt t 70 then (bif Nat.blt t 69 then ti_68 else ti_69) else (bif Nat.blt t 71 then ti_70 else ti_71))) else (bif Nat.blt t 76 then (bif Nat.blt t 74 then (bif Nat.blt t 73 then noTi else ti_73) else (bif Nat.blt t 75 then ti_74 else ti_75)) else (bif Nat.blt t 78 then (bif Nat.blt t 77 then noTi else ti_77) else (bif Nat.blt t 79 then ti_78 else noTi)))) else (bif Nat.blt t 88 then (bif Nat.blt t 84 then (bif Nat.blt t 82 then (bif Nat.blt t 81 then ti_80 else noTi) else (bif Nat.blt t 83 then ti_82 else ti_83)) else (bif Nat.blt t 86 then (bif Nat.blt t 85 then ti_84 else noTi) else (bif Nat.blt t 87 then ti_86 else ti_87))) else (bif Nat.blt t 92 then (bif Nat.blt t 90 then (bif Nat.blt t 89 then ti_88 else ti_89) else (bif Nat.blt t 91 then ti_90 else ti_91)) else (bif Nat.blt t 94 then (bif Nat.blt t 93 then ti_92 else ti_93) else (bif Nat.blt t 95 then ti_94 else ti_95))))) else (bif Nat.blt t 112 then (bif Nat.blt t 104 then (bif Nat.blt t 100 then (bif Nat.blt t 98 then (bif Nat.blt t 97 then ti_96 else ti_97) else (bif Nat.blt t 99 then ti_98 else ti_99)) else (bif Nat.blt t 102 then (bif Nat.blt t 101 then ti_100 else ti_101) else (bif Nat.blt t 103 then ti_102 else noTi))) else (bif Nat.blt t 108 then (bif Nat.blt t 106 then (bif Nat.blt t 105 then ti_104 else ti_105) else (bif Nat.blt t 107 then ti_106 else ti_107)) else (bif Nat.blt t 110 then (bif Nat.blt t 109 then ti_108 else ti_109) else (bif Nat.blt t 111 then ti_110 else ti_111)))) else (bif Nat.blt t 120 then (bif Nat.blt t 116 then (bif Nat.blt t 114 then (bif Nat.blt t 113 then ti_112 else ti_113) else (bif Nat.blt t 115 then ti_114 else ti_115)) else (bif Nat.blt t 118 then (bif Nat.blt t 117 then ti_116 else ti_117) else (bif Nat.blt t 119 then ti_118 else ti_119))) else (bif Nat.blt t 124 then (bif Nat.blt t 122 then (bif Nat.blt t 121 then ti_120 else ti_121) else (bif Nat.blt t 123 then ti_122 else ti_123)) else (bif Nat.blt t 126 then (bif Nat.blt t 125 then ti_124 else ti_125) else (bif Nat.blt t 127 then ti_126 else ti_127))))))) else (bif Nat.blt t 192 then (bif Nat.blt t 160 then (bif Nat.blt t 144 then (bif Nat.blt t 136 then (bif Nat.blt t 132 then (bif Nat.blt t 130 then (bif Nat.blt t 129 then ti_128 else ti_129) else (bif Nat.blt t 131 then ti_130 else ti_131)) else (bif Nat.blt t 134 then (bif Nat.blt t 133 then ti_132 else ti_133) else (bif Nat.blt t 135 then ti_134 else ti_135))) else (bif Nat.blt t 140 then (bif Nat.blt t 138 then (bif Nat.blt t 137 then ti_136 else ti_137) else (bif Nat.blt t 139 then ti_138 else ti_139)) else (bif Nat.blt t 142 then (bif Nat.blt t 141 then ti_140 else ti_141) else (bif Nat.blt t 143 then ti_142 else ti_143)))) else (bif Nat.blt t 152 then (bif Nat.blt t 148 then (bif Nat.blt t 146 then (bif Nat.blt t 145 then noTi else ti_145) else (bif Nat.blt t 147 then ti_146 else ti_147)) else (bif Nat.blt t 150 then (bif Nat.blt t 149 then ti_148 else ti_149) else (bif Nat.blt t 151 then ti_150 else ti_151))) else (bif Nat.blt t 156 then (bif Nat.blt t 154 then (bif Nat.blt t 153 then ti_152 else ti_153) else (bif Nat.blt t 155 then ti_154 else ti_155)) else (bif Nat.blt t 158 then (bif Nat.blt t 157 then ti_156 else ti_157) else (bif Nat.blt t 159 then ti_158 else ti_159))))) else (bif Nat.blt t 176 then (bif Nat.blt t 168 then (bif Nat.blt t 164 then (bif Nat.blt t 162 then (bif Nat.blt t 161 then ti_160 else ti_161) else (bif Nat.blt t 163 then ti_162 else ti_163)) else (bif Nat.blt t 166 then (bif Nat.blt t 165 then ti_164 else ti_165) else (bif Nat.blt t 167 then ti_166 else noTi))) else (bif Nat.blt t 172 then (bif Nat.blt t 170 then (bif Nat.blt t 169 then ti_168 else ti_169) else (bif Nat.blt t 171 then ti_170 else ti_171)) else (bif Nat.blt t 174 then (bif Nat.blt t 173 then ti_172 else ti_173) else (bif Nat.blt t 175 then ti_174 else noTi)))) else (bif Nat.blt t 184 then (bif Nat.blt t 180 then (bif Nat.blt t 178 then (bif Nat.blt t 177 then ti_176 else ti_177) else (bif Nat.blt t 179 then ti_178 else ti_179)) else (bif Nat.blt t 182 then (bif Nat.blt t 181 then ti_180 else ti_181) else (bif Nat.blt t 183 then ti_182 else ti_183))) else (bif Nat.blt t 188 then (bif Nat.blt t 186 then (bif Nat.blt t 185 then ti_184 else ti_185) else (bif Nat.blt t 187 then noTi else ti_187)) else (bif Nat.blt t 190 then (bif Nat.blt t 189 then ti_188 else ti_189) else (bif Nat.blt t 191 then ti_190 else ti_191)))))) else (bif Nat.blt t 224 then (bif Nat.blt t 208 then (bif Nat.blt t 200 then (bif Nat.blt t 196 then (bif Nat.blt t 194 then (bif Nat.blt t 193 then ti_192 else ti_193) else (bif Nat.blt t 195 then ti_194 else ti_195)) else (bif Nat.blt t 198 then (bif Nat.blt t 197 then ti_196 else ti_197) else (bif Nat.blt t 199 then ti_198 else ti_199))) else (bif Nat.blt t 204 then (bif Nat.blt t 202 then (bif Nat.blt t 201 then ti_200 else ti_201) else (bif Nat.blt t 203 then ti_202 else ti_203)) else (bif Nat.blt t 206 then (bif Nat.blt t 205 then ti_204 else ti_205) else (bif Nat.blt t 207 then ti_206 else ti_207)))) else (bif Nat.blt t 216 then (bif Nat.blt t 212 then (bif Nat.blt t 210 then (bif Nat.blt t 209 then ti_208 else ti_209) else (bif Nat.blt t 211 then ti_210 else ti_211)) else (bif Nat.blt t 214 then (bif Nat.blt t 213 then ti_212 else ti_213) else (bif Nat.blt t 215 then ti_214 else ti_215))) else (bif Nat.blt t 220 then (bif Nat.blt t 218 then (bif Nat.blt t 217 then noTi else ti_217) else (bif Nat.blt t 219 then ti_218 else ti_219)) else (bif Nat.blt t 222 then (bif Nat.blt t 221 then ti_220 else ti_221) else (bif Nat.blt t 223 then ti_222 else ti_223))))) else (bif Nat.blt t 240 then (bif Nat.blt t 232 then (bif Nat.blt t 228 then (bif Nat.blt t 226 then (bif Nat.blt t 225 then ti_224 else ti_225) else (bif Nat.blt t 227 then ti_226 else ti_227)) else (bif Nat.blt t 230 then (bif Nat.blt t 229 then ti_228 else ti_229) else (bif Nat.blt t 231 then ti_230 else ti_231))) else (bif Nat.blt t 236 then (bif Nat.blt t 234 then (bif Nat.blt t 233 then ti_232 else ti_233) else (bif Nat.blt t 235 then ti_234 else ti_235)) else (bif Nat.blt t 238 then (bif Nat.blt t 237 then noTi else ti_237) else (bif Nat.blt t 239 then ti_238 else ti_239)))) else (bif Nat.blt t 248 then (bif Nat.blt t 244 then (bif Nat.blt t 242 then (bif Nat.blt t 241 then ti_240 else ti_241) else (bif Nat.blt t 243 then ti_242 else ti_243)) else (bif Nat.blt t 246 then (bif Nat.blt t 245 then ti_244 else ti_245) else (bif Nat.blt t 247 then ti_246 else ti_247))) else (bif Nat.blt t 252 then (bif Nat.blt t 250 then (bif Nat.blt t 249 then ti_248 else ti_249) else (bif Nat.blt t 251 then ti_250 else ti_251)) else (bif Nat.blt t 254 then (bif Nat.blt t 253 then ti_252 else ti_253) else (bif Nat.blt t 255 then noTi else noTi)))))))) else noTi
theorem ty_dflt (t : Nat) (h : 256 ≤ t) : ty t = noTi := by
 have e : Nat.blt t 256 = false := by
  cases hb : Nat.blt t 256
  ·rfl
  ·have := Nat.le_of_ble_eq_true hb
   omega
 unfold ty
 rw [e]
 rfl
def tyKnown : List Nat := [1, 2, 3, 4, 5, 6, 7, 8, 9, 10, 11, 12, 13, 14, 15, 16, 17, 18, 19, 20, 21, 22, 23, 24, 25, 26, 27, 28, 29, 30, 31, 32, 33, 34, 35, 36, 37, 38, 39, 41, 42, 43, 44, 45, 47, 48, 49, 51, 52, 54, 55, 56, 57, 58, 59, 60, 61, 62, 64, 65, 66, 67, 68, 69, 70, 71, 73, 74, 75, 77, 78, 80, 82, 83, 84, 86, 87, 88, 89, 90, 91, 92, 93, 94, 95, 96, 97, 98, 99, 100, 101, 102, 104, 105, 106, 107, 108, 109, 110, 111, 112, 113, 114, 115, 116, 117, 118, 119, 120, 121, 122, 123, 124, 125, 126, 127, 128, 129, 130, 131, 132, 133, 134, 135, 136, 137, 138, 139, 140, 141, 142, 143, 145, 146, 147, 148, 149, 150, 151, 152, 153, 154, 155, 156, 157, 158, 159, 160, 161, 162, 163, 164, 165, 166, 168, 169, 170, 171, 172, 173, 174, 176, 177, 178, 179, 180, 181, 182, 183, 184, 185, 187, 188, 189, 190, 191, 192, 193, 194, 195, 196, 197, 198, 199, 200, 201, 202, 203, 204, 205, 206, 207, 208, 209, 210, 211, 212, 213, 214, 215, 217, 218, 219, 220, 221, 222, 223, 224, 225, 226, 227, 228, 229, 230, 231, 232, 233, 234, 235, 237, 238, 239, 240, 241, 242, 243, 244, 245, 246, 247, 248, 249, 250, 251, 252, 253]
theorem ty_list : tyKnown.map (fun t => ({ ty t with eq := false, k := none, nk := none, sl := [] } : TI)) = tyKnown.map (tiOf Tryz.prog) := by kernel_rfl
theorem ty_in : (List.range 256).all (fun t => !(ty t).known || tyKnown.contains t) = true := by kernel_rfl
theorem ty_fact (t : Nat) (h : (ty t).known = true) : TyFact Tryz.prog t (ty t) := by
 refine tyFact_of h ?_
 have hlt : t < 256 := by
  rcases Nat.lt_or_ge t 256 with h' | h'
  ·exact h'
  ·have : (ty t) = noTi := ty_dflt t h'
   rw [this] at h
   cases h
 have h1 := List.all_eq_true.1 ty_in t (List.mem_range.2 hlt)
 rw [h] at h1
 have hmem : t ∈ tyKnown := by simpa using h1
 have := List.map_inj_left.1 ty_list t hmem
 exact this
theorem eq_23 : StructEq Tryz.prog 23 (ty 23).zero := structEq ty_fact 23 (ty 23).zero (by kernel_rfl) (by kernel_rfl) (by kernel_rfl)
theorem eq_32 : StructEq Tryz.prog 32 (ty 32).zero := structEq ty_fact 32 (ty 32).zero (by kernel_rfl) (by kernel_rfl) (by kernel_rfl)
theorem eq_34 : StructEq Tryz.prog 34 (ty 34).zero := structEq ty_fact 34 (ty 34).zero (by kernel_rfl) (by kernel_rfl) (by kernel_rfl)
theorem eq_36 : StructEq Tryz.prog 36 (ty 36).zero := structEq ty_fact 36 (ty 36).zero (by kernel_rfl) (by kernel_rfl) (by kernel_rfl)
theorem eq_38 : StructEq Tryz.prog 38 (ty 38).zero := structEq ty_fact 38 (ty 38).zero (by kernel_rfl) (by kernel_rfl) (by kernel_rfl)
theorem eq_68 : StructEq Tryz.prog 68 (ty 68).zero := structEq ty_fact 68 (ty 68).zero (by kernel_rfl) (by kernel_rfl) (by kernel_rfl)
theorem eq_127 : StructEq Tryz.prog 127 (ty 127).zero := structEq ty_fact 127 (ty 127).zero (by kernel_rfl) (by kernel_rfl) (by kernel_rfl)
def tyEqs : List Nat := [23, 32, 34, 36, 38, 68, 127]
theorem eq_in : (List.range 256).all (fun t => !(ty t).eq || tyEqs.contains t) = true := by kernel_rfl
theorem ty_eq (t : Nat) (h : (ty t).eq = true) : StructEq Tryz.prog t (ty t).zero := by
 have hlt : t < 256 := by
  rcases Nat.lt_or_ge t 256 with h' | h'
  ·exact h'
  ·rw [ty_dflt t h'] at h
   cases h
 have h1 := List.all_eq_true.1 eq_in t (List.mem_range.2 hlt)
 rw [h] at h1
 have hmem : t ∈ tyEqs := by simpa using h1
 simp only [tyEqs, List.mem_cons, List.not_mem_nil, or_false] at hmem
 rcases hmem with rfl | rfl | rfl | rfl | rfl | rfl | rfl
 ·exact eq_23
 ·exact eq_32
 ·exact eq_34
 ·exact eq_36
 ·exact eq_38
 ·exact eq_68
 ·exact eq_127
theorem tyOk : TOk Tryz.prog ty := ⟨ty_fact, ty_eq, by kernel_rfl⟩
def fnExt : List Nat := [0, 1, 156, 158, 172, 200, 201, 202, 203, 204, 205, 206, 207, 208, 209, 210, 211, 212, 213, 214, 215]
def fnB (f : Nat) : Bool := decide (f < 216) && !fnExt.contains f
theorem fn_all : (List.range 216).all (fun f => !fnB f || (match Tryz.prog.funcs[f]? with | some fn => fn.body.isSome && !(fn.name == "runtime.NumGoroutine") | none => false)) = true := by kernel_rfl
theorem fn_ok (f : Nat) (h : fnB f = true) : HasBody Tryz.prog f := by
 have hlt : f < 216 := by
  unfold fnB at h
  simp only [Bool.and_eq_true, decide_eq_true_eq] at h
  exact h.1
 have h1 := List.all_eq_true.1 fn_all f (List.mem_range.2 hlt)
 rw [h] at h1
 simp only [Bool.not_true, Bool.false_or] at h1
 unfold HasBody
 cases hf : Tryz.prog.funcs[f]? with
 | none => rw [hf] at h1; cases h1
 | some fn =>
  rw [hf] at h1
  simp only [Bool.and_eq_true, Bool.not_eq_true'] at h1
  exact ⟨fn, rfl, h1.1, h1.2⟩
end Go.Proofs.YtjncjiegmnicbabGreat
namespace Go.Proofs.YtjncjiegmnicbabGreat
open Go Go.Ma Go.RowKit Go.Lib Go.Proofs
theorem run_copy_n {P : Program} (w : World) (dT sT ty elem : TypeId) (s : Nat) (b o dLen dCap : Nat) (a : Addr) (sLen sCap q : Nat) (cs : List Value)
  (hu : P.underlying dT = some (.slice elem)) (hs : (P.info? elem).map (·.size) = some s) (hq : q = Nat.min sLen dLen) (hn : cs.length = q * s)
  (hsrc : ∀ j v, cs[j]? = some v → w.cell? (a.add j) = some v) (hc : ∀ j, j < cs.length → (w.cell? ⟨b, o + j, none⟩).isSome = true) (hf : ∀ j, j < cs.length → w.frozen? ⟨b, o + j, none⟩ = false) (h1 : ∀ v ∈ cs, v.oneCell' = true) :
  (Builtin.copy_ #[dT, sT] ty #[.slice (some ⟨b, o, none⟩) dLen dCap, .slice (some a) sLen sCap]).run P w = .ok (goInt q) (w.setCells b o cs) := by
 have hl := run_loadCells_list (P := P) w a cs hsrc
 have hst := run_storeCells_cells (P := P) b o cs 0 w (by simpa using hc) (by simpa using hf) h1
 cases hq' : P.info? elem with
 | none => simp [hq'] at hs
 | some i =>
  have hi : i.size = s := by simpa [hq'] using hs
  rw [hn] at hl
  subst hi
  simp [Builtin.copy_, run_underlying hu, Builtin.lenOf, Builtin.firstCells, sizeOf, typeInfo, hq', ← hq, hl, hst]
theorem infoOf_yardarm_api_Lease : (Tryz.prog.info? 127).map (fun i => (i.zero.map (·.cells.size), i.size, i.bytes)) = some (some 5, 5, 48) := by kernel_rfl
theorem zq64 (w : World) : (Go.sizeOf 127).run Tryz.prog w = .ok 5 w := by kernel_rfl
theorem mixed_all : Tryz.prog.follows .mixedOrders = true := by kernel_rfl
set_option maxHeartbeats 4000000 in
set_option maxRecDepth 100000 in
/-- There is room, i < len(s): in place. -/
theorem ins_shift (b off n c i vb voff m vc : Nat) (cs vs : List Value) (w : World) (hi : i < n) (hm : 0 < m) (hroom : n + m ≤ c) (hc63 : c ≤ 9223372036854775807) (hvb : vb ≠ b)
  (hcl : cs.length = n * 5) (hvl : vs.length = m * 5)
  (hcs : ∀ j v, cs[j]? = some v → w.cell? ⟨b, off + j, none⟩ = some v) (hsp : ∀ j, j < (n + m) * 5 → (w.cell? ⟨b, off + j, none⟩).isSome = true) (hfz : ∀ j, j < (n + m) * 5 → w.frozen? ⟨b, off + j, none⟩ = false)
  (hvs : ∀ j v, vs[j]? = some v → w.cell? ⟨vb, voff + j, none⟩ = some v) (h1c : ∀ v ∈ cs, v.oneCell' = true) (h1v : ∀ v ∈ vs, v.oneCell' = true)
  (tA tB : TypeId) (kA kB : Nat) (hsa : w.shape? vb = some (tA, kA)) (hsb : w.shape? b = some (tB, kB)) (hkB : kB ≠ 0) (hfa : w.frozen? ⟨vb, voff, none⟩ = false) (hfe : w.frozen? ⟨vb, kA, none⟩ = false) :
  Calls Tryz.prog 165 #[.slice (some ⟨b, off, none⟩) n c, .int .i64 i, .slice (some ⟨vb, voff, none⟩) m vc] w fun e w' =>
   e = .returned (.slice (some ⟨b, off, none⟩) (n + m) c) ∧ w' = (w.drew.setCells b (off + (i + m) * 5) (cs.drop (i * 5))).setCells b (off + i * 5) vs := by
 have u30 := run_underlying Tryz.underlying43
 have z49 := zq64
 have hz1 : ¬ ((m : Int) = 0) := by omega
 have hz2 : ¬ ((i : Int) = (n : Int)) := by omega
 have hsz : (Tryz.prog.info? 127).map (·.size) = some 5 := by
  obtain ⟨i0, hi0, hz⟩ := Option.map_eq_some_iff.1 infoOf_yardarm_api_Lease
  simp only [Prod.mk.injEq] at hz
  rw [hi0]; simp [hz.2.1]
 have hov : ∀ lb cb, (callFunc 172 #[.slice (some ⟨vb, voff, none⟩) m vc, .slice (some ⟨b, off + (i + m) * 5, none⟩) lb cb]).run Tryz.prog w = .ok (.value (.bool false)) w := fun lb cb => by
  rw [run_callFunc_extern Tryz.func172 (by kernel_rfl) (by kernel_rfl) (by kernel_rfl) (e := Extern.SlicesOverlaps.overlaps #[43, 43] #[4]) (by kernel_rfl),
   Lib.run_overlaps_apart w 43 4 127 Tryz.underlying43 5 zq64 ⟨vb, voff, none⟩ ⟨b, off + (i + m) * 5, none⟩ m vc lb cb hvb tA tB kA kB hsa hsb hkB hfa hfe]
  rfl
 have hdl : (cs.drop (i * 5)).length = (n - i) * 5 := by rw [List.length_drop, hcl]; omega
 have mixed := mixed_all
 have hw1 : IntKind.i64.wrap ((i : Int) + (m : Int)) = (i : Int) + (m : Int) := by rw [IntKind.wrap_i64]; omega
 have hb1 : (0 : Int) ≤ (i : Int) + (m : Int) := by omega
 have hin : i ≤ n := by omega
 have htn : ((i : Int) + (m : Int)).toNat = i + m := by omega
 have hb2 : ¬ (c = i + m) := by omega
 have hb3 : (i : Int) ≤ (n : Int) + (m : Int) := by omega
 have hb4 : ¬ (c = i) := by omega
 have hcp1 : ∀ ty dc sc, (Builtin.copy_ #[43, 43] ty #[.slice (some ⟨b, off + (i + m) * 5, none⟩) (n + m - (i + m)) dc, .slice (some ⟨b, off + i * 5, none⟩) (n + m - i) sc]).run Tryz.prog w.drew = .ok (goInt ((n - i : Nat) : Int)) (w.drew.setCells b (off + (i + m) * 5) (cs.drop (i * 5))) := fun ty dc sc =>
  run_copy_n w.drew _ _ ty 127 5 b (off + (i + m) * 5) (n + m - (i + m)) dc ⟨b, off + i * 5, none⟩ (n + m - i) sc (n - i) (cs.drop (i * 5)) Tryz.underlying43 hsz (by simp only [Nat.min_def]; split <;> omega) hdl
   (fun j v hj => by rw [Addr.add_lit, Nat.add_assoc]; exact hcs (i * 5 + j) v (by rwa [List.getElem?_drop] at hj))
   (fun j hj => by rw [Nat.add_assoc]; exact hsp _ (by omega)) (fun j hj => by rw [Nat.add_assoc]; exact hfz _ (by omega)) (fun v hv => h1c v (List.mem_of_mem_drop hv))
 obtain ⟨W1, hW1⟩ : ∃ W1, W1 = w.drew.setCells b (off + (i + m) * 5) (cs.drop (i * 5)) := ⟨_, rfl⟩
 have hsp1 : ∀ k, k < (n + m) * 5 → (W1.cell? ⟨b, off + k, none⟩).isSome = true := fun k hk => by
  rw [hW1]
  exact isSome_setCells b _ _ _ (fun j hj => by rw [Nat.add_assoc]; exact hsp _ (by omega)) _ (hsp k hk)
 have hcp2 : ∀ (W : World), (∀ x, W.cell? x = W1.cell? x) → (∀ x, W.frozen? x = W1.frozen? x) → ∀ ty dc, (Builtin.copy_ #[43, 43] ty #[.slice (some ⟨b, off + i * 5, none⟩) (n + m - i) dc, .slice (some ⟨vb, voff, none⟩) m vc]).run Tryz.prog W = .ok (goInt m) (W.setCells b (off + i * 5) vs) := fun W hWc hWf ty dc =>
  run_copy_n W _ _ ty 127 5 b (off + i * 5) (n + m - i) dc ⟨vb, voff, none⟩ m vc m vs Tryz.underlying43 hsz (by simp only [Nat.min_def]; split <;> omega) hvl
   (fun j v hj => by
    rw [Addr.add_lit, hWc, hW1, World.cell?_setCells_out b _ _ _ _ (fun h _ => absurd h hvb)]
    exact hvs j v hj)
   (fun j hj => by rw [hWc, Nat.add_assoc]; exact hsp1 _ (by omega)) (fun j hj => by rw [hWf, hW1, World.frozen?_setCells, Nat.add_assoc]; exact hfz _ (by omega)) h1v
 rw [← hW1] at hcp1
 go_enter Tryz.func165, Tryz.ntmps165
 go_wp2_with (simp only [hov])
 go_region_law_o (refine step_copy_runI rfl _ _ 43 43 rfl _ _ (by simp [Act.eval, Act.put]) (by simp [Act.eval, Act.put]) (hcp1 _ _ _) ?_)
 go_wp2_with (at_builtin; refine wpList_copy_runI _ rfl _ _ 43 43 rfl _ _ rfl rfl (hcp2 _ (fun _ => rfl) (fun _ => rfl) _ _) ?_)
 go_ret
 first | exact ⟨rfl, rfl⟩ | exact ⟨rfl, by rw [hW1]⟩
set_option maxHeartbeats 4000000 in
set_option maxRecDepth 100000 in
/-- i < len(s), no room: a new row. -/
theorem ins_grow (b off n c i vb voff m vc : Nat) (cs vs : List Value) (z : Value) (hz0 : (Tryz.prog.info? 127).map (·.zero) = some (some z)) (w : World) (hi : i < n) (hm : 0 < m) (hnc : n ≤ c) (hroom : c < n + m) (hbig : (n + m) * 48 ≤ 140737488355328)
  (hcl : cs.length = n * 5) (hvl : vs.length = m * 5)
  (hcs : ∀ j v, cs[j]? = some v → w.cell? ⟨b, off + j, none⟩ = some v)
  (hvs : ∀ j v, vs[j]? = some v → w.cell? ⟨vb, voff + j, none⟩ = some v) (h1c : ∀ v ∈ cs, v.oneCell' = true) (h1v : ∀ v ∈ vs, v.oneCell' = true) :
  Calls Tryz.prog 165 #[.slice (some ⟨b, off, none⟩) n c, .int .i64 i, .slice (some ⟨vb, voff, none⟩) m vc] w fun e w' =>
   e = .returned (.slice (some ⟨w.heap.size, 0, none⟩) (n + m) (grownCap w (n + m) c 127)) ∧
   w' = (((w.alloc (.cells ((cs.take (i * 5)).toArray ++ Builtin.zeroCells z.cells (n + m - i) ++ Builtin.zeroCells z.cells (grownCap w (n + m) c 127 - (n + m))) 127)).drew.setCells w.heap.size (i * 5) vs).drew).setCells w.heap.size ((i + m) * 5) (cs.drop (i * 5)) := by
 have u30 := run_underlying Tryz.underlying43
 have z49 := zq64
 have mixed := mixed_all
 obtain ⟨i0, hi0, hz⟩ := Option.map_eq_some_iff.1 infoOf_yardarm_api_Lease
 simp only [Prod.mk.injEq] at hz
 obtain ⟨hzc, hzs, hzb⟩ := hz
 have hz0 : i0.zero = some z := by rw [hi0] at hz0; simpa using hz0
 have hzc : z.cells.size = 5 := by rw [hz0] at hzc; simpa using hzc
 have hz1 : ¬ ((m : Int) = 0) := by omega
 have hz2 : ¬ ((i : Int) = (n : Int)) := by omega
 have hz3 : (c : Int) < (n : Int) + (m : Int) := by omega
 have hsz : (Tryz.prog.info? 127).map (·.size) = some 5 := by rw [hi0]; simp [hzs]
 have hbw : b < w.heap.size := block_lt_of_cell (hcs 0 _ (List.getElem?_eq_getElem (by omega)))
 have hvw : vb < w.heap.size := block_lt_of_cell (hvs 0 _ (List.getElem?_eq_getElem (by omega)))
 have hkk : (n : Int) + (m : Int) - (i : Int) = ((n + m - i : Nat) : Int) := by omega
 have hik : i + (n + m - i) = n + m := by omega
 have hold : (Builtin.firstCells i0.size i (.slice (some ⟨b, off, none⟩) i c)).run Tryz.prog w.drew = .ok (cs.take (i * 5)).toArray w.drew := by
  rw [hzs]
  exact run_firstCells_some w.drew 5 i ⟨b, off, none⟩ i c (cs.take (i * 5)) (by rw [List.length_take]; omega) (fun j v hj => by
   rw [Addr.add_lit]
   rw [List.getElem?_take] at hj
   split at hj
   ·exact hcs j v hj
   ·cases hj)
 have hrz : ∀ ty, (Builtin.append_ #[43, 3] ty #[.slice (some ⟨b, off, none⟩) i c, .int .i64 ((n : Int) + (m : Int) - (i : Int))]).run Tryz.prog w =
   .ok (.slice (some ⟨w.heap.size, 0, none⟩) (n + m) (grownCap w (n + m) c 127)) (w.drew.alloc (.cells ((cs.take (i * 5)).toArray ++ Builtin.zeroCells z.cells (n + m - i) ++ Builtin.zeroCells z.cells (grownCap w (n + m) c 127 - (n + m))) 127)) := fun ty => by
  have h := Lib.run_append_grow_zeros w 43 3 ty 127 i0 z .i64 .i64 Tryz.underlying43 Tryz.underlying3 hi0 hz0 (some ⟨b, off, none⟩) i c (cs.take (i * 5)) hold (n + m - i) (by omega) (by omega) (by omega) (by omega) (by rw [hzb]; omega) (by rw [hzb, hik]; exact growslice_fits hroom hbig)
  rw [hik] at h
  rw [hkk]
  exact h
 obtain ⟨G, hG⟩ : ∃ G, G = grownCap w (n + m) c 127 := ⟨_, rfl⟩
 obtain ⟨ROW, hROW⟩ : ∃ ROW : Array Value, ROW = (cs.take (i * 5)).toArray ++ Builtin.zeroCells z.cells (n + m - i) ++ Builtin.zeroCells z.cells (G - (n + m)) := ⟨_, rfl⟩
 rw [← hG] at hrz ⊢
 rw [← hROW] at hrz ⊢
 have hRl : (n + m) * 5 ≤ ROW.size := by
  rw [hROW]
  simp [Builtin.zeroCells, hzc]
  omega
 obtain ⟨W1, hW1⟩ : ∃ W1, W1 = w.drew.alloc (.cells ROW 127) := ⟨_, rfl⟩
 rw [← hW1] at hrz
 have hN : ∀ j, j < (n + m) * 5 → (W1.cell? ⟨w.heap.size, j, none⟩).isSome = true := fun j hj => by
  rw [hW1, World.cell?_alloc_at (w := w.drew) ROW _ w.heap.size j rfl, Array.getElem?_eq_getElem (by omega)]; rfl
 have hNf : ∀ j, W1.frozen? ⟨w.heap.size, j, none⟩ = false := fun j => by rw [hW1]; exact World.frozen?_alloc_at (w := w.drew) ROW _ w.heap.size j rfl
 have hOb : ∀ j v, w.cell? ⟨b, j, none⟩ = some v → W1.cell? ⟨b, j, none⟩ = some v := fun j v h => by rw [hW1, World.cell?_alloc_past (w := w.drew) _ b j hbw]; exact h
 have hOv : ∀ j v, w.cell? ⟨vb, j, none⟩ = some v → W1.cell? ⟨vb, j, none⟩ = some v := fun j v h => by rw [hW1, World.cell?_alloc_past (w := w.drew) _ vb j hvw]; exact h
 have hcpA : ∀ (W : World), (∀ x, W.cell? x = W1.cell? x) → (∀ x, W.frozen? x = W1.frozen? x) → ∀ ty dc, (Builtin.copy_ #[43, 43] ty #[.slice (some ⟨w.heap.size, i * 5, none⟩) (n + m - i) dc, .slice (some ⟨vb, voff, none⟩) m vc]).run Tryz.prog W = .ok (goInt (m : Int)) (W.setCells w.heap.size (i * 5) vs) := fun W hWc hWf ty dc =>
  run_copy_n W _ _ ty 127 5 w.heap.size (i * 5) (n + m - i) dc ⟨vb, voff, none⟩ m vc m vs Tryz.underlying43 hsz (by simp only [Nat.min_def]; split <;> omega) hvl
   (fun j v hj => by rw [Addr.add_lit, hWc]; exact hOv _ v (hvs j v hj))
   (fun j hj => by rw [hWc]; exact hN _ (by omega)) (fun j hj => by rw [hWf]; exact hNf _) h1v
 have hGn : n + m ≤ G := by rw [hG]; exact grownCap_ge w _ _ _
 have hG63 : G ≤ 9223372036854775807 := by
  have := grownCap_le_maxLen w (n + m) c 127 (by unfold maxLen; omega)
  rw [← hG] at this
  unfold maxLen at this
  omega
 have hGi : ¬ (G = i) := by omega
 have hGim : ¬ (G = i + m) := by omega
 have hci : ¬ (c = i) := by omega
 have hbN : b ≠ w.heap.size := by omega
 have hdl : (cs.drop (i * 5)).length = (n - i) * 5 := by rw [List.length_drop, hcl]; omega
 have hcpB : ∀ (W : World), (∀ x, W.cell? x = (W1.setCells w.heap.size (i * 5) vs).cell? x) → (∀ x, W.frozen? x = (W1.setCells w.heap.size (i * 5) vs).frozen? x) → ∀ ty dc sc, (Builtin.copy_ #[43, 43] ty #[.slice (some ⟨w.heap.size, (i + m) * 5, none⟩) (n + m - (i + m)) dc, .slice (some ⟨b, off + i * 5, none⟩) (n - i) sc]).run Tryz.prog W = .ok (goInt ((n - i : Nat) : Int)) (W.setCells w.heap.size ((i + m) * 5) (cs.drop (i * 5))) := fun W hWc hWf ty dc sc =>
  run_copy_n W _ _ ty 127 5 w.heap.size ((i + m) * 5) (n + m - (i + m)) dc ⟨b, off + i * 5, none⟩ (n - i) sc (n - i) (cs.drop (i * 5)) Tryz.underlying43 hsz (by simp only [Nat.min_def]; split <;> omega) hdl
   (fun j v hj => by
    rw [Addr.add_lit, hWc, World.cell?_setCells_out _ _ _ _ _ (fun h _ => absurd h hbN), Nat.add_assoc]
    exact hOb _ v (hcs (i * 5 + j) v (by rwa [List.getElem?_drop] at hj)))
   (fun j hj => by rw [hWc]; exact isSome_setCells _ _ _ _ (fun t ht => hN _ (by omega)) _ (hN _ (by omega)))
   (fun j hj => by rw [hWf, World.frozen?_setCells]; exact hNf _) (fun v hv => h1c v (List.mem_of_mem_drop hv))
 subst hW1
 have hE1 : ∀ x, ((w.alloc (.cells ROW 127)).drew).cell? x = (w.drew.alloc (.cells ROW 127)).cell? x := fun x => rfl
 have hE2 : ∀ x, ((w.alloc (.cells ROW 127)).drew).frozen? x = (w.drew.alloc (.cells ROW 127)).frozen? x := fun x => rfl
 have hF1 : ∀ x, (((w.alloc (.cells ROW 127)).drew.setCells w.heap.size (i * 5) vs).drew).cell? x = ((w.drew.alloc (.cells ROW 127)).setCells w.heap.size (i * 5) vs).cell? x := fun x => rfl
 have hF2 : ∀ x, (((w.alloc (.cells ROW 127)).drew.setCells w.heap.size (i * 5) vs).drew).frozen? x = ((w.drew.alloc (.cells ROW 127)).setCells w.heap.size (i * 5) vs).frozen? x := fun x => rfl
 have hw1 : IntKind.i64.wrap ((i : Int) + (m : Int)) = (i : Int) + (m : Int) := by rw [IntKind.wrap_i64]; omega
 have hb1 : (0 : Int) ≤ (i : Int) + (m : Int) := by omega
 have hin : i ≤ n := by omega
 have htn : ((i : Int) + (m : Int)).toNat = i + m := by omega
 have hb3 : (i : Int) ≤ (n : Int) := by omega
 clear hkk hik hold hROW hG hRl
 go_enter Tryz.func165, Tryz.ntmps165
 go_wp2_with (first
  | (at_builtin; refine Lib.wpList_append_run _ rfl _ _ _ _ rfl _ _ rfl rfl _ _ (hrz _) ?_)
  | (at_builtin; refine wpList_copy_runI _ rfl _ _ 43 43 rfl _ _ rfl rfl (hcpA _ hE1 hE2 _ _) ?_)
  | (at_builtin; refine wpList_copy_runI _ rfl _ _ 43 43 rfl _ _ rfl rfl (hcpB _ (fun _ => rfl) (fun _ => rfl) _ _ _) ?_))
 go_region_law_o (refine step_copy_runI rfl _ _ 43 43 rfl (.slice (some ⟨w.heap.size, (i + m) * 5, none⟩) (n + m - (i + m)) (G - (i + m))) (.slice (some ⟨b, off + i * 5, none⟩) (n - i) (c - i)) (by simp [Act.eval, Act.put]) (by simp [Act.eval, Act.put]) (hcpB _ hF1 hF2 3 (G - (i + m)) (c - i)) ?_)
 go_wp2
 go_ret
 exact ⟨rfl, rfl⟩
set_option maxHeartbeats 4000000 in
set_option maxRecDepth 100000 in
/-- At the end: whatever append does. -/
theorem ins_end (v : Value) (base : Option Addr) (n c : Nat) (vb vc m : Nat) (v' : Value) (w w' : World) (hm : 0 < m) (hnc : n ≤ c)
  (hrun : ∀ ty, (Builtin.append_ #[43, 43] ty #[.slice base n c, .slice (some ⟨vb, 0, none⟩) m vc]).run Tryz.prog w = .ok v' w') (hsl : ∃ A N C, v' = .slice A N C) (hnil : base = none → n = 0) :
  Calls Tryz.prog 165 #[.slice base n c, .int .i64 n, .slice (some ⟨vb, 0, none⟩) m vc] w fun e w2 => e = .returned v' ∧ w2 = w' := by
 have u30 := run_underlying Tryz.underlying43
 have z49 := zq64
 have mixed := mixed_all
 have hz1 : ¬ ((m : Int) = 0) := by omega
 obtain ⟨A, N, C, rfl⟩ := hsl
 go_enter Tryz.func165, Tryz.ntmps165
 cases base with
 | none =>
  have h0 := hnil rfl
  subst h0
  go_wp2_with (at_builtin; refine Lib.wpList_append_run _ rfl _ _ _ _ rfl _ _ rfl rfl _ _ (hrun _) ?_)
  all_goals (go_ret; exact ⟨rfl, rfl⟩)
 | some a =>
  obtain ⟨ab, ao, asp⟩ := a
  go_wp2_with (at_builtin; refine Lib.wpList_append_run _ rfl _ _ _ _ rfl _ _ rfl rfl _ _ (hrun _) ?_)
  all_goals (go_ret; exact ⟨rfl, rfl⟩)
theorem ins_cells {arr : Array Value} {n i : Nat} {cs xs : List Value} (hi : i < n) (hcl : cs.length = n * 5) (hxl : xs.length = 5) (hsz : (n + 1) * 5 ≤ arr.size) (h0 : ∀ q, q < i * 5 → arr[q]? = cs[q]?) :
  (setArr (setArr arr ((i + 1) * 5) (cs.drop (i * 5))) (i * 5) xs).toList.take ((n + 1) * 5) = cs.take (i * 5) ++ xs ++ cs.drop (i * 5) ∧
  (setArr (setArr arr (i * 5) xs) ((i + 1) * 5) (cs.drop (i * 5))).toList.take ((n + 1) * 5) = cs.take (i * 5) ++ xs ++ cs.drop (i * 5) := by
 have hdl : (cs.drop (i * 5)).length = (n - i) * 5 := by rw [List.length_drop, hcl]; omega
 have hrhs : ∀ q : Nat, (cs.take (i * 5) ++ xs ++ cs.drop (i * 5))[q]? = if q < i * 5 then cs[q]? else if q < (i + 1) * 5 then xs[q - i * 5]? else (cs.drop (i * 5))[q - (i + 1) * 5]? := by
  intro q
  rw [List.append_assoc, List.getElem?_append, List.length_take, Nat.min_eq_left (by omega)]
  split
  ·rw [List.getElem?_take, if_pos (by assumption)]
  ·rw [List.getElem?_append, hxl]
   by_cases hq : q < (i + 1) * 5
   ·rw [if_pos (by omega), if_pos hq]
   ·rw [if_neg (by omega), if_neg hq]
    congr 1
    omega
 constructor
 ·apply List.ext_getElem?
  intro q
  rw [hrhs, List.getElem?_take]
  by_cases hq : q < (n + 1) * 5
  ·rw [if_pos hq, Array.getElem?_toList, setArr_get _ _ _ _ (by rw [zq62]; omega)]
   by_cases h1 : q < i * 5
   ·rw [if_neg (by omega), if_pos h1, setArr_get _ _ _ _ (by omega), if_neg (by omega), h0 q h1]
   ·rw [if_neg h1]
    by_cases h2 : q < (i + 1) * 5
    ·rw [if_pos (by omega), if_pos h2]
    ·rw [if_neg (by omega), if_neg h2, setArr_get _ _ _ _ (by omega), if_pos (by omega)]
  ·rw [if_neg hq, if_neg (by omega), if_neg (by omega), List.getElem?_eq_none (by omega)]
 ·apply List.ext_getElem?
  intro q
  rw [hrhs, List.getElem?_take]
  by_cases hq : q < (n + 1) * 5
  ·rw [if_pos hq, Array.getElem?_toList, setArr_get _ _ _ _ (by rw [zq62]; omega)]
   by_cases h1 : q < i * 5
   ·rw [if_neg (by omega), if_pos h1, setArr_get _ _ _ _ (by omega), if_neg (by omega), h0 q h1]
   ·rw [if_neg h1]
    by_cases h2 : q < (i + 1) * 5
    ·rw [if_neg (by omega), if_pos h2, setArr_get _ _ _ _ (by omega), if_pos (by omega)]
    ·rw [if_pos (by omega), if_neg h2]
  ·rw [if_neg hq, if_neg (by omega), if_neg (by omega), List.getElem?_eq_none (by omega)]
theorem ins_main (base : Nat) (w : World) (v u : Value) (n i : Nat) (cs xs : List Value) (h1 : w.ownsRow base 127 5 v n cs) (h2 : w.ownsRow base 127 5 u 1 xs) (hap : ∀ b, v.ownBlock = some b → u.ownBlock ≠ some b) (hc1 : ∀ x ∈ cs, oneC x = true) (hc2 : ∀ x ∈ xs, oneC x = true)
  (hbase : base ≤ w.heap.size) (hin : i ≤ n) (hbig : n + 1 ≤ 274877906944) :
  Calls Tryz.prog 165 #[v, .int .i64 (i : Int), u] w fun r w' => ∃ v', r = .returned v' ∧ w'.ownsRow base 127 5 v' (n + 1) (cs.take (i * 5) ++ xs ++ cs.drop (i * 5)) ∧ w.grownBy w' v.ownBlock ∧ (∀ b, v'.ownBlock = some b → v.ownBlock = some b ∨ w.heap.size ≤ b) := by
 obtain ⟨i0, hi0, hz⟩ := Option.map_eq_some_iff.1 infoOf_yardarm_api_Lease
 simp only [Prod.mk.injEq] at hz
 obtain ⟨hzc, hzs, hzb⟩ := hz
 obtain ⟨z, hz0, hzc⟩ := Option.map_eq_some_iff.1 hzc
 have hcl := h1.1
 have hxl : xs.length = 5 := by have := h2.1; omega
 rcases h2.2 with ⟨_, h0⟩ | ⟨vb, vc, curv, rfl, hvbase, hvheap, hvc, hvcm, hvsz, hvtake⟩
 ·cases h0
 have hvs : ∀ j x, xs[j]? = some x → w.cell? ⟨vb, 0 + j, none⟩ = some x := by
  intro j x hj
  rw [Nat.zero_add, zq15 hvheap, ← Array.getElem?_toList]
  rw [← hvtake, List.getElem?_take] at hj
  split at hj
  ·exact hj
  ·cases hj
 have h1v : ∀ x ∈ xs, x.oneCell' = true := fun x hx => oneC_cell' (hc2 x hx)
 have h1c : ∀ x ∈ cs, x.oneCell' = true := fun x hx => oneC_cell' (hc1 x hx)
 by_cases hine : i = n
 ·subst hine
  have htd : cs.take (i * 5) ++ xs ++ cs.drop (i * 5) = cs ++ xs := by rw [List.take_of_length_le (by omega), List.drop_of_length_le (by omega), List.append_nil]
  rw [htd]
  have hown5 : w.ownsRow base 127 i0.size v i cs := by rw [hzs]; exact h1
  obtain ⟨v', w', hrun, hown', hgb, hblk⟩ := append_own (P := Tryz.prog) w base 43 0 127 i0 z Tryz.underlying43 hi0 hz0 (by rw [hzs]; exact hzc) (by omega) v i cs hown5 (some ⟨vb, 0, none⟩) 1 vc xs (by rw [hzs]; omega) (by simp)
   (fun ad had j x hj => by
    cases had
    rw [add_zero_addr]
    exact hvs j x hj) h1v (by unfold maxLen; omega) (by rw [hzb]; omega) hbase
  have hrun' : ∀ ty, (Builtin.append_ #[43, 43] ty #[v, .slice (some ⟨vb, 0, none⟩) 1 vc]).run Tryz.prog w = .ok v' w' := fun ty => by
   rw [← hrun]
   rfl
  rw [hzs] at hown'
  have hsl : ∃ A N C, v' = .slice A N C := by
   rcases hown'.2 with ⟨h, _⟩ | ⟨g, cp, cur, h, _⟩
   ·exact ⟨_, _, _, h⟩
   ·exact ⟨_, _, _, h⟩
  have hv : ∃ A c, v = .slice A i c ∧ i ≤ c ∧ (A = none → i = 0) := by
   rcases h1.2 with ⟨h, h0⟩ | ⟨g, cp, cur, h, _, _, hc, _⟩
   ·exact ⟨none, 0, by rw [h, h0], by omega, fun _ => h0⟩
   ·exact ⟨_, cp, h, hc, fun h => by cases h⟩
  obtain ⟨A, c, rfl, hc, hnil⟩ := hv
  refine (ins_end (.slice A i c) A i c vb vc 1 v' w w' (by omega) hc hrun' hsl hnil).mono ?_
  rintro e w2 ⟨rfl, rfl⟩
  exact ⟨v', rfl, hown', hgb, hblk⟩
 ·have hi : i < n := by omega
  rcases h1.2 with ⟨_, h0⟩ | ⟨g, cap, cur, rfl, hgbase, hgheap, hnc, hcm, hgsz, hgtake⟩
  ·omega
  have hvbg : vb ≠ g := fun e => hap g rfl (by rw [e]; rfl)
  have hcs : ∀ j x, cs[j]? = some x → w.cell? ⟨g, 0 + j, none⟩ = some x := by
   intro j x hj
   rw [Nat.zero_add, zq15 hgheap, ← Array.getElem?_toList]
   rw [← hgtake, List.getElem?_take] at hj
   split at hj
   ·exact hj
   ·cases hj
  by_cases hroom : n + 1 ≤ cap
  ·refine (ins_shift g 0 n cap i vb 0 1 vc cs xs w hi (by omega) hroom (by unfold maxLen at hcm; omega) hvbg hcl (by omega) hcs
    (fun j hj => by rw [Nat.zero_add, zq15 hgheap, Array.getElem?_eq_getElem (by omega)]; rfl) (fun j hj => by simp [World.frozen?, hgheap]) hvs h1c h1v 127 127 curv.size cur.size
    (by simp [World.shape?, hvheap]) (by simp [World.shape?, hgheap]) (by omega) (by simp [World.frozen?, hvheap]) (by simp [World.frozen?, hvheap])).mono ?_
   rintro e w' ⟨rfl, rfl⟩
   have hg0 : w.drew.heap[g]? = some (.cells cur 127 (0, 0)) := hgheap
   obtain ⟨a1, a2, a3, a4, a5, a6⟩ := zq63 w.drew g (0 + (i + 1) * 5) (cs.drop (i * 5)) cur 127 (0, 0) hg0
   obtain ⟨b1, b2, b3, b4, b5, b6⟩ := zq63 _ g (0 + i * 5) xs _ 127 (0, 0) a1
   have hdl : (cs.drop (i * 5)).length = (n - i) * 5 := by rw [List.length_drop, hcl]; omega
   refine ⟨_, rfl, ⟨?_, .inr ⟨g, cap, _, rfl, hgbase, b1, hroom, hcm, by rw [zq62, zq62]; exact hgsz, ?_⟩⟩, ⟨b4.trans a4, b5.trans a5, b6.trans a6, by rw [b3, a3]; exact Nat.le_refl _, fun k hk hne => ?_⟩, fun b hb => .inl hb⟩
   ·simp only [List.length_append, List.length_take, hdl, hxl]; omega
   ·rw [Nat.zero_add, Nat.zero_add]
    refine (ins_cells hi hcl hxl (by omega) fun q hq => ?_).1
    rw [← hgtake, List.getElem?_take, if_pos (by omega), Array.getElem?_toList]
   ·have hkg : k ≠ g := fun e => hne (by rw [e]; rfl)
    exact (b2 k hkg).trans (a2 k hkg)
  ·refine (ins_grow g 0 n cap i vb 0 1 vc cs xs z (by rw [hi0]; simp [hz0]) w hi (by omega) hnc (by omega) (by omega) hcl (by omega) hcs hvs h1c h1v).mono ?_
   rintro e w' ⟨rfl, rfl⟩
   obtain ⟨G, hG⟩ : ∃ G, G = grownCap w (n + 1) cap 127 := ⟨_, rfl⟩
   have hGn : n + 1 ≤ G := by rw [hG]; exact grownCap_ge w _ _ _
   have hG63 : G ≤ maxLen := by rw [hG]; exact grownCap_le_maxLen w (n + 1) cap 127 (by unfold maxLen; omega)
   rw [← hG]
   obtain ⟨ROW, hROW⟩ : ∃ ROW : Array Value, ROW = (cs.take (i * 5)).toArray ++ Builtin.zeroCells z.cells (n + 1 - i) ++ Builtin.zeroCells z.cells (G - (n + 1)) := ⟨_, rfl⟩
   rw [← hROW]
   have hRs : ROW.size = G * 5 := by
    rw [hROW]
    simp [Builtin.zeroCells, hzc]
    omega
   have hR0 : ∀ q, q < i * 5 → ROW[q]? = cs[q]? := fun q hq => by
    rw [hROW, Array.append_assoc, Array.getElem?_append_left (by simp; omega)]
    simp only [List.getElem?_toArray, List.getElem?_take, if_pos hq]
   have hh : ((w.alloc (.cells ROW 127)).drew).heap[w.heap.size]? = some (.cells ROW 127 (0, 0)) := by
    show (w.heap.push _)[w.heap.size]? = _
    exact Array.getElem?_push_size
   obtain ⟨a1, a2, a3, a4, a5, a6⟩ := zq63 _ w.heap.size (i * 5) xs ROW 127 (0, 0) hh
   have a1' : (((w.alloc (.cells ROW 127)).drew.setCells w.heap.size (i * 5) xs).drew).heap[w.heap.size]? = _ := a1
   obtain ⟨b1, b2, b3, b4, b5, b6⟩ := zq63 _ w.heap.size ((i + 1) * 5) (cs.drop (i * 5)) _ 127 (0, 0) a1'
   have hdl : (cs.drop (i * 5)).length = (n - i) * 5 := by rw [List.length_drop, hcl]; omega
   have hold : ∀ k, k < w.heap.size → ((w.alloc (.cells ROW 127)).drew).heap[k]? = w.heap[k]? := fun k hk => by
    show (w.heap.push _)[k]? = _
    rw [Array.getElem?_push, if_neg (by omega)]
   refine ⟨_, rfl, ⟨?_, .inr ⟨w.heap.size, G, _, rfl, hbase, b1, hGn, hG63, by rw [zq62, zq62]; exact hRs, ?_⟩⟩, ⟨b4.trans a4, b5.trans a5, b6.trans a6, ?_, fun k hk hne => ?_⟩, fun b hb => .inr ?_⟩
   ·simp only [List.length_append, List.length_take, hdl, hxl]; omega
   ·exact (ins_cells hi hcl hxl (by omega) hR0).2
   ·rw [b3]
    show w.heap.size ≤ ((w.alloc (.cells ROW 127)).drew.setCells w.heap.size (i * 5) xs).heap.size
    rw [a3]
    show w.heap.size ≤ (w.heap.push _).size
    simp
   ·exact ((b2 k (by omega)).trans (a2 k (by omega))).trans (hold k hk)
   ·cases hb
    exact Nat.le_refl _
noncomputable def slices_Insert___api_Lease_api_Lease__con : Con := insCon .lease 127
theorem slices_Insert___api_Lease_api_Lease__ok : TrOk Tryz.prog 165 slices_Insert___api_Lease_api_Lease__con := ins_ok .lease 127 ins_main
end Go.Proofs.YtjncjiegmnicbabGreat
namespace Go.Proofs.YtjncjiegmnicbabGreat
open Go Go.Ma
noncomputable def cluster_within_env : Env := mkEnv ty fnB [] []
theorem cluster_within_envOk : EnvOk Tryz.prog cluster_within_env := envOk tyOk fn_ok callsNil _
noncomputable def cluster_within_con : Con := con [.one (.fl .int), .one (.fl .int), .one (.fl .int)] [.one (.fl .bool)] (fun x => zq22 x.1 x.2.1 x.2.2.1)
theorem cluster_within_ok : TrOk Tryz.prog 42 cluster_within_con := by
 have h : loopsOf (codeOf Tryz.f42) = [] := by kernel_rfl
 refine con_ok cluster_within_envOk Tryz.func42 (bodyOk h lsNil) _ _ _ (fun x => ?_)
 kernel_rfl
noncomputable def fence_within_env : Env := mkEnv ty fnB [] []
theorem fence_within_envOk : EnvOk Tryz.prog fence_within_env := envOk tyOk fn_ok callsNil _
noncomputable def fence_within_con : Con := con [.one (.fl .int), .one (.fl .int), .one (.fl .int)] [.one (.fl .bool)] (fun x => fence_within_t x.1 x.2.1 x.2.2.1)
theorem fence_within_ok : TrOk Tryz.prog 79 fence_within_con := by
 have h : loopsOf (codeOf Tryz.f79) = [] := by kernel_rfl
 refine con_ok fence_within_envOk Tryz.func79 (bodyOk h lsNil) _ _ _ (fun x => ?_)
 kernel_rfl
noncomputable def log_epoch_env : Env := mkEnv ty fnB [] []
theorem log_epoch_envOk : EnvOk Tryz.prog log_epoch_env := envOk tyOk fn_ok callsNil _
noncomputable def log_epoch_con : Con := con [.one (.fl .int)] [.one (.fl .bool)] (fun x => log_epoch_t x.1)
theorem log_epoch_ok : TrOk Tryz.prog 102 log_epoch_con := by
 have h : loopsOf (codeOf Tryz.f102) = [] := by kernel_rfl
 refine con_ok log_epoch_envOk Tryz.func102 (bodyOk h lsNil) _ _ _ (fun x => ?_)
 kernel_rfl
noncomputable def state_within_env : Env := mkEnv ty fnB [] []
theorem state_within_envOk : EnvOk Tryz.prog state_within_env := envOk tyOk fn_ok callsNil _
noncomputable def state_within_con : Con := con [.one (.fl .int), .one (.fl .int), .one (.fl .int)] [.one (.fl .bool)] (fun x => state_within_t x.1 x.2.1 x.2.2.1)
theorem state_within_ok : TrOk Tryz.prog 75 state_within_con := by
 have h : loopsOf (codeOf Tryz.f75) = [] := by kernel_rfl
 refine con_ok state_within_envOk Tryz.func75 (bodyOk h lsNil) _ _ _ (fun x => ?_)
 kernel_rfl
noncomputable def state_extra_env : Env := mkEnv ty fnB [] []
theorem state_extra_envOk : EnvOk Tryz.prog state_extra_env := envOk tyOk fn_ok callsNil _
noncomputable def state_extra_con : Con := con [.one (.fl .op)] [.one (.fl .bool)] (fun x => state_extra_t x.1)
theorem state_extra_ok : TrOk Tryz.prog 108 state_extra_con := by
 have h : loopsOf (codeOf Tryz.f108) = [] := by kernel_rfl
 refine con_ok state_extra_envOk Tryz.func108 (bodyOk h lsNil) _ _ _ (fun x => ?_)
 kernel_rfl
noncomputable def addr_Check_env : Env := mkEnv ty fnB [] []
theorem addr_Check_envOk : EnvOk Tryz.prog addr_Check_env := envOk tyOk fn_ok callsNil _
noncomputable def addr_Check_con : Con := con [.one (.fl .addr)] [.one (.fl .int)] (fun x => addr_Check_t x.1)
theorem addr_Check_ok : TrOk Tryz.prog 111 addr_Check_con := by
 have h : loopsOf (codeOf Tryz.f111) = [] := by kernel_rfl
 refine con_ok addr_Check_envOk Tryz.func111 (bodyOk h lsNil) _ _ _ (fun x => ?_)
 kernel_rfl
noncomputable def prefix_Wide_env : Env := mkEnv ty fnB [] []
theorem prefix_Wide_envOk : EnvOk Tryz.prog prefix_Wide_env := envOk tyOk fn_ok callsNil _
noncomputable def prefix_Wide_con : Con := con [.one (.fl .addr)] [.one (.fl .int)] (fun x => prefix_Wide_t x.1)
theorem prefix_Wide_ok : TrOk Tryz.prog 129 prefix_Wide_con := by
 have h : loopsOf (codeOf Tryz.f129) = [] := by kernel_rfl
 refine con_ok prefix_Wide_envOk Tryz.func129 (bodyOk h lsNil) _ _ _ (fun x => ?_)
 kernel_rfl
noncomputable def prefix_mask_env : Env := mkEnv ty fnB [(129, prefix_Wide_con)] []
theorem prefix_mask_envOk : EnvOk Tryz.prog prefix_mask_env := envOk tyOk fn_ok (callsCons prefix_Wide_ok callsNil) _
noncomputable def prefix_mask_con : Con := con [.one (.fl .addr), .one (.fl .int)] [.one (.fl .addr)] (fun x => prefix_mask_t x.1 x.2.1)
theorem prefix_mask_ok : TrOk Tryz.prog 141 prefix_mask_con := by
 have h : loopsOf (codeOf Tryz.f141) = [] := by kernel_rfl
 refine con_ok prefix_mask_envOk Tryz.func141 (bodyOk h lsNil) _ _ _ (fun x => ?_)
 kernel_rfl
noncomputable def prefix_Cut_env : Env := mkEnv ty fnB [(141, prefix_mask_con)] []
theorem prefix_Cut_envOk : EnvOk Tryz.prog prefix_Cut_env := envOk tyOk fn_ok (callsCons prefix_mask_ok callsNil) _
noncomputable def prefix_Cut_con : Con := con [.one (.fl .addr), .one (.fl .int)] [.one (.fl .addr)] (fun x => prefix_Cut_t x.1 x.2.1)
theorem prefix_Cut_ok : TrOk Tryz.prog 130 prefix_Cut_con := by
 have h : loopsOf (codeOf Tryz.f130) = [] := by kernel_rfl
 refine con_ok prefix_Cut_envOk Tryz.func130 (bodyOk h lsNil) _ _ _ (fun x => ?_)
 kernel_rfl
noncomputable def prefix_Check_env : Env := mkEnv ty fnB [(111, addr_Check_con), (129, prefix_Wide_con), (130, prefix_Cut_con)] []
theorem prefix_Check_envOk : EnvOk Tryz.prog prefix_Check_env := envOk tyOk fn_ok (callsCons addr_Check_ok (callsCons prefix_Wide_ok (callsCons prefix_Cut_ok callsNil))) _
noncomputable def prefix_Check_con : Con := con [.one (.fl .pfx)] [.one (.fl .int)] (fun x => prefix_Check_t x.1)
theorem prefix_Check_ok : TrOk Tryz.prog 109 prefix_Check_con := by
 have h : loopsOf (codeOf Tryz.f109) = [] := by kernel_rfl
 refine con_ok prefix_Check_envOk Tryz.func109 (bodyOk h lsNil) _ _ _ (fun x => ?_)
 kernel_rfl
noncomputable def lease_Narrow_env : Env := mkEnv ty fnB [(129, prefix_Wide_con)] []
theorem lease_Narrow_envOk : EnvOk Tryz.prog lease_Narrow_env := envOk tyOk fn_ok (callsCons prefix_Wide_ok callsNil) _
noncomputable def lease_Narrow_con : Con := con [.one (.fl .pfx)] [.one (.fl .bool)] (fun x => lease_Narrow_t x.1)
theorem lease_Narrow_ok : TrOk Tryz.prog 110 lease_Narrow_con := by
 have h : loopsOf (codeOf Tryz.f110) = [] := by kernel_rfl
 refine con_ok lease_Narrow_envOk Tryz.func110 (bodyOk h lsNil) _ _ _ (fun x => ?_)
 kernel_rfl
noncomputable def lease_within_env : Env := mkEnv ty fnB [] []
theorem lease_within_envOk : EnvOk Tryz.prog lease_within_env := envOk tyOk fn_ok callsNil _
noncomputable def lease_within_con : Con := con [.one (.fl .int), .one (.fl .int), .one (.fl .int)] [.one (.fl .bool)] (fun x => lease_within_t x.1 x.2.1 x.2.2.1)
theorem lease_within_ok : TrOk Tryz.prog 117 lease_within_con := by
 have h : loopsOf (codeOf Tryz.f117) = [] := by kernel_rfl
 refine con_ok lease_within_envOk Tryz.func117 (bodyOk h lsNil) _ _ _ (fun x => ?_)
 kernel_rfl
def lease_Who_L2_S : LoopS := { n := 33, base := 0, head := { keep := [0, 6, 7], vals := [.one (.fl .str), .one (.fl .int), .one (.fl .int)], objs := [] }, exits := [⟨none, { keep := [2], vals := [.one (.fl .bool)], objs := [] }⟩, ⟨some 0, { keep := [0], vals := [.one (.fl .str)], objs := [] }⟩] }
noncomputable def lease_Who_env : Env := mkEnv ty fnB [(117, lease_within_con)] [(2, (loopTr lease_Who_L2_S (loopN lease_Who_L2 FUEL)))]
theorem lease_Who_envOk : EnvOk Tryz.prog lease_Who_env := envOk tyOk fn_ok (callsCons lease_within_ok callsNil) _
theorem lease_Who_L2_ok : LOk Tryz.prog (nthLoop (codeOf Tryz.f112) 0) (loopTr lease_Who_L2_S (loopN lease_Who_L2 FUEL)) := by
 have h : loopsOf (nthLoop (codeOf Tryz.f112) 0) = [] := by kernel_rfl
 refine loop_ok lease_Who_envOk (loopsOk h lsNil) lease_Who_L2_S lease_Who_L2 FUEL (fun rec x => ?_)
 kernel_rfl
noncomputable def lease_Who_con : Con := con [.one (.fl .str)] [.one (.fl .bool)] (fun x => lease_Who_t x.1)
theorem lease_Who_ok : TrOk Tryz.prog 112 lease_Who_con := by
 have h : loopsOf (codeOf Tryz.f112) = [(nthLoop (codeOf Tryz.f112) 0)] := by kernel_rfl
 refine con_ok lease_Who_envOk Tryz.func112 (bodyOk h (lsCons (one_loop (t := (loopTr lease_Who_L2_S (loopN lease_Who_L2 FUEL))) (by kernel_rfl) lease_Who_L2_ok) lsNil)) _ _ _ (fun x => ?_)
 kernel_rfl
noncomputable def state_Form_env : Env := mkEnv ty fnB [(75, state_within_con), (108, state_extra_con), (109, prefix_Check_con), (110, lease_Narrow_con), (111, addr_Check_con), (112, lease_Who_con)] []
theorem state_Form_envOk : EnvOk Tryz.prog state_Form_env := envOk tyOk fn_ok (callsCons state_within_ok (callsCons state_extra_ok (callsCons prefix_Check_ok (callsCons lease_Narrow_ok (callsCons addr_Check_ok (callsCons lease_Who_ok callsNil)))))) _
noncomputable def state_Form_con : Con := con [.one (.fl .op)] [.one (.fl .int)] (fun x => state_Form_t x.1)
theorem state_Form_ok : TrOk Tryz.prog 71 state_Form_con := by
 have h : loopsOf (codeOf Tryz.f71) = [] := by kernel_rfl
 refine con_ok state_Form_envOk Tryz.func71 (bodyOk h lsNil) _ _ _ (fun x => ?_)
 kernel_rfl
def log_Check_L4_S : LoopS := { n := 48, base := 1, head := { keep := [0, 9, 10, 11], vals := [.one (.cst (.row 0)), .one (.cst (.row 0)), .one (.fl .int), .one (.fl .int)], objs := [.row .entry 68 false] }, exits := [⟨none, { keep := [2], vals := [.one (.fl .int)], objs := [.row .entry 68 false] }⟩, ⟨some 0, { keep := [], vals := [], objs := [.row .entry 68 false] }⟩] }
noncomputable def log_Check_env : Env := mkEnv ty fnB [(102, log_epoch_con), (71, state_Form_con)] [(4, (loopTr log_Check_L4_S (loopN log_Check_L4 FUEL)))]
theorem log_Check_envOk : EnvOk Tryz.prog log_Check_env := envOk tyOk fn_ok (callsCons log_epoch_ok (callsCons state_Form_ok callsNil)) _
theorem log_Check_L4_ok : LOk Tryz.prog (nthLoop (codeOf Tryz.f57) 0) (loopTr log_Check_L4_S (loopN log_Check_L4 FUEL)) := by
 have h : loopsOf (nthLoop (codeOf Tryz.f57) 0) = [] := by kernel_rfl
 refine loop_ok log_Check_envOk (loopsOk h lsNil) log_Check_L4_S log_Check_L4 FUEL (fun rec x => ?_)
 kernel_rfl
noncomputable def log_Check_con : Con := con [.one (.row .entry 68)] [.one (.fl .int)] (fun x => log_Check_t x.1)
theorem log_Check_ok : TrOk Tryz.prog 57 log_Check_con := by
 have h : loopsOf (codeOf Tryz.f57) = [(nthLoop (codeOf Tryz.f57) 0)] := by kernel_rfl
 refine con_ok log_Check_envOk Tryz.func57 (bodyOk h (lsCons (one_loop (t := (loopTr log_Check_L4_S (loopN log_Check_L4 FUEL))) (by kernel_rfl) log_Check_L4_ok) lsNil)) _ _ _ (fun x => ?_)
 kernel_rfl
noncomputable def fence_Check_1_env : Env := mkEnv ty fnB [] []
theorem fence_Check_1_envOk : EnvOk Tryz.prog fence_Check_1_env := envOk tyOk fn_ok callsNil _
noncomputable def fence_Check_1_con : Con := con [.one (.fl .entry), .ref [.fl .int, .fl .int, .fl .int, .row .entry 68] 26] [.one (.fl .bool)] (fun x => fence_Check_1_t x.1 x.2.1.1 x.2.1.2.1 x.2.1.2.2.1 x.2.1.2.2.2.1)
theorem fence_Check_1_ok : TrOk Tryz.prog 101 fence_Check_1_con := by
 have h : loopsOf (codeOf Tryz.f101) = [] := by kernel_rfl
 refine con_ok fence_Check_1_envOk Tryz.func101 (bodyOk h lsNil) _ _ _ (fun x => ?_)
 kernel_rfl
def zq27 : LoopS := { n := 19, base := 2, head := { keep := [0, 1, 7, 8], vals := [.one (.cst (.row 0)), .one (.cst (.fn 101 [.ptr 1 0])), .one (.fl .int), .one (.fl .int)], objs := [.row .entry 68 false, .blk [.fl .int, .fl .int, .fl .int, .cst (.row 0)] 26 true] }, exits := [⟨none, { keep := [4], vals := [.one (.fl .int)], objs := [.row .entry 68 false, .blk [.fl .int, .fl .int, .fl .int, .cst (.row 0)] 26 true] }⟩, ⟨some 0, { keep := [], vals := [], objs := [.row .entry 68 false, .blk [.fl .int, .fl .int, .fl .int, .cst (.row 0)] 26 true] }⟩] }
noncomputable def zq29 : Env := mkEnv ty fnB [(101, fence_Check_1_con)] [(2, (loopTr zq27 (loopN zq26 FUEL)))]
theorem zq30 : EnvOk Tryz.prog zq29 := envOk tyOk fn_ok (callsCons fence_Check_1_ok callsNil) _
theorem zq28 : LOk Tryz.prog (nthLoop (codeOf Tryz.f126) 0) (loopTr zq27 (loopN zq26 FUEL)) := by
 have h : loopsOf (nthLoop (codeOf Tryz.f126) 0) = [] := by kernel_rfl
 refine loop_ok zq30 (loopsOk h lsNil) zq27 zq26 FUEL (fun rec x => ?_)
 kernel_rfl
theorem zq31 : TrOk Tryz.prog 126 (inlCon zq29 Tryz.f126) := by
 have h : loopsOf (codeOf Tryz.f126) = [(nthLoop (codeOf Tryz.f126) 0)] := by kernel_rfl
 exact inl_ok zq30 Tryz.func126 (bodyOk h (lsCons (one_loop (t := (loopTr zq27 (loopN zq26 FUEL))) (by kernel_rfl) zq28) lsNil))
noncomputable def zq25 : Env := mkEnv ty fnB [(126, (inlCon zq29 Tryz.f126))] []
theorem fence_Check_slices_ContainsFunc___api_Entry_api_Entry__envOk : EnvOk Tryz.prog zq25 := envOk tyOk fn_ok (callsCons zq31 callsNil) _
theorem fence_Check_slices_ContainsFunc___api_Entry_api_Entry__inl : TrOk Tryz.prog 100 (inlCon zq25 Tryz.f100) := by
 have h : loopsOf (codeOf Tryz.f100) = [] := by kernel_rfl
 exact inl_ok fence_Check_slices_ContainsFunc___api_Entry_api_Entry__envOk Tryz.func100 (bodyOk h lsNil)
noncomputable def fence_Check_env : Env := mkEnv ty fnB [(79, fence_within_con), (57, log_Check_con), (100, (inlCon zq25 Tryz.f100))] []
theorem fence_Check_envOk : EnvOk Tryz.prog fence_Check_env := envOk tyOk fn_ok (callsCons fence_within_ok (callsCons log_Check_ok (callsCons fence_Check_slices_ContainsFunc___api_Entry_api_Entry__inl callsNil))) _
noncomputable def fence_Check_con : Con := con [.agg [.fl .int, .fl .int, .fl .int, .row .entry 68]] [.one (.fl .int)] (fun x => fence_Check_t x.1.1 x.1.2.1 x.1.2.2.1 x.1.2.2.2.1)
theorem fence_Check_ok : TrOk Tryz.prog 54 fence_Check_con := by
 have h : loopsOf (codeOf Tryz.f54) = [] := by kernel_rfl
 refine con_ok fence_Check_envOk Tryz.func54 (bodyOk h lsNil) _ _ _ (fun x => ?_)
 kernel_rfl
noncomputable def log_Is_1_env : Env := mkEnv ty fnB [] []
theorem log_Is_1_envOk : EnvOk Tryz.prog log_Is_1_env := envOk tyOk fn_ok callsNil _
noncomputable def log_Is_1_con : Con := con [.one (.fl .entry), .one (.fl .entry)] [.one (.fl .bool)] (fun x => log_Is_1_t x.1 x.2.1)
theorem log_Is_1_ok : TrOk Tryz.prog 106 log_Is_1_con := by
 have h : loopsOf (codeOf Tryz.f106) = [] := by kernel_rfl
 refine con_ok log_Is_1_envOk Tryz.func106 (bodyOk h lsNil) _ _ _ (fun x => ?_)
 kernel_rfl
def zq57 : LoopS := { n := 32, base := 3, head := { keep := [1, 2, 15, 16, 17], vals := [.one (.cst (.row 2)), .one (.cst (.fn 106 [])), .one (.cst (.row 0)), .one (.fl .int), .one (.fl .int)], objs := [.row .entry 68 false, .row .entry 68 false, .row .entry 68 false] }, exits := [⟨none, { keep := [6], vals := [.one (.fl .bool)], objs := [.row .entry 68 false, .row .entry 68 false, .row .entry 68 false] }⟩, ⟨some 0, { keep := [], vals := [], objs := [.row .entry 68 false, .row .entry 68 false, .row .entry 68 false] }⟩] }
noncomputable def zq59 : Env := mkEnv ty fnB [(106, log_Is_1_con)] [(4, (loopTr zq57 (loopN zq56 FUEL)))]
theorem zq60 : EnvOk Tryz.prog zq59 := envOk tyOk fn_ok (callsCons log_Is_1_ok callsNil) _
theorem zq58 : LOk Tryz.prog (nthLoop (codeOf Tryz.f105) 0) (loopTr zq57 (loopN zq56 FUEL)) := by
 have h : loopsOf (nthLoop (codeOf Tryz.f105) 0) = [] := by kernel_rfl
 refine loop_ok zq60 (loopsOk h lsNil) zq57 zq56 FUEL (fun rec x => ?_)
 kernel_rfl
theorem zq61 : TrOk Tryz.prog 105 (inlCon zq59 Tryz.f105) := by
 have h : loopsOf (codeOf Tryz.f105) = [(nthLoop (codeOf Tryz.f105) 0)] := by kernel_rfl
 exact inl_ok zq60 Tryz.func105 (bodyOk h (lsCons (one_loop (t := (loopTr zq57 (loopN zq56 FUEL))) (by kernel_rfl) zq58) lsNil))
noncomputable def log_Is_env : Env := mkEnv ty fnB [(105, (inlCon zq59 Tryz.f105))] []
theorem log_Is_envOk : EnvOk Tryz.prog log_Is_env := envOk tyOk fn_ok (callsCons zq61 callsNil) _
noncomputable def log_Is_con : Con := con [.one (.row .entry 68), .one (.row .entry 68)] [.one (.fl .bool)] (fun x => log_Is_t x.1 x.2.1)
theorem log_Is_ok : TrOk Tryz.prog 68 log_Is_con := by
 have h : loopsOf (codeOf Tryz.f68) = [] := by kernel_rfl
 refine con_ok log_Is_envOk Tryz.func68 (bodyOk h lsNil) _ _ _ (fun x => ?_)
 kernel_rfl
noncomputable def cluster_node_env : Env := mkEnv ty fnB [(42, cluster_within_con), (57, log_Check_con), (68, log_Is_con)] []
theorem cluster_node_envOk : EnvOk Tryz.prog cluster_node_env := envOk tyOk fn_ok (callsCons cluster_within_ok (callsCons log_Check_ok (callsCons log_Is_ok callsNil))) _
noncomputable def cluster_node_con : Con := con [.agg [.fl .int, .fl .int, .fl .int, .fl .int, .row .entry 68, .nest .int .entry 56 68 true], .agg [.fl .int, .row .entry 68]] [.one (.fl .int)] (fun x => cluster_node_t x.1.1 x.1.2.1 x.1.2.2.1 x.1.2.2.2.1 x.1.2.2.2.2.1 x.1.2.2.2.2.2.1 x.2.1.1 x.2.1.2.1)
theorem cluster_node_ok : TrOk Tryz.prog 55 cluster_node_con := by
 have h : loopsOf (codeOf Tryz.f55) = [] := by kernel_rfl
 refine con_ok cluster_node_envOk Tryz.func55 (bodyOk h lsNil) _ _ _ (fun x => ?_)
 kernel_rfl
def cluster_Check_L9_S : LoopS := { n := 85, base := 3, head := { keep := [1, 26, 27, 28], vals := [.one (.cst (.ptr 3 0)), .one (.cst (.row 2)), .one (.fl .int), .one (.fl .int)], objs := [.row .entry 68 false, .bag .entry 68 false false, .nest .int 1 56 false, .blk [.fl .int, .fl .int, .fl .int, .fl .int, .cst (.row 0), .cst (.row 2)] 29 true] }, exits := [⟨none, { keep := [2], vals := [.one (.fl .int)], objs := [.row .entry 68 false, .bag .entry 68 false false, .nest .int 1 56 false] }⟩, ⟨some 0, { keep := [1], vals := [.one (.cst (.ptr 3 0))], objs := [.row .entry 68 false, .bag .entry 68 false false, .nest .int 1 56 false, .blk [.fl .int, .fl .int, .fl .int, .fl .int, .cst (.row 0), .cst (.row 2)] 29 true] }⟩] }
def cluster_Check_L19_S : LoopS := { n := 85, base := 3, head := { keep := [1, 57, 58, 59], vals := [.one (.cst (.ptr 3 0)), .one (.cst (.row 2)), .one (.fl .int), .one (.fl .int)], objs := [.row .entry 68 false, .bag .entry 68 false false, .nest .int 1 56 false, .blk [.fl .int, .fl .int, .fl .int, .fl .int, .cst (.row 0), .cst (.row 2)] 29 true] }, exits := [⟨none, { keep := [2], vals := [.one (.fl .int)], objs := [.row .entry 68 false, .bag .entry 68 false false, .nest .int 1 56 false] }⟩, ⟨some 2, { keep := [], vals := [], objs := [.row .entry 68 false, .bag .entry 68 false false, .nest .int 1 56 false] }⟩] }
noncomputable def cluster_Check_env : Env := mkEnv ty fnB [(42, cluster_within_con), (54, fence_Check_con), (55, cluster_node_con)] [(9, (loopTr cluster_Check_L9_S (loopN cluster_Check_L9 FUEL))), (19, (loopTr cluster_Check_L19_S (loopN zq16 FUEL)))]
theorem cluster_Check_envOk : EnvOk Tryz.prog cluster_Check_env := envOk tyOk fn_ok (callsCons cluster_within_ok (callsCons fence_Check_ok (callsCons cluster_node_ok callsNil))) _
theorem cluster_Check_L19_ok : LOk Tryz.prog (nthLoop (codeOf Tryz.f16) 1) (loopTr cluster_Check_L19_S (loopN zq16 FUEL)) := by
 have h : loopsOf (nthLoop (codeOf Tryz.f16) 1) = [] := by kernel_rfl
 refine loop_ok cluster_Check_envOk (loopsOk h lsNil) cluster_Check_L19_S zq16 FUEL (fun rec x => ?_)
 kernel_rfl
theorem cluster_Check_L9_ok : LOk Tryz.prog (nthLoop (codeOf Tryz.f16) 0) (loopTr cluster_Check_L9_S (loopN cluster_Check_L9 FUEL)) := by
 have h : loopsOf (nthLoop (codeOf Tryz.f16) 0) = [] := by kernel_rfl
 refine loop_ok cluster_Check_envOk (loopsOk h lsNil) cluster_Check_L9_S cluster_Check_L9 FUEL (fun rec x => ?_)
 kernel_rfl
noncomputable def cluster_Check_con : Con := con [.agg [.fl .int, .fl .int, .fl .int, .fl .int, .row .entry 68, .nest .int .entry 56 68 true]] [.one (.fl .int)] (fun x => zq17 x.1.1 x.1.2.1 x.1.2.2.1 x.1.2.2.2.1 x.1.2.2.2.2.1 x.1.2.2.2.2.2.1)
theorem cluster_Check_ok : TrOk Tryz.prog 16 cluster_Check_con := by
 have h : loopsOf (codeOf Tryz.f16) = [(nthLoop (codeOf Tryz.f16) 0), (nthLoop (codeOf Tryz.f16) 1)] := by kernel_rfl
 refine con_ok cluster_Check_envOk Tryz.func16 (bodyOk h (lsCons (one_loop (t := (loopTr cluster_Check_L9_S (loopN cluster_Check_L9 FUEL))) (by kernel_rfl) cluster_Check_L9_ok) (lsCons (one_loop (t := (loopTr cluster_Check_L19_S (loopN zq16 FUEL))) (by kernel_rfl) cluster_Check_L19_ok) lsNil))) _ _ _ (fun x => ?_)
 kernel_rfl
noncomputable def cluster_form_env : Env := mkEnv ty fnB [(42, cluster_within_con)] []
theorem cluster_form_envOk : EnvOk Tryz.prog cluster_form_env := envOk tyOk fn_ok (callsCons cluster_within_ok callsNil) _
noncomputable def cluster_form_con : Con := con [.one (.fl .int), .one (.fl .event)] [.one (.fl .int)] (fun x => cluster_form_t x.1 x.2.1)
theorem cluster_form_ok : TrOk Tryz.prog 39 cluster_form_con := by
 have h : loopsOf (codeOf Tryz.f39) = [] := by kernel_rfl
 refine con_ok cluster_form_envOk Tryz.func39 (bodyOk h lsNil) _ _ _ (fun x => ?_)
 kernel_rfl
noncomputable def slices_Clone___api_Entry_api_Entry__env : Env := mkEnv ty fnB [] []
theorem slices_Clone___api_Entry_api_Entry__envOk : EnvOk Tryz.prog slices_Clone___api_Entry_api_Entry__env := envOk tyOk fn_ok callsNil _
noncomputable def zq66 : Con := con [.one (.row .entry 68)] [.one (.row .entry 68)] (fun x => zq68 x.1)
theorem zq67 : TrOk Tryz.prog 87 zq66 := by
 have h : loopsOf (codeOf Tryz.f87) = [] := by kernel_rfl
 refine con_ok slices_Clone___api_Entry_api_Entry__envOk Tryz.func87 (bodyOk h lsNil) _ _ _ (fun x => ?_)
 kernel_rfl
noncomputable def fence_Own_env : Env := mkEnv ty fnB [(87, zq66)] []
theorem fence_Own_envOk : EnvOk Tryz.prog fence_Own_env := envOk tyOk fn_ok (callsCons zq67 callsNil) _
noncomputable def fence_Own_con : Con := con [.agg [.fl .int, .fl .int, .fl .int, .row .entry 68]] [.agg [.fl .int, .fl .int, .fl .int, .row .entry 68]] (fun x => fence_Own_t x.1.1 x.1.2.1 x.1.2.2.1 x.1.2.2.2.1)
theorem fence_Own_ok : TrOk Tryz.prog 86 fence_Own_con := by
 have h : loopsOf (codeOf Tryz.f86) = [] := by kernel_rfl
 refine con_ok fence_Own_envOk Tryz.func86 (bodyOk h lsNil) _ _ _ (fun x => ?_)
 kernel_rfl
noncomputable def zq32 : Env := mkEnv ty fnB [] []
theorem fence_Get___fence_keeper__acquire_envOk : EnvOk Tryz.prog zq32 := envOk tyOk fn_ok callsNil _
theorem fence_Get___fence_keeper__acquire_inl : TrOk Tryz.prog 122 (inlCon zq32 Tryz.f122) := by
 have h : loopsOf (codeOf Tryz.f122) = [] := by kernel_rfl
 exact inl_ok fence_Get___fence_keeper__acquire_envOk Tryz.func122 (bodyOk h lsNil)
noncomputable def fence_Get_env : Env := mkEnv ty fnB [(86, fence_Own_con), (122, (inlCon zq32 Tryz.f122))] []
theorem fence_Get_envOk : EnvOk Tryz.prog fence_Get_env := envOk tyOk fn_ok (callsCons fence_Own_ok (callsCons fence_Get___fence_keeper__acquire_inl callsNil)) _
noncomputable def fence_Get_con : Con := con [.agg [.fl .int, .fl .int, .fl .int, .row .entry 68], .one (.fl .int), .one (.fl .int)] [.agg [.fl .int, .fl .int, .fl .int, .row .entry 68], .one (.fl .int)] (fun x => fence_Get_t x.1.1 x.1.2.1 x.1.2.2.1 x.1.2.2.2.1 x.2.1 x.2.2.1)
theorem fence_Get_ok : TrOk Tryz.prog 80 fence_Get_con := by
 have h : loopsOf (codeOf Tryz.f80) = [] := by kernel_rfl
 refine con_ok fence_Get_envOk Tryz.func80 (bodyOk h lsNil) _ _ _ (fun x => ?_)
 kernel_rfl
noncomputable def log_More_env : Env := mkEnv ty fnB [(102, log_epoch_con), (71, state_Form_con), (87, zq66)] []
theorem log_More_envOk : EnvOk Tryz.prog log_More_env := envOk tyOk fn_ok (callsCons log_epoch_ok (callsCons state_Form_ok (callsCons zq67 callsNil))) _
noncomputable def log_More_con : Con := con [.one (.row .entry 68), .one (.fl .int), .one (.fl .op)] [.one (.row .entry 68), .one (.fl .int)] (fun x => log_More_t x.1 x.2.1 x.2.2.1)
theorem log_More_ok : TrOk Tryz.prog 83 log_More_con := by
 have h : loopsOf (codeOf Tryz.f83) = [] := by kernel_rfl
 refine con_ok log_More_envOk Tryz.func83 (bodyOk h lsNil) _ _ _ (fun x => ?_)
 kernel_rfl
noncomputable def fence_Put_env : Env := mkEnv ty fnB [(83, log_More_con)] []
theorem fence_Put_envOk : EnvOk Tryz.prog fence_Put_env := envOk tyOk fn_ok (callsCons log_More_ok callsNil) _
noncomputable def fence_Put_con : Con := con [.agg [.fl .int, .fl .int, .fl .int, .row .entry 68], .one (.fl .int), .one (.fl .op)] [.agg [.fl .int, .fl .int, .fl .int, .row .entry 68], .one (.fl .int)] (fun x => fence_Put_t x.1.1 x.1.2.1 x.1.2.2.1 x.1.2.2.2.1 x.2.1 x.2.2.1)
theorem fence_Put_ok : TrOk Tryz.prog 81 fence_Put_con := by
 have h : loopsOf (codeOf Tryz.f81) = [] := by kernel_rfl
 refine con_ok fence_Put_envOk Tryz.func81 (bodyOk h lsNil) _ _ _ (fun x => ?_)
 kernel_rfl
noncomputable def ship_Behind_env : Env := mkEnv ty fnB [(87, zq66)] []
theorem ship_Behind_envOk : EnvOk Tryz.prog ship_Behind_env := envOk tyOk fn_ok (callsCons zq67 callsNil) _
noncomputable def ship_Behind_con : Con := con [.one (.row .entry 68), .one (.row .entry 68), .one (.fl .int)] [.one (.row .entry 68)] (fun x => ship_Behind_t x.1 x.2.1 x.2.2.1)
theorem ship_Behind_ok : TrOk Tryz.prog 84 ship_Behind_con := by
 have h : loopsOf (codeOf Tryz.f84) = [] := by kernel_rfl
 refine con_ok ship_Behind_envOk Tryz.func84 (bodyOk h lsNil) _ _ _ (fun x => ?_)
 kernel_rfl
noncomputable def zq18 : Env := mkEnv ty fnB [] []
theorem cluster_Do___cluster_doer__do___cluster_doer__disk_envOk : EnvOk Tryz.prog zq18 := envOk tyOk fn_ok callsNil _
theorem cluster_Do___cluster_doer__do___cluster_doer__disk_inl : TrOk Tryz.prog 88 (inlCon zq18 Tryz.f88) := by
 have h : loopsOf (codeOf Tryz.f88) = [] := by kernel_rfl
 exact inl_ok cluster_Do___cluster_doer__do___cluster_doer__disk_envOk Tryz.func88 (bodyOk h lsNil)
noncomputable def cluster_Do___cluster_doer__do_env : Env := mkEnv ty fnB [(80, fence_Get_con), (88, (inlCon zq18 Tryz.f88)), (81, fence_Put_con), (84, ship_Behind_con)] []
theorem cluster_Do___cluster_doer__do_envOk : EnvOk Tryz.prog cluster_Do___cluster_doer__do_env := envOk tyOk fn_ok (callsCons fence_Get_ok (callsCons cluster_Do___cluster_doer__do___cluster_doer__disk_inl (callsCons fence_Put_ok (callsCons ship_Behind_ok callsNil)))) _
theorem cluster_Do___cluster_doer__do_inl : TrOk Tryz.prog 41 (inlCon cluster_Do___cluster_doer__do_env Tryz.f41) := by
 have h : loopsOf (codeOf Tryz.f41) = [] := by kernel_rfl
 exact inl_ok cluster_Do___cluster_doer__do_envOk Tryz.func41 (bodyOk h lsNil)
def cluster_Do_cluster_own_L3_S : LoopS := { n := 40, base := 9, head := { keep := [3, 15, 16, 17], vals := [.one (.cst (.ptr 9 0)), .one (.cst (.row 2)), .one (.fl .int), .one (.fl .int)], objs := [.row .entry 68 false, .bag .entry 68 false false, .nest .int 1 56 false, .blk [.fl .int, .fl .int, .fl .int, .fl .int, .cst (.row 0), .cst (.row 2)] 29 true, .blk [.fl .event] 38 true, .blk [.fl .int, .fl .int, .fl .int, .fl .int, .cst (.row 6), .cst (.row 8)] 29 true, .row .entry 68 true, .bag .entry 68 true true, .nest .int 7 56 true, .blk [.fl .int, .fl .int, .fl .int, .fl .int, .cst (.row 10), .cst (.row 11)] 96 true, .row .entry 68 true, .nest .int 12 56 true, .bag .entry 68 true true] }, exits := [⟨some 0, { keep := [3], vals := [.one (.cst (.ptr 9 0))], objs := [.row .entry 68 false, .bag .entry 68 false false, .nest .int 1 56 false, .blk [.fl .int, .fl .int, .fl .int, .fl .int, .cst (.row 0), .cst (.row 2)] 29 true, .blk [.fl .event] 38 true, .blk [.fl .int, .fl .int, .fl .int, .fl .int, .cst (.row 6), .cst (.row 8)] 29 true, .row .entry 68 true, .bag .entry 68 true true, .nest .int 7 56 true, .blk [.fl .int, .fl .int, .fl .int, .fl .int, .cst (.row 10), .cst (.row 11)] 96 true, .row .entry 68 true, .nest .int 12 56 true, .bag .entry 68 true true] }⟩] }
noncomputable def cluster_Do_cluster_own_env : Env := mkEnv ty fnB [(86, fence_Own_con), (87, zq66)] [(3, (loopTr cluster_Do_cluster_own_L3_S (loopN zq19 FUEL)))]
theorem cluster_Do_cluster_own_envOk : EnvOk Tryz.prog cluster_Do_cluster_own_env := envOk tyOk fn_ok (callsCons fence_Own_ok (callsCons zq67 callsNil)) _
theorem cluster_Do_cluster_own_L3_ok : LOk Tryz.prog (nthLoop (codeOf Tryz.f40) 0) (loopTr cluster_Do_cluster_own_L3_S (loopN zq19 FUEL)) := by
 have h : loopsOf (nthLoop (codeOf Tryz.f40) 0) = [] := by kernel_rfl
 refine loop_ok cluster_Do_cluster_own_envOk (loopsOk h lsNil) cluster_Do_cluster_own_L3_S zq19 FUEL (fun rec x => ?_)
 kernel_rfl
theorem cluster_Do_cluster_own_inl : TrOk Tryz.prog 40 (inlCon cluster_Do_cluster_own_env Tryz.f40) := by
 have h : loopsOf (codeOf Tryz.f40) = [(nthLoop (codeOf Tryz.f40) 0)] := by kernel_rfl
 exact inl_ok cluster_Do_cluster_own_envOk Tryz.func40 (bodyOk h (lsCons (one_loop (t := (loopTr cluster_Do_cluster_own_L3_S (loopN zq19 FUEL))) (by kernel_rfl) cluster_Do_cluster_own_L3_ok) lsNil))
noncomputable def cluster_Do_env : Env := mkEnv ty fnB [(16, cluster_Check_con), (39, cluster_form_con), (41, (inlCon cluster_Do___cluster_doer__do_env Tryz.f41)), (40, (inlCon cluster_Do_cluster_own_env Tryz.f40))] []
theorem cluster_Do_envOk : EnvOk Tryz.prog cluster_Do_env := envOk tyOk fn_ok (callsCons cluster_Check_ok (callsCons cluster_form_ok (callsCons cluster_Do___cluster_doer__do_inl (callsCons cluster_Do_cluster_own_inl callsNil)))) _
noncomputable def cluster_Do_con : Con := con [.agg [.fl .int, .fl .int, .fl .int, .fl .int, .row .entry 68, .nest .int .entry 56 68 true], .one (.fl .event)] [.agg [.fl .int, .fl .int, .fl .int, .fl .int, .row .entry 68, .nest .int .entry 56 68 true], .one (.fl .bool), .one (.fl .int)] (fun x => zq20 x.1.1 x.1.2.1 x.1.2.2.1 x.1.2.2.2.1 x.1.2.2.2.2.1 x.1.2.2.2.2.2.1 x.2.1)
theorem cluster_Do_ok : TrOk Tryz.prog 9 cluster_Do_con := by
 have h : loopsOf (codeOf Tryz.f9) = [] := by kernel_rfl
 refine con_ok cluster_Do_envOk Tryz.func9 (bodyOk h lsNil) _ _ _ (fun x => ?_)
 kernel_rfl
noncomputable def slices_Clone___api_Lease_api_Lease__env : Env := mkEnv ty fnB [] []
theorem slices_Clone___api_Lease_api_Lease__envOk : EnvOk Tryz.prog slices_Clone___api_Lease_api_Lease__env := envOk tyOk fn_ok callsNil _
noncomputable def zq69 : Con := con [.one (.row .lease 127)] [.one (.row .lease 127)] (fun x => zq70 x.1)
theorem slices_Clone___api_Lease_api_Lease__ok : TrOk Tryz.prog 134 zq69 := by
 have h : loopsOf (codeOf Tryz.f134) = [] := by kernel_rfl
 refine con_ok slices_Clone___api_Lease_api_Lease__envOk Tryz.func134 (bodyOk h lsNil) _ _ _ (fun x => ?_)
 kernel_rfl
noncomputable def slices_Clone___api_Addr_api_Addr__env : Env := mkEnv ty fnB [] []
theorem slices_Clone___api_Addr_api_Addr__envOk : EnvOk Tryz.prog slices_Clone___api_Addr_api_Addr__env := envOk tyOk fn_ok callsNil _
noncomputable def slices_Clone___api_Addr_api_Addr__con : Con := con [.one (.row .addr 32)] [.one (.row .addr 32)] (fun x => zq65 x.1)
theorem slices_Clone___api_Addr_api_Addr__ok : TrOk Tryz.prog 135 slices_Clone___api_Addr_api_Addr__con := by
 have h : loopsOf (codeOf Tryz.f135) = [] := by kernel_rfl
 refine con_ok slices_Clone___api_Addr_api_Addr__envOk Tryz.func135 (bodyOk h lsNil) _ _ _ (fun x => ?_)
 kernel_rfl
def state_Own_L3_S : LoopS := { n := 32, base := 3, head := { keep := [2, 3, 13, 14, 15], vals := [.one (.cst (.ptr 3 0)), .one (.cst (.ptr 4 0)), .one (.cst (.row 1)), .one (.fl .int), .one (.fl .int)], objs := [.bag .addr 32 false false, .nest .pfx 0 116 false, .row .lease 127 false, .blk [.cst (.row 5), .cst (.row 6), .fl .int] 45 true, .blk [.cst (.row 7), .cst (.row 8), .fl .int] 45 true, .nest .pfx 9 116 true, .row .lease 127 true, .nest .pfx 10 116 true, .row .lease 127 true, .bag .addr 32 true true, .bag .addr 32 true true] }, exits := [⟨some 0, { keep := [2, 3], vals := [.one (.cst (.ptr 3 0)), .one (.cst (.ptr 4 0))], objs := [.bag .addr 32 false false, .nest .pfx 0 116 false, .row .lease 127 false, .blk [.cst (.row 5), .cst (.row 6), .fl .int] 45 true, .blk [.cst (.row 7), .cst (.row 8), .fl .int] 45 true, .nest .pfx 9 116 true, .row .lease 127 true, .nest .pfx 10 116 true, .row .lease 127 true, .bag .addr 32 true true, .bag .addr 32 true true] }⟩] }
noncomputable def state_Own_env : Env := mkEnv ty fnB [(134, zq69), (135, slices_Clone___api_Addr_api_Addr__con)] [(3, (loopTr state_Own_L3_S (loopN state_Own_L3 FUEL)))]
theorem state_Own_envOk : EnvOk Tryz.prog state_Own_env := envOk tyOk fn_ok (callsCons slices_Clone___api_Lease_api_Lease__ok (callsCons slices_Clone___api_Addr_api_Addr__ok callsNil)) _
theorem state_Own_L3_ok : LOk Tryz.prog (nthLoop (codeOf Tryz.f127) 0) (loopTr state_Own_L3_S (loopN state_Own_L3 FUEL)) := by
 have h : loopsOf (nthLoop (codeOf Tryz.f127) 0) = [] := by kernel_rfl
 refine loop_ok state_Own_envOk (loopsOk h lsNil) state_Own_L3_S state_Own_L3 FUEL (fun rec x => ?_)
 kernel_rfl
noncomputable def state_Own_con : Con := con [.agg [.nest .pfx .addr 116 32 true, .row .lease 127, .fl .int]] [.agg [.nest .pfx .addr 116 32 true, .row .lease 127, .fl .int]] (fun x => state_Own_t x.1.1 x.1.2.1 x.1.2.2.1)
theorem state_Own_ok : TrOk Tryz.prog 127 state_Own_con := by
 have h : loopsOf (codeOf Tryz.f127) = [(nthLoop (codeOf Tryz.f127) 0)] := by kernel_rfl
 refine con_ok state_Own_envOk Tryz.func127 (bodyOk h (lsCons (one_loop (t := (loopTr state_Own_L3_S (loopN state_Own_L3 FUEL))) (by kernel_rfl) state_Own_L3_ok) lsNil)) _ _ _ (fun x => ?_)
 kernel_rfl
noncomputable def prefix_Holds_env : Env := mkEnv ty fnB [(130, prefix_Cut_con)] []
theorem prefix_Holds_envOk : EnvOk Tryz.prog prefix_Holds_env := envOk tyOk fn_ok (callsCons prefix_Cut_ok callsNil) _
noncomputable def prefix_Holds_con : Con := con [.one (.fl .pfx), .one (.fl .addr)] [.one (.fl .bool)] (fun x => prefix_Holds_t x.1 x.2.1)
theorem prefix_Holds_ok : TrOk Tryz.prog 113 prefix_Holds_con := by
 have h : loopsOf (codeOf Tryz.f113) = [] := by kernel_rfl
 refine con_ok prefix_Holds_envOk Tryz.func113 (bodyOk h lsNil) _ _ _ (fun x => ?_)
 kernel_rfl
noncomputable def prefix_Over_env : Env := mkEnv ty fnB [(113, prefix_Holds_con)] []
theorem prefix_Over_envOk : EnvOk Tryz.prog prefix_Over_env := envOk tyOk fn_ok (callsCons prefix_Holds_ok callsNil) _
noncomputable def prefix_Over_con : Con := con [.one (.fl .pfx), .one (.fl .pfx)] [.one (.fl .bool)] (fun x => prefix_Over_t x.1 x.2.1)
theorem prefix_Over_ok : TrOk Tryz.prog 115 prefix_Over_con := by
 have h : loopsOf (codeOf Tryz.f115) = [] := by kernel_rfl
 refine con_ok prefix_Over_envOk Tryz.func115 (bodyOk h lsNil) _ _ _ (fun x => ?_)
 kernel_rfl
noncomputable def prefix_Meet_env : Env := mkEnv ty fnB [(115, prefix_Over_con)] []
theorem prefix_Meet_envOk : EnvOk Tryz.prog prefix_Meet_env := envOk tyOk fn_ok (callsCons prefix_Over_ok callsNil) _
noncomputable def prefix_Meet_con : Con := con [.one (.fl .pfx), .one (.fl .pfx)] [.one (.fl .bool)] (fun x => prefix_Meet_t x.1 x.2.1)
theorem prefix_Meet_ok : TrOk Tryz.prog 74 prefix_Meet_con := by
 have h : loopsOf (codeOf Tryz.f74) = [] := by kernel_rfl
 refine con_ok prefix_Meet_envOk Tryz.func74 (bodyOk h lsNil) _ _ _ (fun x => ?_)
 kernel_rfl
noncomputable def m_state_doer__pool_1_env : Env := mkEnv ty fnB [(74, prefix_Meet_con)] []
theorem m_state_doer__pool_1_envOk : EnvOk Tryz.prog m_state_doer__pool_1_env := envOk tyOk fn_ok (callsCons prefix_Meet_ok callsNil) _
noncomputable def m_state_doer__pool_1_con : Con := con [.agg [.fl .pfx, .row .addr 32], .ref [.fl .pfx] 34] [.one (.fl .bool)] (fun x => m_state_doer__pool_1_t x.1.1 x.1.2.1 x.2.1.1)
theorem m_state_doer__pool_1_ok : TrOk Tryz.prog 143 m_state_doer__pool_1_con := by
 have h : loopsOf (codeOf Tryz.f143) = [] := by kernel_rfl
 refine con_ok m_state_doer__pool_1_envOk Tryz.func143 (bodyOk h lsNil) _ _ _ (fun x => ?_)
 kernel_rfl
noncomputable def addr_Order_1_env : Env := mkEnv ty fnB [] []
theorem addr_Order_1_envOk : EnvOk Tryz.prog addr_Order_1_env := envOk tyOk fn_ok callsNil _
noncomputable def addr_Order_1_con : Con := con [.one (.fl .u64), .one (.fl .u64)] [.one (.fl .int)] (fun x => addr_Order_1_t x.1 x.2.1)
theorem addr_Order_1_ok : TrOk Tryz.prog 131 addr_Order_1_con := by
 have h : loopsOf (codeOf Tryz.f131) = [] := by kernel_rfl
 refine con_ok addr_Order_1_envOk Tryz.func131 (bodyOk h lsNil) _ _ _ (fun x => ?_)
 kernel_rfl
noncomputable def addr_Order_env : Env := mkEnv ty fnB [(131, addr_Order_1_con)] []
theorem addr_Order_envOk : EnvOk Tryz.prog addr_Order_env := envOk tyOk fn_ok (callsCons addr_Order_1_ok callsNil) _
noncomputable def addr_Order_con : Con := con [.one (.fl .addr), .one (.fl .addr)] [.one (.fl .int)] (fun x => addr_Order_t x.1 x.2.1)
theorem addr_Order_ok : TrOk Tryz.prog 114 addr_Order_con := by
 have h : loopsOf (codeOf Tryz.f114) = [] := by kernel_rfl
 refine con_ok addr_Order_envOk Tryz.func114 (bodyOk h lsNil) _ _ _ (fun x => ?_)
 kernel_rfl
noncomputable def prefix_Order_env : Env := mkEnv ty fnB [(114, addr_Order_con)] []
theorem prefix_Order_envOk : EnvOk Tryz.prog prefix_Order_env := envOk tyOk fn_ok (callsCons addr_Order_ok callsNil) _
noncomputable def prefix_Order_con : Con := con [.one (.fl .pfx), .one (.fl .pfx)] [.one (.fl .int)] (fun x => prefix_Order_t x.1 x.2.1)
theorem prefix_Order_ok : TrOk Tryz.prog 73 prefix_Order_con := by
 have h : loopsOf (codeOf Tryz.f73) = [] := by kernel_rfl
 refine con_ok prefix_Order_envOk Tryz.func73 (bodyOk h lsNil) _ _ _ (fun x => ?_)
 kernel_rfl
noncomputable def m_state_doer__pool_2_env : Env := mkEnv ty fnB [(73, prefix_Order_con)] []
theorem m_state_doer__pool_2_envOk : EnvOk Tryz.prog m_state_doer__pool_2_env := envOk tyOk fn_ok (callsCons prefix_Order_ok callsNil) _
noncomputable def m_state_doer__pool_2_con : Con := con [.agg [.fl .pfx, .row .addr 32], .one (.fl .pfx)] [.one (.fl .int)] (fun x => zq14 x.1.1 x.1.2.1 x.2.1)
theorem m_state_doer__pool_2_ok : TrOk Tryz.prog 145 m_state_doer__pool_2_con := by
 have h : loopsOf (codeOf Tryz.f145) = [] := by kernel_rfl
 refine con_ok m_state_doer__pool_2_envOk Tryz.func145 (bodyOk h lsNil) _ _ _ (fun x => ?_)
 kernel_rfl
noncomputable def state_poolOf_1_env : Env := mkEnv ty fnB [(113, prefix_Holds_con)] []
theorem state_poolOf_1_envOk : EnvOk Tryz.prog state_poolOf_1_env := envOk tyOk fn_ok (callsCons prefix_Holds_ok callsNil) _
noncomputable def state_poolOf_1_con : Con := con [.agg [.fl .pfx, .row .addr 32], .ref [.fl .addr] 32] [.one (.fl .bool)] (fun x => state_poolOf_1_t x.1.1 x.1.2.1 x.2.1.1)
theorem state_poolOf_1_ok : TrOk Tryz.prog 119 state_poolOf_1_con := by
 have h : loopsOf (codeOf Tryz.f119) = [] := by kernel_rfl
 refine con_ok state_poolOf_1_envOk Tryz.func119 (bodyOk h lsNil) _ _ _ (fun x => ?_)
 kernel_rfl
def zq105 : LoopS := { n := 19, base := 5, head := { keep := [0, 1, 7, 8], vals := [.one (.cst (.row 1)), .one (.cst (.fn 119 [.ptr 4 0])), .one (.fl .int), .one (.fl .int)], objs := [.bag .addr 32 false false, .nest .pfx 0 116 false, .row .lease 127 false, .blk [.cst (.row 1), .cst (.row 2), .fl .int] 45 true, .blk [.fl .addr] 32 true] }, exits := [⟨none, { keep := [4], vals := [.one (.fl .int)], objs := [.bag .addr 32 false false, .nest .pfx 0 116 false, .row .lease 127 false, .blk [.cst (.row 1), .cst (.row 2), .fl .int] 45 true, .blk [.fl .addr] 32 true] }⟩, ⟨some 0, { keep := [], vals := [], objs := [.bag .addr 32 false false, .nest .pfx 0 116 false, .row .lease 127 false, .blk [.cst (.row 1), .cst (.row 2), .fl .int] 45 true, .blk [.fl .addr] 32 true] }⟩] }
noncomputable def zq106 : Env := mkEnv ty fnB [(119, state_poolOf_1_con)] [(2, (loopTr zq105 (loopN zq104 FUEL)))]
theorem zq107 : EnvOk Tryz.prog zq106 := envOk tyOk fn_ok (callsCons state_poolOf_1_ok callsNil) _
theorem state_poolOf_slices_IndexFunc___api_Pool_api_Pool__L2_ok : LOk Tryz.prog (nthLoop (codeOf Tryz.f118) 0) (loopTr zq105 (loopN zq104 FUEL)) := by
 have h : loopsOf (nthLoop (codeOf Tryz.f118) 0) = [] := by kernel_rfl
 refine loop_ok zq107 (loopsOk h lsNil) zq105 zq104 FUEL (fun rec x => ?_)
 kernel_rfl
theorem state_poolOf_slices_IndexFunc___api_Pool_api_Pool__inl : TrOk Tryz.prog 118 (inlCon zq106 Tryz.f118) := by
 have h : loopsOf (codeOf Tryz.f118) = [(nthLoop (codeOf Tryz.f118) 0)] := by kernel_rfl
 exact inl_ok zq107 Tryz.func118 (bodyOk h (lsCons (one_loop (t := (loopTr zq105 (loopN zq104 FUEL))) (by kernel_rfl) state_poolOf_slices_IndexFunc___api_Pool_api_Pool__L2_ok) lsNil))
noncomputable def state_poolOf_env : Env := mkEnv ty fnB [(118, (inlCon zq106 Tryz.f118))] []
theorem state_poolOf_envOk : EnvOk Tryz.prog state_poolOf_env := envOk tyOk fn_ok (callsCons state_poolOf_slices_IndexFunc___api_Pool_api_Pool__inl callsNil) _
noncomputable def state_poolOf_con : Con := con [.agg [.nest .pfx .addr 116 32 true, .row .lease 127, .fl .int], .one (.fl .addr)] [.one (.fl .int)] (fun x => state_poolOf_t x.1.1 x.1.2.1 x.1.2.2.1 x.2.1)
theorem state_poolOf_ok : TrOk Tryz.prog 77 state_poolOf_con := by
 have h : loopsOf (codeOf Tryz.f77) = [] := by kernel_rfl
 refine con_ok state_poolOf_envOk Tryz.func77 (bodyOk h lsNil) _ _ _ (fun x => ?_)
 kernel_rfl
noncomputable def m_state_doer__find_1_env : Env := mkEnv ty fnB [] []
theorem m_state_doer__find_1_envOk : EnvOk Tryz.prog m_state_doer__find_1_env := envOk tyOk fn_ok callsNil _
noncomputable def m_state_doer__find_1_con : Con := con [.one (.fl .lease), .ref [.fl .str] 9] [.one (.fl .bool)] (fun x => m_state_doer__find_1_t x.1 x.2.1.1)
theorem m_state_doer__find_1_ok : TrOk Tryz.prog 160 m_state_doer__find_1_con := by
 have h : loopsOf (codeOf Tryz.f160) = [] := by kernel_rfl
 refine con_ok m_state_doer__find_1_envOk Tryz.func160 (bodyOk h lsNil) _ _ _ (fun x => ?_)
 kernel_rfl
def zq11 : LoopS := { n := 19, base := 5, head := { keep := [0, 1, 7, 8], vals := [.one (.cst (.row 3)), .one (.cst (.fn 160 [.ptr 4 0])), .one (.fl .int), .one (.fl .int)], objs := [.blk [.cst (.row 2), .cst (.row 3), .fl .int] 174 false, .bag .addr 32 false false, .nest .pfx 1 116 false, .row .lease 127 false, .blk [.fl .str] 9 true] }, exits := [⟨none, { keep := [4], vals := [.one (.fl .int)], objs := [.blk [.cst (.row 2), .cst (.row 3), .fl .int] 174 false, .bag .addr 32 false false, .nest .pfx 1 116 false, .row .lease 127 false, .blk [.fl .str] 9 true] }⟩, ⟨some 0, { keep := [], vals := [], objs := [.blk [.cst (.row 2), .cst (.row 3), .fl .int] 174 false, .bag .addr 32 false false, .nest .pfx 1 116 false, .row .lease 127 false, .blk [.fl .str] 9 true] }⟩] }
noncomputable def zq12 : Env := mkEnv ty fnB [(160, m_state_doer__find_1_con)] [(2, (loopTr zq11 (loopN zq10 FUEL)))]
theorem zq13 : EnvOk Tryz.prog zq12 := envOk tyOk fn_ok (callsCons m_state_doer__find_1_ok callsNil) _
theorem m_state_doer__find_slices_IndexFunc___api_Lease_api_Lease__L2_ok : LOk Tryz.prog (nthLoop (codeOf Tryz.f132) 0) (loopTr zq11 (loopN zq10 FUEL)) := by
 have h : loopsOf (nthLoop (codeOf Tryz.f132) 0) = [] := by kernel_rfl
 refine loop_ok zq13 (loopsOk h lsNil) zq11 zq10 FUEL (fun rec x => ?_)
 kernel_rfl
theorem m_state_doer__find_slices_IndexFunc___api_Lease_api_Lease__inl : TrOk Tryz.prog 132 (inlCon zq12 Tryz.f132) := by
 have h : loopsOf (codeOf Tryz.f132) = [(nthLoop (codeOf Tryz.f132) 0)] := by kernel_rfl
 exact inl_ok zq13 Tryz.func132 (bodyOk h (lsCons (one_loop (t := (loopTr zq11 (loopN zq10 FUEL))) (by kernel_rfl) m_state_doer__find_slices_IndexFunc___api_Lease_api_Lease__L2_ok) lsNil))
noncomputable def m_state_doer__find_env : Env := mkEnv ty fnB [(132, (inlCon zq12 Tryz.f132))] []
theorem m_state_doer__find_envOk : EnvOk Tryz.prog m_state_doer__find_env := envOk tyOk fn_ok (callsCons m_state_doer__find_slices_IndexFunc___api_Lease_api_Lease__inl callsNil) _
noncomputable def m_state_doer__find_con : Con := con [.ref [.nest .pfx .addr 116 32 true, .row .lease 127, .fl .int] 174, .one (.fl .str)] [.one (.fl .int)] (fun x => m_state_doer__find_t x.1.1 x.1.2.1 x.1.2.2.1 x.2.1)
theorem m_state_doer__find_ok : TrOk Tryz.prog 149 m_state_doer__find_con := by
 have h : loopsOf (codeOf Tryz.f149) = [] := by kernel_rfl
 refine con_ok m_state_doer__find_envOk Tryz.func149 (bodyOk h lsNil) _ _ _ (fun x => ?_)
 kernel_rfl
noncomputable def lease_Live_1_env : Env := mkEnv ty fnB [] []
theorem lease_Live_1_envOk : EnvOk Tryz.prog lease_Live_1_env := envOk tyOk fn_ok callsNil _
noncomputable def lease_Live_1_con : Con := con [.one (.fl .lease), .ref [.fl .int] 3] [.one (.fl .bool)] (fun x => lease_Live_1_t x.1 x.2.1.1)
theorem lease_Live_1_ok : TrOk Tryz.prog 155 lease_Live_1_con := by
 have h : loopsOf (codeOf Tryz.f155) = [] := by kernel_rfl
 refine con_ok lease_Live_1_envOk Tryz.func155 (bodyOk h lsNil) _ _ _ (fun x => ?_)
 kernel_rfl
def zq39 : LoopS := { n := 19, base := 5, head := { keep := [0, 1, 7, 8], vals := [.one (.cst (.row 3)), .one (.cst (.fn 155 [.ptr 1 0])), .one (.fl .int), .one (.fl .int)], objs := [.row .lease 127 false, .blk [.fl .int] 3 true, .row .lease 127 true, .row .lease 127 true, .row .lease 127 true] }, exits := [⟨none, { keep := [4], vals := [.one (.fl .int)], objs := [.row .lease 127 false, .blk [.fl .int] 3 true, .row .lease 127 true, .row .lease 127 true, .row .lease 127 true] }⟩, ⟨some 0, { keep := [], vals := [], objs := [.row .lease 127 false, .blk [.fl .int] 3 true, .row .lease 127 true, .row .lease 127 true, .row .lease 127 true] }⟩] }
noncomputable def zq41 : Env := mkEnv ty fnB [(155, lease_Live_1_con)] [(2, (loopTr zq39 (loopN zq38 FUEL)))]
theorem zq42 : EnvOk Tryz.prog zq41 := envOk tyOk fn_ok (callsCons lease_Live_1_ok callsNil) _
theorem zq40 : LOk Tryz.prog (nthLoop (codeOf Tryz.f132) 0) (loopTr zq39 (loopN zq38 FUEL)) := by
 have h : loopsOf (nthLoop (codeOf Tryz.f132) 0) = [] := by kernel_rfl
 refine loop_ok zq42 (loopsOk h lsNil) zq39 zq38 FUEL (fun rec x => ?_)
 kernel_rfl
theorem zq43 : TrOk Tryz.prog 132 (inlCon zq41 Tryz.f132) := by
 have h : loopsOf (codeOf Tryz.f132) = [(nthLoop (codeOf Tryz.f132) 0)] := by kernel_rfl
 exact inl_ok zq42 Tryz.func132 (bodyOk h (lsCons (one_loop (t := (loopTr zq39 (loopN zq38 FUEL))) (by kernel_rfl) zq40) lsNil))
def zq35 : LoopS := { n := 42, base := 4, head := { keep := [0, 1, 5, 6], vals := [.one (.cst (.row 3)), .one (.cst (.fn 155 [.ptr 1 0])), .one (.fl .int), .one (.fl .int)], objs := [.row .lease 127 false, .blk [.fl .int] 3 true, .row .lease 127 true, .row .lease 127 true] }, exits := [⟨some 0, { keep := [0, 5], vals := [.one (.cst (.row 3)), .one (.fl .int)], objs := [.row .lease 127 false, .blk [.fl .int] 3 true, .row .lease 127 true, .row .lease 127 true] }⟩] }
noncomputable def zq36 : Env := mkEnv ty fnB [(155, lease_Live_1_con), (132, (inlCon zq41 Tryz.f132))] [(5, (loopTr zq35 (loopN zq34 FUEL)))]
theorem zq37 : EnvOk Tryz.prog zq36 := envOk tyOk fn_ok (callsCons lease_Live_1_ok (callsCons zq43 callsNil)) _
theorem lease_Live_slices_DeleteFunc___api_Lease_api_Lease__L5_ok : LOk Tryz.prog (nthLoop (codeOf Tryz.f154) 0) (loopTr zq35 (loopN zq34 FUEL)) := by
 have h : loopsOf (nthLoop (codeOf Tryz.f154) 0) = [] := by kernel_rfl
 refine loop_ok zq37 (loopsOk h lsNil) zq35 zq34 FUEL (fun rec x => ?_)
 kernel_rfl
theorem lease_Live_slices_DeleteFunc___api_Lease_api_Lease__inl : TrOk Tryz.prog 154 (inlCon zq36 Tryz.f154) := by
 have h : loopsOf (codeOf Tryz.f154) = [(nthLoop (codeOf Tryz.f154) 0)] := by kernel_rfl
 exact inl_ok zq37 Tryz.func154 (bodyOk h (lsCons (one_loop (t := (loopTr zq35 (loopN zq34 FUEL))) (by kernel_rfl) lease_Live_slices_DeleteFunc___api_Lease_api_Lease__L5_ok) lsNil))
noncomputable def lease_Live_env : Env := mkEnv ty fnB [(134, zq69), (154, (inlCon zq36 Tryz.f154))] []
theorem lease_Live_envOk : EnvOk Tryz.prog lease_Live_env := envOk tyOk fn_ok (callsCons slices_Clone___api_Lease_api_Lease__ok (callsCons lease_Live_slices_DeleteFunc___api_Lease_api_Lease__inl callsNil)) _
noncomputable def lease_Live_con : Con := con [.one (.row .lease 127), .one (.fl .int)] [.one (.row .lease 127)] (fun x => lease_Live_t x.1 x.2.1)
theorem lease_Live_ok : TrOk Tryz.prog 140 lease_Live_con := by
 have h : loopsOf (codeOf Tryz.f140) = [] := by kernel_rfl
 refine con_ok lease_Live_envOk Tryz.func140 (bodyOk h lsNil) _ _ _ (fun x => ?_)
 kernel_rfl
noncomputable def lease_Raw_1_env : Env := mkEnv ty fnB [] []
theorem lease_Raw_1_envOk : EnvOk Tryz.prog lease_Raw_1_env := envOk tyOk fn_ok callsNil _
noncomputable def lease_Raw_1_con : Con := con [.one (.fl .lease), .ref [.fl .str] 9] [.one (.fl .bool)] (fun x => lease_Raw_1_t x.1 x.2.1.1)
theorem lease_Raw_1_ok : TrOk Tryz.prog 161 lease_Raw_1_con := by
 have h : loopsOf (codeOf Tryz.f161) = [] := by kernel_rfl
 refine con_ok lease_Raw_1_envOk Tryz.func161 (bodyOk h lsNil) _ _ _ (fun x => ?_)
 kernel_rfl
noncomputable def prefix_Last_env : Env := mkEnv ty fnB [(141, prefix_mask_con)] []
theorem prefix_Last_envOk : EnvOk Tryz.prog prefix_Last_env := envOk tyOk fn_ok (callsCons prefix_mask_ok callsNil) _
noncomputable def prefix_Last_con : Con := con [.one (.fl .pfx)] [.one (.fl .addr)] (fun x => prefix_Last_t x.1)
theorem prefix_Last_ok : TrOk Tryz.prog 187 prefix_Last_con := by
 have h : loopsOf (codeOf Tryz.f187) = [] := by kernel_rfl
 refine con_ok prefix_Last_envOk Tryz.func187 (bodyOk h lsNil) _ _ _ (fun x => ?_)
 kernel_rfl
noncomputable def addr_After_env : Env := mkEnv ty fnB [] []
theorem addr_After_envOk : EnvOk Tryz.prog addr_After_env := envOk tyOk fn_ok callsNil _
noncomputable def addr_After_con : Con := con [.one (.fl .addr)] [.one (.fl .addr), .one (.fl .bool)] (fun x => addr_After_t x.1)
theorem addr_After_ok : TrOk Tryz.prog 188 addr_After_con := by
 have h : loopsOf (codeOf Tryz.f188) = [] := by kernel_rfl
 refine con_ok addr_After_envOk Tryz.func188 (bodyOk h lsNil) _ _ _ (fun x => ?_)
 kernel_rfl
def zq73 : LoopS := { n := 19, base := 1, head := { keep := [0, 3, 7, 8], vals := [.one (.cst (.row 0)), .one (.cst (.ptr 1 0)), .one (.fl .int), .one (.fl .int)], objs := [.row .addr 32 false, .blk [.fl .addr] 32 true] }, exits := [⟨none, { keep := [4], vals := [.one (.fl .int)], objs := [.row .addr 32 false] }⟩, ⟨some 0, { keep := [], vals := [], objs := [.row .addr 32 false] }⟩] }
noncomputable def slices_Index___api_Addr_api_Addr__env : Env := mkEnv ty fnB [] [(2, (loopTr zq73 (loopN zq72 FUEL)))]
theorem slices_Index___api_Addr_api_Addr__envOk : EnvOk Tryz.prog slices_Index___api_Addr_api_Addr__env := envOk tyOk fn_ok callsNil _
theorem slices_Index___api_Addr_api_Addr__L2_ok : LOk Tryz.prog (nthLoop (codeOf Tryz.f197) 0) (loopTr zq73 (loopN zq72 FUEL)) := by
 have h : loopsOf (nthLoop (codeOf Tryz.f197) 0) = [] := by kernel_rfl
 refine loop_ok slices_Index___api_Addr_api_Addr__envOk (loopsOk h lsNil) zq73 zq72 FUEL (fun rec x => ?_)
 kernel_rfl
noncomputable def slices_Index___api_Addr_api_Addr__con : Con := con [.one (.row .addr 32), .one (.fl .addr)] [.one (.fl .int)] (fun x => zq74 x.1 x.2.1)
theorem slices_Index___api_Addr_api_Addr__ok : TrOk Tryz.prog 197 slices_Index___api_Addr_api_Addr__con := by
 have h : loopsOf (codeOf Tryz.f197) = [(nthLoop (codeOf Tryz.f197) 0)] := by kernel_rfl
 refine con_ok slices_Index___api_Addr_api_Addr__envOk Tryz.func197 (bodyOk h (lsCons (one_loop (t := (loopTr zq73 (loopN zq72 FUEL))) (by kernel_rfl) slices_Index___api_Addr_api_Addr__L2_ok) lsNil)) _ _ _ (fun x => ?_)
 kernel_rfl
noncomputable def slices_Contains___api_Addr_api_Addr__env : Env := mkEnv ty fnB [(197, slices_Index___api_Addr_api_Addr__con)] []
theorem slices_Contains___api_Addr_api_Addr__envOk : EnvOk Tryz.prog slices_Contains___api_Addr_api_Addr__env := envOk tyOk fn_ok (callsCons slices_Index___api_Addr_api_Addr__ok callsNil) _
noncomputable def slices_Contains___api_Addr_api_Addr__con : Con := con [.one (.row .addr 32), .one (.fl .addr)] [.one (.fl .bool)] (fun x => zq71 x.1 x.2.1)
theorem slices_Contains___api_Addr_api_Addr__ok : TrOk Tryz.prog 189 slices_Contains___api_Addr_api_Addr__con := by
 have h : loopsOf (codeOf Tryz.f189) = [] := by kernel_rfl
 refine con_ok slices_Contains___api_Addr_api_Addr__envOk Tryz.func189 (bodyOk h lsNil) _ _ _ (fun x => ?_)
 kernel_rfl
noncomputable def m_lease_book__taken_1_env : Env := mkEnv ty fnB [] []
theorem m_lease_book__taken_1_envOk : EnvOk Tryz.prog m_lease_book__taken_1_env := envOk tyOk fn_ok callsNil _
noncomputable def m_lease_book__taken_1_con : Con := con [.one (.fl .lease), .ref [.fl .addr] 32] [.one (.fl .bool)] (fun x => m_lease_book__taken_1_t x.1 x.2.1.1)
theorem m_lease_book__taken_1_ok : TrOk Tryz.prog 190 m_lease_book__taken_1_con := by
 have h : loopsOf (codeOf Tryz.f190) = [] := by kernel_rfl
 refine con_ok m_lease_book__taken_1_envOk Tryz.func190 (bodyOk h lsNil) _ _ _ (fun x => ?_)
 kernel_rfl
def zq5 : LoopS := { n := 19, base := 4, head := { keep := [0, 1, 7, 8], vals := [.one (.cst (.row 2)), .one (.cst (.fn 190 [.ptr 3 0])), .one (.fl .int), .one (.fl .int)], objs := [.blk [.fl .bool, .fl .u64, .fl .u64, .fl .int, .cst (.row 1), .cst (.row 2)] 204 false, .row .addr 32 false, .row .lease 127 false, .blk [.fl .addr] 32 false] }, exits := [⟨none, { keep := [4], vals := [.one (.fl .int)], objs := [.blk [.fl .bool, .fl .u64, .fl .u64, .fl .int, .cst (.row 1), .cst (.row 2)] 204 false, .row .addr 32 false, .row .lease 127 false, .blk [.fl .addr] 32 false] }⟩, ⟨some 0, { keep := [], vals := [], objs := [.blk [.fl .bool, .fl .u64, .fl .u64, .fl .int, .cst (.row 1), .cst (.row 2)] 204 false, .row .addr 32 false, .row .lease 127 false, .blk [.fl .addr] 32 false] }⟩] }
noncomputable def zq7 : Env := mkEnv ty fnB [(190, m_lease_book__taken_1_con)] [(2, (loopTr zq5 (loopN zq4 FUEL)))]
theorem zq8 : EnvOk Tryz.prog zq7 := envOk tyOk fn_ok (callsCons m_lease_book__taken_1_ok callsNil) _
theorem zq6 : LOk Tryz.prog (nthLoop (codeOf Tryz.f132) 0) (loopTr zq5 (loopN zq4 FUEL)) := by
 have h : loopsOf (nthLoop (codeOf Tryz.f132) 0) = [] := by kernel_rfl
 refine loop_ok zq8 (loopsOk h lsNil) zq5 zq4 FUEL (fun rec x => ?_)
 kernel_rfl
theorem zq9 : TrOk Tryz.prog 132 (inlCon zq7 Tryz.f132) := by
 have h : loopsOf (codeOf Tryz.f132) = [(nthLoop (codeOf Tryz.f132) 0)] := by kernel_rfl
 exact inl_ok zq8 Tryz.func132 (bodyOk h (lsCons (one_loop (t := (loopTr zq5 (loopN zq4 FUEL))) (by kernel_rfl) zq6) lsNil))
noncomputable def zq1 : Env := mkEnv ty fnB [(132, (inlCon zq7 Tryz.f132))] []
theorem zq2 : EnvOk Tryz.prog zq1 := envOk tyOk fn_ok (callsCons zq9 callsNil) _
theorem zq3 : TrOk Tryz.prog 120 (flCon zq1 Tryz.f120 [.one (.fl .bool)]) := by
 have h : loopsOf (codeOf Tryz.f120) = [] := by kernel_rfl
 exact flCon_ok zq2 Tryz.func120 (bodyOk h lsNil) [.one (.fl .bool)] rfl
noncomputable def m_lease_book__taken_env : Env := mkEnv ty fnB [(189, slices_Contains___api_Addr_api_Addr__con), (120, (flCon zq1 Tryz.f120 [.one (.fl .bool)]))] []
theorem m_lease_book__taken_envOk : EnvOk Tryz.prog m_lease_book__taken_env := envOk tyOk fn_ok (callsCons slices_Contains___api_Addr_api_Addr__ok (callsCons zq3 callsNil)) _
noncomputable def m_lease_book__taken_con : Con := con [.ref [.fl .pfx, .row .addr 32, .row .lease 127] 204, .one (.fl .addr)] [.one (.fl .bool)] (fun x => m_lease_book__taken_t x.1.1 x.1.2.1 x.1.2.2.1 x.2.1)
theorem m_lease_book__taken_ok : TrOk Tryz.prog 171 m_lease_book__taken_con := by
 have h : loopsOf (codeOf Tryz.f171) = [] := by kernel_rfl
 refine con_ok m_lease_book__taken_envOk Tryz.func171 (bodyOk h lsNil) _ _ _ (fun x => ?_)
 kernel_rfl
noncomputable def lease_Raw_2_env : Env := mkEnv ty fnB [(114, addr_Order_con)] []
theorem lease_Raw_2_envOk : EnvOk Tryz.prog lease_Raw_2_env := envOk tyOk fn_ok (callsCons addr_Order_ok callsNil) _
noncomputable def lease_Raw_2_con : Con := con [.one (.fl .lease), .one (.fl .lease)] [.one (.fl .int)] (fun x => lease_Raw_2_t x.1 x.2.1)
theorem lease_Raw_2_ok : TrOk Tryz.prog 164 lease_Raw_2_con := by
 have h : loopsOf (codeOf Tryz.f164) = [] := by kernel_rfl
 refine con_ok lease_Raw_2_envOk Tryz.func164 (bodyOk h lsNil) _ _ _ (fun x => ?_)
 kernel_rfl
noncomputable def R_between_env : Env := mkEnv ty fnB [] []
theorem R_between_envOk : EnvOk Tryz.prog R_between_env := envOk tyOk fn_ok callsNil _
noncomputable def R_between_con : Con := con [.one (.fl .int), .one (.fl .int), .one (.fl .int)] [.one (.fl .bool)] (fun x => R_between_t x.1 x.2.1 x.2.2.1)
theorem R_between_ok : TrOk Tryz.prog 44 R_between_con := by
 have h : loopsOf (codeOf Tryz.f44) = [] := by kernel_rfl
 refine con_ok R_between_envOk Tryz.func44 (bodyOk h lsNil) _ _ _ (fun x => ?_)
 kernel_rfl
noncomputable def R_CheckAddr_env : Env := mkEnv ty fnB [] []
theorem R_CheckAddr_envOk : EnvOk Tryz.prog R_CheckAddr_env := envOk tyOk fn_ok callsNil _
noncomputable def R_CheckAddr_con : Con := con [.one (.fl .addr)] [.one (.fl .int)] (fun x => R_CheckAddr_t x.1)
theorem R_CheckAddr_ok : TrOk Tryz.prog 61 R_CheckAddr_con := by
 have h : loopsOf (codeOf Tryz.f61) = [] := by kernel_rfl
 refine con_ok R_CheckAddr_envOk Tryz.func61 (bodyOk h lsNil) _ _ _ (fun x => ?_)
 kernel_rfl
noncomputable def R_wide_env : Env := mkEnv ty fnB [] []
theorem R_wide_envOk : EnvOk Tryz.prog R_wide_env := envOk tyOk fn_ok callsNil _
noncomputable def R_wide_con : Con := con [.one (.fl .addr)] [.one (.fl .int)] (fun x => R_wide_t x.1)
theorem R_wide_ok : TrOk Tryz.prog 103 R_wide_con := by
 have h : loopsOf (codeOf Tryz.f103) = [] := by kernel_rfl
 refine con_ok R_wide_envOk Tryz.func103 (bodyOk h lsNil) _ _ _ (fun x => ?_)
 kernel_rfl
def R_Bits_L3_S : LoopS := { n := 42, base := 0, head := { keep := [1, 3, 4], vals := [.one (.cst (.ptr 0 0)), .one (.cst (.row 1)), .one (.fl .int)], objs := [.blk [.fl .addr] 32 true, .row .u8 5 true] }, exits := [⟨some 0, { keep := [1, 3], vals := [.one (.cst (.ptr 0 0)), .one (.cst (.row 1))], objs := [.blk [.fl .addr] 32 true, .row .u8 5 true] }⟩] }
def R_Bits_L7_S : LoopS := { n := 42, base := 0, head := { keep := [1, 3, 5], vals := [.one (.cst (.ptr 0 0)), .one (.cst (.row 1)), .one (.fl .int)], objs := [.blk [.fl .addr] 32 true, .row .u8 5 true] }, exits := [⟨some 2, { keep := [1, 3], vals := [.one (.cst (.ptr 0 0)), .one (.cst (.row 1))], objs := [.blk [.fl .addr] 32 true, .row .u8 5 true] }⟩] }
noncomputable def R_Bits_env : Env := mkEnv ty fnB [] [(3, (loopTr R_Bits_L3_S (loopN R_Bits_L3 FUEL))), (7, (loopTr R_Bits_L7_S (loopN R_Bits_L7 FUEL)))]
theorem R_Bits_envOk : EnvOk Tryz.prog R_Bits_env := envOk tyOk fn_ok callsNil _
theorem R_Bits_L7_ok : LOk Tryz.prog (nthLoop (codeOf Tryz.f104) 1) (loopTr R_Bits_L7_S (loopN R_Bits_L7 FUEL)) := by
 have h : loopsOf (nthLoop (codeOf Tryz.f104) 1) = [] := by kernel_rfl
 refine loop_ok R_Bits_envOk (loopsOk h lsNil) R_Bits_L7_S R_Bits_L7 FUEL (fun rec x => ?_)
 kernel_rfl
theorem R_Bits_L3_ok : LOk Tryz.prog (nthLoop (codeOf Tryz.f104) 0) (loopTr R_Bits_L3_S (loopN R_Bits_L3 FUEL)) := by
 have h : loopsOf (nthLoop (codeOf Tryz.f104) 0) = [] := by kernel_rfl
 refine loop_ok R_Bits_envOk (loopsOk h lsNil) R_Bits_L3_S R_Bits_L3 FUEL (fun rec x => ?_)
 kernel_rfl
noncomputable def R_Bits_con : Con := con [.one (.fl .addr)] [.one (.fl .str)] (fun x => R_Bits_t x.1)
theorem R_Bits_ok : TrOk Tryz.prog 104 R_Bits_con := by
 have h : loopsOf (codeOf Tryz.f104) = [(nthLoop (codeOf Tryz.f104) 0), (nthLoop (codeOf Tryz.f104) 1)] := by kernel_rfl
 refine con_ok R_Bits_envOk Tryz.func104 (bodyOk h (lsCons (one_loop (t := (loopTr R_Bits_L3_S (loopN R_Bits_L3 FUEL))) (by kernel_rfl) R_Bits_L3_ok) (lsCons (one_loop (t := (loopTr R_Bits_L7_S (loopN R_Bits_L7 FUEL))) (by kernel_rfl) R_Bits_L7_ok) lsNil))) _ _ _ (fun x => ?_)
 kernel_rfl
def R_CheckPrefix_L8_S : LoopS := { n := 34, base := 0, head := { keep := [4, 5], vals := [.one (.fl .str), .one (.fl .int)], objs := [] }, exits := [⟨none, { keep := [2], vals := [.one (.fl .int)], objs := [] }⟩, ⟨some 0, { keep := [], vals := [], objs := [] }⟩] }
noncomputable def R_CheckPrefix_env : Env := mkEnv ty fnB [(61, R_CheckAddr_con), (103, R_wide_con), (44, R_between_con), (104, R_Bits_con)] [(8, (loopTr R_CheckPrefix_L8_S (loopN R_CheckPrefix_L8 FUEL)))]
theorem R_CheckPrefix_envOk : EnvOk Tryz.prog R_CheckPrefix_env := envOk tyOk fn_ok (callsCons R_CheckAddr_ok (callsCons R_wide_ok (callsCons R_between_ok (callsCons R_Bits_ok callsNil)))) _
theorem R_CheckPrefix_L8_ok : LOk Tryz.prog (nthLoop (codeOf Tryz.f59) 0) (loopTr R_CheckPrefix_L8_S (loopN R_CheckPrefix_L8 FUEL)) := by
 have h : loopsOf (nthLoop (codeOf Tryz.f59) 0) = [] := by kernel_rfl
 refine loop_ok R_CheckPrefix_envOk (loopsOk h lsNil) R_CheckPrefix_L8_S R_CheckPrefix_L8 FUEL (fun rec x => ?_)
 kernel_rfl
noncomputable def R_CheckPrefix_con : Con := con [.one (.fl .pfx)] [.one (.fl .int)] (fun x => R_CheckPrefix_t x.1)
theorem R_CheckPrefix_ok : TrOk Tryz.prog 59 R_CheckPrefix_con := by
 have h : loopsOf (codeOf Tryz.f59) = [(nthLoop (codeOf Tryz.f59) 0)] := by kernel_rfl
 refine con_ok R_CheckPrefix_envOk Tryz.func59 (bodyOk h (lsCons (one_loop (t := (loopTr R_CheckPrefix_L8_S (loopN R_CheckPrefix_L8 FUEL))) (by kernel_rfl) R_CheckPrefix_L8_ok) lsNil)) _ _ _ (fun x => ?_)
 kernel_rfl
noncomputable def R_IsNarrow_env : Env := mkEnv ty fnB [(103, R_wide_con)] []
theorem R_IsNarrow_envOk : EnvOk Tryz.prog R_IsNarrow_env := envOk tyOk fn_ok (callsCons R_wide_ok callsNil) _
noncomputable def R_IsNarrow_con : Con := con [.one (.fl .pfx)] [.one (.fl .bool)] (fun x => R_IsNarrow_t x.1)
theorem R_IsNarrow_ok : TrOk Tryz.prog 60 R_IsNarrow_con := by
 have h : loopsOf (codeOf Tryz.f60) = [] := by kernel_rfl
 refine con_ok R_IsNarrow_envOk Tryz.func60 (bodyOk h lsNil) _ _ _ (fun x => ?_)
 kernel_rfl
def R_IsWho_L2_S : LoopS := { n := 27, base := 0, head := { keep := [0, 3], vals := [.one (.fl .str), .one (.fl .int)], objs := [] }, exits := [⟨none, { keep := [2], vals := [.one (.fl .bool)], objs := [] }⟩, ⟨some 0, { keep := [0], vals := [.one (.fl .str)], objs := [] }⟩] }
noncomputable def R_IsWho_env : Env := mkEnv ty fnB [(44, R_between_con)] [(2, (loopTr R_IsWho_L2_S (loopN R_IsWho_L2 FUEL)))]
theorem R_IsWho_envOk : EnvOk Tryz.prog R_IsWho_env := envOk tyOk fn_ok (callsCons R_between_ok callsNil) _
theorem R_IsWho_L2_ok : LOk Tryz.prog (nthLoop (codeOf Tryz.f62) 0) (loopTr R_IsWho_L2_S (loopN R_IsWho_L2 FUEL)) := by
 have h : loopsOf (nthLoop (codeOf Tryz.f62) 0) = [] := by kernel_rfl
 refine loop_ok R_IsWho_envOk (loopsOk h lsNil) R_IsWho_L2_S R_IsWho_L2 FUEL (fun rec x => ?_)
 kernel_rfl
noncomputable def R_IsWho_con : Con := con [.one (.fl .str)] [.one (.fl .bool)] (fun x => R_IsWho_t x.1)
theorem R_IsWho_ok : TrOk Tryz.prog 62 R_IsWho_con := by
 have h : loopsOf (codeOf Tryz.f62) = [(nthLoop (codeOf Tryz.f62) 0)] := by kernel_rfl
 refine con_ok R_IsWho_envOk Tryz.func62 (bodyOk h (lsCons (one_loop (t := (loopTr R_IsWho_L2_S (loopN R_IsWho_L2 FUEL))) (by kernel_rfl) R_IsWho_L2_ok) lsNil)) _ _ _ (fun x => ?_)
 kernel_rfl
noncomputable def R_CheckOp_env : Env := mkEnv ty fnB [(44, R_between_con), (59, R_CheckPrefix_con), (60, R_IsNarrow_con), (61, R_CheckAddr_con), (62, R_IsWho_con)] []
theorem R_CheckOp_envOk : EnvOk Tryz.prog R_CheckOp_env := envOk tyOk fn_ok (callsCons R_between_ok (callsCons R_CheckPrefix_ok (callsCons R_IsNarrow_ok (callsCons R_CheckAddr_ok (callsCons R_IsWho_ok callsNil))))) _
noncomputable def R_CheckOp_con : Con := con [.one (.fl .op)] [.one (.fl .int)] (fun x => R_CheckOp_t x.1)
theorem R_CheckOp_ok : TrOk Tryz.prog 22 R_CheckOp_con := by
 have h : loopsOf (codeOf Tryz.f22) = [] := by kernel_rfl
 refine con_ok R_CheckOp_envOk Tryz.func22 (bodyOk h lsNil) _ _ _ (fun x => ?_)
 kernel_rfl
noncomputable def law_v4_env : Env := mkEnv ty fnB [] []
theorem law_v4_envOk : EnvOk Tryz.prog law_v4_env := envOk tyOk fn_ok callsNil _
noncomputable def law_v4_con : Con := con [.one (.fl .u64)] [.one (.fl .addr)] (fun x => law_v4_t x.1)
theorem law_v4_ok : TrOk Tryz.prog 58 law_v4_con := by
 have h : loopsOf (codeOf Tryz.f58) = [] := by kernel_rfl
 refine con_ok law_v4_envOk Tryz.func58 (bodyOk h lsNil) _ _ _ (fun x => ?_)
 kernel_rfl
noncomputable def law_net_env : Env := mkEnv ty fnB [(58, law_v4_con)] []
theorem law_net_envOk : EnvOk Tryz.prog law_net_env := envOk tyOk fn_ok (callsCons law_v4_ok callsNil) _
noncomputable def law_net_con : Con := con [.one (.fl .u64), .one (.fl .int)] [.one (.fl .pfx)] (fun x => law_net_t x.1 x.2.1)
theorem law_net_ok : TrOk Tryz.prog 82 law_net_con := by
 have h : loopsOf (codeOf Tryz.f82) = [] := by kernel_rfl
 refine con_ok law_net_envOk Tryz.func82 (bodyOk h lsNil) _ _ _ (fun x => ?_)
 kernel_rfl
noncomputable def law_some_env : Env := mkEnv ty fnB [(82, law_net_con), (58, law_v4_con)] []
theorem law_some_envOk : EnvOk Tryz.prog law_some_env := envOk tyOk fn_ok (callsCons law_net_ok (callsCons law_v4_ok callsNil)) _
noncomputable def law_some_con : Con := con [] [.one (.row .op 36)] (fun x => law_some_t)
theorem law_some_ok : TrOk Tryz.prog 33 law_some_con := by
 have h : loopsOf (codeOf Tryz.f33) = [] := by kernel_rfl
 refine con_ok law_some_envOk Tryz.func33 (bodyOk h lsNil) _ _ _ (fun x => ?_)
 kernel_rfl
noncomputable def law_events_env : Env := mkEnv ty fnB [(33, law_some_con)] []
theorem law_events_envOk : EnvOk Tryz.prog law_events_env := envOk tyOk fn_ok (callsCons law_some_ok callsNil) _
noncomputable def law_events_con : Con := con [] [.one (.row .event 38)] (fun x => law_events_t)
theorem law_events_ok : TrOk Tryz.prog 52 law_events_con := by
 have h : loopsOf (codeOf Tryz.f52) = [] := by kernel_rfl
 refine con_ok law_events_envOk Tryz.func52 (bodyOk h lsNil) _ _ _ (fun x => ?_)
 kernel_rfl
noncomputable def cluster_New_env : Env := mkEnv ty fnB [] []
theorem cluster_New_envOk : EnvOk Tryz.prog cluster_New_env := envOk tyOk fn_ok callsNil _
noncomputable def cluster_New_con : Con := con [] [.agg [.fl .int, .fl .int, .fl .int, .fl .int, .row .entry 68, .nest .int .entry 56 68 true]] (fun x => cluster_New_t)
theorem cluster_New_ok : TrOk Tryz.prog 53 cluster_New_con := by
 have h : loopsOf (codeOf Tryz.f53) = [] := by kernel_rfl
 refine con_ok cluster_New_envOk Tryz.func53 (bodyOk h lsNil) _ _ _ (fun x => ?_)
 kernel_rfl
def cluster_Run_L6_S : LoopS := { n := 42, base := 1, head := { keep := [2, 5, 6, 17, 18, 19], vals := [.one (.cst (.ptr 1 0)), .one (.cst (.ptr 2 0)), .one (.cst (.row 3)), .one (.cst (.row 0)), .one (.fl .int), .one (.fl .int)], objs := [.row .event 38 false, .blk [.fl .int, .fl .int, .fl .int, .fl .int, .cst (.row 4), .cst (.row 5)] 29 true, .blk [.fl .int, .fl .int, .fl .int, .fl .int, .cst (.row 6), .cst (.row 7)] 29 true, .row .bool 4 true, .row .entry 68 true, .nest .int 8 56 true, .row .entry 68 true, .nest .int 9 56 true, .bag .entry 68 true true, .bag .entry 68 true true] }, exits := [⟨none, { keep := [2, 3, 4], vals := [.one (.cst (.ptr 1 0)), .one (.cst (.row 2)), .one (.fl .int)], objs := [.row .event 38 false, .blk [.fl .int, .fl .int, .fl .int, .fl .int, .cst (.row 3), .cst (.row 4)] 29 true, .row .bool 4 true, .row .entry 68 true, .nest .int 5 56 true, .bag .entry 68 true true] }⟩, ⟨some 0, { keep := [2, 5, 6], vals := [.one (.cst (.ptr 1 0)), .one (.cst (.ptr 2 0)), .one (.cst (.row 3))], objs := [.row .event 38 false, .blk [.fl .int, .fl .int, .fl .int, .fl .int, .cst (.row 4), .cst (.row 5)] 29 true, .blk [.fl .int, .fl .int, .fl .int, .fl .int, .cst (.row 6), .cst (.row 7)] 29 true, .row .bool 4 true, .row .entry 68 true, .nest .int 8 56 true, .row .entry 68 true, .nest .int 9 56 true, .bag .entry 68 true true, .bag .entry 68 true true] }⟩] }
noncomputable def cluster_Run_env : Env := mkEnv ty fnB [(53, cluster_New_con), (9, cluster_Do_con)] [(6, (loopTr cluster_Run_L6_S (loopN cluster_Run_L6 FUEL)))]
theorem cluster_Run_envOk : EnvOk Tryz.prog cluster_Run_env := envOk tyOk fn_ok (callsCons cluster_New_ok (callsCons cluster_Do_ok callsNil)) _
theorem cluster_Run_L6_ok : LOk Tryz.prog (nthLoop (codeOf Tryz.f19) 0) (loopTr cluster_Run_L6_S (loopN cluster_Run_L6 FUEL)) := by
 have h : loopsOf (nthLoop (codeOf Tryz.f19) 0) = [] := by kernel_rfl
 refine loop_ok cluster_Run_envOk (loopsOk h lsNil) cluster_Run_L6_S cluster_Run_L6 FUEL (fun rec x => ?_)
 kernel_rfl
noncomputable def cluster_Run_con : Con := con [.one (.row .event 38)] [.agg [.fl .int, .fl .int, .fl .int, .fl .int, .row .entry 68, .nest .int .entry 56 68 true], .one (.row .bool 4), .one (.fl .int)] (fun x => cluster_Run_t x.1)
theorem cluster_Run_ok : TrOk Tryz.prog 19 cluster_Run_con := by
 have h : loopsOf (codeOf Tryz.f19) = [(nthLoop (codeOf Tryz.f19) 0)] := by kernel_rfl
 refine con_ok cluster_Run_envOk Tryz.func19 (bodyOk h (lsCons (one_loop (t := (loopTr cluster_Run_L6_S (loopN cluster_Run_L6 FUEL))) (by kernel_rfl) cluster_Run_L6_ok) lsNil)) _ _ _ (fun x => ?_)
 kernel_rfl
def R_SameLeases_L4_S : LoopS := { n := 26, base := 2, head := { keep := [0, 1, 5], vals := [.one (.cst (.row 0)), .one (.cst (.row 1)), .one (.fl .int)], objs := [.row .lease 127 false, .row .lease 127 false] }, exits := [⟨none, { keep := [4], vals := [.one (.fl .bool)], objs := [.row .lease 127 false, .row .lease 127 false] }⟩, ⟨some 0, { keep := [], vals := [], objs := [.row .lease 127 false, .row .lease 127 false] }⟩] }
noncomputable def R_SameLeases_env : Env := mkEnv ty fnB [] [(4, (loopTr R_SameLeases_L4_S (loopN R_SameLeases_L4 FUEL)))]
theorem R_SameLeases_envOk : EnvOk Tryz.prog R_SameLeases_env := envOk tyOk fn_ok callsNil _
theorem R_SameLeases_L4_ok : LOk Tryz.prog (nthLoop (codeOf Tryz.f63) 0) (loopTr R_SameLeases_L4_S (loopN R_SameLeases_L4 FUEL)) := by
 have h : loopsOf (nthLoop (codeOf Tryz.f63) 0) = [] := by kernel_rfl
 refine loop_ok R_SameLeases_envOk (loopsOk h lsNil) R_SameLeases_L4_S R_SameLeases_L4 FUEL (fun rec x => ?_)
 kernel_rfl
noncomputable def R_SameLeases_con : Con := con [.one (.row .lease 127), .one (.row .lease 127)] [.one (.fl .bool)] (fun x => R_SameLeases_t x.1 x.2.1)
theorem R_SameLeases_ok : TrOk Tryz.prog 63 R_SameLeases_con := by
 have h : loopsOf (codeOf Tryz.f63) = [(nthLoop (codeOf Tryz.f63) 0)] := by kernel_rfl
 refine con_ok R_SameLeases_envOk Tryz.func63 (bodyOk h (lsCons (one_loop (t := (loopTr R_SameLeases_L4_S (loopN R_SameLeases_L4 FUEL))) (by kernel_rfl) R_SameLeases_L4_ok) lsNil)) _ _ _ (fun x => ?_)
 kernel_rfl
def R_SameAddrs_L4_S : LoopS := { n := 26, base := 2, head := { keep := [0, 1, 5], vals := [.one (.cst (.row 0)), .one (.cst (.row 1)), .one (.fl .int)], objs := [.row .addr 32 false, .row .addr 32 false] }, exits := [⟨none, { keep := [4], vals := [.one (.fl .bool)], objs := [.row .addr 32 false, .row .addr 32 false] }⟩, ⟨some 0, { keep := [], vals := [], objs := [.row .addr 32 false, .row .addr 32 false] }⟩] }
noncomputable def R_SameAddrs_env : Env := mkEnv ty fnB [] [(4, (loopTr R_SameAddrs_L4_S (loopN R_SameAddrs_L4 FUEL)))]
theorem R_SameAddrs_envOk : EnvOk Tryz.prog R_SameAddrs_env := envOk tyOk fn_ok callsNil _
theorem R_SameAddrs_L4_ok : LOk Tryz.prog (nthLoop (codeOf Tryz.f64) 0) (loopTr R_SameAddrs_L4_S (loopN R_SameAddrs_L4 FUEL)) := by
 have h : loopsOf (nthLoop (codeOf Tryz.f64) 0) = [] := by kernel_rfl
 refine loop_ok R_SameAddrs_envOk (loopsOk h lsNil) R_SameAddrs_L4_S R_SameAddrs_L4 FUEL (fun rec x => ?_)
 kernel_rfl
noncomputable def R_SameAddrs_con : Con := con [.one (.row .addr 32), .one (.row .addr 32)] [.one (.fl .bool)] (fun x => R_SameAddrs_t x.1 x.2.1)
theorem R_SameAddrs_ok : TrOk Tryz.prog 64 R_SameAddrs_con := by
 have h : loopsOf (codeOf Tryz.f64) = [(nthLoop (codeOf Tryz.f64) 0)] := by kernel_rfl
 refine con_ok R_SameAddrs_envOk Tryz.func64 (bodyOk h (lsCons (one_loop (t := (loopTr R_SameAddrs_L4_S (loopN R_SameAddrs_L4 FUEL))) (by kernel_rfl) R_SameAddrs_L4_ok) lsNil)) _ _ _ (fun x => ?_)
 kernel_rfl
def R_SameState_L4_S : LoopS := { n := 64, base := 6, head := { keep := [2, 3, 5], vals := [.one (.cst (.ptr 6 0)), .one (.cst (.ptr 7 0)), .one (.fl .int)], objs := [.bag .addr 32 false false, .nest .pfx 0 116 false, .row .lease 127 false, .bag .addr 32 false false, .nest .pfx 3 116 false, .row .lease 127 false, .blk [.cst (.row 1), .cst (.row 2), .fl .int] 45 true, .blk [.cst (.row 4), .cst (.row 5), .fl .int] 45 true] }, exits := [⟨none, { keep := [4], vals := [.one (.fl .bool)], objs := [.bag .addr 32 false false, .nest .pfx 0 116 false, .row .lease 127 false, .bag .addr 32 false false, .nest .pfx 3 116 false, .row .lease 127 false] }⟩, ⟨some 0, { keep := [], vals := [], objs := [.bag .addr 32 false false, .nest .pfx 0 116 false, .row .lease 127 false, .bag .addr 32 false false, .nest .pfx 3 116 false, .row .lease 127 false] }⟩] }
noncomputable def R_SameState_env : Env := mkEnv ty fnB [(63, R_SameLeases_con), (64, R_SameAddrs_con)] [(4, (loopTr R_SameState_L4_S (loopN R_SameState_L4 FUEL)))]
theorem R_SameState_envOk : EnvOk Tryz.prog R_SameState_env := envOk tyOk fn_ok (callsCons R_SameLeases_ok (callsCons R_SameAddrs_ok callsNil)) _
theorem R_SameState_L4_ok : LOk Tryz.prog (nthLoop (codeOf Tryz.f23) 0) (loopTr R_SameState_L4_S (loopN R_SameState_L4 FUEL)) := by
 have h : loopsOf (nthLoop (codeOf Tryz.f23) 0) = [] := by kernel_rfl
 refine loop_ok R_SameState_envOk (loopsOk h lsNil) R_SameState_L4_S R_SameState_L4 FUEL (fun rec x => ?_)
 kernel_rfl
noncomputable def R_SameState_con : Con := con [.agg [.nest .pfx .addr 116 32 true, .row .lease 127, .fl .int], .agg [.nest .pfx .addr 116 32 true, .row .lease 127, .fl .int]] [.one (.fl .bool)] (fun x => R_SameState_t x.1.1 x.1.2.1 x.1.2.2.1 x.2.1.1 x.2.1.2.1 x.2.1.2.2.1)
theorem R_SameState_ok : TrOk Tryz.prog 23 R_SameState_con := by
 have h : loopsOf (codeOf Tryz.f23) = [(nthLoop (codeOf Tryz.f23) 0)] := by kernel_rfl
 refine con_ok R_SameState_envOk Tryz.func23 (bodyOk h (lsCons (one_loop (t := (loopTr R_SameState_L4_S (loopN R_SameState_L4 FUEL))) (by kernel_rfl) R_SameState_L4_ok) lsNil)) _ _ _ (fun x => ?_)
 kernel_rfl
noncomputable def law_entries_env : Env := mkEnv ty fnB [(33, law_some_con)] []
theorem law_entries_envOk : EnvOk Tryz.prog law_entries_env := envOk tyOk fn_ok (callsCons law_some_ok callsNil) _
noncomputable def law_entries_con : Con := con [] [.one (.row .entry 68)] (fun x => law_entries_t)
theorem law_entries_ok : TrOk Tryz.prog 56 law_entries_con := by
 have h : loopsOf (codeOf Tryz.f56) = [] := by kernel_rfl
 refine con_ok law_entries_envOk Tryz.func56 (bodyOk h lsNil) _ _ _ (fun x => ?_)
 kernel_rfl
noncomputable def log_Add_env : Env := mkEnv ty fnB [(57, log_Check_con), (83, log_More_con)] []
theorem log_Add_envOk : EnvOk Tryz.prog log_Add_env := envOk tyOk fn_ok (callsCons log_Check_ok (callsCons log_More_ok callsNil)) _
noncomputable def log_Add_con : Con := con [.one (.row .entry 68), .one (.fl .int), .one (.fl .op)] [.one (.row .entry 68), .one (.fl .int)] (fun x => log_Add_t x.1 x.2.1 x.2.2.1)
theorem log_Add_ok : TrOk Tryz.prog 34 log_Add_con := by
 have h : loopsOf (codeOf Tryz.f34) = [] := by kernel_rfl
 refine con_ok log_Add_envOk Tryz.func34 (bodyOk h lsNil) _ _ _ (fun x => ?_)
 kernel_rfl
noncomputable def log_Begins_L2_env : Env := mkEnv ty fnB [(57, log_Check_con), (68, log_Is_con)] []
theorem log_Begins_L2_envOk : EnvOk Tryz.prog log_Begins_L2_env := envOk tyOk fn_ok (callsCons log_Check_ok (callsCons log_Is_ok callsNil)) _
noncomputable def log_Begins_env : Env := mkEnv ty fnB [(57, log_Check_con), (68, log_Is_con)] [(2, (unrollTr log_Begins_L2_env (nthLoop (codeOf Tryz.f26) 0) 16))]
theorem log_Begins_envOk : EnvOk Tryz.prog log_Begins_env := envOk tyOk fn_ok (callsCons log_Check_ok (callsCons log_Is_ok callsNil)) _
theorem log_Begins_L2_ok : LOk Tryz.prog (nthLoop (codeOf Tryz.f26) 0) (unrollTr log_Begins_L2_env (nthLoop (codeOf Tryz.f26) 0) 16) := by
 have h : loopsOf (nthLoop (codeOf Tryz.f26) 0) = [] := by kernel_rfl
 exact unroll_ok log_Begins_L2_envOk (loopsOk h lsNil) 16
noncomputable def log_Begins_con : Con := con [.one (.row .entry 68), .one (.row .entry 68)] [.one (.fl .bool), .one (.fl .int)] (fun x => log_Begins_t x.1 x.2.1)
theorem log_Begins_ok : TrOk Tryz.prog 26 log_Begins_con := by
 have h : loopsOf (codeOf Tryz.f26) = [(nthLoop (codeOf Tryz.f26) 0)] := by kernel_rfl
 refine con_ok log_Begins_envOk Tryz.func26 (bodyOk h (lsCons (one_loop (t := (unrollTr log_Begins_L2_env (nthLoop (codeOf Tryz.f26) 0) 16)) (by kernel_rfl) log_Begins_L2_ok) lsNil)) _ _ _ (fun x => ?_)
 kernel_rfl
end Go.Proofs.YtjncjiegmnicbabGreat
namespace Go.Proofs.YtjncjiegmnicbabGreat
open Go Go.Ma Go.RowKit Go.Shelf Go.Proofs
attribute [local go_sem] Oper.semAt_some
def adV (a : Ad) : Value := .agg #[.bool a.v6, .int .u64 a.hi, .int .u64 a.lo]
def pfV (p : Pf) : Value := .agg #[.bool p.ad.v6, .int .u64 p.ad.hi, .int .u64 p.ad.lo, .int .i64 p.bits]
def CKept (A B : World) : Prop := ∀ (b : Nat) (c : Array Value) (t : TypeId) (z : Nat × Nat), A.heap[b]? = some (Go.Obj.cells c t z) → B.heap[b]? = some (Go.Obj.cells c t z)
theorem glob_kept {P : Program} {A B : World} (h : Glob P A) (k : CKept A B) : Glob P B := by
 have key : ∀ (g : Nat) (v : Value), A.cell? ⟨g, 0, none⟩ = some v → B.cell? ⟨g, 0, none⟩ = some v := fun g v hv => by
  cases ho : A.heap[g]? with
  | none => unfold World.cell? at hv; rw [ho] at hv; cases hv
  | some o =>
   cases o with
   | cells c t z =>
    have hb := k g c t z ho
    unfold World.cell? at hv ⊢
    rw [ho] at hv
    rw [hb]
    exact hv
   | _ => unfold World.cell? at hv; rw [ho] at hv; simp at hv
 exact ⟨fun g hg => by obtain ⟨m, hm⟩ := h.num g hg; exact ⟨m, key g _ hm⟩, fun n g hn hg => by obtain ⟨ev, he, h2⟩ := h.err n g hn hg; exact ⟨ev, key g _ he, h2⟩, fun g hg => by obtain ⟨t, z, h1⟩ := h.pow g hg; exact ⟨t, z, k g _ t z h1⟩, fun g hg => by obtain ⟨t, z, h1⟩ := h.ctz g hg; exact ⟨t, z, k g _ t z h1⟩⟩
theorem CKept.trans {A B C : World} (h : CKept A B) (k : CKept B C) : CKept A C := fun b c t z hb => k b c t z (h b c t z hb)
theorem CKept.below {A B : World} (h : Below A.heap.size A B) : CKept A B := fun b c t z hb => (h.block b (Array.getElem?_eq_some_iff.1 hb).1).trans hb
theorem CKept.put {W : World} {l : Nat} {o : Go.Obj} (o' : Go.Obj) (h : W.heap[l]? = some o) (hc : o.isCells = false) : CKept W (W.putObj l o') := fun b c t z hb => by
 have hne : b ≠ l := by rintro rfl; rw [h] at hb; cases hb; cases hc
 exact (World.putObj_heap_other hne).trans hb
def adC (a : Ad) : Array Value := #[.bool a.v6, .int .u64 a.hi, .int .u64 a.lo]
def adAt (w : World) (v : Value) : Ad :=
 match v with
 | .pointer (some p) => (match w.heap[p.block]? with
  | some (Go.Obj.cells c _ _) => (match c.toList with | [.bool b, .int _ h, .int _ l] => ⟨b, h, l⟩ | _ => default)
  | _ => default)
 | _ => default
theorem adAt_eq {w : World} {D : Nat} {a : Ad} (h : w.heap[D]? = some (Go.Obj.cells (adC a) 32 (0, 0))) : adAt w (.pointer (some ⟨D, 0, none⟩)) = a := by
 simp [adAt, h, adC]
noncomputable def leftA (last : Ad) (w : World) (v4 v5 : Value) : Nat :=
 match v5 with
 | .bool true => ((allA last 64 (adAt w v4)).getD []).length
 | _ => 0
theorem allA_mono {last : Ad} : ∀ {k : Nat} {a : Ad} {r : List Ad}, allA last k a = some r → ∀ {k' : Nat}, k ≤ k' → allA last k' a = some r
 | 0, _, _, h, _, _ => by simp [allA] at h
 | k + 1, a, r, h, k', hk => by
  obtain ⟨q, rfl⟩ : ∃ q, k' = q + 1 := ⟨k' - 1, by omega⟩
  simp only [allA] at h ⊢
  rcases br_some h with ⟨hc, h⟩ | ⟨hc, h⟩
  ·rw [hc]; exact h
  ·rw [hc]
   obtain ⟨y, hy, h⟩ := Option.bind_eq_some_iff.1 h
   simp only [br, hy, Option.bind_some]
   rcases br_some h with ⟨hc2, h⟩ | ⟨hc2, h⟩
   ·rw [hc2]
    obtain ⟨r', hr', h⟩ := Option.map_eq_some_iff.1 h
    simp only [allA_mono hr' (show k ≤ q by omega), Option.map_some, h]
   ·rw [hc2]; exact h
theorem allA_head {last : Ad} : ∀ {k : Nat} {a : Ad} {r : List Ad}, allA last k a = some r → ∃ r', r = a :: r'
 | 0, _, _, h => by simp [allA] at h
 | k + 1, a, r, h => by
  simp only [allA] at h
  rcases br_some h with ⟨hc, h⟩ | ⟨hc, h⟩
  ·cases h; exact ⟨_, rfl⟩
  ·obtain ⟨y, hy, h⟩ := Option.bind_eq_some_iff.1 h
   rcases br_some h with ⟨hc2, h⟩ | ⟨hc2, h⟩
   ·obtain ⟨r', hr', h⟩ := Option.map_eq_some_iff.1 h
    exact ⟨r', h.symm⟩
   ·cases h; exact ⟨_, rfl⟩
theorem ad_cells {W : World} {D : Nat} {a : Ad} (h : W.heap[D]? = some (Go.Obj.cells (adC a) 32 (0, 0))) : W.cell? ⟨D, 0, none⟩ = some (.bool a.v6) ∧ W.cell? ⟨D, 1, none⟩ = some (.int .u64 a.hi) ∧ W.cell? ⟨D, 2, none⟩ = some (.int .u64 a.lo) := by
 refine ⟨?_, ?_, ?_⟩ <;> simp [World.cell?, h, adC]
theorem new_cells {W w : World} {a b c : Value} {t : TypeId} (h : Below (W.alloc (Go.Obj.cells #[a, b, c] t)).heap.size (W.alloc (Go.Obj.cells #[a, b, c] t)) w) :
  w.cell? ⟨W.heap.size, 0, none⟩ = some a ∧ w.cell? ⟨W.heap.size, 1, none⟩ = some b ∧ w.cell? ⟨W.heap.size, 2, none⟩ = some c ∧ w.frozen? ⟨W.heap.size, 0, none⟩ = false ∧ w.frozen? ⟨W.heap.size, 1, none⟩ = false ∧ w.frozen? ⟨W.heap.size, 2, none⟩ = false := by
 have : w.heap[W.heap.size]? = some (Go.Obj.cells #[a, b, c] t (0, 0)) := (h.block _ (by simp)).trans (World.alloc_heap_new W _)
 refine ⟨?_, ?_, ?_, ?_, ?_, ?_⟩ <;> simp [World.cell?, World.frozen?, this]
theorem new_heap {W w : World} {a b c : Value} {t : TypeId} (h : Below (W.alloc (Go.Obj.cells #[a, b, c] t)).heap.size (W.alloc (Go.Obj.cells #[a, b, c] t)) w) : w.heap[W.heap.size]? = some (Go.Obj.cells #[a, b, c] t (0, 0)) :=
 (h.block _ (by simp)).trans (World.alloc_heap_new W _)
theorem set3 {w : World} {N : Nat} {x y z a b c : Value} {t : TypeId} (h : w.heap[N]? = some (Go.Obj.cells #[x, y, z] t (0, 0))) :
  (((w.setCell ⟨N, 0, none⟩ a).setCell ⟨N, 1, none⟩ b).setCell ⟨N, 2, none⟩ c).heap[N]? = some (Go.Obj.cells #[a, b, c] t (0, 0)) ∧
  (∀ k, k ≠ N → (((w.setCell ⟨N, 0, none⟩ a).setCell ⟨N, 1, none⟩ b).setCell ⟨N, 2, none⟩ c).heap[k]? = w.heap[k]?) ∧
  Below N w (((w.setCell ⟨N, 0, none⟩ a).setCell ⟨N, 1, none⟩ b).setCell ⟨N, 2, none⟩ c) := by
 obtain ⟨h1, h2, _⟩ := zq63 w N 0 [a, b, c] #[x, y, z] t (0, 0) h
 refine ⟨h1, h2, ?_⟩
 exact (((Below.refl N w).setCell (p := ⟨N, 0, none⟩) (Nat.le_refl _) _).setCell (p := ⟨N, 1, none⟩) (Nat.le_refl _) _).setCell (p := ⟨N, 2, none⟩) (Nat.le_refl _) _
theorem heap_own {X Y : World} {row : Option Nat} {b : Nat} {c : Array Value} {t : TypeId} (h : X.heap[b]? = some (Go.Obj.cells c t (0, 0))) (hg : X.grownBy Y row) (hr : ∀ r, row = some r → ∃ o : Go.Obj, X.heap[r]? = some o ∧ o.isCells = false) : Y.heap[b]? = some (Go.Obj.cells c t (0, 0)) :=
 (hg.block b (Array.getElem?_eq_some_iff.1 h).1 (fun e => by
  obtain ⟨o, ho, hc⟩ := hr b e.symm
  rw [h] at ho
  cases ho
  cases hc)).trans h
theorem three_cells {w : World} {N : Nat} {a b c : Value} {t : TypeId} (this : w.heap[N]? = some (Go.Obj.cells #[a, b, c] t (0, 0))) :
  w.cell? ⟨N, 0, none⟩ = some a ∧ w.cell? ⟨N, 1, none⟩ = some b ∧ w.cell? ⟨N, 2, none⟩ = some c ∧ w.frozen? ⟨N, 0, none⟩ = false ∧ w.frozen? ⟨N, 1, none⟩ = false ∧ w.frozen? ⟨N, 2, none⟩ = false := by
 refine ⟨?_, ?_, ?_, ?_, ?_, ?_⟩ <;> simp [World.cell?, World.frozen?, this]
theorem heap_push (w : World) (o : Go.Obj) (k : Nat) : (w.alloc o).heap[k]? = if k = w.heap.size then some o else w.heap[k]? := by
 show (w.heap.push o)[k]? = _
 exact Array.getElem?_push
theorem get4 (w : World) (a b c d : Go.Obj) : ((((w.alloc a).alloc b).alloc c).alloc d).heap[w.heap.size]? = some a ∧ ((((w.alloc a).alloc b).alloc c).alloc d).heap[w.heap.size + 1]? = some b ∧ ((((w.alloc a).alloc b).alloc c).alloc d).heap[w.heap.size + 1 + 1]? = some c ∧ ((((w.alloc a).alloc b).alloc c).alloc d).heap[w.heap.size + 1 + 1 + 1]? = some d := by
 refine ⟨?_, ?_, ?_, ?_⟩
 ·rw [heap_push, if_neg (by simp only [World.size_alloc]; omega), heap_push, if_neg (by simp only [World.size_alloc]; omega), heap_push, if_neg (by simp only [World.size_alloc]; omega), heap_push, if_pos rfl]
 ·rw [heap_push, if_neg (by simp only [World.size_alloc]; omega), heap_push, if_neg (by simp only [World.size_alloc]; omega), heap_push, if_pos (by simp)]
 ·rw [heap_push, if_neg (by simp only [World.size_alloc]; omega), heap_push, if_pos (by simp)]
 ·rw [heap_push, if_pos (by simp)]
theorem below_grown' {A C : World} (hb : Below A.heap.size A C) : A.grownBy C none := ⟨hb.os, hb.tape, hb.output, hb.size, fun k hk _ => hb.block k hk⟩
theorem heap_below {A C : World} (hb : Below A.heap.size A C) {b : Nat} {o : Go.Obj} (h : A.heap[b]? = some o) : C.heap[b]? = some o := (hb.block b (Array.getElem?_eq_some_iff.1 h).1).trans h
theorem cell_of_box_l {W : World} {B : Nat} {v : Value} {t : TypeId} (h : W.heap[B]? = some (Go.Obj.cells #[v] t (0, 0))) : W.cell? ⟨B, 0, none⟩ = some v ∧ W.frozen? ⟨B, 0, none⟩ = false := by
 constructor <;> simp [World.cell?, World.frozen?, h]
theorem book_cells {W : World} {B : Nat} {a b c d va vl : Value} {t : TypeId} (h : W.heap[B]? = some (Go.Obj.cells #[a, b, c, d, va, vl] t (0, 0))) : W.cell? ⟨B, 0, none⟩ = some a ∧ W.cell? ⟨B, 1, none⟩ = some b ∧ W.cell? ⟨B, 2, none⟩ = some c ∧ W.cell? ⟨B, 3, none⟩ = some d := by
 refine ⟨?_, ?_, ?_, ?_⟩ <;> simp [World.cell?, h]
set_option maxRecDepth 100000 in
set_option maxHeartbeats 2000000 in
theorem addrs_in (n : Nat) (hn : 1 ≤ n) (l Bx B : Nat) (p : Pf) (va vl : Value) (last : Ad) (xs : List Ad) (J Jx : List Ad → World → Prop)
  (hJ : ∀ pre A C, J pre A → Below A.heap.size A C → J pre C)
  (hY : ∀ pre x W, J pre W → (pre ++ [x]) <+: xs → YieldAt Fence.wide (n - 1) Tryz.prog l #[adV x] W fun e W' => (e = .returned (.bool true) ∧ J (pre ++ [x]) W' ∧ CKept W W') ∨ (e = .returned (.bool false) ∧ Jx (pre ++ [x]) W'))
  (W : World) (hbox : W.heap[Bx]? = some (.cells #[.pointer (some ⟨B, 0, none⟩)] 202 (0, 0))) (hbook : W.heap[B]? = some (.cells #[.bool p.ad.v6, .int .u64 p.ad.hi, .int .u64 p.ad.lo, .int .i64 p.bits, va, vl] 204 (0, 0))) (h0 : J [] W)
  (hlast : ∀ W, Glob Tryz.prog W → Calls Tryz.prog 187 #[pfV p] W fun e W' => e = .returned (adV last) ∧ Below W.heap.size W W')
  (hafter : ∀ a b ok W, Glob Tryz.prog W → addr_After_t a = some (b, ok, ()) → Calls Tryz.prog 188 #[adV a] W fun e W' => e = .returned (.tuple #[adV b, .bool ok]) ∧ Below W.heap.size W W')
  (hall : allA last 64 p.ad = some xs) (hGW : Glob Tryz.prog W) :
  CallsIn Fence.wide n Tryz.prog 186 #[.func (.yield l) #[] #[], .pointer (some ⟨Bx, 0, none⟩)] W fun e W' => (∃ v, e = .returned v) ∧ ((∃ ys, ys = xs ∧ J ys W') ∨ (∃ pre, pre <+: xs ∧ Jx pre W')) := by
 have cb : W.cell? ⟨Bx, 0, none⟩ = some (.pointer (some ⟨B, 0, none⟩)) := by simp [World.cell?, hbox]
 have c0 : W.cell? ⟨B, 0, none⟩ = some (.bool p.ad.v6) := by simp [World.cell?, hbook]
 have c1 : W.cell? ⟨B, 1, none⟩ = some (.int .u64 p.ad.hi) := by simp [World.cell?, hbook]
 have c2 : W.cell? ⟨B, 2, none⟩ = some (.int .u64 p.ad.lo) := by simp [World.cell?, hbook]
 have c3 : W.cell? ⟨B, 3, none⟩ = some (.int .i64 p.bits) := by simp [World.cell?, hbook]
 refine callsIn_of_wp Tryz.func186 rfl trivial ?_ rfl
 simp only [Tryz.ntmps186, List.size_toArray, List.length_cons, List.length_nil, Nat.reduceAdd, Nat.reduceSub, Array.replicate_succ, Array.replicate_zero, List.push_toArray, List.append_toArray, List.nil_append, List.cons_append]
 have hlast' := hlast
 simp only [pfV, adV] at hlast'
 gi_wp2_with (refine ⟨trivial, ?_⟩; gi_at_call 187; refine (callsIn_wide.2 (hlast' _ hGW)).mono ?_; rintro e w1 ⟨rfl, hb1⟩; have k1 := CKept.below hb1; have hbox1 := k1 _ _ _ _ hbox; have hbook1 := k1 _ _ _ _ hbook; have hB1 : B < w1.heap.size := (Array.getElem?_eq_some_iff.1 hbook1).1; have hX1 : Bx < w1.heap.size := (Array.getElem?_eq_some_iff.1 hbox1).1; have cb1 := (cell_of_box_l hbox1).1; obtain ⟨d0, d1, d2, d3⟩ := book_cells hbook1)
 have k0 := CKept.below ((((Below.refl w1.heap.size w1).alloc (Nat.le_refl _) (.cells (adC last) 32)).alloc (by simp) (.cells (adC p.ad) 32)))
 gi_loopw [4, 5] (fun v4 v5 wr => ∃ (pre rest : List Ad) (D k : Nat) (a : Ad) (ok : Bool), v4 = .pointer (some ⟨D, 0, none⟩) ∧ v5 = .bool ok ∧ xs = pre ++ rest ∧ wr.heap[D]? = some (Go.Obj.cells (adC a) 32 (0, 0)) ∧ wr.heap[w1.heap.size]? = some (Go.Obj.cells (adC last) 32 (0, 0)) ∧ k ≤ 64 ∧ (if ok then allA last k a = some rest else rest = []) ∧ J pre wr ∧ Glob Tryz.prog wr)
  (fun v4 v5 wr => leftA last wr v4 v5)
 case atStart =>
  refine ⟨[], xs, w1.heap.size + 1, 64, p.ad, true, rfl, rfl, rfl, ?_, ?_, Nat.le_refl _, hall, ?_, glob_kept (hGW.mono hb1) k0⟩
  ·have := World.alloc_heap_new (w1.alloc (Go.Obj.cells (adC last) 32)) (Go.Obj.cells (adC p.ad) 32)
   simpa [adC] using this
  ·exact (Below.heap_alloc _ _ _ (by simp)).trans (World.alloc_heap_new w1 (Go.Obj.cells (adC last) 32))
  ·exact hJ _ _ _ h0 ((hb1.alloc hb1.size _).alloc (by have := hb1.size; simp; omega) _)
 case round =>
  obtain ⟨pre, rest, D, k, a, ok, rfl, rfl, hx, hD, hL, hk, hr, hJs, hGr⟩ := hrel
  cases ok with
  | false =>
   have hr : rest = [] := hr
   gi_wp2
   go_end0
   exact ⟨⟨_, rfl⟩, .inl ⟨pre, by simp [hx, hr], hJs⟩⟩
  | true =>
   have hr : allA last k a = some rest := hr
   have hfull := allA_mono hr hk
   obtain ⟨e0, e1, e2⟩ := ad_cells hD
   obtain ⟨f0, f1, f2⟩ := ad_cells hL
   obtain ⟨r1, hr1⟩ := allA_head hr
   obtain ⟨fn, tmps, assign, body, hy, hR⟩ := hY pre a wr hJs (by rw [hx, hr1]; exact ⟨r1, by simp⟩)
   simp only [adV] at hy
   by_cases hal : a = last
   ·subst hal
    have hrest : rest = [a] := by
     cases k with
     | zero => simp [allA] at hr
     | succ k => simp only [allA, decide_true, br] at hr; cases hr; rfl
    gi_wp2
    refine hR.mono ?_
    rintro e W3 (⟨rfl, hJ3, hk3⟩ | ⟨rfl, hJx3⟩)
    ·have hD3 := hk3 _ _ _ _ hD
     have hL3 := hk3 _ _ _ _ hL
     obtain ⟨g0, g1, g2⟩ := ad_cells hD3
     obtain ⟨i0, i1, i2⟩ := ad_cells hL3
     gi_wp2
     refine bodyPost_ret (results_none rfl _ _ _) rfl ?_
     exact ⟨⟨_, rfl⟩, .inl ⟨_, by rw [hx, hrest], hJ3⟩⟩
    ·gi_wp2
     refine bodyPost_ret (results_none rfl _ _ _) rfl ?_
     exact ⟨⟨_, rfl⟩, .inr ⟨pre ++ [a], by rw [hx, hrest]; exact List.prefix_refl _, hJx3⟩⟩
   ·obtain ⟨b, ok', k', rest', hk', hrest, hb, hcall⟩ : ∃ (b : Ad) (ok' : Bool) (k' : Nat) (rest' : List Ad), k' ≤ 64 ∧ rest = a :: rest' ∧ (if ok' then allA last k' b = some rest' else rest' = []) ∧ addr_After_t a = some (b, ok', ()) := by
     cases k with
     | zero => simp [allA] at hr
     | succ k =>
      simp only [allA, decide_eq_false hal, br] at hr
      obtain ⟨y, hy, hr⟩ := Option.bind_eq_some_iff.1 hr
      obtain ⟨b, ok', u⟩ := y
      cases ok' with
      | true =>
       obtain ⟨r', hr', hr⟩ := Option.map_eq_some_iff.1 hr
       exact ⟨b, true, k, r', by omega, hr.symm, by simpa using hr', hy⟩
      | false =>
       cases hr
       exact ⟨b, false, k, [], by omega, rfl, by simp, hy⟩
    have HC : Hid (∀ v6 hi lo W, Glob Tryz.prog W → v6 = a.v6 → hi = a.hi → lo = a.lo → Calls Tryz.prog 188 #[.agg #[.bool v6, .int .u64 hi, .int .u64 lo]] W fun e W' => e = .returned (.tuple #[.agg #[.bool b.v6, .int .u64 b.hi, .int .u64 b.lo], .bool ok']) ∧ Below W.heap.size W W') := by
     rintro _ _ _ W hg rfl rfl rfl
     exact hafter a b ok' W hg hcall
    gi_wp2
    refine hR.mono ?_
    rintro e W3 (⟨rfl, hJ3, hk3⟩ | ⟨rfl, hJx3⟩)
    ·have hD3 := hk3 _ _ _ _ hD
     have hL3 := hk3 _ _ _ _ hL
     obtain ⟨g0, g1, g2⟩ := ad_cells hD3
     obtain ⟨i0, i1, i2⟩ := ad_cells hL3
     have hG3 := glob_kept hGr hk3
     have hlt3 : w1.heap.size < W3.heap.size := (Array.getElem?_eq_some_iff.1 hL3).1
     clear hr hcall hafter hlast hlast' hY hy hR
     gi_wp2_with (refine ⟨trivial, ?_⟩; gi_at_call 188; refine (callsIn_wide.2 (HC.out _ _ _ _ (hG3.mono ((Below.refl _ W3).alloc (Nat.le_refl _) _)) (by first | rfl | (symm; assumption)) (by first | rfl | (symm; assumption)) (by first | rfl | (symm; assumption)))).mono ?_; rintro e w4 ⟨rfl, hb4⟩; obtain ⟨n0, n1, n2, n3, n4, n5⟩ := new_cells hb4)
     ·exact absurd (by cases a; cases last; simp_all) hal
     all_goals
      obtain ⟨s1, s2, s3⟩ := set3 (a := .bool b.v6) (b := .int .u64 b.hi) (c := .int .u64 b.lo) (new_heap hb4)
      refine ⟨⟨pre ++ [a], rest', W3.heap.size, k', b, ok', rfl, rfl, by rw [hx, hrest]; simp, s1, ?_, hk', hb, ?_⟩, ?_⟩
      ·rw [s2 _ (by omega), hb4.block _ (by simp; omega), Below.heap_alloc _ _ _ hlt3]
       exact hL3
      ·have hbb := (((Below.refl W3.heap.size W3).alloc (Nat.le_refl _) _).trans (hb4.mono (by simp))).trans s3
       exact ⟨hJ _ _ _ hJ3 hbb, hG3.mono hbb⟩
      ·have hl1 : leftA last wr (.pointer (some ⟨D, 0, none⟩)) (.bool true) = rest.length := by
        simp only [leftA, adAt_eq hD, hfull, Option.getD_some]
       rw [hl1, hrest]
       cases ok' with
       | false => simp [leftA]
       | true =>
        simp only [leftA, adAt_eq s1, allA_mono (by simpa using hb) hk', Option.getD_some, List.length_cons]
        omega
    ·gi_wp2
     refine bodyPost_ret (results_none rfl _ _ _) rfl ?_
     exact ⟨⟨_, rfl⟩, .inr ⟨pre ++ [a], ⟨rest', by rw [hx, hrest]; simp⟩, hJx3⟩⟩
set_option maxHeartbeats 1000000 in
/-- b.addresses(): the receiver is boxed; the function value captures the box. -/
theorem addresses_in (n : Nat) (p0 : Option Addr) (w : World) :
  CallsIn Fence.wide n Tryz.prog 170 #[.pointer p0] w fun e w' => e = .returned (.func (.func 186) #[] #[.pointer (some ⟨w.heap.size, 0, none⟩)]) ∧ w' = w.alloc (.cells #[.pointer p0] 202) := by
 refine callsIn_of_wp Tryz.func170 rfl trivial ?_ rfl
 simp only [Tryz.ntmps170, List.size_toArray, List.length_cons, List.length_nil, Nat.reduceAdd, Nat.reduceSub, Array.replicate_succ, Array.replicate_zero, List.push_toArray, List.append_toArray, List.nil_append, List.cons_append]
 gi_wp2
 go_ret
 exact ⟨rfl, rfl⟩
def elA (xs : List Ad) (i : Nat) : Ad := xs.getD i (xs.headD default)
theorem elA_mem {xs : List Ad} (h : xs ≠ []) (i : Nat) : elA xs i ∈ xs := by
 cases xs with
 | nil => exact absurd rfl h
 | cons a r =>
  unfold elA
  rw [List.getD_eq_getElem?_getD]
  cases hx : (a :: r)[i]? with
  | none => simp
  | some y => simpa using List.mem_of_getElem? hx
theorem addrs_stops (n : Nat) (hn : 1 ≤ n) (Bx B : Nat) (p : Pf) (va vl : Value) (last : Ad) (xs : List Ad) (w : World)
  (hbox : w.heap[Bx]? = some (.cells #[.pointer (some ⟨B, 0, none⟩)] 202 (0, 0))) (hbook : w.heap[B]? = some (.cells #[.bool p.ad.v6, .int .u64 p.ad.hi, .int .u64 p.ad.lo, .int .i64 p.bits, va, vl] 204 (0, 0)))
  (hlast : ∀ W, Glob Tryz.prog W → Calls Tryz.prog 187 #[pfV p] W fun e W' => e = .returned (adV last) ∧ Below W.heap.size W W')
  (hafter : ∀ a b ok W, Glob Tryz.prog W → addr_After_t a = some (b, ok, ()) → Calls Tryz.prog 188 #[adV a] W fun e W' => e = .returned (.tuple #[adV b, .bool ok]) ∧ Below W.heap.size W W')
  (hall : allA last 64 p.ad = some xs) (hGw : Glob Tryz.prog w) :
  SeqStopsK Fence.wide n Tryz.prog 186 #[.pointer (some ⟨Bx, 0, none⟩)] (fun i : Nat => #[adV (elA xs i)]) CKept (fun ys => ys = List.range xs.length) (fun pre => pre <+: List.range xs.length) xs.length w := by
 intro l J Jx W hW hJ hJx hY h0
 have hk := CKept.below hW
 refine (addrs_in n hn l Bx B p va vl last xs (fun pre W => J (List.range pre.length) W) (fun pre W => Jx (List.range pre.length) W) (fun pre A C h hb => hJ _ A C none h ⟨hb.os, hb.tape, hb.output, hb.size, fun k hk _ => hb.block k hk⟩ (fun r e => by cases e)) ?_ W (hk _ _ _ _ hbox) (hk _ _ _ _ hbook) h0 hlast hafter hall (hGw.mono hW)).mono ?_
 ·intro pre x W1 hj hpre
  obtain ⟨t, ht⟩ := hpre
  have hlen : pre.length < xs.length := by rw [← ht]; simp
  have hel : elA xs pre.length = x := by
   unfold elA
   rw [List.getD_eq_getElem?_getD, ← ht]
   simp
  have := hY (List.range pre.length) pre.length W1 hj (by simpa using hlen)
  simp only [hel] at this
  refine this.mono ?_
  rintro e W' (⟨h1, h2, h3⟩ | ⟨h1, h2⟩)
  ·exact .inl ⟨h1, by simpa [List.range_succ] using h2, h3⟩
  ·exact .inr ⟨h1, by simpa [List.range_succ] using h2⟩
 ·rintro e W' ⟨h1, h2⟩
  refine ⟨h1, h2.imp ?_ ?_⟩
  ·rintro ⟨ys, rfl, h⟩
   exact ⟨_, rfl, h⟩
  ·rintro ⟨pre, ⟨t, ht⟩, h⟩
   refine ⟨_, ?_, h⟩
   rw [← ht, List.length_append, List.range_add]
   exact List.prefix_append _ _
set_option maxRecDepth 100000 in
set_option maxHeartbeats 4000000 in
theorem first_walk (B : Nat) (p : Pf) (va vl : Value) (last : Ad) (xs : List Ad) (tk : Ad → Bool) (w : World) (hG : Glob Tryz.prog w) (hxs : xs ≠ [])
  (hbook : w.heap[B]? = some (.cells #[.bool p.ad.v6, .int .u64 p.ad.hi, .int .u64 p.ad.lo, .int .i64 p.bits, va, vl] 204 (0, 0)))
  (hlast : ∀ W, Glob Tryz.prog W → Calls Tryz.prog 187 #[pfV p] W fun e W' => e = .returned (adV last) ∧ Below W.heap.size W W')
  (hafter : ∀ a b ok W, Glob Tryz.prog W → addr_After_t a = some (b, ok, ()) → Calls Tryz.prog 188 #[adV a] W fun e W' => e = .returned (.tuple #[adV b, .bool ok]) ∧ Below W.heap.size W W')
  (htaken : ∀ a W, a ∈ xs → Below w.heap.size w W → Calls Tryz.prog 171 #[.pointer (some ⟨B, 0, none⟩), adV a] W fun e W' => e = .returned (.bool (tk a)) ∧ Below W.heap.size W W')
  (hall : allA last 64 p.ad = some xs) (res : Ad × Bool) (hnone : Hid ((∀ i, i < xs.length → tk (elA xs i) = true) → res = (⟨false, 0, 0⟩, false))) (hsome : Hid (∀ i, i < xs.length → (∀ j, j < i → tk (elA xs j) = true) → tk (elA xs i) = false → res = (elA xs i, true))) :
  CallsIn Fence.wide 9 Tryz.prog 162 #[.pointer (some ⟨B, 0, none⟩)] w fun e W' => e = .returned (.tuple #[adV res.1, .bool res.2]) ∧ Below w.heap.size w W' := by
 refine callsIn_of_wp_marks Tryz.func162 rfl trivial ?_ rfl
 simp only [Tryz.ntmps162, List.size_toArray, List.length_cons, List.length_nil, Nat.reduceAdd, Nat.reduceSub, Array.replicate_succ, Array.replicate_zero, List.push_toArray, List.append_toArray, List.nil_append, List.cons_append]
 gi_wp2_with (refine ⟨trivial, ?_⟩; gi_at_call 170; refine (addresses_in _ _ _).mono ?_; rintro e w' ⟨rfl, rfl⟩)
 have hB0 : Below w.heap.size w ((((w.alloc (Go.Obj.cells #[.pointer (some ⟨B, 0, none⟩)] 202)).alloc (Go.Obj.cells #[.bool false, .int .u64 0, .int .u64 0] 32)).alloc (Go.Obj.cells #[.bool false] 4)).alloc (Go.Obj.cells #[.pointer (some ⟨B, 0, none⟩)] 202)) :=
  ((((Below.refl _ w).alloc (Nat.le_refl _) _).alloc (by simp) _).alloc (by simp; omega) _).alloc (by simp; omega) _
 have hsz : ((((w.alloc (Go.Obj.cells #[.pointer (some ⟨B, 0, none⟩)] 202)).alloc (Go.Obj.cells #[.bool false, .int .u64 0, .int .u64 0] 32)).alloc (Go.Obj.cells #[.bool false] 4)).alloc (Go.Obj.cells #[.pointer (some ⟨B, 0, none⟩)] 202)).heap.size = w.heap.size + 4 := by simp
 obtain ⟨b1, b2, b3, b4⟩ := get4 w (Go.Obj.cells #[.pointer (some ⟨B, 0, none⟩)] 202) (Go.Obj.cells #[.bool false, .int .u64 0, .int .u64 0] 32) (Go.Obj.cells #[.bool false] 4) (Go.Obj.cells #[.pointer (some ⟨B, 0, none⟩)] 202)
 obtain ⟨W0, hW0⟩ : ∃ W0, (((w.alloc (Go.Obj.cells #[.pointer (some ⟨B, 0, none⟩)] 202)).alloc (Go.Obj.cells #[.bool false, .int .u64 0, .int .u64 0] 32)).alloc (Go.Obj.cells #[.bool false] 4)).alloc (Go.Obj.cells #[.pointer (some ⟨B, 0, none⟩)] 202) = W0 := ⟨_, rfl⟩
 rw [hW0] at hB0 hsz b1 b2 b3 b4 ⊢
 have hbook0 := CKept.below hB0 _ _ _ _ hbook
 clear hW0
 refine wpIn_rangeFunc_ownH (F := Fence.wide) (n := 9) rfl (by omega) (gf := 186) (lb := #[.pointer (some ⟨w.heap.size + 1 + 1 + 1, 0, none⟩)]) rfl trivial (enters_of Tryz.func186 (by kernel_rfl) rfl)
  (addrs_stops 8 (by omega) (w.heap.size + 1 + 1 + 1) B p va vl last xs W0 b4 hbook0 hlast hafter hall (hG.mono hB0)) (fun h k => h.trans k) (fun W l o o' _ hl hc _ => CKept.put o' hl hc) (Below.refl _ _) (fun _ => rfl)
  (fun pre W => ((∀ i ∈ pre, tk (elA xs i) = true) ∧ W.heap[w.heap.size]? = some (Go.Obj.cells #[.pointer (some ⟨B, 0, none⟩)] 202 (0, 0)) ∧ W.heap[w.heap.size + 1]? = some (Go.Obj.cells #[.bool false, .int .u64 0, .int .u64 0] 32 (0, 0)) ∧ W.heap[w.heap.size + 1 + 1]? = some (Go.Obj.cells #[.bool false] 4 (0, 0))) ∧ Below w.heap.size w W)
  (fun c pre W => (∃ pre0 i, c = .ret ∧ pre = pre0 ++ [i] ∧ (∀ j ∈ pre0, tk (elA xs j) = true) ∧ tk (elA xs i) = false ∧ W.heap[w.heap.size + 1]? = some (Go.Obj.cells (adC (elA xs i)) 32 (0, 0)) ∧ W.heap[w.heap.size + 1 + 1]? = some (Go.Obj.cells #[.bool true] 4 (0, 0))) ∧ Below w.heap.size w W)
  (OwnFrom.and (fun s A C row hs hg hr => ⟨hs.1, heap_own hs.2.1 hg (fun r e => (hr r e).2), heap_own hs.2.2.1 hg (fun r e => (hr r e).2), heap_own hs.2.2.2 hg (fun r e => (hr r e).2)⟩) (ownFrom_below (by omega) (by omega)))
  (fun c => OwnFrom.and (fun s A C row hs hg hr => by
   obtain ⟨pre0, i, h1, h2, h3, h4, h5, h6⟩ := hs
   exact ⟨pre0, i, h1, h2, h3, h4, heap_own h5 hg (fun r e => (hr r e).2), heap_own h6 hg (fun r e => (hr r e).2)⟩) (ownFrom_below (by omega) (by omega)))
  ⟨⟨by simp, b1, b2, b3⟩, hB0⟩
  (fun x a' W => ∃ Bx, w.heap.size + 1 + 1 < Bx ∧ W.heap[Bx]? = some (Go.Obj.cells (adC (elA xs x)) 32 (0, 0)) ∧ a' = { tmps := #[.pointer (some ⟨B, 0, none⟩), .pointer (some ⟨w.heap.size, 0, none⟩), .pointer (some ⟨w.heap.size + 1, 0, none⟩), .pointer (some ⟨w.heap.size + 1 + 1, 0, none⟩), .pointer (some ⟨Bx, 0, none⟩), .pointer (some ⟨B, 0, none⟩), .func (.func 186) #[] #[.pointer (some ⟨w.heap.size + 1 + 1 + 1, 0, none⟩)], adV (elA xs x), undef, undef, undef, undef, undef, undef], defers := [] })
  (fun x a' _ X Y row hs hg hr => by obtain ⟨Bx, h1, h2, h3⟩ := hs; exact ⟨Bx, h1, heap_own h2 hg (fun r e => (hr r e).2), h3⟩)
  ?assign ?body ?done ?stop
 case assign =>
  rintro l pre x W K ⟨⟨i1, i2, i3, i4⟩, hB1⟩ hK
  have hlt : w.heap.size + 1 + 1 < W.heap.size := (Array.getElem?_eq_some_iff.1 i4).1
  simp only [adV] at hK ⊢
  gi_wp2
  refine hK _ _ ((KeepsOthers.alloc _ _).from _) (CKept.below ((Below.refl _ W).alloc (Nat.le_refl _) _)) ⟨⟨i1, (Below.heap_alloc _ _ _ (by omega)).trans i2, (Below.heap_alloc _ _ _ (by omega)).trans i3, (Below.heap_alloc _ _ _ (by omega)).trans i4⟩, hB1.alloc (by omega) _⟩ ⟨W.heap.size, hlt, World.alloc_heap_new W _, rfl⟩
 case body =>
  rintro l pre x a' W hl ⟨r, hr⟩ ⟨⟨i1, i2, i3, i4⟩, hB1⟩ ⟨Bx, hBx, bX, rfl⟩ hlt
  have h1' : 1 ≤ 9 - 1 - 1 := by omega
  have cB := (cell_of_box_l i2).1
  obtain ⟨x0, x1, x2⟩ := ad_cells bX
  have htk' := htaken (elA xs x) W (elA_mem hxs x) hB1
  simp only [adV] at htk' ⊢
  cases htk : tk (elA xs x)
  ·rw [htk] at htk'
   gi_wp2_with (refine ⟨trivial, ?_⟩; gi_at_call 171; refine (CallsIn.inRound l (callsIn_wide.2 htk')).mono ?_; rintro e w2 ⟨rfl, hb2⟩; have hk2 := CKept.below hb2; obtain ⟨x0, x1, x2⟩ := ad_cells (hk2 _ _ _ _ bX); have j3 := hk2 _ _ _ _ i3; have j4 := hk2 _ _ _ _ i4; obtain ⟨n0, n1, n2, n3, n4, n5⟩ := three_cells j3; obtain ⟨n6, n7⟩ := cell_of_box_l j4)
   obtain ⟨s1, s2, s3⟩ := set3 (a := .bool (elA xs x).v6) (b := .int .u64 (elA xs x).hi) (c := .int .u64 (elA xs x).lo) j3
   have j4' : (((w2.setCell ⟨w.heap.size + 1, 0, none⟩ (.bool (elA xs x).v6)).setCell ⟨w.heap.size + 1, 1, none⟩ (.int .u64 (elA xs x).hi)).setCell ⟨w.heap.size + 1, 2, none⟩ (.int .u64 (elA xs x).lo)).heap[w.heap.size + 1 + 1]? = some (Go.Obj.cells #[.bool false] 4 (0, 0)) := (s2 _ (by omega)).trans j4
   refine ⟨((KeepsFrom.of_grownBy (below_grown' hb2) (fun j e => by cases e)).trans (((KeepsOthers.setCell _ _ _).from _).trans (((KeepsOthers.setCell _ _ _).from _).trans ((KeepsOthers.setCell _ _ _).from _)))).trans ((KeepsOthers.setCell _ _ _).from _), ⟨pre, x, rfl, rfl, i1, htk, ?_, ?_⟩, ?_⟩
   ·exact (Below.heap_setCell _ ⟨w.heap.size + 1 + 1, 0, none⟩ _ _ (by show w.heap.size + 1 ≠ w.heap.size + 1 + 1; omega)).trans s1
   ·have := setCell_heap _ (w.heap.size + 1 + 1) 0 (.bool true) #[.bool false] 4 (0, 0) j4'
    exact this
   ·exact ((hB1.trans (hb2.mono hB1.size)).trans (s3.mono (by omega))).setCell (p := ⟨w.heap.size + 1 + 1, 0, none⟩) (by show w.heap.size ≤ w.heap.size + 1 + 1; omega) _
  ·rw [htk] at htk'
   gi_wp2_with (refine ⟨trivial, ?_⟩; gi_at_call 171; refine (CallsIn.inRound l (callsIn_wide.2 htk')).mono ?_; rintro e w2 ⟨rfl, hb2⟩; have hk2 := CKept.below hb2)
   have j : ∀ (b : Nat) (o : Go.Obj), W.heap[b]? = some o → w2.heap[b]? = some o := fun b o h => heap_below hb2 h
   refine ⟨KeepsFrom.of_grownBy (below_grown' hb2) (fun j e => by cases e), CKept.below hb2, ⟨fun i hi => ?_, j _ _ i2, j _ _ i3, j _ _ i4⟩, hB1.trans (hb2.mono hB1.size)⟩
   rcases List.mem_append.1 hi with hi | hi
   ·exact i1 i hi
   ·simp only [List.mem_singleton] at hi
    subst hi
    exact htk
 case done =>
  rintro D ys W hD rfl ⟨⟨i1, i2, i3, i4⟩, hB1⟩ hK
  obtain ⟨n0, n1, n2, n3, n4, n5⟩ := three_cells i3
  obtain ⟨n6, n7⟩ := cell_of_box_l i4
  have hrs := hnone.out (fun i hi => i1 i (by simpa using hi))
  gi_wp2
  obtain ⟨s1, s2, s3⟩ := set3 (a := .bool false) (b := .int .u64 0) (c := .int .u64 0) i3
  have i4' : (((W.setCell ⟨w.heap.size + 1, 0, none⟩ (.bool false)).setCell ⟨w.heap.size + 1, 1, none⟩ (.int .u64 0)).setCell ⟨w.heap.size + 1, 2, none⟩ (.int .u64 0)).heap[w.heap.size + 1 + 1]? = some (Go.Obj.cells #[.bool false] 4 (0, 0)) := (s2 _ (by omega)).trans i4
  have t1 := setCell_heap _ (w.heap.size + 1 + 1) 0 (.bool false) #[.bool false] 4 (0, 0) i4'
  have t2 := (Below.heap_setCell _ ⟨w.heap.size + 1 + 1, 0, none⟩ (.bool false) _ (by show w.heap.size + 1 ≠ w.heap.size + 1 + 1; omega)).trans s1
  have hK' := (Below.heap_setCell _ ⟨w.heap.size + 1 + 1, 0, none⟩ (.bool false) D (by show D ≠ w.heap.size + 1 + 1; omega)).trans ((s2 D (by omega)).trans hK)
  refine ⟨by simp, .inl ⟨_, _, rfl, run_takeDeferred hK', ?_⟩⟩
  have t1' := (World.putObj_heap_other (r := D) (o := .deferred none) (show w.heap.size + 1 + 1 ≠ D by omega)).trans t1
  have t2' := (World.putObj_heap_other (r := D) (o := .deferred none) (show w.heap.size + 1 ≠ D by omega)).trans t2
  obtain ⟨m0, m1, m2, _⟩ := three_cells t2'
  obtain ⟨m6, _⟩ := cell_of_box_l t1'
  refine ⟨.tuple #[.agg #[.bool false, .int .u64 0, .int .u64 0], .bool false], ?_, by rw [hrs]; rfl, ((hB1.trans (s3.mono (by omega))).setCell (p := ⟨w.heap.size + 1 + 1, 0, none⟩) (by show w.heap.size ≤ w.heap.size + 1 + 1; omega) _).trans (belowK_b (w := w) (Nat.le_refl _) _ D _ _ (by omega) hK' rfl rfl)⟩
  simp [results, Tryz.f162, go_sem, m0, m1, m2, m6]
 case stop =>
  rintro D c pre W hD hpre ⟨⟨pre0, i, rfl, hp, h3, h4, h5, h6⟩, hB1⟩ hK
  have hrs : res = (elA xs i, true) := by
   obtain ⟨t, ht⟩ := hpre
   rw [hp] at ht
   have hl0 : pre0.length < xs.length := by
    have := congrArg List.length ht
    simp at this
    omega
   have hi : i = pre0.length := by
    have := congrArg (fun l => l[pre0.length]?) ht
    simp [hl0] at this
    exact this
   subst hi
   refine hsome.out _ hl0 (fun j hj => h3 j ?_) h4
   have h0 : (List.range xs.length)[j]? = some j := by rw [List.getElem?_eq_some_iff]; exact ⟨by simp; omega, by simp⟩
   rw [← ht, List.append_assoc, List.getElem?_append_left hj] at h0
   exact List.mem_of_getElem? h0
  gi_wp2
  refine ⟨by simp, .inl ⟨_, _, rfl, run_takeDeferred hK, ?_⟩⟩
  have t1' := (World.putObj_heap_other (r := D) (o := .deferred none) (show w.heap.size + 1 + 1 ≠ D by omega)).trans h6
  have t2' := (World.putObj_heap_other (r := D) (o := .deferred none) (show w.heap.size + 1 ≠ D by omega)).trans h5
  obtain ⟨m0, m1, m2⟩ := ad_cells t2'
  obtain ⟨m6, _⟩ := cell_of_box_l t1'
  refine ⟨.tuple #[adV (elA xs i), .bool true], ?_, by rw [hrs], hB1.trans (belowK_b (w := w) (Nat.le_refl _) W D _ _ (by omega) hK rfl rfl)⟩
  simp [results, Tryz.f162, go_sem, m0, m1, m2, m6, adV]
theorem flat_callsN {P : Program} {W : World} (hG : Glob P W) {f : FuncId} {ps rs : List PS} {t : PsT ps → Option (PsT rs)} (ht : TrOk P f (con ps rs t)) {x : PsT ps} {y : PsT rs} (hx : t x = some y)
  (hdec : decA (encA false ps x 0).2 ps (encA false ps x 0).1 = some x) (hany : (encA false ps x 0).1.all (fun v => !v.isAny) = true) {ρ : Nat → Value} {vals us : List Value}
  (hu : ArgsOk W ρ 0 vals (encA false ps x 0).1 (encA false ps x 0).2 us) :
  Calls P f vals.toArray W fun e W' => (∃ ρ' n, e = .returned (den ρ' (encR rs y n))) ∧ Below W.heap.size W W' := by
 have hrel := hu.rel
 have hden := hu.den _ (gives_nameOf us)
 have hk : conTr ps rs t (SV × Mem) (encA false ps x 0).1 (encA false ps x 0).2 (fun r m => some (r, m)) = some (encR rs y (encA false ps x 0).2.length, (encA false ps x 0).2 ++ (encA true rs y (encA false ps x 0).2.length).2) := by
  simp only [conTr, hdec, hx, Option.bind_some]
 have hc := ht.1 W hG (SV × Mem) (encA false ps x 0).1 (encA false ps x 0).2 (fun r m => some (r, m)) _ hk hany
 have := hc.call (by have := hu.lt.1; simpa using this) _ W hrel
 rw [hden] at this
 refine this.mono ?_
 rintro e w' ⟨ρ', r', m', rfl, hm', _, _, _, hres⟩
 have hres : (some (r', m') : Option (SV × Mem)) = some (encR rs y (encA false ps x 0).2.length, (encA false ps x 0).2 ++ (encA true rs y (encA false ps x 0).2.length).2) := hres
 injection hres with hres
 injection hres with h1 h2
 exact ⟨⟨ρ', _, by rw [h1]⟩, hm'.below⟩
theorem flv_seg {k : K} (w : World) (ρ : Nat → Value) (a : k.T) (v : Value) (n : Nat) (h : ∀ ρ, v = den ρ (flV k a)) : ArgsOk w ρ n [v] [flV k a] [] [] :=
 ⟨rfl, fun ρ' _ => by simp only [denL, h ρ'], fun _ _ _ i o v h => by simp at h, by simp only [ltL, flV_lt, Bool.and_self], fun o h => by cases h⟩
theorem argsLater {w w' : World} {ρ : Nat → Value} {n : Nat} {vals : List Value} {svs : List SV} {os : Mem} {us : List Value} (h : ArgsOk w ρ n vals svs os us) (hb : Below w.heap.size w w') : ArgsOk w' ρ n vals svs os us :=
 ⟨h.len, h.den, fun W ρ' hg i o v hi hv => ⟨(h.obj W ρ' hg i o v hi hv).1.keep (fun b _ hlt => hb.block b hlt) hb.size, (h.obj W ρ' hg i o v hi hv).2⟩, h.lt⟩
noncomputable def tkOf (p : Pf) (kp : List Ad) (ls : List Ls) (a : Ad) : Bool := match m_lease_book__taken_t p kp ls a with | some (t, _) => t | none => false
theorem elA_lt {xs : List Ad} {i : Nat} (h : i < xs.length) : elA xs i = xs[i] := by
 unfold elA
 rw [List.getD_eq_getElem?_getD, List.getElem?_eq_getElem h]
 rfl
theorem elA_cons {a : Ad} {r : List Ad} {i : Nat} (h : i < r.length) : elA (a :: r) (i + 1) = elA r i := by
 rw [elA_lt h, elA_lt (by simpa using h)]
 rfl
theorem firstIn_spec {p : Pf} {kp : List Ad} {ls : List Ls} : ∀ {xs : List Ad} {y : Ad × Bool × Unit}, firstIn p kp ls xs = some y →
  (∀ a ∈ xs, m_lease_book__taken_t p kp ls a = some (tkOf p kp ls a, ())) ∧ ((∀ i, i < xs.length → tkOf p kp ls (elA xs i) = true) → y = (⟨false, 0, 0⟩, false, ())) ∧
   (∀ i, i < xs.length → (∀ j, j < i → tkOf p kp ls (elA xs j) = true) → tkOf p kp ls (elA xs i) = false → y = (elA xs i, true, ()))
 | [], y, h => by
  cases h
  exact ⟨fun a h => by (cases h), fun _ => rfl, fun i h => by simp at h⟩
 | a :: r, y, h => by
  simp only [firstIn] at h
  obtain ⟨t, ht, h⟩ := Option.bind_eq_some_iff.1 h
  obtain ⟨y', hy', h⟩ := Option.bind_eq_some_iff.1 h
  obtain ⟨h1, h2, h3⟩ := firstIn_spec hy'
  have htk : tkOf p kp ls a = t.1 := by unfold tkOf; rw [ht]
  have hy : (bif t.1 then y' else (a, true, ())) = y := by injection h
  refine ⟨fun b hb => ?_, fun hall => ?_, fun i hi hj hti => ?_⟩
  ·rcases List.mem_cons.1 hb with rfl | hb
   ·rw [ht, htk]
   ·exact h1 b hb
  ·have h0 := hall 0 (by simp)
   rw [elA_lt (by simp), List.getElem_cons_zero, htk] at h0
   rw [h0] at hy
   rw [← hy]
   exact h2 fun i hi => by
    have := hall (i + 1) (by simpa using hi)
    rwa [elA_cons hi] at this
  ·cases i with
   | zero =>
    rw [elA_lt hi, List.getElem_cons_zero] at hti ⊢
    rw [htk] at hti
    rw [hti] at hy
    exact hy.symm
   | succ i =>
    have h0 := hj 0 (by omega)
    rw [elA_lt (by simp), List.getElem_cons_zero, htk] at h0
    rw [h0] at hy
    have hi' : i < r.length := by simpa using hi
    rw [elA_cons hi'] at hti ⊢
    rw [← hy]
    exact h3 i hi' (fun j hj' => by
     have := hj (j + 1) (by omega)
     rwa [elA_cons (by omega)] at this) hti
noncomputable def m_lease_book__first_con : Con := con [.ref [.fl .pfx, .row .addr 32, .row .lease 127] 204] [.one (.fl .addr), .one (.fl .bool)] (fun x => zq0 x.1.1 x.1.2.1 x.1.2.2.1)
theorem first_main (p : Pf) (kp : List Ad) (ls : List Ls) (y : Ad × Bool × Unit) (hx : zq0 p kp ls = some y) (ρ : Nat → Value) (us vals : List Value) (w : World) (hG : Glob Tryz.prog w)
  (hu : ArgsOk w ρ 0 vals (encA false [.ref [.fl .pfx, .row .addr 32, .row .lease 127] 204] ((p, kp, ls, ()), ()) 0).1 (encA false [.ref [.fl .pfx, .row .addr 32, .row .lease 127] 204] ((p, kp, ls, ()), ()) 0).2 us) :
  Calls Tryz.prog 162 vals.toArray w fun e w' => ∃ ρc r m', e = .returned (den ρc r) ∧ RelM w ρc m' w' ∧ resR [.one (.fl .addr), .one (.fl .bool)] r m' = some y := by
 have hg := gives_nameOf us
 have hlen := hu.len
 have hdenv := hu.den _ hg
 obtain ⟨vb, va, vl, rfl⟩ : ∃ vb va vl, us = [vb, va, vl] := by
  have hl1 : us.length = 3 := hlen
  match us, hl1 with
  | [a, b, c], _ => exact ⟨a, b, c, rfl⟩
 obtain ⟨hob, _⟩ := hu.obj w _ hg 0 _ vb rfl rfl
 obtain ⟨b, arr, rfl, _, hheap, harr, hcells⟩ := hob
 have harr : arr.size = 6 := harr
 have hg0 := hcells 0 (.b p.ad.v6) rfl rfl
 have hg1 := hcells 1 (.i .u64 p.ad.hi) rfl rfl
 have hg2 := hcells 2 (.i .u64 p.ad.lo) rfl rfl
 have hg3 := hcells 3 (.i .i64 p.bits) rfl rfl
 have hg4 := hcells 4 (.row 1) rfl rfl
 have hg5 := hcells 5 (.row 2) rfl rfl
 have hA : arr = #[.bool p.ad.v6, .int .u64 p.ad.hi, .int .u64 p.ad.lo, .int .i64 p.bits, sliceVal va, sliceVal vl] := by
  apply Array.ext_getElem?
  intro i
  match i with
  | 0 => rw [hg0]; rfl
  | 1 => rw [hg1]; rfl
  | 2 => rw [hg2]; rfl
  | 3 => rw [hg3]; rfl
  | 4 => rw [hg4]; rfl
  | 5 => rw [hg5]; rfl
  | i + 6 => rw [Array.getElem?_eq_none (by omega), Array.getElem?_eq_none (by simp)]
 subst hA
 have hvals : vals = [.pointer (some ⟨b, 0, none⟩)] := by
  rw [← hdenv]
  show [ptrOff (.pointer (some ⟨b, 0, none⟩)) 0] = _
  simp only [ptrOff, add_zero_addr, Nat.add_zero]
 subst hvals
 unfold zq0 at hx
 obtain ⟨y1, hl1, hx⟩ := Option.bind_eq_some_iff.1 hx
 obtain ⟨last, u1⟩ := y1
 obtain ⟨xs, hall, hx⟩ := Option.bind_eq_some_iff.1 hx
 obtain ⟨f1, f2, f3⟩ := firstIn_spec hx
 obtain ⟨r1, hr1⟩ := allA_head hall
 obtain ⟨ra, rb, ru⟩ := y
 refine (callsIn_wide.1 (first_walk b p _ _ last xs (tkOf p kp ls) w hG (by rw [hr1]; simp) hheap (fun W hg => ?_) (fun a c ok W hg hac => ?_) (fun a W hmem hB => ?_) hall (ra, rb) (fun h => ?_) (fun i hi hj hti => ?_))).mono ?_
 ·have ha := flv_seg (k := .pfx) W (fun _ => Go.undef) p (pfV p) 0 (fun _ => rfl)
  refine (flat_calls hg prefix_Last_ok (x := (p, ())) hl1 rfl rfl ha).mono ?_
  rintro e w' ⟨⟨ρ', rfl⟩, hb'⟩
  exact ⟨rfl, hb'⟩
 ·have ha := flv_seg (k := .addr) W (fun _ => Go.undef) a (adV a) 0 (fun _ => rfl)
  refine (flat_callsN hg addr_After_ok (x := (a, ())) (y := (c, ok, ())) hac rfl rfl ha).mono ?_
  rintro e w' ⟨⟨ρ', n, rfl⟩, hb'⟩
  exact ⟨rfl, hb'⟩
 ·have ha := (argsLater hu hB).app (flv_seg (k := .addr) W ρ a (adV a) 3 (fun _ => rfl))
  refine (flat_calls (hG.mono hB) m_lease_book__taken_ok (x := ((p, kp, ls, ()), a, ())) (f1 a hmem) rfl rfl ha).mono ?_
  rintro e w' ⟨⟨ρ', rfl⟩, hb'⟩
  exact ⟨rfl, hb'⟩
 ·have := f2 h
  cases this
  rfl
 ·have := f3 i hi hj hti
  cases this
  rfl
 ·rintro e w' ⟨rfl, hb⟩
  refine ⟨fun _ => Go.undef, .tup [.agg [.b ra.v6, .i .u64 ra.hi, .i .u64 ra.lo], .b rb], [], rfl, ?_, rfl⟩
  exact ⟨hb, fun j o h => by simp at h, fun i j o o' _ h => by simp at h, fun j o h => by simp at h⟩
theorem m_lease_book__first_ok : TrOk Tryz.prog 162 m_lease_book__first_con := con_of _ _ _ fun x y hx ρ us vals w hG hu => first_main x.1.1 x.1.2.1 x.1.2.2.1 y hx ρ us vals w hG hu
end Go.Proofs.YtjncjiegmnicbabGreat
namespace Go.Proofs.YtjncjiegmnicbabGreat
open Go Go.Ma Go.RowKit Go.Maps Go.Proofs
end Go.Proofs.YtjncjiegmnicbabGreat
namespace Go.Proofs.YtjncjiegmnicbabGreat
open Go Go.Ma Go.RowKit Go.Proofs
end Go.Proofs.YtjncjiegmnicbabGreat
