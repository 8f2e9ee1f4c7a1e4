/-
  The table of the types of this seat, for the executor, and that it says what the program says. Written by a program of mine (wip/tools/Ti.lean).
-/
import Derived.Test.YthmdbgejdeblnaaGreatDoorRows
import Derived.Test.YthmdbgejdeblnaaGreatDoorMaJ
namespace Go.Proofs.YthmdbgejdeblnaaGreatDoor
open Go Go.Ma
def noTi : TI := { known := false, kind := .other, agg := false, size := 0, zero := [], fields := [], elem := 0 }
def ti_1 : TI := { kind := .other, agg := false, size := 1, zero := [.nilFunc], fields := [], elem := 0, bytes := 8, eq := false, k := none }
def ti_2 : TI := { kind := (.int .i64), agg := false, size := 1, zero := [.int .i64 0], fields := [], elem := 0, bytes := 8, eq := false, k := some .int }
def ti_3 : TI := { kind := (.int .i64), agg := false, size := 1, zero := [.int .i64 0], fields := [], elem := 0, bytes := 8, eq := false, k := some .int }
def ti_4 : TI := { kind := .bool, agg := false, size := 1, zero := [.bool false], fields := [], elem := 0, bytes := 1, eq := false, k := some .bool }
def ti_5 : TI := { kind := (.int .u8), agg := false, size := 1, zero := [.int .u8 0], fields := [], elem := 0, bytes := 1, eq := false, k := some .u8 }
def ti_6 : TI := { kind := (.int .u8), agg := false, size := 1, zero := [.int .u8 0], fields := [], elem := 0, bytes := 1, eq := false, k := some .u8 }
def ti_7 : TI := { kind := .struct, agg := true, size := 4, zero := [.int .i64 0, .int .i64 0, .bool false, .int .u8 0], fields := [(0, 2), (1, 3), (2, 4), (3, 6)], elem := 0, bytes := 24, eq := false, k := none }
def ti_8 : TI := { kind := .struct, agg := true, size := 4, zero := [.int .i64 0, .int .i64 0, .bool false, .int .u8 0], fields := [(0, 2), (1, 3), (2, 4), (3, 6)], elem := 0, bytes := 24, eq := false, k := none }
def ti_9 : TI := { kind := .str, agg := false, size := 1, zero := [.string .empty], fields := [], elem := 0, bytes := 16, eq := false, k := some .str }
def ti_10 : TI := { kind := .str, agg := false, size := 1, zero := [.string .empty], fields := [], elem := 0, bytes := 16, eq := false, k := some .str }
def ti_11 : TI := { kind := .str, agg := false, size := 1, zero := [.string .empty], fields := [], elem := 0, bytes := 16, eq := false, k := some .str }
def ti_12 : TI := { kind := (.int .u64), agg := false, size := 1, zero := [.int .u64 0], fields := [], elem := 0, bytes := 8, eq := false, k := some .u64 }
def ti_13 : TI := { kind := .struct, agg := true, size := 2, zero := [.string .empty, .int .u64 0], fields := [(0, 9), (1, 12)], elem := 0, bytes := 24, eq := false, k := none }
def ti_14 : TI := { kind := .struct, agg := true, size := 2, zero := [.string .empty, .int .u64 0], fields := [(0, 9), (1, 12)], elem := 0, bytes := 24, eq := false, k := none }
def ti_15 : TI := { kind := .other, agg := false, size := 1, zero := [.pointer none], fields := [], elem := 0, bytes := 8, eq := false, k := none }
def ti_16 : TI := { kind := .other, agg := false, size := 1, zero := [.pointer none], fields := [], elem := 0, bytes := 8, eq := false, k := none }
def ti_17 : TI := { kind := .other, agg := false, size := 1, zero := [.pointer none], fields := [], elem := 0, bytes := 8, eq := false, k := none }
def ti_18 : TI := { kind := .struct, agg := true, size := 1, zero := [.pointer none], fields := [(0, 17)], elem := 0, bytes := 8, eq := false, k := none }
def ti_19 : TI := { kind := .struct, agg := true, size := 1, zero := [.pointer none], fields := [(0, 17)], elem := 0, bytes := 8, eq := false, k := none }
def ti_20 : TI := { kind := .other, agg := false, size := 1, zero := [.nilIface], fields := [], elem := 0, bytes := 16, eq := false, k := none }
def ti_21 : TI := { kind := (.int .i32), agg := false, size := 1, zero := [.int .i32 0], fields := [], elem := 0, bytes := 4, eq := false, k := none }
def ti_22 : TI := { kind := (.int .u64), agg := false, size := 1, zero := [.int .u64 0], fields := [], elem := 0, bytes := 8, eq := false, k := some .u64 }
def ti_23 : TI := { kind := .struct, agg := true, size := 3, zero := [.bool false, .int .u64 0, .int .u64 0], fields := [(0, 4), (1, 22), (2, 22)], elem := 0, bytes := 24, eq := false, k := none }
def ti_24 : TI := { kind := .struct, agg := true, size := 3, zero := [.bool false, .int .u64 0, .int .u64 0], fields := [(0, 4), (1, 22), (2, 22)], elem := 0, bytes := 24, eq := true, k := some .addr }
def ti_25 : TI := { kind := .struct, agg := true, size := 4, zero := [.bool false, .int .u64 0, .int .u64 0, .int .i64 0], fields := [(0, 24), (3, 3)], elem := 0, bytes := 32, eq := false, k := none }
def ti_26 : TI := { kind := .struct, agg := true, size := 4, zero := [.bool false, .int .u64 0, .int .u64 0, .int .i64 0], fields := [(0, 24), (3, 3)], elem := 0, bytes := 32, eq := true, k := some .pfx }
def ti_27 : TI := { kind := .slice, agg := false, size := 1, zero := [.slice none 0 0], fields := [], elem := 24, bytes := 24, eq := false, k := none }
def ti_28 : TI := { kind := .struct, agg := true, size := 5, zero := [.bool false, .int .u64 0, .int .u64 0, .int .i64 0, .slice none 0 0], fields := [(0, 26), (4, 27)], elem := 0, bytes := 56, eq := false, k := none }
def ti_29 : TI := { kind := .struct, agg := true, size := 5, zero := [.bool false, .int .u64 0, .int .u64 0, .int .i64 0, .slice none 0 0], fields := [(0, 26), (4, 27)], elem := 0, bytes := 56, eq := false, k := none }
def ti_30 : TI := { kind := .slice, agg := false, size := 1, zero := [.slice none 0 0], fields := [], elem := 40, bytes := 24, eq := false, k := none }
def ti_31 : TI := { kind := .other, agg := false, size := 1, zero := [.nilFunc], fields := [], elem := 0, bytes := 8, eq := false, k := none }
def ti_32 : TI := { kind := (.int .i64), agg := false, size := 1, zero := [.int .i64 0], fields := [], elem := 0, bytes := 8, eq := false, k := some .int }
def ti_33 : TI := { kind := .other, agg := false, size := 1, zero := [.nilFunc], fields := [], elem := 0, bytes := 8, eq := false, k := none }
def ti_34 : TI := { kind := .other, agg := false, size := 1, zero := [.nilFunc], fields := [], elem := 0, bytes := 8, eq := false, k := none }
def ti_35 : TI := { kind := .other, agg := false, size := 1, zero := [.nilFunc], fields := [], elem := 0, bytes := 8, eq := false, k := none }
def ti_37 : TI := { kind := .other, agg := false, size := 1, zero := [.nilFunc], fields := [], elem := 0, bytes := 8, eq := false, k := none }
def ti_38 : TI := { kind := .other, agg := false, size := 1, zero := [.nilFunc], fields := [], elem := 0, bytes := 8, eq := false, k := none }
def ti_39 : TI := { kind := .struct, agg := true, size := 5, zero := [.bool false, .int .u64 0, .int .u64 0, .string .empty, .int .i64 0], fields := [(0, 24), (3, 9), (4, 3)], elem := 0, bytes := 48, eq := false, k := none }
def ti_40 : TI := { kind := .struct, agg := true, size := 5, zero := [.bool false, .int .u64 0, .int .u64 0, .string .empty, .int .i64 0], fields := [(0, 24), (3, 9), (4, 3)], elem := 0, bytes := 48, eq := true, k := some .lease }
def ti_42 : TI := { kind := .other, agg := false, size := 1, zero := [.nilFunc], fields := [], elem := 0, bytes := 8, eq := false, k := none }
def ti_43 : TI := { kind := .other, agg := false, size := 1, zero := [.nilFunc], fields := [], elem := 0, bytes := 8, eq := false, k := none }
def ti_44 : TI := { kind := .other, agg := false, size := 1, zero := [.nilFunc], fields := [], elem := 0, bytes := 8, eq := false, k := none }
def ti_45 : TI := { kind := .other, agg := false, size := 1, zero := [.nilFunc], fields := [], elem := 0, bytes := 8, eq := false, k := none }
def ti_46 : TI := { kind := .other, agg := false, size := 1, zero := [.nilFunc], fields := [], elem := 0, bytes := 8, eq := false, k := none }
def ti_48 : TI := { kind := .other, agg := false, size := 1, zero := [.nilFunc], fields := [], elem := 0, bytes := 8, eq := false, k := none }
def ti_49 : TI := { kind := .other, agg := false, size := 1, zero := [.nilFunc], fields := [], elem := 0, bytes := 8, eq := false, k := none }
def ti_50 : TI := { kind := .other, agg := false, size := 1, zero := [.nilFunc], fields := [], elem := 0, bytes := 8, eq := false, k := none }
def ti_52 : TI := { kind := .other, agg := false, size := 1, zero := [.nilFunc], fields := [], elem := 0, bytes := 8, eq := false, k := none }
def ti_54 : TI := { kind := .other, agg := false, size := 1, zero := [.nilFunc], fields := [], elem := 0, bytes := 8, eq := false, k := none }
def ti_56 : TI := { kind := .other, agg := false, size := 1, zero := [.nilFunc], fields := [], elem := 0, bytes := 8, eq := false, k := none }
def ti_58 : TI := { kind := .other, agg := false, size := 1, zero := [.nilFunc], fields := [], elem := 0, bytes := 8, eq := false, k := none }
def ti_59 : TI := { kind := .other, agg := false, size := 1, zero := [.nilFunc], fields := [], elem := 0, bytes := 8, eq := false, k := none }
def ti_60 : TI := { kind := .other, agg := false, size := 1, zero := [.nilFunc], fields := [], elem := 0, bytes := 8, eq := false, k := none }
def ti_61 : TI := { kind := .other, agg := false, size := 1, zero := [.nilFunc], fields := [], elem := 0, bytes := 8, eq := false, k := none }
def ti_63 : TI := { kind := .other, agg := false, size := 1, zero := [.nilFunc], fields := [], elem := 0, bytes := 8, eq := false, k := none }
def ti_64 : TI := { kind := .other, agg := false, size := 1, zero := [.nilFunc], fields := [], elem := 0, bytes := 8, eq := false, k := none }
def ti_65 : TI := { kind := .slice, agg := false, size := 1, zero := [.slice none 0 0], fields := [], elem := 5, bytes := 24, eq := false, k := none }
def ti_66 : TI := { kind := .other, agg := false, size := 1, zero := [.nilFunc], fields := [], elem := 0, bytes := 8, eq := false, k := none }
def ti_67 : TI := { kind := .other, agg := false, size := 1, zero := [.nilFunc], fields := [], elem := 0, bytes := 8, eq := false, k := none }
def ti_69 : TI := { kind := .other, agg := false, size := 1, zero := [.nilFunc], fields := [], elem := 0, bytes := 8, eq := false, k := none }
def ti_70 : TI := { kind := .other, agg := false, size := 1, zero := [.nilFunc], fields := [], elem := 0, bytes := 8, eq := false, k := none }
def ti_71 : TI := { kind := .other, agg := false, size := 1, zero := [.nilFunc], fields := [], elem := 0, bytes := 8, eq := false, k := none }
def ti_73 : TI := { kind := .other, agg := false, size := 1, zero := [.nilFunc], fields := [], elem := 0, bytes := 8, eq := false, k := none }
def ti_75 : TI := { kind := .other, agg := false, size := 1, zero := [.nilFunc], fields := [], elem := 0, bytes := 8, eq := false, k := none }
def ti_76 : TI := { kind := .other, agg := false, size := 1, zero := [.nilFunc], fields := [], elem := 0, bytes := 8, eq := false, k := none }
def ti_77 : TI := { kind := .other, agg := false, size := 1, zero := [.nilFunc], fields := [], elem := 0, bytes := 8, eq := false, k := none }
def ti_78 : TI := { kind := .other, agg := false, size := 1, zero := [.nilFunc], fields := [], elem := 0, bytes := 8, eq := false, k := none }
def ti_79 : TI := { kind := .other, agg := false, size := 1, zero := [.nilFunc], fields := [], elem := 0, bytes := 8, eq := false, k := none }
def ti_80 : TI := { kind := .other, agg := false, size := 1, zero := [.nilFunc], fields := [], elem := 0, bytes := 8, eq := false, k := none }
def ti_81 : TI := { kind := .other, agg := false, size := 1, zero := [.nilFunc], fields := [], elem := 0, bytes := 8, eq := false, k := none }
def ti_82 : TI := { kind := .other, agg := false, size := 1, zero := [.nilFunc], fields := [], elem := 0, bytes := 8, eq := false, k := none }
def ti_83 : TI := { kind := .other, agg := false, size := 1, zero := [.nilFunc], fields := [], elem := 0, bytes := 8, eq := false, k := none }
def ti_84 : TI := { kind := .other, agg := false, size := 1, zero := [.nilFunc], fields := [], elem := 0, bytes := 8, eq := false, k := none }
def ti_85 : TI := { kind := .other, agg := false, size := 1, zero := [.nilFunc], fields := [], elem := 0, bytes := 8, eq := false, k := none }
def ti_86 : TI := { kind := .other, agg := false, size := 1, zero := [.map none], fields := [], elem := 0, bytes := 8, eq := false, k := none }
def ti_87 : TI := { kind := .other, agg := false, size := 1, zero := [.nilFunc], fields := [], elem := 0, bytes := 8, eq := false, k := none }
def ti_88 : TI := { kind := .other, agg := false, size := 1, zero := [.nilFunc], fields := [], elem := 0, bytes := 8, eq := false, k := none }
def ti_89 : TI := { kind := .other, agg := false, size := 1, zero := [.pointer none], fields := [], elem := 0, bytes := 8, eq := false, k := none }
def ti_90 : TI := { kind := .struct, agg := true, size := 6, zero := [.bool false, .int .u64 0, .int .u64 0, .int .i64 0, .slice none 0 0, .slice none 0 0], fields := [(0, 29), (5, 30)], elem := 0, bytes := 80, eq := false, k := none }
def ti_91 : TI := { kind := .struct, agg := true, size := 6, zero := [.bool false, .int .u64 0, .int .u64 0, .int .i64 0, .slice none 0 0, .slice none 0 0], fields := [(0, 29), (5, 30)], elem := 0, bytes := 80, eq := false, k := none }
def ti_92 : TI := { kind := .other, agg := false, size := 1, zero := [.nilFunc], fields := [], elem := 0, bytes := 8, eq := false, k := none }
def ti_93 : TI := { kind := .other, agg := false, size := 1, zero := [.nilFunc], fields := [], elem := 0, bytes := 8, eq := false, k := none }
def ti_95 : TI := { kind := .other, agg := false, size := 1, zero := [.nilFunc], fields := [], elem := 0, bytes := 8, eq := false, k := none }
def ti_96 : TI := { kind := .other, agg := false, size := 1, zero := [.nilFunc], fields := [], elem := 0, bytes := 8, eq := false, k := none }
def ti_97 : TI := { kind := .other, agg := false, size := 1, zero := [.nilFunc], fields := [], elem := 0, bytes := 8, eq := false, k := none }
def ti_98 : TI := { kind := .other, agg := false, size := 1, zero := [.nilFunc], fields := [], elem := 0, bytes := 8, eq := false, k := none }
def ti_100 : TI := { kind := .other, agg := false, size := 1, zero := [.nilFunc], fields := [], elem := 0, bytes := 8, eq := false, k := none }
def ti_101 : TI := { kind := .other, agg := false, size := 1, zero := [.nilFunc], fields := [], elem := 0, bytes := 8, eq := false, k := none }
def ti_102 : TI := { kind := .other, agg := false, size := 1, zero := [.nilFunc], fields := [], elem := 0, bytes := 8, eq := false, k := none }
def ti_103 : TI := { kind := .other, agg := false, size := 1, zero := [.nilFunc], fields := [], elem := 0, bytes := 8, eq := false, k := none }
def ti_105 : TI := { kind := .other, agg := false, size := 1, zero := [.nilFunc], fields := [], elem := 0, bytes := 8, eq := false, k := none }
def ti_107 : TI := { kind := .other, agg := false, size := 1, zero := [.nilFunc], fields := [], elem := 0, bytes := 8, eq := false, k := none }
def ti_108 : TI := { kind := .other, agg := false, size := 1, zero := [.nilFunc], fields := [], elem := 0, bytes := 8, eq := false, k := none }
def ti_109 : TI := { kind := .other, agg := false, size := 1, zero := [.nilFunc], fields := [], elem := 0, bytes := 8, eq := false, k := none }
def ti_110 : TI := { kind := .other, agg := false, size := 1, zero := [.nilFunc], fields := [], elem := 0, bytes := 8, eq := false, k := none }
def ti_111 : TI := { kind := .other, agg := false, size := 1, zero := [.nilFunc], fields := [], elem := 0, bytes := 8, eq := false, k := none }
def ti_112 : TI := { kind := .struct, agg := true, size := 0, zero := [], fields := [], elem := 0, bytes := 0, eq := false, k := none }
def ti_113 : TI := { kind := .struct, agg := true, size := 0, zero := [], fields := [], elem := 0, bytes := 0, eq := false, k := none }
def ti_115 : TI := { kind := .other, agg := false, size := 1, zero := [.nilFunc], fields := [], elem := 0, bytes := 8, eq := false, k := none }
def ti_116 : TI := { kind := .other, agg := false, size := 1, zero := [.nilFunc], fields := [], elem := 0, bytes := 8, eq := false, k := none }
def ti_117 : TI := { kind := .slice, agg := false, size := 1, zero := [.slice none 0 0], fields := [], elem := 9, bytes := 24, eq := false, k := none }
def ti_118 : TI := { kind := .other, agg := false, size := 1, zero := [.nilFunc], fields := [], elem := 0, bytes := 8, eq := false, k := none }
def ti_119 : TI := { kind := .other, agg := false, size := 1, zero := [.nilFunc], fields := [], elem := 0, bytes := 8, eq := false, k := none }
def ti_121 : TI := { kind := .other, agg := false, size := 1, zero := [.nilFunc], fields := [], elem := 0, bytes := 8, eq := false, k := none }
def ti_122 : TI := { kind := .other, agg := false, size := 1, zero := [.nilFunc], fields := [], elem := 0, bytes := 8, eq := false, k := none }
def ti_123 : TI := { kind := .other, agg := false, size := 1, zero := [.nilFunc], fields := [], elem := 0, bytes := 8, eq := false, k := none }
def ti_124 : TI := { kind := .other, agg := false, size := 1, zero := [.nilFunc], fields := [], elem := 0, bytes := 8, eq := false, k := none }
def ti_125 : TI := { kind := .other, agg := false, size := 1, zero := [.nilFunc], fields := [], elem := 0, bytes := 8, eq := false, k := none }
def ti_126 : TI := { kind := (.int .u64), agg := false, size := 1, zero := [.int .u64 0], fields := [], elem := 0, bytes := 8, eq := false, k := some .u64 }
def ti_127 : TI := { kind := .other, agg := false, size := 1, zero := [.nilFunc], fields := [], elem := 0, bytes := 8, eq := false, k := none }
def ti_128 : TI := { kind := .other, agg := false, size := 1, zero := [.nilFunc], fields := [], elem := 0, bytes := 8, eq := false, k := none }
def ti_129 : TI := { kind := .other, agg := false, size := 1, zero := [.nilIface], fields := [], elem := 0, bytes := 16, eq := false, k := none }
def ti_130 : TI := { kind := .other, agg := false, size := 1, zero := [.nilIface], fields := [], elem := 0, bytes := 16, eq := false, k := none }
def ti_132 : TI := { kind := .other, agg := false, size := 1, zero := [.nilFunc], fields := [], elem := 0, bytes := 8, eq := false, k := none }
def ti_133 : TI := { kind := .other, agg := false, size := 1, zero := [.nilFunc], fields := [], elem := 0, bytes := 8, eq := false, k := none }
def ti_134 : TI := { kind := .slice, agg := false, size := 1, zero := [.slice none 0 0], fields := [], elem := 26, bytes := 24, eq := false, k := none }
def ti_135 : TI := { kind := .other, agg := false, size := 1, zero := [.nilFunc], fields := [], elem := 0, bytes := 8, eq := false, k := none }
def ti_136 : TI := { kind := .slice, agg := false, size := 1, zero := [.slice none 0 0], fields := [], elem := 22, bytes := 24, eq := false, k := none }
def ti_137 : TI := { kind := .other, agg := false, size := 1, zero := [.nilFunc], fields := [], elem := 0, bytes := 8, eq := false, k := none }
def ti_138 : TI := { kind := .other, agg := false, size := 1, zero := [.nilFunc], fields := [], elem := 0, bytes := 8, eq := false, k := none }
def ti_139 : TI := { kind := .other, agg := false, size := 1, zero := [.nilFunc], fields := [], elem := 0, bytes := 8, eq := false, k := none }
def ti_140 : TI := { kind := .other, agg := false, size := 1, zero := [.pointer none], fields := [], elem := 0, bytes := 8, eq := false, k := none }
def ti_141 : TI := { kind := .struct, agg := true, size := 2, zero := [.pointer none, .slice none 0 0], fields := [(0, 140), (1, 65)], elem := 0, bytes := 32, eq := false, k := none }
def ti_142 : TI := { kind := .struct, agg := true, size := 2, zero := [.pointer none, .slice none 0 0], fields := [(0, 140), (1, 65)], elem := 0, bytes := 32, eq := false, k := none }
def ti_143 : TI := { kind := .other, agg := false, size := 1, zero := [.nilFunc], fields := [], elem := 0, bytes := 8, eq := false, k := none }
def ti_144 : TI := { kind := .other, agg := false, size := 1, zero := [.nilFunc], fields := [], elem := 0, bytes := 8, eq := false, k := none }
def ti_145 : TI := { kind := .other, agg := false, size := 1, zero := [.nilFunc], fields := [], elem := 0, bytes := 8, eq := false, k := none }
def ti_146 : TI := { kind := .other, agg := false, size := 1, zero := [.nilFunc], fields := [], elem := 0, bytes := 8, eq := false, k := none }
def ti_147 : TI := { kind := .other, agg := false, size := 1, zero := [.nilFunc], fields := [], elem := 0, bytes := 8, eq := false, k := none }
def ti_148 : TI := { kind := .other, agg := false, size := 1, zero := [.nilFunc], fields := [], elem := 0, bytes := 8, eq := false, k := none }
def ti_149 : TI := { kind := .other, agg := false, size := 1, zero := [.nilFunc], fields := [], elem := 0, bytes := 8, eq := false, k := none }
def ti_151 : TI := { kind := .other, agg := false, size := 1, zero := [.nilFunc], fields := [], elem := 0, bytes := 8, eq := false, k := none }
def ti_152 : TI := { kind := .other, agg := true, size := 24, zero := [.int .u8 0, .int .u8 0, .int .u8 0, .int .u8 0, .int .u8 0, .int .u8 0, .int .u8 0, .int .u8 0, .int .u8 0, .int .u8 0, .int .u8 0, .int .u8 0, .int .u8 0, .int .u8 0, .int .u8 0, .int .u8 0, .int .u8 0, .int .u8 0, .int .u8 0, .int .u8 0, .int .u8 0, .int .u8 0, .int .u8 0, .int .u8 0], fields := [], elem := 5, bytes := 24, eq := false, k := none }
def ti_153 : TI := { kind := .other, agg := false, size := 1, zero := [.nilFunc], fields := [], elem := 0, bytes := 8, eq := false, k := none }
def ti_154 : TI := { kind := .other, agg := false, size := 1, zero := [.nilFunc], fields := [], elem := 0, bytes := 8, eq := false, k := none }
def ti_156 : TI := { kind := .other, agg := false, size := 1, zero := [.nilFunc], fields := [], elem := 0, bytes := 8, eq := false, k := none }
def ti_157 : TI := { kind := .other, agg := false, size := 1, zero := [.pointer none], fields := [], elem := 0, bytes := 8, eq := false, k := none }
def ti_158 : TI := { kind := .other, agg := false, size := 1, zero := [.nilFunc], fields := [], elem := 0, bytes := 8, eq := false, k := none }
def ti_159 : TI := { kind := .other, agg := false, size := 1, zero := [.nilFunc], fields := [], elem := 0, bytes := 8, eq := false, k := none }
def ti_160 : TI := { kind := .other, agg := false, size := 1, zero := [.nilFunc], fields := [], elem := 0, bytes := 8, eq := false, k := none }
def ti_161 : TI := { kind := .other, agg := false, size := 1, zero := [.nilFunc], fields := [], elem := 0, bytes := 8, eq := false, k := none }
def ti_162 : TI := { kind := (.int .i64), agg := false, size := 1, zero := [.int .i64 0], fields := [], elem := 0, bytes := 8, eq := false, k := some .int }
def ti_164 : TI := { kind := .other, agg := false, size := 1, zero := [.nilFunc], fields := [], elem := 0, bytes := 8, eq := false, k := none }
def ti_165 : TI := { kind := .other, agg := false, size := 1, zero := [.pointer none], fields := [], elem := 0, bytes := 8, eq := false, k := none }
def ti_166 : TI := { kind := .other, agg := false, size := 1, zero := [.nilFunc], fields := [], elem := 0, bytes := 8, eq := false, k := none }
def ti_167 : TI := { kind := .other, agg := false, size := 1, zero := [.nilFunc], fields := [], elem := 0, bytes := 8, eq := false, k := none }
def ti_168 : TI := { kind := .other, agg := false, size := 1, zero := [.nilFunc], fields := [], elem := 0, bytes := 8, eq := false, k := none }
def ti_169 : TI := { kind := .other, agg := false, size := 1, zero := [.nilFunc], fields := [], elem := 0, bytes := 8, eq := false, k := none }
def ti_170 : TI := { kind := .other, agg := false, size := 1, zero := [.nilFunc], fields := [], elem := 0, bytes := 8, eq := false, k := none }
def ti_171 : TI := { kind := .other, agg := true, size := 20, zero := [.int .u64 0, .int .u64 0, .int .u64 0, .int .u64 0, .int .u64 0, .int .u64 0, .int .u64 0, .int .u64 0, .int .u64 0, .int .u64 0, .int .u64 0, .int .u64 0, .int .u64 0, .int .u64 0, .int .u64 0, .int .u64 0, .int .u64 0, .int .u64 0, .int .u64 0, .int .u64 0], fields := [], elem := 22, bytes := 160, eq := false, k := none }
def ti_172 : TI := { kind := (.int .u32), agg := false, size := 1, zero := [.int .u32 0], fields := [], elem := 0, bytes := 4, eq := false, k := none }
def ti_174 : TI := { kind := .other, agg := false, size := 1, zero := [.nilFunc], fields := [], elem := 0, bytes := 8, eq := false, k := none }
def ti_175 : TI := { kind := .other, agg := false, size := 1, zero := [.nilFunc], fields := [], elem := 0, bytes := 8, eq := false, k := none }
def ti_176 : TI := { kind := .other, agg := false, size := 1, zero := [.pointer none], fields := [], elem := 0, bytes := 8, eq := false, k := none }
def ti_177 : TI := { kind := .other, agg := false, size := 1, zero := [.nilFunc], fields := [], elem := 0, bytes := 8, eq := false, k := none }
def ti_178 : TI := { kind := .other, agg := false, size := 1, zero := [.nilFunc], fields := [], elem := 0, bytes := 8, eq := false, k := none }
def ti_180 : TI := { kind := .other, agg := false, size := 1, zero := [.nilFunc], fields := [], elem := 0, bytes := 8, eq := false, k := none }
def ti_181 : TI := { kind := .other, agg := false, size := 1, zero := [.nilFunc], fields := [], elem := 0, bytes := 8, eq := false, k := none }
def ti_182 : TI := { kind := .struct, agg := true, size := 3, zero := [.string .empty, .string .empty, .nilIface], fields := [(0, 9), (1, 9), (2, 130)], elem := 0, bytes := 48, eq := false, k := none }
def ti_183 : TI := { kind := .struct, agg := true, size := 3, zero := [.string .empty, .string .empty, .nilIface], fields := [(0, 9), (1, 9), (2, 130)], elem := 0, bytes := 48, eq := false, k := none }
def ti_184 : TI := { kind := .other, agg := false, size := 1, zero := [.nilFunc], fields := [], elem := 0, bytes := 8, eq := false, k := none }
def ti_185 : TI := { kind := .other, agg := false, size := 1, zero := [.nilFunc], fields := [], elem := 0, bytes := 8, eq := false, k := none }
def ti_187 : TI := { kind := .other, agg := false, size := 1, zero := [.nilFunc], fields := [], elem := 0, bytes := 8, eq := false, k := none }
def ti_188 : TI := { kind := .other, agg := false, size := 1, zero := [.nilFunc], fields := [], elem := 0, bytes := 8, eq := false, k := none }
def ti_189 : TI := { kind := .other, agg := false, size := 1, zero := [.nilFunc], fields := [], elem := 0, bytes := 8, eq := false, k := none }
def ti_190 : TI := { kind := .other, agg := false, size := 1, zero := [.pointer none], fields := [], elem := 0, bytes := 8, eq := false, k := none }
def ti_191 : TI := { kind := .struct, agg := true, size := 1, zero := [.string .empty], fields := [(0, 9)], elem := 0, bytes := 16, eq := false, k := none }
def ti_192 : TI := { kind := .struct, agg := true, size := 1, zero := [.string .empty], fields := [(0, 9)], elem := 0, bytes := 16, eq := false, k := none }
def ti_193 : TI := { kind := .other, agg := true, size := 32, zero := [.int .u8 0, .int .u8 0, .int .u8 0, .int .u8 0, .int .u8 0, .int .u8 0, .int .u8 0, .int .u8 0, .int .u8 0, .int .u8 0, .int .u8 0, .int .u8 0, .int .u8 0, .int .u8 0, .int .u8 0, .int .u8 0, .int .u8 0, .int .u8 0, .int .u8 0, .int .u8 0, .int .u8 0, .int .u8 0, .int .u8 0, .int .u8 0, .int .u8 0, .int .u8 0, .int .u8 0, .int .u8 0, .int .u8 0, .int .u8 0, .int .u8 0, .int .u8 0], fields := [], elem := 5, bytes := 32, eq := false, k := none }
def ti_194 : TI := { kind := .other, agg := true, size := 64, zero := [.int .u8 0, .int .u8 0, .int .u8 0, .int .u8 0, .int .u8 0, .int .u8 0, .int .u8 0, .int .u8 0, .int .u8 0, .int .u8 0, .int .u8 0, .int .u8 0, .int .u8 0, .int .u8 0, .int .u8 0, .int .u8 0, .int .u8 0, .int .u8 0, .int .u8 0, .int .u8 0, .int .u8 0, .int .u8 0, .int .u8 0, .int .u8 0, .int .u8 0, .int .u8 0, .int .u8 0, .int .u8 0, .int .u8 0, .int .u8 0, .int .u8 0, .int .u8 0, .int .u8 0, .int .u8 0, .int .u8 0, .int .u8 0, .int .u8 0, .int .u8 0, .int .u8 0, .int .u8 0, .int .u8 0, .int .u8 0, .int .u8 0, .int .u8 0, .int .u8 0, .int .u8 0, .int .u8 0, .int .u8 0, .int .u8 0, .int .u8 0, .int .u8 0, .int .u8 0, .int .u8 0, .int .u8 0, .int .u8 0, .int .u8 0, .int .u8 0, .int .u8 0, .int .u8 0, .int .u8 0, .int .u8 0, .int .u8 0, .int .u8 0, .int .u8 0], fields := [], elem := 5, bytes := 64, eq := false, k := none }
def ti_196 : TI := { kind := .struct, agg := true, size := 2, zero := [.int .u8 0, .int .u8 0], fields := [(0, 5), (1, 5)], elem := 0, bytes := 2, eq := false, k := none }
def ti_197 : TI := { kind := .struct, agg := true, size := 2, zero := [.int .u8 0, .int .u8 0], fields := [(0, 5), (1, 5)], elem := 0, bytes := 2, eq := false, k := none }
def ti_198 : TI := { kind := .other, agg := true, size := 32, zero := [.int .u8 0, .int .u8 0, .int .u8 0, .int .u8 0, .int .u8 0, .int .u8 0, .int .u8 0, .int .u8 0, .int .u8 0, .int .u8 0, .int .u8 0, .int .u8 0, .int .u8 0, .int .u8 0, .int .u8 0, .int .u8 0, .int .u8 0, .int .u8 0, .int .u8 0, .int .u8 0, .int .u8 0, .int .u8 0, .int .u8 0, .int .u8 0, .int .u8 0, .int .u8 0, .int .u8 0, .int .u8 0, .int .u8 0, .int .u8 0, .int .u8 0, .int .u8 0], fields := [], elem := 197, bytes := 32, eq := false, k := none }
def ti_199 : TI := { kind := .struct, agg := true, size := 4, zero := [.pointer none, .pointer none, .pointer none, .string .empty], fields := [(0, 17), (1, 17), (2, 17), (3, 9)], elem := 0, bytes := 40, eq := false, k := none }
def ti_200 : TI := { kind := .struct, agg := true, size := 4, zero := [.pointer none, .pointer none, .pointer none, .string .empty], fields := [(0, 17), (1, 17), (2, 17), (3, 9)], elem := 0, bytes := 40, eq := false, k := none }
def ti_201 : TI := { kind := .other, agg := true, size := 0, zero := [], fields := [], elem := 16, bytes := 0, eq := false, k := none }
def ti_202 : TI := { kind := .struct, agg := true, size := 0, zero := [], fields := [(0, 201)], elem := 0, bytes := 0, eq := false, k := none }
def ti_203 : TI := { kind := .struct, agg := true, size := 0, zero := [], fields := [(0, 201)], elem := 0, bytes := 0, eq := false, k := none }
def ti_204 : TI := { kind := .other, agg := false, size := 1, zero := [.nilFunc], fields := [], elem := 0, bytes := 8, eq := false, k := none }
def ti_205 : TI := { kind := (.int .u8), agg := false, size := 1, zero := [.int .u8 0], fields := [], elem := 0, bytes := 1, eq := false, k := some .u8 }
def ti_206 : TI := { kind := (.int .u8), agg := false, size := 1, zero := [.int .u8 0], fields := [], elem := 0, bytes := 1, eq := false, k := some .u8 }
def ti_207 : TI := { kind := .other, agg := false, size := 1, zero := [.nilFunc], fields := [], elem := 0, bytes := 8, eq := false, k := none }
def ti_208 : TI := { kind := (.int .i32), agg := false, size := 1, zero := [.int .i32 0], fields := [], elem := 0, bytes := 4, eq := false, k := none }
def ti_209 : TI := { kind := (.int .i32), agg := false, size := 1, zero := [.int .i32 0], fields := [], elem := 0, bytes := 4, eq := false, k := none }
def ti_210 : TI := { kind := .struct, agg := true, size := 11, zero := [.int .u64 0, .int .u64 0, .int .u32 0, .int .u8 0, .int .u8 0, .int .u8 0, .int .u8 0, .nilFunc, .pointer none, .int .i32 0, .int .i32 0], fields := [(0, 12), (1, 12), (2, 172), (3, 205), (4, 5), (5, 5), (6, 206), (7, 207), (8, 157), (9, 208), (10, 209)], elem := 0, bytes := 48, eq := false, k := none }
def ti_211 : TI := { kind := .struct, agg := true, size := 11, zero := [.int .u64 0, .int .u64 0, .int .u32 0, .int .u8 0, .int .u8 0, .int .u8 0, .int .u8 0, .nilFunc, .pointer none, .int .i32 0, .int .i32 0], fields := [(0, 12), (1, 12), (2, 172), (3, 205), (4, 5), (5, 5), (6, 206), (7, 207), (8, 157), (9, 208), (10, 209)], elem := 0, bytes := 48, eq := false, k := none }
def ty (t : Nat) : TI := bif Nat.blt t 224 then (bif Nat.blt t 112 then (bif Nat.blt t 56 then (bif Nat.blt t 28 then (bif Nat.blt t 14 then (bif Nat.blt t 7 then (bif Nat.blt t 3 then (bif Nat.blt t 1 then noTi else (bif Nat.blt t 2 then ti_1 else ti_2)) else (bif Nat.blt t 5 then (bif Nat.blt t 4 then ti_3 else ti_4) else (bif Nat.blt t 6 then ti_5 else ti_6))) else (bif Nat.blt t 10 then (bif Nat.blt t 8 then ti_7 else (bif Nat.blt t 9 then ti_8 else ti_9)) else (bif Nat.blt t 12 then (bif Nat.blt t 11 then ti_10 else ti_11) else (bif Nat.blt t 13 then ti_12 else ti_13)))) else (bif Nat.blt t 21 then (bif Nat.blt t 17 then (bif Nat.blt t 15 then ti_14 else (bif Nat.blt t 16 then ti_15 else ti_16)) else (bif Nat.blt t 19 then (bif Nat.blt t 18 then ti_17 else ti_18) else (bif Nat.blt t 20 then ti_19 else ti_20))) else (bif Nat.blt t 24 then (bif Nat.blt t 22 then ti_21 else (bif Nat.blt t 23 then ti_22 else ti_23)) else (bif Nat.blt t 26 then (bif Nat.blt t 25 then ti_24 else ti_25) else (bif Nat.blt t 27 then ti_26 else ti_27))))) else (bif Nat.blt t 42 then (bif Nat.blt t 35 then (bif Nat.blt t 31 then (bif Nat.blt t 29 then ti_28 else (bif Nat.blt t 30 then ti_29 else ti_30)) else (bif Nat.blt t 33 then (bif Nat.blt t 32 then ti_31 else ti_32) else (bif Nat.blt t 34 then ti_33 else ti_34))) else (bif Nat.blt t 38 then (bif Nat.blt t 36 then ti_35 else (bif Nat.blt t 37 then noTi else ti_37)) else (bif Nat.blt t 40 then (bif Nat.blt t 39 then ti_38 else ti_39) else (bif Nat.blt t 41 then ti_40 else noTi)))) else (bif Nat.blt t 49 then (bif Nat.blt t 45 then (bif Nat.blt t 43 then ti_42 else (bif Nat.blt t 44 then ti_43 else ti_44)) else (bif Nat.blt t 47 then (bif Nat.blt t 46 then ti_45 else ti_46) else (bif Nat.blt t 48 then noTi else ti_48))) else (bif Nat.blt t 52 then (bif Nat.blt t 50 then ti_49 else (bif Nat.blt t 51 then ti_50 else noTi)) else (bif Nat.blt t 54 then (bif Nat.blt t 53 then ti_52 else noTi) else (bif Nat.blt t 55 then ti_54 else noTi)))))) else (bif Nat.blt t 84 then (bif Nat.blt t 70 then (bif Nat.blt t 63 then (bif Nat.blt t 59 then (bif Nat.blt t 57 then ti_56 else (bif Nat.blt t 58 then noTi else ti_58)) else (bif Nat.blt t 61 then (bif Nat.blt t 60 then ti_59 else ti_60) else (bif Nat.blt t 62 then ti_61 else noTi))) else (bif Nat.blt t 66 then (bif Nat.blt t 64 then ti_63 else (bif Nat.blt t 65 then ti_64 else ti_65)) else (bif Nat.blt t 68 then (bif Nat.blt t 67 then ti_66 else ti_67) else (bif Nat.blt t 69 then noTi else ti_69)))) else (bif Nat.blt t 77 then (bif Nat.blt t 73 then (bif Nat.blt t 71 then ti_70 else (bif Nat.blt t 72 then ti_71 else noTi)) else (bif Nat.blt t 75 then (bif Nat.blt t 74 then ti_73 else noTi) else (bif Nat.blt t 76 then ti_75 else ti_76))) else (bif Nat.blt t 80 then (bif Nat.blt t 78 then ti_77 else (bif Nat.blt t 79 then ti_78 else ti_79)) else (bif Nat.blt t 82 then (bif Nat.blt t 81 then ti_80 else ti_81) else (bif Nat.blt t 83 then ti_82 else ti_83))))) else (bif Nat.blt t 98 then (bif Nat.blt t 91 then (bif Nat.blt t 87 then (bif Nat.blt t 85 then ti_84 else (bif Nat.blt t 86 then ti_85 else ti_86)) else (bif Nat.blt t 89 then (bif Nat.blt t 88 then ti_87 else ti_88) else (bif Nat.blt t 90 then ti_89 else ti_90))) else (bif Nat.blt t 94 then (bif Nat.blt t 92 then ti_91 else (bif Nat.blt t 93 then ti_92 else ti_93)) else (bif Nat.blt t 96 then (bif Nat.blt t 95 then noTi else ti_95) else (bif Nat.blt t 97 then ti_96 else ti_97)))) else (bif Nat.blt t 105 then (bif Nat.blt t 101 then (bif Nat.blt t 99 then ti_98 else (bif Nat.blt t 100 then noTi else ti_100)) else (bif Nat.blt t 103 then (bif Nat.blt t 102 then ti_101 else ti_102) else (bif Nat.blt t 104 then ti_103 else noTi))) else (bif Nat.blt t 108 then (bif Nat.blt t 106 then ti_105 else (bif Nat.blt t 107 then noTi else ti_107)) else (bif Nat.blt t 110 then (bif Nat.blt t 109 then ti_108 else ti_109) else (bif Nat.blt t 111 then ti_110 else ti_111))))))) else (bif Nat.blt t 168 then (bif Nat.blt t 140 then (bif Nat.blt t 126 then (bif Nat.blt t 119 then (bif Nat.blt t 115 then (bif Nat.blt t 113 then ti_112 else (bif Nat.blt t 114 then ti_113 else noTi)) else (bif Nat.blt t 117 then (bif Nat.blt t 116 then ti_115 else ti_116) else (bif Nat.blt t 118 then ti_117 else ti_118))) else (bif Nat.blt t 122 then (bif Nat.blt t 120 then ti_119 else (bif Nat.blt t 121 then noTi else ti_121)) else (bif Nat.blt t 124 then (bif Nat.blt t 123 then ti_122 else ti_123) else (bif Nat.blt t 125 then ti_124 else ti_125)))) else (bif Nat.blt t 133 then (bif Nat.blt t 129 then (bif Nat.blt t 127 then ti_126 else (bif Nat.blt t 128 then ti_127 else ti_128)) else (bif Nat.blt t 131 then (bif Nat.blt t 130 then ti_129 else ti_130) else (bif Nat.blt t 132 then noTi else ti_132))) else (bif Nat.blt t 136 then (bif Nat.blt t 134 then ti_133 else (bif Nat.blt t 135 then ti_134 else ti_135)) else (bif Nat.blt t 138 then (bif Nat.blt t 137 then ti_136 else ti_137) else (bif Nat.blt t 139 then ti_138 else ti_139))))) else (bif Nat.blt t 154 then (bif Nat.blt t 147 then (bif Nat.blt t 143 then (bif Nat.blt t 141 then ti_140 else (bif Nat.blt t 142 then ti_141 else ti_142)) else (bif Nat.blt t 145 then (bif Nat.blt t 144 then ti_143 else ti_144) else (bif Nat.blt t 146 then ti_145 else ti_146))) else (bif Nat.blt t 150 then (bif Nat.blt t 148 then ti_147 else (bif Nat.blt t 149 then ti_148 else ti_149)) else (bif Nat.blt t 152 then (bif Nat.blt t 151 then noTi else ti_151) else (bif Nat.blt t 153 then ti_152 else ti_153)))) else (bif Nat.blt t 161 then (bif Nat.blt t 157 then (bif Nat.blt t 155 then ti_154 else (bif Nat.blt t 156 then noTi else ti_156)) else (bif Nat.blt t 159 then (bif Nat.blt t 158 then ti_157 else ti_158) else (bif Nat.blt t 160 then ti_159 else ti_160))) else (bif Nat.blt t 164 then (bif Nat.blt t 162 then ti_161 else (bif Nat.blt t 163 then ti_162 else noTi)) else (bif Nat.blt t 166 then (bif Nat.blt t 165 then ti_164 else ti_165) else (bif Nat.blt t 167 then ti_166 else ti_167)))))) else (bif Nat.blt t 196 then (bif Nat.blt t 182 then (bif Nat.blt t 175 then (bif Nat.blt t 171 then (bif Nat.blt t 169 then ti_168 else (bif Nat.blt t 170 then ti_169 else ti_170)) else (bif Nat.blt t 173 then (bif Nat.blt t 172 then ti_171 else ti_172) else (bif Nat.blt t 174 then noTi else ti_174))) else (bif Nat.blt t 178 then (bif Nat.blt t 176 then ti_175 else (bif Nat.blt t 177 then ti_176 else ti_177)) else (bif Nat.blt t 180 then (bif Nat.blt t 179 then ti_178 else noTi) else (bif Nat.blt t 181 then ti_180 else ti_181)))) else (bif Nat.blt t 189 then (bif Nat.blt t 185 then (bif Nat.blt t 183 then ti_182 else (bif Nat.blt t 184 then ti_183 else ti_184)) else (bif Nat.blt t 187 then (bif Nat.blt t 186 then ti_185 else noTi) else (bif Nat.blt t 188 then ti_187 else ti_188))) else (bif Nat.blt t 192 then (bif Nat.blt t 190 then ti_189 else (bif Nat.blt t 191 then ti_190 else ti_191)) else (bif Nat.blt t 194 then (bif Nat.blt t 193 then ti_192 else ti_193) else (bif Nat.blt t 195 then ti_194 else noTi))))) else (bif Nat.blt t 210 then (bif Nat.blt t 203 then (bif Nat.blt t 199 then (bif Nat.blt t 197 then ti_196 else (bif Nat.blt t 198 then ti_197 else ti_198)) else (bif Nat.blt t 201 then (bif Nat.blt t 200 then ti_199 else ti_200) else (bif Nat.blt t 202 then ti_201 else ti_202))) else (bif Nat.blt t 206 then (bif Nat.blt t 204 then ti_203 else (bif Nat.blt t 205 then ti_204 else ti_205)) else (bif Nat.blt t 208 then (bif Nat.blt t 207 then ti_206 else ti_207) else (bif Nat.blt t 209 then ti_208 else ti_209)))) else (bif Nat.blt t 217 then (bif Nat.blt t 213 then (bif Nat.blt t 211 then ti_210 else (bif Nat.blt t 212 then ti_211 else noTi)) else (bif Nat.blt t 215 then (bif Nat.blt t 214 then noTi else noTi) else (bif Nat.blt t 216 then noTi else noTi))) else (bif Nat.blt t 220 then (bif Nat.blt t 218 then noTi else (bif Nat.blt t 219 then noTi else noTi)) else (bif Nat.blt t 222 then (bif Nat.blt t 221 then noTi else noTi) else (bif Nat.blt t 223 then noTi else noTi)))))))) else noTi
theorem ty_dflt (t : Nat) (h : 224 ≤ t) : ty t = noTi := by
  have e : Nat.blt t 224 = false := by
    cases hb : Nat.blt t 224
    · rfl
    · have := Nat.le_of_ble_eq_true hb
      omega
  unfold ty
  rw [e]
  rfl
def tyKnown : List Nat := [1, 2, 3, 4, 5, 6, 7, 8, 9, 10, 11, 12, 13, 14, 15, 16, 17, 18, 19, 20, 21, 22, 23, 24, 25, 26, 27, 28, 29, 30, 31, 32, 33, 34, 35, 37, 38, 39, 40, 42, 43, 44, 45, 46, 48, 49, 50, 52, 54, 56, 58, 59, 60, 61, 63, 64, 65, 66, 67, 69, 70, 71, 73, 75, 76, 77, 78, 79, 80, 81, 82, 83, 84, 85, 86, 87, 88, 89, 90, 91, 92, 93, 95, 96, 97, 98, 100, 101, 102, 103, 105, 107, 108, 109, 110, 111, 112, 113, 115, 116, 117, 118, 119, 121, 122, 123, 124, 125, 126, 127, 128, 129, 130, 132, 133, 134, 135, 136, 137, 138, 139, 140, 141, 142, 143, 144, 145, 146, 147, 148, 149, 151, 152, 153, 154, 156, 157, 158, 159, 160, 161, 162, 164, 165, 166, 167, 168, 169, 170, 171, 172, 174, 175, 176, 177, 178, 180, 181, 182, 183, 184, 185, 187, 188, 189, 190, 191, 192, 193, 194, 196, 197, 198, 199, 200, 201, 202, 203, 204, 205, 206, 207, 208, 209, 210, 211]
theorem ty_list : tyKnown.map (fun t => ({ ty t with eq := false, k := none } : TI)) = tyKnown.map (tiOf Tryz.prog) := by kernel_rfl
theorem ty_in : (List.range 224).all (fun t => !(ty t).known || tyKnown.contains t) = true := by kernel_rfl
theorem ty_fact (t : Nat) (h : (ty t).known = true) : TyFact Tryz.prog t (ty t) := by
  refine tyFact_of h ?_
  have hlt : t < 224 := by
    rcases Nat.lt_or_ge t 224 with h' | h'
    · exact h'
    · have : (ty t) = noTi := ty_dflt t h'
      rw [this] at h
      cases h
  have h1 := List.all_eq_true.1 ty_in t (List.mem_range.2 hlt)
  rw [h] at h1
  have hmem : t ∈ tyKnown := by simpa using h1
  have := List.map_inj_left.1 ty_list t hmem
  exact this
theorem eq_24 : StructEq Tryz.prog 24 (ty 24).zero := structEq ty_fact 24 (ty 24).zero (by kernel_rfl) (by kernel_rfl) (by kernel_rfl)
theorem eq_26 : StructEq Tryz.prog 26 (ty 26).zero := structEq ty_fact 26 (ty 26).zero (by kernel_rfl) (by kernel_rfl) (by kernel_rfl)
theorem eq_40 : StructEq Tryz.prog 40 (ty 40).zero := structEq ty_fact 40 (ty 40).zero (by kernel_rfl) (by kernel_rfl) (by kernel_rfl)
def tyEqs : List Nat := [24, 26, 40]
theorem eq_in : (List.range 224).all (fun t => !(ty t).eq || tyEqs.contains t) = true := by kernel_rfl
theorem ty_eq (t : Nat) (h : (ty t).eq = true) : StructEq Tryz.prog t (ty t).zero := by
  have hlt : t < 224 := by
    rcases Nat.lt_or_ge t 224 with h' | h'
    · exact h'
    · rw [ty_dflt t h'] at h
      cases h
  have h1 := List.all_eq_true.1 eq_in t (List.mem_range.2 hlt)
  rw [h] at h1
  have hmem : t ∈ tyEqs := by simpa using h1
  simp only [tyEqs, List.mem_cons, List.not_mem_nil, or_false] at hmem
  rcases hmem with rfl | rfl | rfl
  · exact eq_24
  · exact eq_26
  · exact eq_40
theorem tyOk : TOk Tryz.prog ty := ⟨ty_fact, ty_eq, by kernel_rfl⟩
def fnExt : List Nat := [0, 1, 83, 117, 134, 135, 136, 142, 148, 149, 150, 151, 152, 153, 154, 155, 156, 157, 158, 159, 160, 161, 162, 163, 164, 165, 166, 167, 168, 169, 170, 171, 172, 173, 174, 175, 176]
def fnB (f : Nat) : Bool := decide (f < 178) && !fnExt.contains f
theorem fn_all : (List.range 178).all (fun f => !fnB f || (match Tryz.prog.funcs[f]? with | some fn => fn.body.isSome && !(fn.name == "runtime.NumGoroutine") | none => false)) = true := by kernel_rfl
theorem fn_ok (f : Nat) (h : fnB f = true) : HasBody Tryz.prog f := by
  have hlt : f < 178 := by
    unfold fnB at h
    simp only [Bool.and_eq_true, decide_eq_true_eq] at h
    exact h.1
  have h1 := List.all_eq_true.1 fn_all f (List.mem_range.2 hlt)
  rw [h] at h1
  simp only [Bool.not_true, Bool.false_or] at h1
  unfold HasBody
  cases hf : Tryz.prog.funcs[f]? with
  | none => rw [hf] at h1; cases h1
  | some fn =>
    rw [hf] at h1
    simp only [Bool.and_eq_true, Bool.not_eq_true'] at h1
    exact ⟨fn, rfl, h1.1, h1.2⟩
end Go.Proofs.YthmdbgejdeblnaaGreatDoor
