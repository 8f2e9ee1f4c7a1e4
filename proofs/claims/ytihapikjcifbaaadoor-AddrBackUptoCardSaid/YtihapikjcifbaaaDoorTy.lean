/-
  The table of the types of this seat, for the executor, and that it says what the program says. Written by a program of mine (wip/tools/Ti.lean).
-/
import Derived.Test.YtihapikjcifbaaaDoorRows
import Derived.Test.YtihapikjcifbaaaDoorMaJ
namespace Go.Proofs.YtihapikjcifbaaaDoor
open Go Go.Ma
def noTi : TI := { known := false, kind := .other, agg := false, size := 0, zero := [], fields := [], elem := 0 }
def ti_1 : TI := { kind := .other, agg := false, size := 1, zero := [.nilFunc], fields := [], elem := 0, bytes := 8, eq := false, k := none }
def ti_2 : TI := { kind := (.int .i64), agg := false, size := 1, zero := [.int .i64 0], fields := [], elem := 0, bytes := 8, eq := false, k := some .int }
def ti_3 : TI := { kind := (.int .i64), agg := false, size := 1, zero := [.int .i64 0], fields := [], elem := 0, bytes := 8, eq := false, k := some .int }
def ti_4 : TI := { kind := .bool, agg := false, size := 1, zero := [.bool false], fields := [], elem := 0, bytes := 1, eq := false, k := some .bool }
def ti_5 : TI := { kind := (.int .u8), agg := false, size := 1, zero := [.int .u8 0], fields := [], elem := 0, bytes := 1, eq := false, k := some .u8 }
def ti_6 : TI := { kind := (.int .u8), agg := false, size := 1, zero := [.int .u8 0], fields := [], elem := 0, bytes := 1, eq := false, k := some .u8 }
def ti_7 : TI := { kind := .struct, agg := true, size := 4, zero := [.int .i64 0, .int .i64 0, .bool false, .int .u8 0], fields := [(0, 2), (1, 3), (2, 4), (3, 6)], elem := 0, bytes := 24, eq := false, k := none }
def ti_8 : TI := { kind := .struct, agg := true, size := 4, zero := [.int .i64 0, .int .i64 0, .bool false, .int .u8 0], fields := [(0, 2), (1, 3), (2, 4), (3, 6)], elem := 0, bytes := 24, eq := false, k := none }
def ti_9 : TI := { kind := .str, agg := false, size := 1, zero := [.string .empty], fields := [], elem := 0, bytes := 16, eq := false, k := some .str }
def ti_10 : TI := { kind := .str, agg := false, size := 1, zero := [.string .empty], fields := [], elem := 0, bytes := 16, eq := false, k := some .str }
def ti_11 : TI := { kind := .str, agg := false, size := 1, zero := [.string .empty], fields := [], elem := 0, bytes := 16, eq := false, k := some .str }
def ti_12 : TI := { kind := (.int .u64), agg := false, size := 1, zero := [.int .u64 0], fields := [], elem := 0, bytes := 8, eq := false, k := some .u64 }
def ti_13 : TI := { kind := .struct, agg := true, size := 2, zero := [.string .empty, .int .u64 0], fields := [(0, 9), (1, 12)], elem := 0, bytes := 24, eq := false, k := none }
def ti_14 : TI := { kind := .struct, agg := true, size := 2, zero := [.string .empty, .int .u64 0], fields := [(0, 9), (1, 12)], elem := 0, bytes := 24, eq := false, k := none }
def ti_15 : TI := { kind := .other, agg := false, size := 1, zero := [.pointer none], fields := [], elem := 0, bytes := 8, eq := false, k := none }
def ti_16 : TI := { kind := .other, agg := false, size := 1, zero := [.pointer none], fields := [], elem := 0, bytes := 8, eq := false, k := none }
def ti_17 : TI := { kind := .other, agg := false, size := 1, zero := [.pointer none], fields := [], elem := 0, bytes := 8, eq := false, k := none }
def ti_18 : TI := { kind := .struct, agg := true, size := 1, zero := [.pointer none], fields := [(0, 17)], elem := 0, bytes := 8, eq := false, k := none }
def ti_19 : TI := { kind := .struct, agg := true, size := 1, zero := [.pointer none], fields := [(0, 17)], elem := 0, bytes := 8, eq := false, k := none }
def ti_20 : TI := { kind := .other, agg := false, size := 1, zero := [.nilIface], fields := [], elem := 0, bytes := 16, eq := false, k := none }
def ti_21 : TI := { kind := (.int .i32), agg := false, size := 1, zero := [.int .i32 0], fields := [], elem := 0, bytes := 4, eq := false, k := none }
def ti_22 : TI := { kind := (.int .u64), agg := false, size := 1, zero := [.int .u64 0], fields := [], elem := 0, bytes := 8, eq := false, k := some .u64 }
def ti_23 : TI := { kind := .struct, agg := true, size := 3, zero := [.bool false, .int .u64 0, .int .u64 0], fields := [(0, 4), (1, 22), (2, 22)], elem := 0, bytes := 24, eq := false, k := none }
def ti_24 : TI := { kind := .struct, agg := true, size := 3, zero := [.bool false, .int .u64 0, .int .u64 0], fields := [(0, 4), (1, 22), (2, 22)], elem := 0, bytes := 24, eq := true, k := some .addr }
def ti_25 : TI := { kind := (.int .i64), agg := false, size := 1, zero := [.int .i64 0], fields := [], elem := 0, bytes := 8, eq := false, k := some .int }
def ti_27 : TI := { kind := .other, agg := false, size := 1, zero := [.nilFunc], fields := [], elem := 0, bytes := 8, eq := false, k := none }
def ti_29 : TI := { kind := .other, agg := false, size := 1, zero := [.nilFunc], fields := [], elem := 0, bytes := 8, eq := false, k := none }
def ti_31 : TI := { kind := .other, agg := false, size := 1, zero := [.nilFunc], fields := [], elem := 0, bytes := 8, eq := false, k := none }
def ti_33 : TI := { kind := .other, agg := false, size := 1, zero := [.nilFunc], fields := [], elem := 0, bytes := 8, eq := false, k := none }
def ti_34 : TI := { kind := .other, agg := false, size := 1, zero := [.nilFunc], fields := [], elem := 0, bytes := 8, eq := false, k := none }
def ti_35 : TI := { kind := .other, agg := false, size := 1, zero := [.nilFunc], fields := [], elem := 0, bytes := 8, eq := false, k := none }
def ti_37 : TI := { kind := .other, agg := false, size := 1, zero := [.nilFunc], fields := [], elem := 0, bytes := 8, eq := false, k := none }
def ti_38 : TI := { kind := .other, agg := false, size := 1, zero := [.nilFunc], fields := [], elem := 0, bytes := 8, eq := false, k := none }
def ti_39 : TI := { kind := .other, agg := false, size := 1, zero := [.nilFunc], fields := [], elem := 0, bytes := 8, eq := false, k := none }
def ti_40 : TI := { kind := .other, agg := false, size := 1, zero := [.nilFunc], fields := [], elem := 0, bytes := 8, eq := false, k := none }
def ti_41 : TI := { kind := .other, agg := false, size := 1, zero := [.nilFunc], fields := [], elem := 0, bytes := 8, eq := false, k := none }
def ti_42 : TI := { kind := .other, agg := false, size := 1, zero := [.nilFunc], fields := [], elem := 0, bytes := 8, eq := false, k := none }
def ti_43 : TI := { kind := .other, agg := false, size := 1, zero := [.nilFunc], fields := [], elem := 0, bytes := 8, eq := false, k := none }
def ti_44 : TI := { kind := .slice, agg := false, size := 1, zero := [.slice none 0 0], fields := [], elem := 24, bytes := 24, eq := false, k := none }
def ti_45 : TI := { kind := .other, agg := false, size := 1, zero := [.nilFunc], fields := [], elem := 0, bytes := 8, eq := false, k := none }
def ti_46 : TI := { kind := .other, agg := false, size := 1, zero := [.nilFunc], fields := [], elem := 0, bytes := 8, eq := false, k := none }
def ti_47 : TI := { kind := .other, agg := false, size := 1, zero := [.nilFunc], fields := [], elem := 0, bytes := 8, eq := false, k := none }
def ti_48 : TI := { kind := .other, agg := true, size := 8, zero := [.int .i64 0, .int .i64 0, .int .i64 0, .int .i64 0, .int .i64 0, .int .i64 0, .int .i64 0, .int .i64 0], fields := [], elem := 3, bytes := 64, eq := false, k := none }
def ti_49 : TI := { kind := .slice, agg := false, size := 1, zero := [.slice none 0 0], fields := [], elem := 5, bytes := 24, eq := false, k := none }
def ti_50 : TI := { kind := .other, agg := false, size := 1, zero := [.nilFunc], fields := [], elem := 0, bytes := 8, eq := false, k := none }
def ti_52 : TI := { kind := .other, agg := false, size := 1, zero := [.nilFunc], fields := [], elem := 0, bytes := 8, eq := false, k := none }
def ti_53 : TI := { kind := .other, agg := false, size := 1, zero := [.nilFunc], fields := [], elem := 0, bytes := 8, eq := false, k := none }
def ti_54 : TI := { kind := .other, agg := false, size := 1, zero := [.nilFunc], fields := [], elem := 0, bytes := 8, eq := false, k := none }
def ti_55 : TI := { kind := .slice, agg := false, size := 1, zero := [.slice none 0 0], fields := [], elem := 9, bytes := 24, eq := false, k := none }
def ti_56 : TI := { kind := .other, agg := false, size := 1, zero := [.nilFunc], fields := [], elem := 0, bytes := 8, eq := false, k := none }
def ti_57 : TI := { kind := .other, agg := false, size := 1, zero := [.nilFunc], fields := [], elem := 0, bytes := 8, eq := false, k := none }
def ti_59 : TI := { kind := .other, agg := false, size := 1, zero := [.nilFunc], fields := [], elem := 0, bytes := 8, eq := false, k := none }
def ti_60 : TI := { kind := .other, agg := false, size := 1, zero := [.nilFunc], fields := [], elem := 0, bytes := 8, eq := false, k := none }
def ti_61 : TI := { kind := .struct, agg := true, size := 0, zero := [], fields := [], elem := 0, bytes := 0, eq := false, k := none }
def ti_62 : TI := { kind := .struct, agg := true, size := 0, zero := [], fields := [], elem := 0, bytes := 0, eq := false, k := none }
def ti_64 : TI := { kind := .other, agg := false, size := 1, zero := [.nilFunc], fields := [], elem := 0, bytes := 8, eq := false, k := none }
def ti_65 : TI := { kind := .other, agg := false, size := 1, zero := [.nilFunc], fields := [], elem := 0, bytes := 8, eq := false, k := none }
def ti_66 : TI := { kind := .other, agg := false, size := 1, zero := [.nilFunc], fields := [], elem := 0, bytes := 8, eq := false, k := none }
def ti_67 : TI := { kind := .other, agg := false, size := 1, zero := [.nilFunc], fields := [], elem := 0, bytes := 8, eq := false, k := none }
def ti_68 : TI := { kind := .other, agg := false, size := 1, zero := [.nilFunc], fields := [], elem := 0, bytes := 8, eq := false, k := none }
def ti_69 : TI := { kind := .other, agg := false, size := 1, zero := [.pointer none], fields := [], elem := 0, bytes := 8, eq := false, k := none }
def ti_70 : TI := { kind := .struct, agg := true, size := 2, zero := [.pointer none, .slice none 0 0], fields := [(0, 69), (1, 49)], elem := 0, bytes := 32, eq := false, k := none }
def ti_71 : TI := { kind := .struct, agg := true, size := 2, zero := [.pointer none, .slice none 0 0], fields := [(0, 69), (1, 49)], elem := 0, bytes := 32, eq := false, k := none }
def ti_72 : TI := { kind := .other, agg := false, size := 1, zero := [.nilFunc], fields := [], elem := 0, bytes := 8, eq := false, k := none }
def ti_73 : TI := { kind := .other, agg := false, size := 1, zero := [.nilIface], fields := [], elem := 0, bytes := 16, eq := false, k := none }
def ti_74 : TI := { kind := .other, agg := false, size := 1, zero := [.nilIface], fields := [], elem := 0, bytes := 16, eq := false, k := none }
def ti_76 : TI := { kind := .other, agg := false, size := 1, zero := [.nilFunc], fields := [], elem := 0, bytes := 8, eq := false, k := none }
def ti_77 : TI := { kind := .other, agg := false, size := 1, zero := [.nilFunc], fields := [], elem := 0, bytes := 8, eq := false, k := none }
def ti_78 : TI := { kind := .other, agg := false, size := 1, zero := [.nilFunc], fields := [], elem := 0, bytes := 8, eq := false, k := none }
def ti_79 : TI := { kind := .other, agg := false, size := 1, zero := [.nilFunc], fields := [], elem := 0, bytes := 8, eq := false, k := none }
def ti_80 : TI := { kind := .other, agg := false, size := 1, zero := [.nilFunc], fields := [], elem := 0, bytes := 8, eq := false, k := none }
def ti_82 : TI := { kind := .other, agg := false, size := 1, zero := [.nilFunc], fields := [], elem := 0, bytes := 8, eq := false, k := none }
def ti_83 : TI := { kind := .slice, agg := false, size := 1, zero := [.slice none 0 0], fields := [], elem := 22, bytes := 24, eq := false, k := none }
def ti_84 : TI := { kind := .other, agg := false, size := 1, zero := [.nilFunc], fields := [], elem := 0, bytes := 8, eq := false, k := none }
def ti_85 : TI := { kind := (.int .u64), agg := false, size := 1, zero := [.int .u64 0], fields := [], elem := 0, bytes := 8, eq := false, k := some .u64 }
def ti_86 : TI := { kind := .other, agg := false, size := 1, zero := [.nilFunc], fields := [], elem := 0, bytes := 8, eq := false, k := none }
def ti_87 : TI := { kind := .other, agg := false, size := 1, zero := [.nilFunc], fields := [], elem := 0, bytes := 8, eq := false, k := none }
def ti_88 : TI := { kind := .other, agg := false, size := 1, zero := [.nilFunc], fields := [], elem := 0, bytes := 8, eq := false, k := none }
def ti_89 : TI := { kind := .other, agg := true, size := 24, zero := [.int .u8 0, .int .u8 0, .int .u8 0, .int .u8 0, .int .u8 0, .int .u8 0, .int .u8 0, .int .u8 0, .int .u8 0, .int .u8 0, .int .u8 0, .int .u8 0, .int .u8 0, .int .u8 0, .int .u8 0, .int .u8 0, .int .u8 0, .int .u8 0, .int .u8 0, .int .u8 0, .int .u8 0, .int .u8 0, .int .u8 0, .int .u8 0], fields := [], elem := 5, bytes := 24, eq := false, k := none }
def ti_90 : TI := { kind := .other, agg := false, size := 1, zero := [.nilFunc], fields := [], elem := 0, bytes := 8, eq := false, k := none }
def ti_91 : TI := { kind := .other, agg := false, size := 1, zero := [.nilFunc], fields := [], elem := 0, bytes := 8, eq := false, k := none }
def ti_93 : TI := { kind := .other, agg := false, size := 1, zero := [.nilFunc], fields := [], elem := 0, bytes := 8, eq := false, k := none }
def ti_94 : TI := { kind := .other, agg := false, size := 1, zero := [.pointer none], fields := [], elem := 0, bytes := 8, eq := false, k := none }
def ti_95 : TI := { kind := .other, agg := false, size := 1, zero := [.nilFunc], fields := [], elem := 0, bytes := 8, eq := false, k := none }
def ti_97 : TI := { kind := .other, agg := false, size := 1, zero := [.nilFunc], fields := [], elem := 0, bytes := 8, eq := false, k := none }
def ti_98 : TI := { kind := .other, agg := false, size := 1, zero := [.nilFunc], fields := [], elem := 0, bytes := 8, eq := false, k := none }
def ti_99 : TI := { kind := .other, agg := false, size := 1, zero := [.nilFunc], fields := [], elem := 0, bytes := 8, eq := false, k := none }
def ti_100 : TI := { kind := .other, agg := true, size := 20, zero := [.int .u64 0, .int .u64 0, .int .u64 0, .int .u64 0, .int .u64 0, .int .u64 0, .int .u64 0, .int .u64 0, .int .u64 0, .int .u64 0, .int .u64 0, .int .u64 0, .int .u64 0, .int .u64 0, .int .u64 0, .int .u64 0, .int .u64 0, .int .u64 0, .int .u64 0, .int .u64 0], fields := [], elem := 22, bytes := 160, eq := false, k := none }
def ti_101 : TI := { kind := (.int .u32), agg := false, size := 1, zero := [.int .u32 0], fields := [], elem := 0, bytes := 4, eq := false, k := none }
def ti_103 : TI := { kind := .other, agg := false, size := 1, zero := [.nilFunc], fields := [], elem := 0, bytes := 8, eq := false, k := none }
def ti_104 : TI := { kind := .other, agg := false, size := 1, zero := [.nilFunc], fields := [], elem := 0, bytes := 8, eq := false, k := none }
def ti_105 : TI := { kind := .other, agg := false, size := 1, zero := [.pointer none], fields := [], elem := 0, bytes := 8, eq := false, k := none }
def ti_106 : TI := { kind := .other, agg := false, size := 1, zero := [.nilFunc], fields := [], elem := 0, bytes := 8, eq := false, k := none }
def ti_107 : TI := { kind := .other, agg := false, size := 1, zero := [.nilFunc], fields := [], elem := 0, bytes := 8, eq := false, k := none }
def ti_108 : TI := { kind := .other, agg := false, size := 1, zero := [.nilFunc], fields := [], elem := 0, bytes := 8, eq := false, k := none }
def ti_109 : TI := { kind := .other, agg := false, size := 1, zero := [.nilFunc], fields := [], elem := 0, bytes := 8, eq := false, k := none }
def ti_110 : TI := { kind := .other, agg := false, size := 1, zero := [.nilFunc], fields := [], elem := 0, bytes := 8, eq := false, k := none }
def ti_111 : TI := { kind := .other, agg := false, size := 1, zero := [.nilFunc], fields := [], elem := 0, bytes := 8, eq := false, k := none }
def ti_113 : TI := { kind := .other, agg := false, size := 1, zero := [.nilFunc], fields := [], elem := 0, bytes := 8, eq := false, k := none }
def ti_115 : TI := { kind := .other, agg := false, size := 1, zero := [.nilFunc], fields := [], elem := 0, bytes := 8, eq := false, k := none }
def ti_116 : TI := { kind := (.int .i64), agg := false, size := 1, zero := [.int .i64 0], fields := [], elem := 0, bytes := 8, eq := false, k := some .int }
def ti_117 : TI := { kind := .other, agg := false, size := 1, zero := [.nilFunc], fields := [], elem := 0, bytes := 8, eq := false, k := none }
def ti_118 : TI := { kind := .other, agg := false, size := 1, zero := [.nilFunc], fields := [], elem := 0, bytes := 8, eq := false, k := none }
def ti_119 : TI := { kind := .other, agg := false, size := 1, zero := [.pointer none], fields := [], elem := 0, bytes := 8, eq := false, k := none }
def ti_120 : TI := { kind := .other, agg := false, size := 1, zero := [.nilFunc], fields := [], elem := 0, bytes := 8, eq := false, k := none }
def ti_121 : TI := { kind := .other, agg := false, size := 1, zero := [.nilFunc], fields := [], elem := 0, bytes := 8, eq := false, k := none }
def ti_122 : TI := { kind := .other, agg := true, size := 32, zero := [.int .u8 0, .int .u8 0, .int .u8 0, .int .u8 0, .int .u8 0, .int .u8 0, .int .u8 0, .int .u8 0, .int .u8 0, .int .u8 0, .int .u8 0, .int .u8 0, .int .u8 0, .int .u8 0, .int .u8 0, .int .u8 0, .int .u8 0, .int .u8 0, .int .u8 0, .int .u8 0, .int .u8 0, .int .u8 0, .int .u8 0, .int .u8 0, .int .u8 0, .int .u8 0, .int .u8 0, .int .u8 0, .int .u8 0, .int .u8 0, .int .u8 0, .int .u8 0], fields := [], elem := 5, bytes := 32, eq := false, k := none }
def ti_123 : TI := { kind := .other, agg := true, size := 64, zero := [.int .u8 0, .int .u8 0, .int .u8 0, .int .u8 0, .int .u8 0, .int .u8 0, .int .u8 0, .int .u8 0, .int .u8 0, .int .u8 0, .int .u8 0, .int .u8 0, .int .u8 0, .int .u8 0, .int .u8 0, .int .u8 0, .int .u8 0, .int .u8 0, .int .u8 0, .int .u8 0, .int .u8 0, .int .u8 0, .int .u8 0, .int .u8 0, .int .u8 0, .int .u8 0, .int .u8 0, .int .u8 0, .int .u8 0, .int .u8 0, .int .u8 0, .int .u8 0, .int .u8 0, .int .u8 0, .int .u8 0, .int .u8 0, .int .u8 0, .int .u8 0, .int .u8 0, .int .u8 0, .int .u8 0, .int .u8 0, .int .u8 0, .int .u8 0, .int .u8 0, .int .u8 0, .int .u8 0, .int .u8 0, .int .u8 0, .int .u8 0, .int .u8 0, .int .u8 0, .int .u8 0, .int .u8 0, .int .u8 0, .int .u8 0, .int .u8 0, .int .u8 0, .int .u8 0, .int .u8 0, .int .u8 0, .int .u8 0, .int .u8 0, .int .u8 0], fields := [], elem := 5, bytes := 64, eq := false, k := none }
def ti_124 : TI := { kind := .other, agg := false, size := 1, zero := [.nilFunc], fields := [], elem := 0, bytes := 8, eq := false, k := none }
def ti_125 : TI := { kind := .struct, agg := true, size := 3, zero := [.string .empty, .string .empty, .nilIface], fields := [(0, 9), (1, 9), (2, 74)], elem := 0, bytes := 48, eq := false, k := none }
def ti_126 : TI := { kind := .struct, agg := true, size := 3, zero := [.string .empty, .string .empty, .nilIface], fields := [(0, 9), (1, 9), (2, 74)], elem := 0, bytes := 48, eq := false, k := none }
def ti_127 : TI := { kind := .other, agg := false, size := 1, zero := [.nilFunc], fields := [], elem := 0, bytes := 8, eq := false, k := none }
def ti_129 : TI := { kind := .struct, agg := true, size := 2, zero := [.int .u8 0, .int .u8 0], fields := [(0, 5), (1, 5)], elem := 0, bytes := 2, eq := false, k := none }
def ti_130 : TI := { kind := .struct, agg := true, size := 2, zero := [.int .u8 0, .int .u8 0], fields := [(0, 5), (1, 5)], elem := 0, bytes := 2, eq := false, k := none }
def ti_131 : TI := { kind := .other, agg := true, size := 32, zero := [.int .u8 0, .int .u8 0, .int .u8 0, .int .u8 0, .int .u8 0, .int .u8 0, .int .u8 0, .int .u8 0, .int .u8 0, .int .u8 0, .int .u8 0, .int .u8 0, .int .u8 0, .int .u8 0, .int .u8 0, .int .u8 0, .int .u8 0, .int .u8 0, .int .u8 0, .int .u8 0, .int .u8 0, .int .u8 0, .int .u8 0, .int .u8 0, .int .u8 0, .int .u8 0, .int .u8 0, .int .u8 0, .int .u8 0, .int .u8 0, .int .u8 0, .int .u8 0], fields := [], elem := 130, bytes := 32, eq := false, k := none }
def ti_132 : TI := { kind := .other, agg := false, size := 1, zero := [.pointer none], fields := [], elem := 0, bytes := 8, eq := false, k := none }
def ti_133 : TI := { kind := .struct, agg := true, size := 1, zero := [.string .empty], fields := [(0, 9)], elem := 0, bytes := 16, eq := false, k := none }
def ti_134 : TI := { kind := .struct, agg := true, size := 1, zero := [.string .empty], fields := [(0, 9)], elem := 0, bytes := 16, eq := false, k := none }
def ti_135 : TI := { kind := .other, agg := false, size := 1, zero := [.nilFunc], fields := [], elem := 0, bytes := 8, eq := false, k := none }
def ti_136 : TI := { kind := .struct, agg := true, size := 4, zero := [.pointer none, .pointer none, .pointer none, .string .empty], fields := [(0, 17), (1, 17), (2, 17), (3, 9)], elem := 0, bytes := 40, eq := false, k := none }
def ti_137 : TI := { kind := .struct, agg := true, size := 4, zero := [.pointer none, .pointer none, .pointer none, .string .empty], fields := [(0, 17), (1, 17), (2, 17), (3, 9)], elem := 0, bytes := 40, eq := false, k := none }
def ti_138 : TI := { kind := .other, agg := true, size := 0, zero := [], fields := [], elem := 16, bytes := 0, eq := false, k := none }
def ti_139 : TI := { kind := .struct, agg := true, size := 0, zero := [], fields := [(0, 138)], elem := 0, bytes := 0, eq := false, k := none }
def ti_140 : TI := { kind := .struct, agg := true, size := 0, zero := [], fields := [(0, 138)], elem := 0, bytes := 0, eq := false, k := none }
def ti_141 : TI := { kind := .other, agg := false, size := 1, zero := [.nilFunc], fields := [], elem := 0, bytes := 8, eq := false, k := none }
def ti_142 : TI := { kind := (.int .u8), agg := false, size := 1, zero := [.int .u8 0], fields := [], elem := 0, bytes := 1, eq := false, k := some .u8 }
def ti_143 : TI := { kind := (.int .u8), agg := false, size := 1, zero := [.int .u8 0], fields := [], elem := 0, bytes := 1, eq := false, k := some .u8 }
def ti_144 : TI := { kind := .other, agg := false, size := 1, zero := [.nilFunc], fields := [], elem := 0, bytes := 8, eq := false, k := none }
def ti_145 : TI := { kind := (.int .i32), agg := false, size := 1, zero := [.int .i32 0], fields := [], elem := 0, bytes := 4, eq := false, k := none }
def ti_146 : TI := { kind := (.int .i32), agg := false, size := 1, zero := [.int .i32 0], fields := [], elem := 0, bytes := 4, eq := false, k := none }
def ti_147 : TI := { kind := .struct, agg := true, size := 11, zero := [.int .u64 0, .int .u64 0, .int .u32 0, .int .u8 0, .int .u8 0, .int .u8 0, .int .u8 0, .nilFunc, .pointer none, .int .i32 0, .int .i32 0], fields := [(0, 12), (1, 12), (2, 101), (3, 142), (4, 5), (5, 5), (6, 143), (7, 144), (8, 94), (9, 145), (10, 146)], elem := 0, bytes := 48, eq := false, k := none }
def ti_148 : TI := { kind := .struct, agg := true, size := 11, zero := [.int .u64 0, .int .u64 0, .int .u32 0, .int .u8 0, .int .u8 0, .int .u8 0, .int .u8 0, .nilFunc, .pointer none, .int .i32 0, .int .i32 0], fields := [(0, 12), (1, 12), (2, 101), (3, 142), (4, 5), (5, 5), (6, 143), (7, 144), (8, 94), (9, 145), (10, 146)], elem := 0, bytes := 48, eq := false, k := none }
def ty (t : Nat) : TI := bif Nat.blt t 160 then (bif Nat.blt t 80 then (bif Nat.blt t 40 then (bif Nat.blt t 20 then (bif Nat.blt t 10 then (bif Nat.blt t 5 then (bif Nat.blt t 2 then (bif Nat.blt t 1 then noTi else ti_1) else (bif Nat.blt t 3 then ti_2 else (bif Nat.blt t 4 then ti_3 else ti_4))) else (bif Nat.blt t 7 then (bif Nat.blt t 6 then ti_5 else ti_6) else (bif Nat.blt t 8 then ti_7 else (bif Nat.blt t 9 then ti_8 else ti_9)))) else (bif Nat.blt t 15 then (bif Nat.blt t 12 then (bif Nat.blt t 11 then ti_10 else ti_11) else (bif Nat.blt t 13 then ti_12 else (bif Nat.blt t 14 then ti_13 else ti_14))) else (bif Nat.blt t 17 then (bif Nat.blt t 16 then ti_15 else ti_16) else (bif Nat.blt t 18 then ti_17 else (bif Nat.blt t 19 then ti_18 else ti_19))))) else (bif Nat.blt t 30 then (bif Nat.blt t 25 then (bif Nat.blt t 22 then (bif Nat.blt t 21 then ti_20 else ti_21) else (bif Nat.blt t 23 then ti_22 else (bif Nat.blt t 24 then ti_23 else ti_24))) else (bif Nat.blt t 27 then (bif Nat.blt t 26 then ti_25 else noTi) else (bif Nat.blt t 28 then ti_27 else (bif Nat.blt t 29 then noTi else ti_29)))) else (bif Nat.blt t 35 then (bif Nat.blt t 32 then (bif Nat.blt t 31 then noTi else ti_31) else (bif Nat.blt t 33 then noTi else (bif Nat.blt t 34 then ti_33 else ti_34))) else (bif Nat.blt t 37 then (bif Nat.blt t 36 then ti_35 else noTi) else (bif Nat.blt t 38 then ti_37 else (bif Nat.blt t 39 then ti_38 else ti_39)))))) else (bif Nat.blt t 60 then (bif Nat.blt t 50 then (bif Nat.blt t 45 then (bif Nat.blt t 42 then (bif Nat.blt t 41 then ti_40 else ti_41) else (bif Nat.blt t 43 then ti_42 else (bif Nat.blt t 44 then ti_43 else ti_44))) else (bif Nat.blt t 47 then (bif Nat.blt t 46 then ti_45 else ti_46) else (bif Nat.blt t 48 then ti_47 else (bif Nat.blt t 49 then ti_48 else ti_49)))) else (bif Nat.blt t 55 then (bif Nat.blt t 52 then (bif Nat.blt t 51 then ti_50 else noTi) else (bif Nat.blt t 53 then ti_52 else (bif Nat.blt t 54 then ti_53 else ti_54))) else (bif Nat.blt t 57 then (bif Nat.blt t 56 then ti_55 else ti_56) else (bif Nat.blt t 58 then ti_57 else (bif Nat.blt t 59 then noTi else ti_59))))) else (bif Nat.blt t 70 then (bif Nat.blt t 65 then (bif Nat.blt t 62 then (bif Nat.blt t 61 then ti_60 else ti_61) else (bif Nat.blt t 63 then ti_62 else (bif Nat.blt t 64 then noTi else ti_64))) else (bif Nat.blt t 67 then (bif Nat.blt t 66 then ti_65 else ti_66) else (bif Nat.blt t 68 then ti_67 else (bif Nat.blt t 69 then ti_68 else ti_69)))) else (bif Nat.blt t 75 then (bif Nat.blt t 72 then (bif Nat.blt t 71 then ti_70 else ti_71) else (bif Nat.blt t 73 then ti_72 else (bif Nat.blt t 74 then ti_73 else ti_74))) else (bif Nat.blt t 77 then (bif Nat.blt t 76 then noTi else ti_76) else (bif Nat.blt t 78 then ti_77 else (bif Nat.blt t 79 then ti_78 else ti_79))))))) else (bif Nat.blt t 120 then (bif Nat.blt t 100 then (bif Nat.blt t 90 then (bif Nat.blt t 85 then (bif Nat.blt t 82 then (bif Nat.blt t 81 then ti_80 else noTi) else (bif Nat.blt t 83 then ti_82 else (bif Nat.blt t 84 then ti_83 else ti_84))) else (bif Nat.blt t 87 then (bif Nat.blt t 86 then ti_85 else ti_86) else (bif Nat.blt t 88 then ti_87 else (bif Nat.blt t 89 then ti_88 else ti_89)))) else (bif Nat.blt t 95 then (bif Nat.blt t 92 then (bif Nat.blt t 91 then ti_90 else ti_91) else (bif Nat.blt t 93 then noTi else (bif Nat.blt t 94 then ti_93 else ti_94))) else (bif Nat.blt t 97 then (bif Nat.blt t 96 then ti_95 else noTi) else (bif Nat.blt t 98 then ti_97 else (bif Nat.blt t 99 then ti_98 else ti_99))))) else (bif Nat.blt t 110 then (bif Nat.blt t 105 then (bif Nat.blt t 102 then (bif Nat.blt t 101 then ti_100 else ti_101) else (bif Nat.blt t 103 then noTi else (bif Nat.blt t 104 then ti_103 else ti_104))) else (bif Nat.blt t 107 then (bif Nat.blt t 106 then ti_105 else ti_106) else (bif Nat.blt t 108 then ti_107 else (bif Nat.blt t 109 then ti_108 else ti_109)))) else (bif Nat.blt t 115 then (bif Nat.blt t 112 then (bif Nat.blt t 111 then ti_110 else ti_111) else (bif Nat.blt t 113 then noTi else (bif Nat.blt t 114 then ti_113 else noTi))) else (bif Nat.blt t 117 then (bif Nat.blt t 116 then ti_115 else ti_116) else (bif Nat.blt t 118 then ti_117 else (bif Nat.blt t 119 then ti_118 else ti_119)))))) else (bif Nat.blt t 140 then (bif Nat.blt t 130 then (bif Nat.blt t 125 then (bif Nat.blt t 122 then (bif Nat.blt t 121 then ti_120 else ti_121) else (bif Nat.blt t 123 then ti_122 else (bif Nat.blt t 124 then ti_123 else ti_124))) else (bif Nat.blt t 127 then (bif Nat.blt t 126 then ti_125 else ti_126) else (bif Nat.blt t 128 then ti_127 else (bif Nat.blt t 129 then noTi else ti_129)))) else (bif Nat.blt t 135 then (bif Nat.blt t 132 then (bif Nat.blt t 131 then ti_130 else ti_131) else (bif Nat.blt t 133 then ti_132 else (bif Nat.blt t 134 then ti_133 else ti_134))) else (bif Nat.blt t 137 then (bif Nat.blt t 136 then ti_135 else ti_136) else (bif Nat.blt t 138 then ti_137 else (bif Nat.blt t 139 then ti_138 else ti_139))))) else (bif Nat.blt t 150 then (bif Nat.blt t 145 then (bif Nat.blt t 142 then (bif Nat.blt t 141 then ti_140 else ti_141) else (bif Nat.blt t 143 then ti_142 else (bif Nat.blt t 144 then ti_143 else ti_144))) else (bif Nat.blt t 147 then (bif Nat.blt t 146 then ti_145 else ti_146) else (bif Nat.blt t 148 then ti_147 else (bif Nat.blt t 149 then ti_148 else noTi)))) else (bif Nat.blt t 155 then (bif Nat.blt t 152 then (bif Nat.blt t 151 then noTi else noTi) else (bif Nat.blt t 153 then noTi else (bif Nat.blt t 154 then noTi else noTi))) else (bif Nat.blt t 157 then (bif Nat.blt t 156 then noTi else noTi) else (bif Nat.blt t 158 then noTi else (bif Nat.blt t 159 then noTi else noTi)))))))) else noTi
theorem ty_dflt (t : Nat) (h : 160 ≤ t) : ty t = noTi := by
  have e : Nat.blt t 160 = false := by
    cases hb : Nat.blt t 160
    · rfl
    · have := Nat.le_of_ble_eq_true hb
      omega
  unfold ty
  rw [e]
  rfl
def tyKnown : List Nat := [1, 2, 3, 4, 5, 6, 7, 8, 9, 10, 11, 12, 13, 14, 15, 16, 17, 18, 19, 20, 21, 22, 23, 24, 25, 27, 29, 31, 33, 34, 35, 37, 38, 39, 40, 41, 42, 43, 44, 45, 46, 47, 48, 49, 50, 52, 53, 54, 55, 56, 57, 59, 60, 61, 62, 64, 65, 66, 67, 68, 69, 70, 71, 72, 73, 74, 76, 77, 78, 79, 80, 82, 83, 84, 85, 86, 87, 88, 89, 90, 91, 93, 94, 95, 97, 98, 99, 100, 101, 103, 104, 105, 106, 107, 108, 109, 110, 111, 113, 115, 116, 117, 118, 119, 120, 121, 122, 123, 124, 125, 126, 127, 129, 130, 131, 132, 133, 134, 135, 136, 137, 138, 139, 140, 141, 142, 143, 144, 145, 146, 147, 148]
theorem ty_list : tyKnown.map (fun t => ({ ty t with eq := false, k := none } : TI)) = tyKnown.map (tiOf Tryd.prog) := by kernel_rfl
theorem ty_in : (List.range 160).all (fun t => !(ty t).known || tyKnown.contains t) = true := by kernel_rfl
theorem ty_fact (t : Nat) (h : (ty t).known = true) : TyFact Tryd.prog t (ty t) := by
  refine tyFact_of h ?_
  have hlt : t < 160 := by
    rcases Nat.lt_or_ge t 160 with h' | h'
    · exact h'
    · have : (ty t) = noTi := ty_dflt t h'
      rw [this] at h
      cases h
  have h1 := List.all_eq_true.1 ty_in t (List.mem_range.2 hlt)
  rw [h] at h1
  have hmem : t ∈ tyKnown := by simpa using h1
  have := List.map_inj_left.1 ty_list t hmem
  exact this
theorem eq_24 : StructEq Tryd.prog 24 (ty 24).zero := structEq ty_fact 24 (ty 24).zero (by kernel_rfl) (by kernel_rfl) (by kernel_rfl)
def tyEqs : List Nat := [24]
theorem eq_in : (List.range 160).all (fun t => !(ty t).eq || tyEqs.contains t) = true := by kernel_rfl
theorem ty_eq (t : Nat) (h : (ty t).eq = true) : StructEq Tryd.prog t (ty t).zero := by
  have hlt : t < 160 := by
    rcases Nat.lt_or_ge t 160 with h' | h'
    · exact h'
    · rw [ty_dflt t h'] at h
      cases h
  have h1 := List.all_eq_true.1 eq_in t (List.mem_range.2 hlt)
  rw [h] at h1
  have hmem : t ∈ tyEqs := by simpa using h1
  simp only [tyEqs, List.mem_cons, List.not_mem_nil, or_false] at hmem
  rcases hmem with rfl
  · exact eq_24
theorem tyOk : TOk Tryd.prog ty := ⟨ty_fact, ty_eq, by kernel_rfl⟩
def fnExt : List Nat := [0, 1, 67, 68, 70, 79, 83, 96, 97, 98, 99, 100, 101, 102, 103, 104, 105, 106, 107, 108, 109, 110, 111, 112, 113, 114, 115, 116, 117, 118, 119, 120, 121, 122, 123, 124]
def fnB (f : Nat) : Bool := decide (f < 126) && !fnExt.contains f
theorem fn_all : (List.range 126).all (fun f => !fnB f || (match Tryd.prog.funcs[f]? with | some fn => fn.body.isSome && !(fn.name == "runtime.NumGoroutine") | none => false)) = true := by kernel_rfl
theorem fn_ok (f : Nat) (h : fnB f = true) : HasBody Tryd.prog f := by
  have hlt : f < 126 := by
    unfold fnB at h
    simp only [Bool.and_eq_true, decide_eq_true_eq] at h
    exact h.1
  have h1 := List.all_eq_true.1 fn_all f (List.mem_range.2 hlt)
  rw [h] at h1
  simp only [Bool.not_true, Bool.false_or] at h1
  unfold HasBody
  cases hf : Tryd.prog.funcs[f]? with
  | none => rw [hf] at h1; cases h1
  | some fn =>
    rw [hf] at h1
    simp only [Bool.and_eq_true, Bool.not_eq_true'] at h1
    exact ⟨fn, rfl, h1.1, h1.2⟩
end Go.Proofs.YtihapikjcifbaaaDoor
