/-
  Parts: Wk Hf Hg Hh Ia Ib Ir Ic MaU Id Hc.
-/
import Derived.RangeFuncNested
import Derived.RangeFuncBound
import Derived.RangeFuncCalls
import Derived.RangeFuncLeaves
import Derived.RangeFuncBox
import Derived.Shelf.Abstract
import Derived.Shelf.RegionOpen
import Derived.WalkKit
import Derived.OwnWalkIn
import Derived.TacticsInMore
import Derived.LoopNIn
import Derived.LoopIn
import Derived.ProofKit
import Derived.Maps.Own
import Derived.StringKeys
import Derived.Maps.OwnOps
import Derived.Maps.Views
import Derived.Shelf.SlicesQ.Load
import Derived.Laws.IdiomStrings
import Derived.Lib.Walk
import Derived.Lib.SliceRun
import Derived.Lib.JoinLaws
import Derived.Lib.AppendZeros
import Derived.Lib.AppendZerosOnto
import Derived.Lib.Overlaps
import Derived.Laws.Externs
import Derived.Laws.IdiomCopy
import Derived.Laws.AppendOwn
import Derived.Shelf.Spec.SlicesInsertGrow
import Derived.Deep.RegionLaw
import Derived.Shelf.SlSortCmp.WholeK
import Derived.Test.YtjncjiegmnicbabGreatProg
import Derived.Test.YtjncjiegmnicbabGreatVf5
set_option linter.unusedVariables false
set_option linter.unusedSimpArgs false
open List renaming getElem?_eq_getElem → zc0, getD_eq_getElem?_getD → zc3, mem_of_getElem? → zc5, getElem?_append_left → zc6, getElem?_take → zc14, drop_of_length_le → zc18, length_take → zc20, length_cons → zc21, getElem?_eq_none → zc22, length_append → zc24, take_succ_eq_append_getElem → zc26, mem_cons → zc28, getElem?_append → zc29, length_nil → zc32, getElem?_drop → zc39, length_drop → zc40, nil_append → zc42, append_assoc → zc46
open Option renaming map_eq_some_iff → zc7, bind_eq_some_iff → zc8, bind_some → zc49
open Prod.mk renaming injEq → zc11
open Array renaming getElem?_toList → zc25, getElem?_eq_some_iff → zc27, getElem?_eq_getElem → zc44
open Nat renaming le_refl → zc47
noncomputable section
namespace Go.Proofs.YtjncjiegmnicbabGreat
open Go Go.Ma
def zq655 : Env := mkEnv ty fnB [] []
theorem zq656 : EnvOk Tryz.prog zq655 := envOk tyOk fn_ok zq535 _
def zq654 : Con := con [.one (.fl .int),.one (.fl .int),.one (.fl .int)] [.one (.fl .bool)] (fun x => zq659 x.1 x.2.1 x.2.2.1)
theorem zq658 : TrOk Tryz.prog 42 zq654 := by
 have h : zq1180 (zq662 Tryz.f42) = [] := by kernel_rfl
 refine zq665 zq656 Tryz.func42 (zq511 h lsNil) _ _ _ (fun x => ?_)
 kernel_rfl
def zq806 : Env := mkEnv ty fnB [] []
theorem zq807 : EnvOk Tryz.prog zq806 := envOk tyOk fn_ok zq535 _
def zq805 : Con := con [.one (.fl .int),.one (.fl .int),.one (.fl .int)] [.one (.fl .bool)] (fun x => zq810 x.1 x.2.1 x.2.2.1)
theorem zq809 : TrOk Tryz.prog 79 zq805 := by
 have h : zq1180 (zq662 Tryz.f79) = [] := by kernel_rfl
 refine zq665 zq807 Tryz.func79 (zq511 h lsNil) _ _ _ (fun x => ?_)
 kernel_rfl
def zq1170 : Env := mkEnv ty fnB [] []
theorem zq1171 : EnvOk Tryz.prog zq1170 := envOk tyOk fn_ok zq535 _
def zq1169 : Con := con [.one (.fl .int)] [.one (.fl .bool)] (fun x => zq1174 x.1)
theorem zq1173 : TrOk Tryz.prog 102 zq1169 := by
 have h : zq1180 (zq662 Tryz.f102) = [] := by kernel_rfl
 refine zq665 zq1171 Tryz.func102 (zq511 h lsNil) _ _ _ (fun x => ?_)
 kernel_rfl
def zq1782 : Env := mkEnv ty fnB [] []
theorem zq1783 : EnvOk Tryz.prog zq1782 := envOk tyOk fn_ok zq535 _
def zq1781 : Con := con [.one (.fl .int),.one (.fl .int),.one (.fl .int)] [.one (.fl .bool)] (fun x => zq1786 x.1 x.2.1 x.2.2.1)
theorem zq1785 : TrOk Tryz.prog 75 zq1781 := by
 have h : zq1180 (zq662 Tryz.f75) = [] := by kernel_rfl
 refine zq665 zq1783 Tryz.func75 (zq511 h lsNil) _ _ _ (fun x => ?_)
 kernel_rfl
def zq1758 : Env := mkEnv ty fnB [] []
theorem zq1759 : EnvOk Tryz.prog zq1758 := envOk tyOk fn_ok zq535 _
def zq1757 : Con := con [.one (.fl .op)] [.one (.fl .bool)] (fun x => zq1762 x.1)
theorem zq1761 : TrOk Tryz.prog 108 zq1757 := by
 have h : zq1180 (zq662 Tryz.f108) = [] := by kernel_rfl
 refine zq665 zq1759 Tryz.func108 (zq511 h lsNil) _ _ _ (fun x => ?_)
 kernel_rfl
def zq405 : Env := mkEnv ty fnB [] []
theorem zq406 : EnvOk Tryz.prog zq405 := envOk tyOk fn_ok zq535 _
def zq404 : Con := con [.one (.fl .addr)] [.one (.fl .int)] (fun x => zq409 x.1)
theorem zq408 : TrOk Tryz.prog 111 zq404 := by
 have h : zq1180 (zq662 Tryz.f111) = [] := by kernel_rfl
 refine zq665 zq406 Tryz.func111 (zq511 h lsNil) _ _ _ (fun x => ?_)
 kernel_rfl
def zq1452 : Env := mkEnv ty fnB [] []
theorem zq1453 : EnvOk Tryz.prog zq1452 := envOk tyOk fn_ok zq535 _
def zq1451 : Con := con [.one (.fl .addr)] [.one (.fl .int)] (fun x => zq1456 x.1)
theorem zq1455 : TrOk Tryz.prog 129 zq1451 := by
 have h : zq1180 (zq662 Tryz.f129) = [] := by kernel_rfl
 refine zq665 zq1453 Tryz.func129 (zq511 h lsNil) _ _ _ (fun x => ?_)
 kernel_rfl
def zq1458 : Env := mkEnv ty fnB [(129,zq1451)] []
theorem zq1459 : EnvOk Tryz.prog zq1458 := envOk tyOk fn_ok (zq534 zq1455 zq535) _
def zq1457 : Con := con [.one (.fl .addr),.one (.fl .int)] [.one (.fl .addr)] (fun x => zq1462 x.1 x.2.1)
theorem zq1461 : TrOk Tryz.prog 141 zq1457 := by
 have h : zq1180 (zq662 Tryz.f141) = [] := by kernel_rfl
 refine zq665 zq1459 Tryz.func141 (zq511 h lsNil) _ _ _ (fun x => ?_)
 kernel_rfl
def zq1416 : Env := mkEnv ty fnB [(141,zq1457)] []
theorem zq1417 : EnvOk Tryz.prog zq1416 := envOk tyOk fn_ok (zq534 zq1461 zq535) _
def zq1415 : Con := con [.one (.fl .addr),.one (.fl .int)] [.one (.fl .addr)] (fun x => zq1420 x.1 x.2.1)
theorem zq1419 : TrOk Tryz.prog 130 zq1415 := by
 have h : zq1180 (zq662 Tryz.f130) = [] := by kernel_rfl
 refine zq665 zq1417 Tryz.func130 (zq511 h lsNil) _ _ _ (fun x => ?_)
 kernel_rfl
def zq1410 : Env := mkEnv ty fnB [(111,zq404),(129,zq1451),(130,zq1415)] []
theorem zq1411 : EnvOk Tryz.prog zq1410 := envOk tyOk fn_ok (zq534 zq408 (zq534 zq1455 (zq534 zq1419 zq535))) _
def zq1409 : Con := con [.one (.fl .pfx)] [.one (.fl .int)] (fun x => zq1414 x.1)
theorem zq1413 : TrOk Tryz.prog 109 zq1409 := by
 have h : zq1180 (zq662 Tryz.f109) = [] := by kernel_rfl
 refine zq665 zq1411 Tryz.func109 (zq511 h lsNil) _ _ _ (fun x => ?_)
 kernel_rfl
def zq1057 : Env := mkEnv ty fnB [(129,zq1451)] []
theorem zq1058 : EnvOk Tryz.prog zq1057 := envOk tyOk fn_ok (zq534 zq1455 zq535) _
def zq1056 : Con := con [.one (.fl .pfx)] [.one (.fl .bool)] (fun x => zq1061 x.1)
theorem zq1060 : TrOk Tryz.prog 110 zq1056 := by
 have h : zq1180 (zq662 Tryz.f110) = [] := by kernel_rfl
 refine zq665 zq1058 Tryz.func110 (zq511 h lsNil) _ _ _ (fun x => ?_)
 kernel_rfl
def zq1101 : Env := mkEnv ty fnB [] []
theorem zq1102 : EnvOk Tryz.prog zq1101 := envOk tyOk fn_ok zq535 _
def zq1100 : Con := con [.one (.fl .int),.one (.fl .int),.one (.fl .int)] [.one (.fl .bool)] (fun x => zq1105 x.1 x.2.1 x.2.2.1)
theorem zq1104 : TrOk Tryz.prog 117 zq1100 := by
 have h : zq1180 (zq662 Tryz.f117) = [] := by kernel_rfl
 refine zq665 zq1102 Tryz.func117 (zq511 h lsNil) _ _ _ (fun x => ?_)
 kernel_rfl
def zq1092 : LoopS := { n := 33,base := 0,head := { keep := [0,6,7],vals := [.one (.fl .str),.one (.fl .int),.one (.fl .int)],objs := [] },exits := [⟨none,{ keep := [2],vals := [.one (.fl .bool)],objs := [] }⟩,⟨some 0,{ keep := [0],vals := [.one (.fl .str)],objs := [] }⟩] }
def zq1095 : Env := mkEnv ty fnB [(117,zq1100)] [(2,(zq1177 zq1092 (loopN zq1091 FUEL)))]
theorem zq1096 : EnvOk Tryz.prog zq1095 := envOk tyOk fn_ok (zq534 zq1104 zq535) _
theorem zq1093 : LOk Tryz.prog (zq1259 (zq662 Tryz.f112) 0) (zq1177 zq1092 (loopN zq1091 FUEL)) := by
 have h : zq1180 (zq1259 (zq662 Tryz.f112) 0) = [] := by kernel_rfl
 refine zq1178 zq1096 (zq1181 h lsNil) zq1092 zq1091 FUEL (fun rec x => ?_)
 kernel_rfl
def zq1094 : Con := con [.one (.fl .str)] [.one (.fl .bool)] (fun x => zq1099 x.1)
theorem zq1098 : TrOk Tryz.prog 112 zq1094 := by
 have h : zq1180 (zq662 Tryz.f112) = [(zq1259 (zq662 Tryz.f112) 0)] := by kernel_rfl
 refine zq665 zq1096 Tryz.func112 (zq511 h (zq1186 (zq1283 (t := (zq1177 zq1092 (loopN zq1091 FUEL))) (by kernel_rfl) zq1093) lsNil)) _ _ _ (fun x => ?_)
 kernel_rfl
def zq1697 : Env := mkEnv ty fnB [(75,zq1781),(108,zq1757),(109,zq1409),(110,zq1056),(111,zq404),(112,zq1094)] []
theorem zq1698 : EnvOk Tryz.prog zq1697 := envOk tyOk fn_ok (zq534 zq1785 (zq534 zq1761 (zq534 zq1413 (zq534 zq1060 (zq534 zq408 (zq534 zq1098 zq535)))))) _
def zq1696 : Con := con [.one (.fl .op)] [.one (.fl .int)] (fun x => zq1701 x.1)
theorem zq1700 : TrOk Tryz.prog 71 zq1696 := by
 have h : zq1180 (zq662 Tryz.f71) = [] := by kernel_rfl
 refine zq665 zq1698 Tryz.func71 (zq511 h lsNil) _ _ _ (fun x => ?_)
 kernel_rfl
def zq1137 : LoopS := { n := 48,base := 1,head := { keep := [0,9,10,11],vals := [.one (.cst (.row 0)),.one (.cst (.row 0)),.one (.fl .int),.one (.fl .int)],objs := [.row .entry 68 false] },exits := [⟨none,{ keep := [2],vals := [.one (.fl .int)],objs := [.row .entry 68 false] }⟩,⟨some 0,{ keep := [],vals := [],objs := [.row .entry 68 false] }⟩] }
def zq1140 : Env := mkEnv ty fnB [(102,zq1169),(71,zq1696)] [(4,(zq1177 zq1137 (loopN zq1136 FUEL)))]
theorem zq1141 : EnvOk Tryz.prog zq1140 := envOk tyOk fn_ok (zq534 zq1173 (zq534 zq1700 zq535)) _
theorem zq1138 : LOk Tryz.prog (zq1259 (zq662 Tryz.f57) 0) (zq1177 zq1137 (loopN zq1136 FUEL)) := by
 have h : zq1180 (zq1259 (zq662 Tryz.f57) 0) = [] := by kernel_rfl
 refine zq1178 zq1141 (zq1181 h lsNil) zq1137 zq1136 FUEL (fun rec x => ?_)
 kernel_rfl
def zq1139 : Con := con [.one (.row .entry 68)] [.one (.fl .int)] (fun x => zq1144 x.1)
theorem zq1143 : TrOk Tryz.prog 57 zq1139 := by
 have h : zq1180 (zq662 Tryz.f57) = [(zq1259 (zq662 Tryz.f57) 0)] := by kernel_rfl
 refine zq665 zq1141 Tryz.func57 (zq511 h (zq1186 (zq1283 (t := (zq1177 zq1137 (loopN zq1136 FUEL))) (by kernel_rfl) zq1138) lsNil)) _ _ _ (fun x => ?_)
 kernel_rfl
def zq763 : Env := mkEnv ty fnB [] []
theorem zq764 : EnvOk Tryz.prog zq763 := envOk tyOk fn_ok zq535 _
def zq762 : Con := con [.one (.fl .entry),.ref [.fl .int,.fl .int,.fl .int,.row .entry 68] 26] [.one (.fl .bool)] (fun x => zq766 x.1 x.2.1.1 x.2.1.2.1 x.2.1.2.2.1 x.2.1.2.2.2.1)
theorem zq765 : TrOk Tryz.prog 101 zq762 := by
 have h : zq1180 (zq662 Tryz.f101) = [] := by kernel_rfl
 refine zq665 zq764 Tryz.func101 (zq511 h lsNil) _ _ _ (fun x => ?_)
 kernel_rfl
def zq777 : LoopS := { n := 19,base := 2,head := { keep := [0,1,7,8],vals := [.one (.cst (.row 0)),.one (.cst (.fn 101 [.ptr 1 0])),.one (.fl .int),.one (.fl .int)],objs := [.row .entry 68 false,.blk [.fl .int,.fl .int,.fl .int,.cst (.row 0)] 26 true] },exits := [⟨none,{ keep := [4],vals := [.one (.fl .int)],objs := [.row .entry 68 false,.blk [.fl .int,.fl .int,.fl .int,.cst (.row 0)] 26 true] }⟩,⟨some 0,{ keep := [],vals := [],objs := [.row .entry 68 false,.blk [.fl .int,.fl .int,.fl .int,.cst (.row 0)] 26 true] }⟩] }
def zq779 : Env := mkEnv ty fnB [(101,zq762)] [(2,(zq1177 zq777 (loopN zq776 FUEL)))]
theorem zq780 : EnvOk Tryz.prog zq779 := envOk tyOk fn_ok (zq534 zq765 zq535) _
theorem zq778 : LOk Tryz.prog (zq1259 (zq662 Tryz.f126) 0) (zq1177 zq777 (loopN zq776 FUEL)) := by
 have h : zq1180 (zq1259 (zq662 Tryz.f126) 0) = [] := by kernel_rfl
 refine zq1178 zq780 (zq1181 h lsNil) zq777 zq776 FUEL (fun rec x => ?_)
 kernel_rfl
theorem zq781 : TrOk Tryz.prog 126 (zq919 zq779 Tryz.f126) := by
 have h : zq1180 (zq662 Tryz.f126) = [(zq1259 (zq662 Tryz.f126) 0)] := by kernel_rfl
 exact zq920 zq780 Tryz.func126 (zq511 h (zq1186 (zq1283 (t := (zq1177 zq777 (loopN zq776 FUEL))) (by kernel_rfl) zq778) lsNil))
def zq773 : Env := mkEnv ty fnB [(126,(zq919 zq779 Tryz.f126))] []
theorem zq774 : EnvOk Tryz.prog zq773 := envOk tyOk fn_ok (zq534 zq781 zq535) _
theorem zq775 : TrOk Tryz.prog 100 (zq919 zq773 Tryz.f100) := by
 have h : zq1180 (zq662 Tryz.f100) = [] := by kernel_rfl
 exact zq920 zq774 Tryz.func100 (zq511 h lsNil)
def zq768 : Env := mkEnv ty fnB [(79,zq805),(57,zq1139),(100,(zq919 zq773 Tryz.f100))] []
theorem zq769 : EnvOk Tryz.prog zq768 := envOk tyOk fn_ok (zq534 zq809 (zq534 zq1143 (zq534 zq775 zq535))) _
def zq767 : Con := con [.agg [.fl .int,.fl .int,.fl .int,.row .entry 68]] [.one (.fl .int)] (fun x => zq782 x.1.1 x.1.2.1 x.1.2.2.1 x.1.2.2.2.1)
theorem zq771 : TrOk Tryz.prog 54 zq767 := by
 have h : zq1180 (zq662 Tryz.f54) = [] := by kernel_rfl
 refine zq665 zq769 Tryz.func54 (zq511 h lsNil) _ _ _ (fun x => ?_)
 kernel_rfl
def zq1146 : Env := mkEnv ty fnB [] []
theorem zq1147 : EnvOk Tryz.prog zq1146 := envOk tyOk fn_ok zq535 _
def zq1145 : Con := con [.one (.fl .entry),.one (.fl .entry)] [.one (.fl .bool)] (fun x => zq1149 x.1 x.2.1)
theorem zq1148 : TrOk Tryz.prog 106 zq1145 := by
 have h : zq1180 (zq662 Tryz.f106) = [] := by kernel_rfl
 refine zq665 zq1147 Tryz.func106 (zq511 h lsNil) _ _ _ (fun x => ?_)
 kernel_rfl
def zq1156 : LoopS := { n := 32,base := 3,head := { keep := [1,2,15,16,17],vals := [.one (.cst (.row 2)),.one (.cst (.fn 106 [])),.one (.cst (.row 0)),.one (.fl .int),.one (.fl .int)],objs := [.row .entry 68 false,.row .entry 68 false,.row .entry 68 false] },exits := [⟨none,{ keep := [6],vals := [.one (.fl .bool)],objs := [.row .entry 68 false,.row .entry 68 false,.row .entry 68 false] }⟩,⟨some 0,{ keep := [],vals := [],objs := [.row .entry 68 false,.row .entry 68 false,.row .entry 68 false] }⟩] }
def zq1158 : Env := mkEnv ty fnB [(106,zq1145)] [(4,(zq1177 zq1156 (loopN zq1155 FUEL)))]
theorem zq1159 : EnvOk Tryz.prog zq1158 := envOk tyOk fn_ok (zq534 zq1148 zq535) _
theorem zq1157 : LOk Tryz.prog (zq1259 (zq662 Tryz.f105) 0) (zq1177 zq1156 (loopN zq1155 FUEL)) := by
 have h : zq1180 (zq1259 (zq662 Tryz.f105) 0) = [] := by kernel_rfl
 refine zq1178 zq1159 (zq1181 h lsNil) zq1156 zq1155 FUEL (fun rec x => ?_)
 kernel_rfl
theorem zq1160 : TrOk Tryz.prog 105 (zq919 zq1158 Tryz.f105) := by
 have h : zq1180 (zq662 Tryz.f105) = [(zq1259 (zq662 Tryz.f105) 0)] := by kernel_rfl
 exact zq920 zq1159 Tryz.func105 (zq511 h (zq1186 (zq1283 (t := (zq1177 zq1156 (loopN zq1155 FUEL))) (by kernel_rfl) zq1157) lsNil))
def zq1151 : Env := mkEnv ty fnB [(105,(zq919 zq1158 Tryz.f105))] []
theorem zq1152 : EnvOk Tryz.prog zq1151 := envOk tyOk fn_ok (zq534 zq1160 zq535) _
def zq1150 : Con := con [.one (.row .entry 68),.one (.row .entry 68)] [.one (.fl .bool)] (fun x => zq1161 x.1 x.2.1)
theorem zq1154 : TrOk Tryz.prog 68 zq1150 := by
 have h : zq1180 (zq662 Tryz.f68) = [] := by kernel_rfl
 refine zq665 zq1152 Tryz.func68 (zq511 h lsNil) _ _ _ (fun x => ?_)
 kernel_rfl
def zq649 : Env := mkEnv ty fnB [(42,zq654),(57,zq1139),(68,zq1150)] []
theorem zq650 : EnvOk Tryz.prog zq649 := envOk tyOk fn_ok (zq534 zq658 (zq534 zq1143 (zq534 zq1154 zq535))) _
def zq648 : Con := con [.agg [.fl .int,.fl .int,.fl .int,.fl .int,.row .entry 68,.nest .int .entry 56 68 true],.agg [.fl .int,.row .entry 68]] [.one (.fl .int)] (fun x => zq653 x.1.1 x.1.2.1 x.1.2.2.1 x.1.2.2.2.1 x.1.2.2.2.2.1 x.1.2.2.2.2.2.1 x.2.1.1 x.2.1.2.1)
theorem zq652 : TrOk Tryz.prog 55 zq648 := by
 have h : zq1180 (zq662 Tryz.f55) = [] := by kernel_rfl
 refine zq665 zq650 Tryz.func55 (zq511 h lsNil) _ _ _ (fun x => ?_)
 kernel_rfl
def zq595 : LoopS := { n := 85,base := 3,head := { keep := [1,26,27,28],vals := [.one (.cst (.ptr 3 0)),.one (.cst (.row 2)),.one (.fl .int),.one (.fl .int)],objs := [.row .entry 68 false,.bag .entry 68 false false,.nest .int 1 56 false,.blk [.fl .int,.fl .int,.fl .int,.fl .int,.cst (.row 0),.cst (.row 2)] 29 true] },exits := [⟨none,{ keep := [2],vals := [.one (.fl .int)],objs := [.row .entry 68 false,.bag .entry 68 false false,.nest .int 1 56 false] }⟩,⟨some 0,{ keep := [1],vals := [.one (.cst (.ptr 3 0))],objs := [.row .entry 68 false,.bag .entry 68 false false,.nest .int 1 56 false,.blk [.fl .int,.fl .int,.fl .int,.fl .int,.cst (.row 0),.cst (.row 2)] 29 true] }⟩] }
def zq592 : LoopS := { n := 85,base := 3,head := { keep := [1,57,58,59],vals := [.one (.cst (.ptr 3 0)),.one (.cst (.row 2)),.one (.fl .int),.one (.fl .int)],objs := [.row .entry 68 false,.bag .entry 68 false false,.nest .int 1 56 false,.blk [.fl .int,.fl .int,.fl .int,.fl .int,.cst (.row 0),.cst (.row 2)] 29 true] },exits := [⟨none,{ keep := [2],vals := [.one (.fl .int)],objs := [.row .entry 68 false,.bag .entry 68 false false,.nest .int 1 56 false] }⟩,⟨some 2,{ keep := [],vals := [],objs := [.row .entry 68 false,.bag .entry 68 false false,.nest .int 1 56 false] }⟩] }
def zq598 : Env := mkEnv ty fnB [(42,zq654),(54,zq767),(55,zq648)] [(9,(zq1177 zq595 (loopN zq594 FUEL))),(19,(zq1177 zq592 (loopN zq591 FUEL)))]
theorem zq599 : EnvOk Tryz.prog zq598 := envOk tyOk fn_ok (zq534 zq658 (zq534 zq771 (zq534 zq652 zq535))) _
theorem zq593 : LOk Tryz.prog (zq1259 (zq662 Tryz.f16) 1) (zq1177 zq592 (loopN zq591 FUEL)) := by
 have h : zq1180 (zq1259 (zq662 Tryz.f16) 1) = [] := by kernel_rfl
 refine zq1178 zq599 (zq1181 h lsNil) zq592 zq591 FUEL (fun rec x => ?_)
 kernel_rfl
theorem zq596 : LOk Tryz.prog (zq1259 (zq662 Tryz.f16) 0) (zq1177 zq595 (loopN zq594 FUEL)) := by
 have h : zq1180 (zq1259 (zq662 Tryz.f16) 0) = [] := by kernel_rfl
 refine zq1178 zq599 (zq1181 h lsNil) zq595 zq594 FUEL (fun rec x => ?_)
 kernel_rfl
def zq597 : Con := con [.agg [.fl .int,.fl .int,.fl .int,.fl .int,.row .entry 68,.nest .int .entry 56 68 true]] [.one (.fl .int)] (fun x => zq602 x.1.1 x.1.2.1 x.1.2.2.1 x.1.2.2.2.1 x.1.2.2.2.2.1 x.1.2.2.2.2.2.1)
theorem zq601 : TrOk Tryz.prog 16 zq597 := by
 have h : zq1180 (zq662 Tryz.f16) = [(zq1259 (zq662 Tryz.f16) 0),(zq1259 (zq662 Tryz.f16) 1)] := by kernel_rfl
 refine zq665 zq599 Tryz.func16 (zq511 h (zq1186 (zq1283 (t := (zq1177 zq595 (loopN zq594 FUEL))) (by kernel_rfl) zq596) (zq1186 (zq1283 (t := (zq1177 zq592 (loopN zq591 FUEL))) (by kernel_rfl) zq593) lsNil))) _ _ _ (fun x => ?_)
 kernel_rfl
def zq643 : Env := mkEnv ty fnB [(42,zq654)] []
theorem zq644 : EnvOk Tryz.prog zq643 := envOk tyOk fn_ok (zq534 zq658 zq535) _
def zq642 : Con := con [.one (.fl .int),.one (.fl .event)] [.one (.fl .int)] (fun x => zq647 x.1 x.2.1)
theorem zq646 : TrOk Tryz.prog 39 zq642 := by
 have h : zq1180 (zq662 Tryz.f39) = [] := by kernel_rfl
 refine zq665 zq644 Tryz.func39 (zq511 h lsNil) _ _ _ (fun x => ?_)
 kernel_rfl
def zq1645 : Env := mkEnv ty fnB [] []
theorem zq1646 : EnvOk Tryz.prog zq1645 := envOk tyOk fn_ok zq535 _
def zq1644 : Con := con [.one (.row .entry 68)] [.one (.row .entry 68)] (fun x => zq1648 x.1)
theorem zq1647 : TrOk Tryz.prog 87 zq1644 := by
 have h : zq1180 (zq662 Tryz.f87) = [] := by kernel_rfl
 refine zq665 zq1646 Tryz.func87 (zq511 h lsNil) _ _ _ (fun x => ?_)
 kernel_rfl
def zq793 : Env := mkEnv ty fnB [(87,zq1644)] []
theorem zq794 : EnvOk Tryz.prog zq793 := envOk tyOk fn_ok (zq534 zq1647 zq535) _
def zq792 : Con := con [.agg [.fl .int,.fl .int,.fl .int,.row .entry 68]] [.agg [.fl .int,.fl .int,.fl .int,.row .entry 68]] (fun x => zq797 x.1.1 x.1.2.1 x.1.2.2.1 x.1.2.2.2.1)
theorem zq796 : TrOk Tryz.prog 86 zq792 := by
 have h : zq1180 (zq662 Tryz.f86) = [] := by kernel_rfl
 refine zq665 zq794 Tryz.func86 (zq511 h lsNil) _ _ _ (fun x => ?_)
 kernel_rfl
def zq783 : Env := mkEnv ty fnB [] []
theorem zq784 : EnvOk Tryz.prog zq783 := envOk tyOk fn_ok zq535 _
theorem zq785 : TrOk Tryz.prog 122 (zq919 zq783 Tryz.f122) := by
 have h : zq1180 (zq662 Tryz.f122) = [] := by kernel_rfl
 exact zq920 zq784 Tryz.func122 (zq511 h lsNil)
def zq787 : Env := mkEnv ty fnB [(86,zq792),(122,(zq919 zq783 Tryz.f122))] []
theorem zq788 : EnvOk Tryz.prog zq787 := envOk tyOk fn_ok (zq534 zq796 (zq534 zq785 zq535)) _
def zq786 : Con := con [.agg [.fl .int,.fl .int,.fl .int,.row .entry 68],.one (.fl .int),.one (.fl .int)] [.agg [.fl .int,.fl .int,.fl .int,.row .entry 68],.one (.fl .int)] (fun x => zq791 x.1.1 x.1.2.1 x.1.2.2.1 x.1.2.2.2.1 x.2.1 x.2.2.1)
theorem zq790 : TrOk Tryz.prog 80 zq786 := by
 have h : zq1180 (zq662 Tryz.f80) = [] := by kernel_rfl
 refine zq665 zq788 Tryz.func80 (zq511 h lsNil) _ _ _ (fun x => ?_)
 kernel_rfl
def zq1163 : Env := mkEnv ty fnB [(102,zq1169),(71,zq1696),(87,zq1644)] []
theorem zq1164 : EnvOk Tryz.prog zq1163 := envOk tyOk fn_ok (zq534 zq1173 (zq534 zq1700 (zq534 zq1647 zq535))) _
def zq1162 : Con := con [.one (.row .entry 68),.one (.fl .int),.one (.fl .op)] [.one (.row .entry 68),.one (.fl .int)] (fun x => zq1167 x.1 x.2.1 x.2.2.1)
theorem zq1166 : TrOk Tryz.prog 83 zq1162 := by
 have h : zq1180 (zq662 Tryz.f83) = [] := by kernel_rfl
 refine zq665 zq1164 Tryz.func83 (zq511 h lsNil) _ _ _ (fun x => ?_)
 kernel_rfl
def zq799 : Env := mkEnv ty fnB [(83,zq1162)] []
theorem zq800 : EnvOk Tryz.prog zq799 := envOk tyOk fn_ok (zq534 zq1166 zq535) _
def zq798 : Con := con [.agg [.fl .int,.fl .int,.fl .int,.row .entry 68],.one (.fl .int),.one (.fl .op)] [.agg [.fl .int,.fl .int,.fl .int,.row .entry 68],.one (.fl .int)] (fun x => zq803 x.1.1 x.1.2.1 x.1.2.2.1 x.1.2.2.2.1 x.2.1 x.2.2.1)
theorem zq802 : TrOk Tryz.prog 81 zq798 := by
 have h : zq1180 (zq662 Tryz.f81) = [] := by kernel_rfl
 refine zq665 zq800 Tryz.func81 (zq511 h lsNil) _ _ _ (fun x => ?_)
 kernel_rfl
def zq1621 : Env := mkEnv ty fnB [(87,zq1644)] []
theorem zq1622 : EnvOk Tryz.prog zq1621 := envOk tyOk fn_ok (zq534 zq1647 zq535) _
def zq1620 : Con := con [.one (.row .entry 68),.one (.row .entry 68),.one (.fl .int)] [.one (.row .entry 68)] (fun x => zq1625 x.1 x.2.1 x.2.2.1)
theorem zq1624 : TrOk Tryz.prog 84 zq1620 := by
 have h : zq1180 (zq662 Tryz.f84) = [] := by kernel_rfl
 refine zq665 zq1622 Tryz.func84 (zq511 h lsNil) _ _ _ (fun x => ?_)
 kernel_rfl
def zq604 : Env := mkEnv ty fnB [] []
theorem zq605 : EnvOk Tryz.prog zq604 := envOk tyOk fn_ok zq535 _
theorem zq606 : TrOk Tryz.prog 88 (zq919 zq604 Tryz.f88) := by
 have h : zq1180 (zq662 Tryz.f88) = [] := by kernel_rfl
 exact zq920 zq605 Tryz.func88 (zq511 h lsNil)
def zq607 : Env := mkEnv ty fnB [(80,zq786),(88,(zq919 zq604 Tryz.f88)),(81,zq798),(84,zq1620)] []
theorem zq608 : EnvOk Tryz.prog zq607 := envOk tyOk fn_ok (zq534 zq790 (zq534 zq606 (zq534 zq802 (zq534 zq1624 zq535)))) _
theorem zq609 : TrOk Tryz.prog 41 (zq919 zq607 Tryz.f41) := by
 have h : zq1180 (zq662 Tryz.f41) = [] := by kernel_rfl
 exact zq920 zq608 Tryz.func41 (zq511 h lsNil)
def zq611 : LoopS := { n := 40,base := 9,head := { keep := [3,15,16,17],vals := [.one (.cst (.ptr 9 0)),.one (.cst (.row 2)),.one (.fl .int),.one (.fl .int)],objs := [.row .entry 68 false,.bag .entry 68 false false,.nest .int 1 56 false,.blk [.fl .int,.fl .int,.fl .int,.fl .int,.cst (.row 0),.cst (.row 2)] 29 true,.blk [.fl .event] 38 true,.blk [.fl .int,.fl .int,.fl .int,.fl .int,.cst (.row 6),.cst (.row 7)] 29 true,.row .entry 68 true,.nest .int 8 56 true,.bag .entry 68 true true,.blk [.fl .int,.fl .int,.fl .int,.fl .int,.cst (.row 10),.cst (.row 11)] 96 true,.row .entry 68 true,.nest .int 12 56 true,.bag .entry 68 true true] },exits := [⟨some 0,{ keep := [3],vals := [.one (.cst (.ptr 9 0))],objs := [.row .entry 68 false,.bag .entry 68 false false,.nest .int 1 56 false,.blk [.fl .int,.fl .int,.fl .int,.fl .int,.cst (.row 0),.cst (.row 2)] 29 true,.blk [.fl .event] 38 true,.blk [.fl .int,.fl .int,.fl .int,.fl .int,.cst (.row 6),.cst (.row 7)] 29 true,.row .entry 68 true,.nest .int 8 56 true,.bag .entry 68 true true,.blk [.fl .int,.fl .int,.fl .int,.fl .int,.cst (.row 10),.cst (.row 11)] 96 true,.row .entry 68 true,.nest .int 12 56 true,.bag .entry 68 true true] }⟩] }
def zq613 : Env := mkEnv ty fnB [(86,zq792),(87,zq1644)] [(3,(zq1177 zq611 (loopN zq610 FUEL)))]
theorem zq614 : EnvOk Tryz.prog zq613 := envOk tyOk fn_ok (zq534 zq796 (zq534 zq1647 zq535)) _
theorem zq612 : LOk Tryz.prog (zq1259 (zq662 Tryz.f40) 0) (zq1177 zq611 (loopN zq610 FUEL)) := by
 have h : zq1180 (zq1259 (zq662 Tryz.f40) 0) = [] := by kernel_rfl
 refine zq1178 zq614 (zq1181 h lsNil) zq611 zq610 FUEL (fun rec x => ?_)
 kernel_rfl
theorem zq615 : TrOk Tryz.prog 40 (zq919 zq613 Tryz.f40) := by
 have h : zq1180 (zq662 Tryz.f40) = [(zq1259 (zq662 Tryz.f40) 0)] := by kernel_rfl
 exact zq920 zq614 Tryz.func40 (zq511 h (zq1186 (zq1283 (t := (zq1177 zq611 (loopN zq610 FUEL))) (by kernel_rfl) zq612) lsNil))
def zq603 : List (Nat × JoinS) := [(13,{ n := 32,exits := [⟨some BIG,{ keep := [2,3,4,7],vals := [.one (.cst (.ptr 3 0)),.one (.cst (.ptr 4 0)),.one (.cst (.ptr 5 0)),.one (.fl .int)],objs := [.row .entry 68 false,.bag .entry 68 false false,.nest .int 1 56 false,.blk [.fl .int,.fl .int,.fl .int,.fl .int,.cst (.row 0),.cst (.row 2)] 29 true,.blk [.fl .event] 38 true,.blk [.fl .int,.fl .int,.fl .int,.fl .int,.cst (.row 6),.cst (.row 7)] 29 true,.row .entry 68 true,.nest .int 8 56 true,.bag .entry 68 true true] }⟩] })]
def zq617 : Env := mkEnv ty fnB [(16,zq597),(39,zq642),(41,(zq919 zq607 Tryz.f41)),(40,(zq919 zq613 Tryz.f40))] [] zq603
theorem zq618 : EnvOk Tryz.prog zq617 := envOk tyOk fn_ok (zq534 zq601 (zq534 zq646 (zq534 zq609 (zq534 zq615 zq535)))) _ _
def zq616 : Con := con [.agg [.fl .int,.fl .int,.fl .int,.fl .int,.row .entry 68,.nest .int .entry 56 68 true],.one (.fl .event)] [.agg [.fl .int,.fl .int,.fl .int,.fl .int,.row .entry 68,.nest .int .entry 56 68 true],.one (.fl .bool),.one (.fl .int)] (fun x => zq621 x.1.1 x.1.2.1 x.1.2.2.1 x.1.2.2.2.1 x.1.2.2.2.2.1 x.1.2.2.2.2.2.1 x.2.1)
theorem zq620 : TrOk Tryz.prog 9 zq616 := by
 have h : zq1180 (zq662 Tryz.f9) = [] := by kernel_rfl
 refine zq665 zq618 Tryz.func9 (zq511 h lsNil) _ _ _ (fun x => ?_)
 kernel_rfl
def zq1650 : Env := mkEnv ty fnB [] []
theorem zq1651 : EnvOk Tryz.prog zq1650 := envOk tyOk fn_ok zq535 _
def zq1649 : Con := con [.one (.row .lease 127)] [.one (.row .lease 127)] (fun x => zq1653 x.1)
theorem zq1652 : TrOk Tryz.prog 134 zq1649 := by
 have h : zq1180 (zq662 Tryz.f134) = [] := by kernel_rfl
 refine zq665 zq1651 Tryz.func134 (zq511 h lsNil) _ _ _ (fun x => ?_)
 kernel_rfl
def zq1640 : Env := mkEnv ty fnB [] []
theorem zq1641 : EnvOk Tryz.prog zq1640 := envOk tyOk fn_ok zq535 _
def zq1639 : Con := con [.one (.row .addr 32)] [.one (.row .addr 32)] (fun x => zq1643 x.1)
theorem zq1642 : TrOk Tryz.prog 135 zq1639 := by
 have h : zq1180 (zq662 Tryz.f135) = [] := by kernel_rfl
 refine zq665 zq1641 Tryz.func135 (zq511 h lsNil) _ _ _ (fun x => ?_)
 kernel_rfl
def zq1703 : LoopS := { n := 32,base := 3,head := { keep := [2,3,13,14,15],vals := [.one (.cst (.ptr 3 0)),.one (.cst (.ptr 4 0)),.one (.cst (.row 1)),.one (.fl .int),.one (.fl .int)],objs := [.bag .addr 32 false false,.nest .pfx 0 116 false,.row .lease 127 false,.blk [.cst (.row 5),.cst (.row 6),.fl .int] 45 true,.blk [.cst (.row 7),.cst (.row 8),.fl .int] 45 true,.nest .pfx 9 116 true,.row .lease 127 true,.nest .pfx 10 116 true,.row .lease 127 true,.bag .addr 32 true true,.bag .addr 32 true true] },exits := [⟨some 0,{ keep := [2,3],vals := [.one (.cst (.ptr 3 0)),.one (.cst (.ptr 4 0))],objs := [.bag .addr 32 false false,.nest .pfx 0 116 false,.row .lease 127 false,.blk [.cst (.row 5),.cst (.row 6),.fl .int] 45 true,.blk [.cst (.row 7),.cst (.row 8),.fl .int] 45 true,.nest .pfx 9 116 true,.row .lease 127 true,.nest .pfx 10 116 true,.row .lease 127 true,.bag .addr 32 true true,.bag .addr 32 true true] }⟩] }
def zq1706 : Env := mkEnv ty fnB [(134,zq1649),(135,zq1639)] [(3,(zq1177 zq1703 (loopN zq1702 FUEL)))]
theorem zq1707 : EnvOk Tryz.prog zq1706 := envOk tyOk fn_ok (zq534 zq1652 (zq534 zq1642 zq535)) _
theorem zq1704 : LOk Tryz.prog (zq1259 (zq662 Tryz.f127) 0) (zq1177 zq1703 (loopN zq1702 FUEL)) := by
 have h : zq1180 (zq1259 (zq662 Tryz.f127) 0) = [] := by kernel_rfl
 refine zq1178 zq1707 (zq1181 h lsNil) zq1703 zq1702 FUEL (fun rec x => ?_)
 kernel_rfl
def zq1705 : Con := con [.agg [.nest .pfx .addr 116 32 true,.row .lease 127,.fl .int]] [.agg [.nest .pfx .addr 116 32 true,.row .lease 127,.fl .int]] (fun x => zq1710 x.1.1 x.1.2.1 x.1.2.2.1)
theorem zq1709 : TrOk Tryz.prog 127 zq1705 := by
 have h : zq1180 (zq662 Tryz.f127) = [(zq1259 (zq662 Tryz.f127) 0)] := by kernel_rfl
 refine zq665 zq1707 Tryz.func127 (zq511 h (zq1186 (zq1283 (t := (zq1177 zq1703 (loopN zq1702 FUEL))) (by kernel_rfl) zq1704) lsNil)) _ _ _ (fun x => ?_)
 kernel_rfl
def zq1422 : Env := mkEnv ty fnB [(130,zq1415)] []
theorem zq1423 : EnvOk Tryz.prog zq1422 := envOk tyOk fn_ok (zq534 zq1419 zq535) _
def zq1421 : Con := con [.one (.fl .pfx),.one (.fl .addr)] [.one (.fl .bool)] (fun x => zq1426 x.1 x.2.1)
theorem zq1425 : TrOk Tryz.prog 113 zq1421 := by
 have h : zq1180 (zq662 Tryz.f113) = [] := by kernel_rfl
 refine zq665 zq1423 Tryz.func113 (zq511 h lsNil) _ _ _ (fun x => ?_)
 kernel_rfl
def zq1446 : Env := mkEnv ty fnB [(113,zq1421)] []
theorem zq1447 : EnvOk Tryz.prog zq1446 := envOk tyOk fn_ok (zq534 zq1425 zq535) _
def zq1445 : Con := con [.one (.fl .pfx),.one (.fl .pfx)] [.one (.fl .bool)] (fun x => zq1450 x.1 x.2.1)
theorem zq1449 : TrOk Tryz.prog 115 zq1445 := by
 have h : zq1180 (zq662 Tryz.f115) = [] := by kernel_rfl
 refine zq665 zq1447 Tryz.func115 (zq511 h lsNil) _ _ _ (fun x => ?_)
 kernel_rfl
def zq1434 : Env := mkEnv ty fnB [(115,zq1445)] []
theorem zq1435 : EnvOk Tryz.prog zq1434 := envOk tyOk fn_ok (zq534 zq1449 zq535) _
def zq1433 : Con := con [.one (.fl .pfx),.one (.fl .pfx)] [.one (.fl .bool)] (fun x => zq1438 x.1 x.2.1)
theorem zq1437 : TrOk Tryz.prog 74 zq1433 := by
 have h : zq1180 (zq662 Tryz.f74) = [] := by kernel_rfl
 refine zq665 zq1435 Tryz.func74 (zq511 h lsNil) _ _ _ (fun x => ?_)
 kernel_rfl
def zq369 : Env := mkEnv ty fnB [(74,zq1433)] []
theorem zq370 : EnvOk Tryz.prog zq369 := envOk tyOk fn_ok (zq534 zq1437 zq535) _
def zq368 : Con := con [.agg [.fl .pfx,.row .addr 32],.ref [.fl .pfx] 34] [.one (.fl .bool)] (fun x => zq372 x.1.1 x.1.2.1 x.2.1.1)
theorem zq371 : TrOk Tryz.prog 143 zq368 := by
 have h : zq1180 (zq662 Tryz.f143) = [] := by kernel_rfl
 refine zq665 zq370 Tryz.func143 (zq511 h lsNil) _ _ _ (fun x => ?_)
 kernel_rfl
def zq411 : Env := mkEnv ty fnB [] []
theorem zq412 : EnvOk Tryz.prog zq411 := envOk tyOk fn_ok zq535 _
def zq410 : Con := con [.one (.fl .u64),.one (.fl .u64)] [.one (.fl .int)] (fun x => zq414 x.1 x.2.1)
theorem zq413 : TrOk Tryz.prog 131 zq410 := by
 have h : zq1180 (zq662 Tryz.f131) = [] := by kernel_rfl
 refine zq665 zq412 Tryz.func131 (zq511 h lsNil) _ _ _ (fun x => ?_)
 kernel_rfl
def zq416 : Env := mkEnv ty fnB [(131,zq410)] []
theorem zq417 : EnvOk Tryz.prog zq416 := envOk tyOk fn_ok (zq534 zq413 zq535) _
def zq415 : Con := con [.one (.fl .addr),.one (.fl .addr)] [.one (.fl .int)] (fun x => zq420 x.1 x.2.1)
theorem zq419 : TrOk Tryz.prog 114 zq415 := by
 have h : zq1180 (zq662 Tryz.f114) = [] := by kernel_rfl
 refine zq665 zq417 Tryz.func114 (zq511 h lsNil) _ _ _ (fun x => ?_)
 kernel_rfl
def zq1440 : Env := mkEnv ty fnB [(114,zq415)] []
theorem zq1441 : EnvOk Tryz.prog zq1440 := envOk tyOk fn_ok (zq534 zq419 zq535) _
def zq1439 : Con := con [.one (.fl .pfx),.one (.fl .pfx)] [.one (.fl .int)] (fun x => zq1444 x.1 x.2.1)
theorem zq1443 : TrOk Tryz.prog 73 zq1439 := by
 have h : zq1180 (zq662 Tryz.f73) = [] := by kernel_rfl
 refine zq665 zq1441 Tryz.func73 (zq511 h lsNil) _ _ _ (fun x => ?_)
 kernel_rfl
def zq374 : Env := mkEnv ty fnB [(73,zq1439)] []
theorem zq375 : EnvOk Tryz.prog zq374 := envOk tyOk fn_ok (zq534 zq1443 zq535) _
def zq373 : Con := con [.agg [.fl .pfx,.row .addr 32],.one (.fl .pfx)] [.one (.fl .int)] (fun x => zq377 x.1.1 x.1.2.1 x.2.1)
theorem zq376 : TrOk Tryz.prog 145 zq373 := by
 have h : zq1180 (zq662 Tryz.f145) = [] := by kernel_rfl
 refine zq665 zq375 Tryz.func145 (zq511 h lsNil) _ _ _ (fun x => ?_)
 kernel_rfl
def zq1765 : Env := mkEnv ty fnB [(113,zq1421)] []
theorem zq1766 : EnvOk Tryz.prog zq1765 := envOk tyOk fn_ok (zq534 zq1425 zq535) _
def zq1764 : Con := con [.agg [.fl .pfx,.row .addr 32],.ref [.fl .addr] 32] [.one (.fl .bool)] (fun x => zq1768 x.1.1 x.1.2.1 x.2.1.1)
theorem zq1767 : TrOk Tryz.prog 119 zq1764 := by
 have h : zq1180 (zq662 Tryz.f119) = [] := by kernel_rfl
 refine zq665 zq1766 Tryz.func119 (zq511 h lsNil) _ _ _ (fun x => ?_)
 kernel_rfl
def zq1775 : LoopS := { n := 19,base := 5,head := { keep := [0,1,7,8],vals := [.one (.cst (.row 1)),.one (.cst (.fn 119 [.ptr 4 0])),.one (.fl .int),.one (.fl .int)],objs := [.bag .addr 32 false false,.nest .pfx 0 116 false,.row .lease 127 false,.blk [.cst (.row 1),.cst (.row 2),.fl .int] 45 true,.blk [.fl .addr] 32 true] },exits := [⟨none,{ keep := [4],vals := [.one (.fl .int)],objs := [.bag .addr 32 false false,.nest .pfx 0 116 false,.row .lease 127 false,.blk [.cst (.row 1),.cst (.row 2),.fl .int] 45 true,.blk [.fl .addr] 32 true] }⟩,⟨some 0,{ keep := [],vals := [],objs := [.bag .addr 32 false false,.nest .pfx 0 116 false,.row .lease 127 false,.blk [.cst (.row 1),.cst (.row 2),.fl .int] 45 true,.blk [.fl .addr] 32 true] }⟩] }
def zq1777 : Env := mkEnv ty fnB [(119,zq1764)] [(2,(zq1177 zq1775 (loopN zq1774 FUEL)))]
theorem zq1778 : EnvOk Tryz.prog zq1777 := envOk tyOk fn_ok (zq534 zq1767 zq535) _
theorem zq1776 : LOk Tryz.prog (zq1259 (zq662 Tryz.f118) 0) (zq1177 zq1775 (loopN zq1774 FUEL)) := by
 have h : zq1180 (zq1259 (zq662 Tryz.f118) 0) = [] := by kernel_rfl
 refine zq1178 zq1778 (zq1181 h lsNil) zq1775 zq1774 FUEL (fun rec x => ?_)
 kernel_rfl
theorem zq1779 : TrOk Tryz.prog 118 (zq919 zq1777 Tryz.f118) := by
 have h : zq1180 (zq662 Tryz.f118) = [(zq1259 (zq662 Tryz.f118) 0)] := by kernel_rfl
 exact zq920 zq1778 Tryz.func118 (zq511 h (zq1186 (zq1283 (t := (zq1177 zq1775 (loopN zq1774 FUEL))) (by kernel_rfl) zq1776) lsNil))
def zq1770 : Env := mkEnv ty fnB [(118,(zq919 zq1777 Tryz.f118))] []
theorem zq1771 : EnvOk Tryz.prog zq1770 := envOk tyOk fn_ok (zq534 zq1779 zq535) _
def zq1769 : Con := con [.agg [.nest .pfx .addr 116 32 true,.row .lease 127,.fl .int],.one (.fl .addr)] [.one (.fl .int)] (fun x => zq1780 x.1.1 x.1.2.1 x.1.2.2.1 x.2.1)
theorem zq1773 : TrOk Tryz.prog 77 zq1769 := by
 have h : zq1180 (zq662 Tryz.f77) = [] := by kernel_rfl
 refine zq665 zq1771 Tryz.func77 (zq511 h lsNil) _ _ _ (fun x => ?_)
 kernel_rfl
def zq353 : Env := mkEnv ty fnB [] []
theorem zq354 : EnvOk Tryz.prog zq353 := envOk tyOk fn_ok zq535 _
def zq352 : Con := con [.one (.fl .lease),.ref [.fl .str] 9] [.one (.fl .bool)] (fun x => zq356 x.1 x.2.1.1)
theorem zq355 : TrOk Tryz.prog 160 zq352 := by
 have h : zq1180 (zq662 Tryz.f160) = [] := by kernel_rfl
 refine zq665 zq354 Tryz.func160 (zq511 h lsNil) _ _ _ (fun x => ?_)
 kernel_rfl
def zq362 : LoopS := { n := 19,base := 5,head := { keep := [0,1,7,8],vals := [.one (.cst (.row 3)),.one (.cst (.fn 160 [.ptr 4 0])),.one (.fl .int),.one (.fl .int)],objs := [.blk [.cst (.row 2),.cst (.row 3),.fl .int] 174 false,.bag .addr 32 false false,.nest .pfx 1 116 false,.row .lease 127 false,.blk [.fl .str] 9 true] },exits := [⟨none,{ keep := [4],vals := [.one (.fl .int)],objs := [.blk [.cst (.row 2),.cst (.row 3),.fl .int] 174 false,.bag .addr 32 false false,.nest .pfx 1 116 false,.row .lease 127 false,.blk [.fl .str] 9 true] }⟩,⟨some 0,{ keep := [],vals := [],objs := [.blk [.cst (.row 2),.cst (.row 3),.fl .int] 174 false,.bag .addr 32 false false,.nest .pfx 1 116 false,.row .lease 127 false,.blk [.fl .str] 9 true] }⟩] }
def zq364 : Env := mkEnv ty fnB [(160,zq352)] [(2,(zq1177 zq362 (loopN zq361 FUEL)))]
theorem zq365 : EnvOk Tryz.prog zq364 := envOk tyOk fn_ok (zq534 zq355 zq535) _
theorem zq363 : LOk Tryz.prog (zq1259 (zq662 Tryz.f132) 0) (zq1177 zq362 (loopN zq361 FUEL)) := by
 have h : zq1180 (zq1259 (zq662 Tryz.f132) 0) = [] := by kernel_rfl
 refine zq1178 zq365 (zq1181 h lsNil) zq362 zq361 FUEL (fun rec x => ?_)
 kernel_rfl
theorem zq366 : TrOk Tryz.prog 132 (zq919 zq364 Tryz.f132) := by
 have h : zq1180 (zq662 Tryz.f132) = [(zq1259 (zq662 Tryz.f132) 0)] := by kernel_rfl
 exact zq920 zq365 Tryz.func132 (zq511 h (zq1186 (zq1283 (t := (zq1177 zq362 (loopN zq361 FUEL))) (by kernel_rfl) zq363) lsNil))
def zq358 : Env := mkEnv ty fnB [(132,(zq919 zq364 Tryz.f132))] []
theorem zq359 : EnvOk Tryz.prog zq358 := envOk tyOk fn_ok (zq534 zq366 zq535) _
def zq357 : Con := con [.ref [.nest .pfx .addr 116 32 true,.row .lease 127,.fl .int] 174,.one (.fl .str)] [.one (.fl .int)] (fun x => zq367 x.1.1 x.1.2.1 x.1.2.2.1 x.2.1)
theorem zq360 : TrOk Tryz.prog 149 zq357 := by
 have h : zq1180 (zq662 Tryz.f149) = [] := by kernel_rfl
 refine zq665 zq359 Tryz.func149 (zq511 h lsNil) _ _ _ (fun x => ?_)
 kernel_rfl
def zq1034 : Env := mkEnv ty fnB [] []
theorem zq1035 : EnvOk Tryz.prog zq1034 := envOk tyOk fn_ok zq535 _
def zq1033 : Con := con [.one (.fl .lease),.ref [.fl .int] 3] [.one (.fl .bool)] (fun x => zq1037 x.1 x.2.1.1)
theorem zq1036 : TrOk Tryz.prog 155 zq1033 := by
 have h : zq1180 (zq662 Tryz.f155) = [] := by kernel_rfl
 refine zq665 zq1035 Tryz.func155 (zq511 h lsNil) _ _ _ (fun x => ?_)
 kernel_rfl
def zq1050 : LoopS := { n := 19,base := 5,head := { keep := [0,1,7,8],vals := [.one (.cst (.row 3)),.one (.cst (.fn 155 [.ptr 1 0])),.one (.fl .int),.one (.fl .int)],objs := [.row .lease 127 false,.blk [.fl .int] 3 true,.row .lease 127 true,.row .lease 127 true,.row .lease 127 true] },exits := [⟨none,{ keep := [4],vals := [.one (.fl .int)],objs := [.row .lease 127 false,.blk [.fl .int] 3 true,.row .lease 127 true,.row .lease 127 true,.row .lease 127 true] }⟩,⟨some 0,{ keep := [],vals := [],objs := [.row .lease 127 false,.blk [.fl .int] 3 true,.row .lease 127 true,.row .lease 127 true,.row .lease 127 true] }⟩] }
def zq1052 : Env := mkEnv ty fnB [(155,zq1033)] [(2,(zq1177 zq1050 (loopN zq1049 FUEL)))]
theorem zq1053 : EnvOk Tryz.prog zq1052 := envOk tyOk fn_ok (zq534 zq1036 zq535) _
theorem zq1051 : LOk Tryz.prog (zq1259 (zq662 Tryz.f132) 0) (zq1177 zq1050 (loopN zq1049 FUEL)) := by
 have h : zq1180 (zq1259 (zq662 Tryz.f132) 0) = [] := by kernel_rfl
 refine zq1178 zq1053 (zq1181 h lsNil) zq1050 zq1049 FUEL (fun rec x => ?_)
 kernel_rfl
theorem zq1054 : TrOk Tryz.prog 132 (zq919 zq1052 Tryz.f132) := by
 have h : zq1180 (zq662 Tryz.f132) = [(zq1259 (zq662 Tryz.f132) 0)] := by kernel_rfl
 exact zq920 zq1053 Tryz.func132 (zq511 h (zq1186 (zq1283 (t := (zq1177 zq1050 (loopN zq1049 FUEL))) (by kernel_rfl) zq1051) lsNil))
def zq1044 : LoopS := { n := 42,base := 4,head := { keep := [0,1,5,6],vals := [.one (.cst (.row 3)),.one (.cst (.fn 155 [.ptr 1 0])),.one (.fl .int),.one (.fl .int)],objs := [.row .lease 127 false,.blk [.fl .int] 3 true,.row .lease 127 true,.row .lease 127 true] },exits := [⟨some 0,{ keep := [0,5],vals := [.one (.cst (.row 3)),.one (.fl .int)],objs := [.row .lease 127 false,.blk [.fl .int] 3 true,.row .lease 127 true,.row .lease 127 true] }⟩] }
def zq1046 : Env := mkEnv ty fnB [(155,zq1033),(132,(zq919 zq1052 Tryz.f132))] [(5,(zq1177 zq1044 (loopN zq1043 FUEL)))]
theorem zq1047 : EnvOk Tryz.prog zq1046 := envOk tyOk fn_ok (zq534 zq1036 (zq534 zq1054 zq535)) _
theorem zq1045 : LOk Tryz.prog (zq1259 (zq662 Tryz.f154) 0) (zq1177 zq1044 (loopN zq1043 FUEL)) := by
 have h : zq1180 (zq1259 (zq662 Tryz.f154) 0) = [] := by kernel_rfl
 refine zq1178 zq1047 (zq1181 h lsNil) zq1044 zq1043 FUEL (fun rec x => ?_)
 kernel_rfl
theorem zq1048 : TrOk Tryz.prog 154 (zq919 zq1046 Tryz.f154) := by
 have h : zq1180 (zq662 Tryz.f154) = [(zq1259 (zq662 Tryz.f154) 0)] := by kernel_rfl
 exact zq920 zq1047 Tryz.func154 (zq511 h (zq1186 (zq1283 (t := (zq1177 zq1044 (loopN zq1043 FUEL))) (by kernel_rfl) zq1045) lsNil))
def zq1039 : Env := mkEnv ty fnB [(134,zq1649),(154,(zq919 zq1046 Tryz.f154))] []
theorem zq1040 : EnvOk Tryz.prog zq1039 := envOk tyOk fn_ok (zq534 zq1652 (zq534 zq1048 zq535)) _
def zq1038 : Con := con [.one (.row .lease 127),.one (.fl .int)] [.one (.row .lease 127)] (fun x => zq1055 x.1 x.2.1)
theorem zq1042 : TrOk Tryz.prog 140 zq1038 := by
 have h : zq1180 (zq662 Tryz.f140) = [] := by kernel_rfl
 refine zq665 zq1040 Tryz.func140 (zq511 h lsNil) _ _ _ (fun x => ?_)
 kernel_rfl
def zq1063 : Env := mkEnv ty fnB [] []
theorem zq1064 : EnvOk Tryz.prog zq1063 := envOk tyOk fn_ok zq535 _
def zq1062 : Con := con [.one (.fl .lease),.ref [.fl .str] 9] [.one (.fl .bool)] (fun x => zq1066 x.1 x.2.1.1)
theorem zq1065 : TrOk Tryz.prog 161 zq1062 := by
 have h : zq1180 (zq662 Tryz.f161) = [] := by kernel_rfl
 refine zq665 zq1064 Tryz.func161 (zq511 h lsNil) _ _ _ (fun x => ?_)
 kernel_rfl
def zq1428 : Env := mkEnv ty fnB [(141,zq1457)] []
theorem zq1429 : EnvOk Tryz.prog zq1428 := envOk tyOk fn_ok (zq534 zq1461 zq535) _
def zq1427 : Con := con [.one (.fl .pfx)] [.one (.fl .addr)] (fun x => zq1432 x.1)
theorem zq1431 : TrOk Tryz.prog 187 zq1427 := by
 have h : zq1180 (zq662 Tryz.f187) = [] := by kernel_rfl
 refine zq665 zq1429 Tryz.func187 (zq511 h lsNil) _ _ _ (fun x => ?_)
 kernel_rfl
def zq399 : Env := mkEnv ty fnB [] []
theorem zq400 : EnvOk Tryz.prog zq399 := envOk tyOk fn_ok zq535 _
def zq398 : Con := con [.one (.fl .addr)] [.one (.fl .addr),.one (.fl .bool)] (fun x => zq403 x.1)
theorem zq402 : TrOk Tryz.prog 188 zq398 := by
 have h : zq1180 (zq662 Tryz.f188) = [] := by kernel_rfl
 refine zq665 zq400 Tryz.func188 (zq511 h lsNil) _ _ _ (fun x => ?_)
 kernel_rfl
def zq1663 : LoopS := { n := 19,base := 1,head := { keep := [0,3,7,8],vals := [.one (.cst (.row 0)),.one (.cst (.ptr 1 0)),.one (.fl .int),.one (.fl .int)],objs := [.row .addr 32 false,.blk [.fl .addr] 32 true] },exits := [⟨none,{ keep := [4],vals := [.one (.fl .int)],objs := [.row .addr 32 false] }⟩,⟨some 0,{ keep := [],vals := [],objs := [.row .addr 32 false] }⟩] }
def zq1666 : Env := mkEnv ty fnB [] [(2,(zq1177 zq1663 (loopN zq1662 FUEL)))]
theorem zq1667 : EnvOk Tryz.prog zq1666 := envOk tyOk fn_ok zq535 _
theorem zq1664 : LOk Tryz.prog (zq1259 (zq662 Tryz.f197) 0) (zq1177 zq1663 (loopN zq1662 FUEL)) := by
 have h : zq1180 (zq1259 (zq662 Tryz.f197) 0) = [] := by kernel_rfl
 refine zq1178 zq1667 (zq1181 h lsNil) zq1663 zq1662 FUEL (fun rec x => ?_)
 kernel_rfl
def zq1665 : Con := con [.one (.row .addr 32),.one (.fl .addr)] [.one (.fl .int)] (fun x => zq1669 x.1 x.2.1)
theorem zq1668 : TrOk Tryz.prog 197 zq1665 := by
 have h : zq1180 (zq662 Tryz.f197) = [(zq1259 (zq662 Tryz.f197) 0)] := by kernel_rfl
 refine zq665 zq1667 Tryz.func197 (zq511 h (zq1186 (zq1283 (t := (zq1177 zq1663 (loopN zq1662 FUEL))) (by kernel_rfl) zq1664) lsNil)) _ _ _ (fun x => ?_)
 kernel_rfl
def zq1655 : Env := mkEnv ty fnB [(197,zq1665)] []
theorem zq1656 : EnvOk Tryz.prog zq1655 := envOk tyOk fn_ok (zq534 zq1668 zq535) _
def zq1654 : Con := con [.one (.row .addr 32),.one (.fl .addr)] [.one (.fl .bool)] (fun x => zq1658 x.1 x.2.1)
theorem zq1657 : TrOk Tryz.prog 189 zq1654 := by
 have h : zq1180 (zq662 Tryz.f189) = [] := by kernel_rfl
 refine zq665 zq1656 Tryz.func189 (zq511 h lsNil) _ _ _ (fun x => ?_)
 kernel_rfl
def zq334 : Env := mkEnv ty fnB [] []
theorem zq335 : EnvOk Tryz.prog zq334 := envOk tyOk fn_ok zq535 _
def zq333 : Con := con [.one (.fl .lease),.ref [.fl .addr] 32] [.one (.fl .bool)] (fun x => zq337 x.1 x.2.1.1)
theorem zq336 : TrOk Tryz.prog 190 zq333 := by
 have h : zq1180 (zq662 Tryz.f190) = [] := by kernel_rfl
 refine zq665 zq335 Tryz.func190 (zq511 h lsNil) _ _ _ (fun x => ?_)
 kernel_rfl
def zq346 : LoopS := { n := 19,base := 4,head := { keep := [0,1,7,8],vals := [.one (.cst (.row 2)),.one (.cst (.fn 190 [.ptr 3 0])),.one (.fl .int),.one (.fl .int)],objs := [.blk [.fl .bool,.fl .u64,.fl .u64,.fl .int,.cst (.row 1),.cst (.row 2)] 204 false,.row .addr 32 false,.row .lease 127 false,.blk [.fl .addr] 32 false] },exits := [⟨none,{ keep := [4],vals := [.one (.fl .int)],objs := [.blk [.fl .bool,.fl .u64,.fl .u64,.fl .int,.cst (.row 1),.cst (.row 2)] 204 false,.row .addr 32 false,.row .lease 127 false,.blk [.fl .addr] 32 false] }⟩,⟨some 0,{ keep := [],vals := [],objs := [.blk [.fl .bool,.fl .u64,.fl .u64,.fl .int,.cst (.row 1),.cst (.row 2)] 204 false,.row .addr 32 false,.row .lease 127 false,.blk [.fl .addr] 32 false] }⟩] }
def zq348 : Env := mkEnv ty fnB [(190,zq333)] [(2,(zq1177 zq346 (loopN zq345 FUEL)))]
theorem zq349 : EnvOk Tryz.prog zq348 := envOk tyOk fn_ok (zq534 zq336 zq535) _
theorem zq347 : LOk Tryz.prog (zq1259 (zq662 Tryz.f132) 0) (zq1177 zq346 (loopN zq345 FUEL)) := by
 have h : zq1180 (zq1259 (zq662 Tryz.f132) 0) = [] := by kernel_rfl
 refine zq1178 zq349 (zq1181 h lsNil) zq346 zq345 FUEL (fun rec x => ?_)
 kernel_rfl
theorem zq350 : TrOk Tryz.prog 132 (zq919 zq348 Tryz.f132) := by
 have h : zq1180 (zq662 Tryz.f132) = [(zq1259 (zq662 Tryz.f132) 0)] := by kernel_rfl
 exact zq920 zq349 Tryz.func132 (zq511 h (zq1186 (zq1283 (t := (zq1177 zq346 (loopN zq345 FUEL))) (by kernel_rfl) zq347) lsNil))
def zq342 : Env := mkEnv ty fnB [(132,(zq919 zq348 Tryz.f132))] []
theorem zq343 : EnvOk Tryz.prog zq342 := envOk tyOk fn_ok (zq534 zq350 zq535) _
theorem zq344 : TrOk Tryz.prog 120 (flCon zq342 Tryz.f120 [.one (.fl .bool)]) := by
 have h : zq1180 (zq662 Tryz.f120) = [] := by kernel_rfl
 exact zq829 zq343 Tryz.func120 (zq511 h lsNil) [.one (.fl .bool)] rfl
def zq339 : Env := mkEnv ty fnB [(189,zq1654),(120,(flCon zq342 Tryz.f120 [.one (.fl .bool)]))] []
theorem zq340 : EnvOk Tryz.prog zq339 := envOk tyOk fn_ok (zq534 zq1657 (zq534 zq344 zq535)) _
def zq338 : Con := con [.ref [.fl .pfx,.row .addr 32,.row .lease 127] 204,.one (.fl .addr)] [.one (.fl .bool)] (fun x => zq351 x.1.1 x.1.2.1 x.1.2.2.1 x.2.1)
theorem zq341 : TrOk Tryz.prog 171 zq338 := by
 have h : zq1180 (zq662 Tryz.f171) = [] := by kernel_rfl
 refine zq665 zq340 Tryz.func171 (zq511 h lsNil) _ _ _ (fun x => ?_)
 kernel_rfl
def zq1068 : Env := mkEnv ty fnB [(114,zq415)] []
theorem zq1069 : EnvOk Tryz.prog zq1068 := envOk tyOk fn_ok (zq534 zq419 zq535) _
def zq1067 : Con := con [.one (.fl .lease),.one (.fl .lease)] [.one (.fl .int)] (fun x => zq1071 x.1 x.2.1)
theorem zq1070 : TrOk Tryz.prog 164 zq1067 := by
 have h : zq1180 (zq662 Tryz.f164) = [] := by kernel_rfl
 refine zq665 zq1069 Tryz.func164 (zq511 h lsNil) _ _ _ (fun x => ?_)
 kernel_rfl
def zq305 : Env := mkEnv ty fnB [] []
theorem zq306 : EnvOk Tryz.prog zq305 := envOk tyOk fn_ok zq535 _
def zq304 : Con := con [.one (.fl .int),.one (.fl .int),.one (.fl .int)] [.one (.fl .bool)] (fun x => zq309 x.1 x.2.1 x.2.2.1)
theorem zq308 : TrOk Tryz.prog 44 zq304 := by
 have h : zq1180 (zq662 Tryz.f44) = [] := by kernel_rfl
 refine zq665 zq306 Tryz.func44 (zq511 h lsNil) _ _ _ (fun x => ?_)
 kernel_rfl
def zq53 : Env := mkEnv ty fnB [] []
theorem zq54 : EnvOk Tryz.prog zq53 := envOk tyOk fn_ok zq535 _
def zq52 : Con := con [.one (.fl .addr)] [.one (.fl .int)] (fun x => zq57 x.1)
theorem zq56 : TrOk Tryz.prog 61 zq52 := by
 have h : zq1180 (zq662 Tryz.f61) = [] := by kernel_rfl
 refine zq665 zq54 Tryz.func61 (zq511 h lsNil) _ _ _ (fun x => ?_)
 kernel_rfl
def zq320 : Env := mkEnv ty fnB [] []
theorem zq321 : EnvOk Tryz.prog zq320 := envOk tyOk fn_ok zq535 _
def zq319 : Con := con [.one (.fl .addr)] [.one (.fl .int)] (fun x => zq324 x.1)
theorem zq323 : TrOk Tryz.prog 103 zq319 := by
 have h : zq1180 (zq662 Tryz.f103) = [] := by kernel_rfl
 refine zq665 zq321 Tryz.func103 (zq511 h lsNil) _ _ _ (fun x => ?_)
 kernel_rfl
def zq41 : LoopS := { n := 42,base := 0,head := { keep := [1,3,4],vals := [.one (.cst (.ptr 0 0)),.one (.cst (.row 1)),.one (.fl .int)],objs := [.blk [.fl .addr] 32 true,.row .u8 5 true] },exits := [⟨some 0,{ keep := [1,3],vals := [.one (.cst (.ptr 0 0)),.one (.cst (.row 1))],objs := [.blk [.fl .addr] 32 true,.row .u8 5 true] }⟩] }
def zq44 : LoopS := { n := 42,base := 0,head := { keep := [1,3,5],vals := [.one (.cst (.ptr 0 0)),.one (.cst (.row 1)),.one (.fl .int)],objs := [.blk [.fl .addr] 32 true,.row .u8 5 true] },exits := [⟨some 2,{ keep := [1,3],vals := [.one (.cst (.ptr 0 0)),.one (.cst (.row 1))],objs := [.blk [.fl .addr] 32 true,.row .u8 5 true] }⟩] }
def zq47 : Env := mkEnv ty fnB [] [(3,(zq1177 zq41 (loopN zq40 FUEL))),(7,(zq1177 zq44 (loopN zq43 FUEL)))]
theorem zq48 : EnvOk Tryz.prog zq47 := envOk tyOk fn_ok zq535 _
theorem zq45 : LOk Tryz.prog (zq1259 (zq662 Tryz.f104) 1) (zq1177 zq44 (loopN zq43 FUEL)) := by
 have h : zq1180 (zq1259 (zq662 Tryz.f104) 1) = [] := by kernel_rfl
 refine zq1178 zq48 (zq1181 h lsNil) zq44 zq43 FUEL (fun rec x => ?_)
 kernel_rfl
theorem zq42 : LOk Tryz.prog (zq1259 (zq662 Tryz.f104) 0) (zq1177 zq41 (loopN zq40 FUEL)) := by
 have h : zq1180 (zq1259 (zq662 Tryz.f104) 0) = [] := by kernel_rfl
 refine zq1178 zq48 (zq1181 h lsNil) zq41 zq40 FUEL (fun rec x => ?_)
 kernel_rfl
def zq46 : Con := con [.one (.fl .addr)] [.one (.fl .str)] (fun x => zq51 x.1)
theorem zq50 : TrOk Tryz.prog 104 zq46 := by
 have h : zq1180 (zq662 Tryz.f104) = [(zq1259 (zq662 Tryz.f104) 0),(zq1259 (zq662 Tryz.f104) 1)] := by kernel_rfl
 refine zq665 zq48 Tryz.func104 (zq511 h (zq1186 (zq1283 (t := (zq1177 zq41 (loopN zq40 FUEL))) (by kernel_rfl) zq42) (zq1186 (zq1283 (t := (zq1177 zq44 (loopN zq43 FUEL))) (by kernel_rfl) zq45) lsNil))) _ _ _ (fun x => ?_)
 kernel_rfl
def zq101 : LoopS := { n := 34,base := 0,head := { keep := [4,5],vals := [.one (.fl .str),.one (.fl .int)],objs := [] },exits := [⟨none,{ keep := [2],vals := [.one (.fl .int)],objs := [] }⟩,⟨some 0,{ keep := [],vals := [],objs := [] }⟩] }
def zq104 : Env := mkEnv ty fnB [(61,zq52),(103,zq319),(44,zq304),(104,zq46)] [(8,(zq1177 zq101 (loopN zq100 FUEL)))]
theorem zq105 : EnvOk Tryz.prog zq104 := envOk tyOk fn_ok (zq534 zq56 (zq534 zq323 (zq534 zq308 (zq534 zq50 zq535)))) _
theorem zq102 : LOk Tryz.prog (zq1259 (zq662 Tryz.f59) 0) (zq1177 zq101 (loopN zq100 FUEL)) := by
 have h : zq1180 (zq1259 (zq662 Tryz.f59) 0) = [] := by kernel_rfl
 refine zq1178 zq105 (zq1181 h lsNil) zq101 zq100 FUEL (fun rec x => ?_)
 kernel_rfl
def zq103 : Con := con [.one (.fl .pfx)] [.one (.fl .int)] (fun x => zq108 x.1)
theorem zq107 : TrOk Tryz.prog 59 zq103 := by
 have h : zq1180 (zq662 Tryz.f59) = [(zq1259 (zq662 Tryz.f59) 0)] := by kernel_rfl
 refine zq665 zq105 Tryz.func59 (zq511 h (zq1186 (zq1283 (t := (zq1177 zq101 (loopN zq100 FUEL))) (by kernel_rfl) zq102) lsNil)) _ _ _ (fun x => ?_)
 kernel_rfl
def zq188 : Env := mkEnv ty fnB [(103,zq319)] []
theorem zq189 : EnvOk Tryz.prog zq188 := envOk tyOk fn_ok (zq534 zq323 zq535) _
def zq187 : Con := con [.one (.fl .pfx)] [.one (.fl .bool)] (fun x => zq192 x.1)
theorem zq191 : TrOk Tryz.prog 60 zq187 := by
 have h : zq1180 (zq662 Tryz.f60) = [] := by kernel_rfl
 refine zq665 zq189 Tryz.func60 (zq511 h lsNil) _ _ _ (fun x => ?_)
 kernel_rfl
def zq194 : LoopS := { n := 27,base := 0,head := { keep := [0,3],vals := [.one (.fl .str),.one (.fl .int)],objs := [] },exits := [⟨none,{ keep := [2],vals := [.one (.fl .bool)],objs := [] }⟩,⟨some 0,{ keep := [0],vals := [.one (.fl .str)],objs := [] }⟩] }
def zq197 : Env := mkEnv ty fnB [(44,zq304)] [(2,(zq1177 zq194 (loopN zq193 FUEL)))]
theorem zq198 : EnvOk Tryz.prog zq197 := envOk tyOk fn_ok (zq534 zq308 zq535) _
theorem zq195 : LOk Tryz.prog (zq1259 (zq662 Tryz.f62) 0) (zq1177 zq194 (loopN zq193 FUEL)) := by
 have h : zq1180 (zq1259 (zq662 Tryz.f62) 0) = [] := by kernel_rfl
 refine zq1178 zq198 (zq1181 h lsNil) zq194 zq193 FUEL (fun rec x => ?_)
 kernel_rfl
def zq196 : Con := con [.one (.fl .str)] [.one (.fl .bool)] (fun x => zq201 x.1)
theorem zq200 : TrOk Tryz.prog 62 zq196 := by
 have h : zq1180 (zq662 Tryz.f62) = [(zq1259 (zq662 Tryz.f62) 0)] := by kernel_rfl
 refine zq665 zq198 Tryz.func62 (zq511 h (zq1186 (zq1283 (t := (zq1177 zq194 (loopN zq193 FUEL))) (by kernel_rfl) zq195) lsNil)) _ _ _ (fun x => ?_)
 kernel_rfl
def zq95 : Env := mkEnv ty fnB [(44,zq304),(59,zq103),(60,zq187),(61,zq52),(62,zq196)] []
theorem zq96 : EnvOk Tryz.prog zq95 := envOk tyOk fn_ok (zq534 zq308 (zq534 zq107 (zq534 zq191 (zq534 zq56 (zq534 zq200 zq535))))) _
def zq94 : Con := con [.one (.fl .op)] [.one (.fl .int)] (fun x => zq99 x.1)
theorem zq98 : TrOk Tryz.prog 22 zq94 := by
 have h : zq1180 (zq662 Tryz.f22) = [] := by kernel_rfl
 refine zq665 zq96 Tryz.func22 (zq511 h lsNil) _ _ _ (fun x => ?_)
 kernel_rfl
def zq86 : LoopS := { n := 54,base := 1,head := { keep := [0,3],vals := [.one (.cst (.row 0)),.one (.fl .int)],objs := [.row .entry 68 false] },exits := [⟨none,{ keep := [2],vals := [.one (.fl .int)],objs := [.row .entry 68 false] }⟩,⟨some 0,{ keep := [],vals := [],objs := [.row .entry 68 false] }⟩] }
def zq89 : Env := mkEnv ty fnB [(44,zq304),(22,zq94)] [(4,(zq1177 zq86 (loopN zq85 FUEL)))]
theorem zq90 : EnvOk Tryz.prog zq89 := envOk tyOk fn_ok (zq534 zq308 (zq534 zq98 zq535)) _
theorem zq87 : LOk Tryz.prog (zq1259 (zq662 Tryz.f46) 0) (zq1177 zq86 (loopN zq85 FUEL)) := by
 have h : zq1180 (zq1259 (zq662 Tryz.f46) 0) = [] := by kernel_rfl
 refine zq1178 zq90 (zq1181 h lsNil) zq86 zq85 FUEL (fun rec x => ?_)
 kernel_rfl
def zq88 : Con := con [.one (.row .entry 68)] [.one (.fl .int)] (fun x => zq93 x.1)
theorem zq92 : TrOk Tryz.prog 46 zq88 := by
 have h : zq1180 (zq662 Tryz.f46) = [(zq1259 (zq662 Tryz.f46) 0)] := by kernel_rfl
 refine zq665 zq90 Tryz.func46 (zq511 h (zq1186 (zq1283 (t := (zq1177 zq86 (loopN zq85 FUEL))) (by kernel_rfl) zq87) lsNil)) _ _ _ (fun x => ?_)
 kernel_rfl
def zq71 : LoopS := { n := 73,base := 1,head := { keep := [1,3,4],vals := [.one (.cst (.ptr 1 0)),.one (.fl .int),.one (.fl .int)],objs := [.row .entry 68 false,.blk [.fl .int,.fl .int,.fl .int,.cst (.row 0)] 26 true] },exits := [⟨some 0,{ keep := [3],vals := [.one (.fl .int)],objs := [.row .entry 68 false] }⟩] }
def zq74 : Env := mkEnv ty fnB [(44,zq304),(46,zq88)] [(7,(zq1177 zq71 (loopN zq70 FUEL)))]
theorem zq75 : EnvOk Tryz.prog zq74 := envOk tyOk fn_ok (zq534 zq308 (zq534 zq92 zq535)) _
theorem zq72 : LOk Tryz.prog (zq1259 (zq662 Tryz.f45) 0) (zq1177 zq71 (loopN zq70 FUEL)) := by
 have h : zq1180 (zq1259 (zq662 Tryz.f45) 0) = [] := by kernel_rfl
 refine zq1178 zq75 (zq1181 h lsNil) zq71 zq70 FUEL (fun rec x => ?_)
 kernel_rfl
def zq73 : Con := con [.agg [.fl .int,.fl .int,.fl .int,.row .entry 68]] [.one (.fl .int)] (fun x => zq78 x.1.1 x.1.2.1 x.1.2.2.1 x.1.2.2.2.1)
theorem zq77 : TrOk Tryz.prog 45 zq73 := by
 have h : zq1180 (zq662 Tryz.f45) = [(zq1259 (zq662 Tryz.f45) 0)] := by kernel_rfl
 refine zq665 zq75 Tryz.func45 (zq511 h (zq1186 (zq1283 (t := (zq1177 zq71 (loopN zq70 FUEL))) (by kernel_rfl) zq72) lsNil)) _ _ _ (fun x => ?_)
 kernel_rfl
def zq272 : LoopS := { n := 26,base := 2,head := { keep := [0,1,5],vals := [.one (.cst (.row 0)),.one (.cst (.row 1)),.one (.fl .int)],objs := [.row .entry 68 false,.row .entry 68 false] },exits := [⟨none,{ keep := [4],vals := [.one (.fl .bool)],objs := [.row .entry 68 false,.row .entry 68 false] }⟩,⟨some 0,{ keep := [],vals := [],objs := [.row .entry 68 false,.row .entry 68 false] }⟩] }
def zq275 : Env := mkEnv ty fnB [] [(4,(zq1177 zq272 (loopN zq271 FUEL)))]
theorem zq276 : EnvOk Tryz.prog zq275 := envOk tyOk fn_ok zq535 _
theorem zq273 : LOk Tryz.prog (zq1259 (zq662 Tryz.f67) 0) (zq1177 zq272 (loopN zq271 FUEL)) := by
 have h : zq1180 (zq1259 (zq662 Tryz.f67) 0) = [] := by kernel_rfl
 refine zq1178 zq276 (zq1181 h lsNil) zq272 zq271 FUEL (fun rec x => ?_)
 kernel_rfl
def zq274 : Con := con [.one (.row .entry 68),.one (.row .entry 68)] [.one (.fl .bool)] (fun x => zq279 x.1 x.2.1)
theorem zq278 : TrOk Tryz.prog 67 zq274 := by
 have h : zq1180 (zq662 Tryz.f67) = [(zq1259 (zq662 Tryz.f67) 0)] := by kernel_rfl
 refine zq665 zq276 Tryz.func67 (zq511 h (zq1186 (zq1283 (t := (zq1177 zq272 (loopN zq271 FUEL))) (by kernel_rfl) zq273) lsNil)) _ _ _ (fun x => ?_)
 kernel_rfl
def zq140 : Env := mkEnv ty fnB [(67,zq274)] []
theorem zq141 : EnvOk Tryz.prog zq140 := envOk tyOk fn_ok (zq534 zq278 zq535) _
def zq139 : Con := con [.one (.row .entry 68),.one (.row .entry 68)] [.one (.fl .bool)] (fun x => zq144 x.1 x.2.1)
theorem zq143 : TrOk Tryz.prog 47 zq139 := by
 have h : zq1180 (zq662 Tryz.f47) = [] := by kernel_rfl
 refine zq665 zq141 Tryz.func47 (zq511 h lsNil) _ _ _ (fun x => ?_)
 kernel_rfl
def zq62 : LoopS := { n := 108,base := 3,head := { keep := [1,4],vals := [.one (.cst (.ptr 3 0)),.one (.fl .int)],objs := [.row .entry 68 false,.bag .entry 68 false false,.nest .int 1 56 false,.blk [.fl .int,.fl .int,.fl .int,.fl .int,.cst (.row 0),.cst (.row 2)] 29 true] },exits := [⟨none,{ keep := [2],vals := [.one (.fl .int)],objs := [.row .entry 68 false,.bag .entry 68 false false,.nest .int 1 56 false] }⟩,⟨some 0,{ keep := [1],vals := [.one (.cst (.ptr 3 0))],objs := [.row .entry 68 false,.bag .entry 68 false false,.nest .int 1 56 false,.blk [.fl .int,.fl .int,.fl .int,.fl .int,.cst (.row 0),.cst (.row 2)] 29 true] }⟩] }
def zq59 : LoopS := { n := 108,base := 3,head := { keep := [1,6],vals := [.one (.cst (.ptr 3 0)),.one (.fl .int)],objs := [.row .entry 68 false,.bag .entry 68 false false,.nest .int 1 56 false,.blk [.fl .int,.fl .int,.fl .int,.fl .int,.cst (.row 0),.cst (.row 2)] 29 true] },exits := [⟨none,{ keep := [2],vals := [.one (.fl .int)],objs := [.row .entry 68 false,.bag .entry 68 false false,.nest .int 1 56 false] }⟩,⟨some 2,{ keep := [],vals := [],objs := [.row .entry 68 false,.bag .entry 68 false false,.nest .int 1 56 false] }⟩] }
def zq65 : Env := mkEnv ty fnB [(44,zq304),(45,zq73),(46,zq88),(47,zq139)] [(9,(zq1177 zq62 (loopN zq61 FUEL))),(21,(zq1177 zq59 (loopN zq58 FUEL)))]
theorem zq66 : EnvOk Tryz.prog zq65 := envOk tyOk fn_ok (zq534 zq308 (zq534 zq77 (zq534 zq92 (zq534 zq143 zq535)))) _
theorem zq60 : LOk Tryz.prog (zq1259 (zq662 Tryz.f11) 1) (zq1177 zq59 (loopN zq58 FUEL)) := by
 have h : zq1180 (zq1259 (zq662 Tryz.f11) 1) = [] := by kernel_rfl
 refine zq1178 zq66 (zq1181 h lsNil) zq59 zq58 FUEL (fun rec x => ?_)
 kernel_rfl
theorem zq63 : LOk Tryz.prog (zq1259 (zq662 Tryz.f11) 0) (zq1177 zq62 (loopN zq61 FUEL)) := by
 have h : zq1180 (zq1259 (zq662 Tryz.f11) 0) = [] := by kernel_rfl
 refine zq1178 zq66 (zq1181 h lsNil) zq62 zq61 FUEL (fun rec x => ?_)
 kernel_rfl
def zq64 : Con := con [.agg [.fl .int,.fl .int,.fl .int,.fl .int,.row .entry 68,.nest .int .entry 56 68 true]] [.one (.fl .int)] (fun x => zq69 x.1.1 x.1.2.1 x.1.2.2.1 x.1.2.2.2.1 x.1.2.2.2.2.1 x.1.2.2.2.2.2.1)
theorem zq68 : TrOk Tryz.prog 11 zq64 := by
 have h : zq1180 (zq662 Tryz.f11) = [(zq1259 (zq662 Tryz.f11) 0),(zq1259 (zq662 Tryz.f11) 1)] := by kernel_rfl
 refine zq665 zq66 Tryz.func11 (zq511 h (zq1186 (zq1283 (t := (zq1177 zq62 (loopN zq61 FUEL))) (by kernel_rfl) zq63) (zq1186 (zq1283 (t := (zq1177 zq59 (loopN zq58 FUEL))) (by kernel_rfl) zq60) lsNil))) _ _ _ (fun x => ?_)
 kernel_rfl
def zq80 : Env := mkEnv ty fnB [(44,zq304)] []
theorem zq81 : EnvOk Tryz.prog zq80 := envOk tyOk fn_ok (zq534 zq308 zq535) _
def zq79 : Con := con [.one (.fl .int),.one (.fl .event)] [.one (.fl .int)] (fun x => zq84 x.1 x.2.1)
theorem zq83 : TrOk Tryz.prog 12 zq79 := by
 have h : zq1180 (zq662 Tryz.f12) = [] := by kernel_rfl
 refine zq665 zq81 Tryz.func12 (zq511 h lsNil) _ _ _ (fun x => ?_)
 kernel_rfl
def zq11 : Env := mkEnv ty fnB [] []
theorem zq12 : EnvOk Tryz.prog zq11 := envOk tyOk fn_ok zq535 _
def zq10 : Con := lcon [.agg [.fl .int,.fl .int,.fl .int,.row .entry 68],.one (.fl .int),.one (.fl .int)] [.agg [.fl .int,.fl .int,.fl .int,.row .entry 68],.one (.fl .int)] (fun x => zq15 x.1.1 x.1.2.1 x.1.2.2.1 x.1.2.2.2.1 x.2.1 x.2.2.1)
theorem zq14 : TrOk Tryz.prog 48 zq10 := by
 have h : zq1180 (zq662 Tryz.f48) = [] := by kernel_rfl
 refine zq1032 zq12 Tryz.func48 (zq511 h lsNil) _ _ rfl rfl _ (fun x => ?_)
 kernel_rfl
def zq17 : Env := mkEnv ty fnB [(44,zq304),(22,zq94)] []
theorem zq18 : EnvOk Tryz.prog zq17 := envOk tyOk fn_ok (zq534 zq308 (zq534 zq98 zq535)) _
def zq16 : Con := con [.one (.row .entry 68),.one (.fl .int),.one (.fl .op)] [.one (.row .entry 68),.one (.fl .int)] (fun x => zq21 x.1 x.2.1 x.2.2.1)
theorem zq20 : TrOk Tryz.prog 90 zq16 := by
 have h : zq1180 (zq662 Tryz.f90) = [] := by kernel_rfl
 refine zq665 zq18 Tryz.func90 (zq511 h lsNil) _ _ _ (fun x => ?_)
 kernel_rfl
def zq299 : Env := mkEnv ty fnB [(90,zq16)] []
theorem zq300 : EnvOk Tryz.prog zq299 := envOk tyOk fn_ok (zq534 zq20 zq535) _
def zq298 : Con := con [.agg [.fl .int,.fl .int,.fl .int,.row .entry 68],.one (.fl .int),.one (.fl .op)] [.agg [.fl .int,.fl .int,.fl .int,.row .entry 68],.one (.fl .int)] (fun x => zq303 x.1.1 x.1.2.1 x.1.2.2.1 x.1.2.2.2.1 x.2.1 x.2.2.1)
theorem zq302 : TrOk Tryz.prog 49 zq298 := by
 have h : zq1180 (zq662 Tryz.f49) = [] := by kernel_rfl
 refine zq665 zq300 Tryz.func49 (zq511 h lsNil) _ _ _ (fun x => ?_)
 kernel_rfl
def zq32 : LoopS := { n := 33,base := 2,head := { keep := [0,1,2,7,8],vals := [.one (.cst (.row 0)),.one (.cst (.row 1)),.one (.fl .int),.one (.cst (.row 2)),.one (.fl .int)],objs := [.row .entry 68 false,.row .entry 68 false,.row .entry 68 true] },exits := [⟨some 0,{ keep := [7],vals := [.one (.cst (.row 2))],objs := [.row .entry 68 false,.row .entry 68 false,.row .entry 68 true] }⟩] }
def zq35 : Env := mkEnv ty fnB [] [(3,(zq1177 zq32 (loopN zq31 FUEL)))]
theorem zq36 : EnvOk Tryz.prog zq35 := envOk tyOk fn_ok zq535 _
theorem zq33 : LOk Tryz.prog (zq1259 (zq662 Tryz.f50) 0) (zq1177 zq32 (loopN zq31 FUEL)) := by
 have h : zq1180 (zq1259 (zq662 Tryz.f50) 0) = [] := by kernel_rfl
 refine zq1178 zq36 (zq1181 h lsNil) zq32 zq31 FUEL (fun rec x => ?_)
 kernel_rfl
def zq34 : Con := con [.one (.row .entry 68),.one (.row .entry 68),.one (.fl .int)] [.one (.row .entry 68)] (fun x => zq39 x.1 x.2.1 x.2.2.1)
theorem zq38 : TrOk Tryz.prog 50 zq34 := by
 have h : zq1180 (zq662 Tryz.f50) = [(zq1259 (zq662 Tryz.f50) 0)] := by kernel_rfl
 refine zq665 zq36 Tryz.func50 (zq511 h (zq1186 (zq1283 (t := (zq1177 zq32 (loopN zq31 FUEL))) (by kernel_rfl) zq33) lsNil)) _ _ _ (fun x => ?_)
 kernel_rfl
def zq146 : Env := mkEnv ty fnB [(48,zq10),(49,zq298),(50,zq34)] []
theorem zq147 : EnvOk Tryz.prog zq146 := envOk tyOk fn_ok (zq534 zq14 (zq534 zq302 (zq534 zq38 zq535))) _
def zq145 : Con := lcon [.agg [.fl .int,.fl .int,.fl .int,.fl .int,.row .entry 68,.nest .int .entry 56 68 true],.one (.fl .event)] [.agg [.fl .int,.fl .int,.fl .int,.fl .int,.row .entry 68,.nest .int .entry 56 68 false],.one (.fl .bool)] (fun x => zq150 x.1.1 x.1.2.1 x.1.2.2.1 x.1.2.2.2.1 x.1.2.2.2.2.1 x.1.2.2.2.2.2.1 x.2.1)
theorem zq149 : TrOk Tryz.prog 13 zq145 := by
 have h : zq1180 (zq662 Tryz.f13) = [] := by kernel_rfl
 refine zq1032 zq147 Tryz.func13 (zq511 h lsNil) _ _ rfl rfl _ (fun x => ?_)
 kernel_rfl
def zq167 : Env := mkEnv ty fnB [(104,zq46)] []
theorem zq168 : EnvOk Tryz.prog zq167 := envOk tyOk fn_ok (zq534 zq50 zq535) _
def zq166 : Con := con [.one (.fl .pfx),.one (.fl .addr)] [.one (.fl .bool)] (fun x => zq171 x.1 x.2.1)
theorem zq170 : TrOk Tryz.prog 97 zq166 := by
 have h : zq1180 (zq662 Tryz.f97) = [] := by kernel_rfl
 refine zq665 zq168 Tryz.func97 (zq511 h lsNil) _ _ _ (fun x => ?_)
 kernel_rfl
def zq173 : Env := mkEnv ty fnB [(97,zq166)] []
theorem zq174 : EnvOk Tryz.prog zq173 := envOk tyOk fn_ok (zq534 zq170 zq535) _
def zq172 : Con := con [.one (.fl .pfx),.one (.fl .pfx)] [.one (.fl .bool)] (fun x => zq177 x.1 x.2.1)
theorem zq176 : TrOk Tryz.prog 124 zq172 := by
 have h : zq1180 (zq662 Tryz.f124) = [] := by kernel_rfl
 refine zq665 zq174 Tryz.func124 (zq511 h lsNil) _ _ _ (fun x => ?_)
 kernel_rfl
def zq110 : Env := mkEnv ty fnB [(124,zq172)] []
theorem zq111 : EnvOk Tryz.prog zq110 := envOk tyOk fn_ok (zq534 zq176 zq535) _
def zq109 : Con := con [.one (.fl .pfx),.one (.fl .pfx)] [.one (.fl .bool)] (fun x => zq114 x.1 x.2.1)
theorem zq113 : TrOk Tryz.prog 91 zq109 := by
 have h : zq1180 (zq662 Tryz.f91) = [] := by kernel_rfl
 refine zq665 zq111 Tryz.func91 (zq511 h lsNil) _ _ _ (fun x => ?_)
 kernel_rfl
def zq179 : LoopS := { n := 39,base := 0,head := { keep := [5,6,7],vals := [.one (.fl .str),.one (.fl .str),.one (.fl .int)],objs := [] },exits := [⟨none,{ keep := [4],vals := [.one (.fl .bool)],objs := [] }⟩,⟨some 0,{ keep := [],vals := [],objs := [] }⟩] }
def zq182 : Env := mkEnv ty fnB [(104,zq46)] [(5,(zq1177 zq179 (loopN zq178 FUEL)))]
theorem zq183 : EnvOk Tryz.prog zq182 := envOk tyOk fn_ok (zq534 zq50 zq535) _
theorem zq180 : LOk Tryz.prog (zq1259 (zq662 Tryz.f95) 0) (zq1177 zq179 (loopN zq178 FUEL)) := by
 have h : zq1180 (zq1259 (zq662 Tryz.f95) 0) = [] := by kernel_rfl
 refine zq1178 zq183 (zq1181 h lsNil) zq179 zq178 FUEL (fun rec x => ?_)
 kernel_rfl
def zq181 : Con := con [.one (.fl .addr),.one (.fl .addr)] [.one (.fl .bool)] (fun x => zq186 x.1 x.2.1)
theorem zq185 : TrOk Tryz.prog 95 zq181 := by
 have h : zq1180 (zq662 Tryz.f95) = [(zq1259 (zq662 Tryz.f95) 0)] := by kernel_rfl
 refine zq665 zq183 Tryz.func95 (zq511 h (zq1186 (zq1283 (t := (zq1177 zq179 (loopN zq178 FUEL))) (by kernel_rfl) zq180) lsNil)) _ _ _ (fun x => ?_)
 kernel_rfl
def zq225 : Env := mkEnv ty fnB [(95,zq181)] []
theorem zq226 : EnvOk Tryz.prog zq225 := envOk tyOk fn_ok (zq534 zq185 zq535) _
def zq224 : Con := con [.one (.fl .pfx),.one (.fl .pfx)] [.one (.fl .bool)] (fun x => zq229 x.1 x.2.1)
theorem zq228 : TrOk Tryz.prog 92 zq224 := by
 have h : zq1180 (zq662 Tryz.f92) = [] := by kernel_rfl
 refine zq665 zq226 Tryz.func92 (zq511 h lsNil) _ _ _ (fun x => ?_)
 kernel_rfl
def zq216 : LoopS := { n := 22,base := 3,head := { keep := [2,3,5],vals := [.one (.cst (.ptr 3 0)),.one (.cst (.ptr 4 0)),.one (.fl .int)],objs := [.bag .addr 32 false false,.nest .pfx 0 116 false,.row .lease 127 false,.blk [.cst (.row 1),.cst (.row 2),.fl .int] 45 true,.blk [.fl .addr] 32 true] },exits := [⟨none,{ keep := [4],vals := [.one (.fl .int)],objs := [.bag .addr 32 false false,.nest .pfx 0 116 false,.row .lease 127 false] }⟩,⟨some 0,{ keep := [],vals := [],objs := [.bag .addr 32 false false,.nest .pfx 0 116 false,.row .lease 127 false] }⟩] }
def zq219 : Env := mkEnv ty fnB [(97,zq166)] [(2,(zq1177 zq216 (loopN zq215 FUEL)))]
theorem zq220 : EnvOk Tryz.prog zq219 := envOk tyOk fn_ok (zq534 zq170 zq535) _
theorem zq217 : LOk Tryz.prog (zq1259 (zq662 Tryz.f93) 0) (zq1177 zq216 (loopN zq215 FUEL)) := by
 have h : zq1180 (zq1259 (zq662 Tryz.f93) 0) = [] := by kernel_rfl
 refine zq1178 zq220 (zq1181 h lsNil) zq216 zq215 FUEL (fun rec x => ?_)
 kernel_rfl
def zq218 : Con := con [.agg [.nest .pfx .addr 116 32 true,.row .lease 127,.fl .int],.one (.fl .addr)] [.one (.fl .int)] (fun x => zq223 x.1.1 x.1.2.1 x.1.2.2.1 x.2.1)
theorem zq222 : TrOk Tryz.prog 93 zq218 := by
 have h : zq1180 (zq662 Tryz.f93) = [(zq1259 (zq662 Tryz.f93) 0)] := by kernel_rfl
 refine zq665 zq220 Tryz.func93 (zq511 h (zq1186 (zq1283 (t := (zq1177 zq216 (loopN zq215 FUEL))) (by kernel_rfl) zq217) lsNil)) _ _ _ (fun x => ?_)
 kernel_rfl
def zq311 : LoopS := { n := 18,base := 1,head := { keep := [0,3,5],vals := [.one (.cst (.row 0)),.one (.cst (.ptr 1 0)),.one (.fl .int)],objs := [.row .addr 32 false,.blk [.fl .addr] 32 true] },exits := [⟨none,{ keep := [4],vals := [.one (.fl .bool)],objs := [.row .addr 32 false] }⟩,⟨some 0,{ keep := [],vals := [],objs := [.row .addr 32 false] }⟩] }
def zq314 : Env := mkEnv ty fnB [] [(2,(zq1177 zq311 (loopN zq310 FUEL)))]
theorem zq315 : EnvOk Tryz.prog zq314 := envOk tyOk fn_ok zq535 _
theorem zq312 : LOk Tryz.prog (zq1259 (zq662 Tryz.f94) 0) (zq1177 zq311 (loopN zq310 FUEL)) := by
 have h : zq1180 (zq1259 (zq662 Tryz.f94) 0) = [] := by kernel_rfl
 refine zq1178 zq315 (zq1181 h lsNil) zq311 zq310 FUEL (fun rec x => ?_)
 kernel_rfl
def zq313 : Con := con [.one (.row .addr 32),.one (.fl .addr)] [.one (.fl .bool)] (fun x => zq318 x.1 x.2.1)
theorem zq317 : TrOk Tryz.prog 94 zq313 := by
 have h : zq1180 (zq662 Tryz.f94) = [(zq1259 (zq662 Tryz.f94) 0)] := by kernel_rfl
 refine zq665 zq315 Tryz.func94 (zq511 h (zq1186 (zq1283 (t := (zq1177 zq311 (loopN zq310 FUEL))) (by kernel_rfl) zq312) lsNil)) _ _ _ (fun x => ?_)
 kernel_rfl
def zq290 : LoopS := { n := 20,base := 1,head := { keep := [0,1,5],vals := [.one (.cst (.row 0)),.one (.fl .str),.one (.fl .int)],objs := [.row .lease 127 false] },exits := [⟨none,{ keep := [4],vals := [.one (.fl .int)],objs := [.row .lease 127 false] }⟩,⟨some 0,{ keep := [],vals := [],objs := [.row .lease 127 false] }⟩] }
def zq293 : Env := mkEnv ty fnB [] [(2,(zq1177 zq290 (loopN zq289 FUEL)))]
theorem zq294 : EnvOk Tryz.prog zq293 := envOk tyOk fn_ok zq535 _
theorem zq291 : LOk Tryz.prog (zq1259 (zq662 Tryz.f96) 0) (zq1177 zq290 (loopN zq289 FUEL)) := by
 have h : zq1180 (zq1259 (zq662 Tryz.f96) 0) = [] := by kernel_rfl
 refine zq1178 zq294 (zq1181 h lsNil) zq290 zq289 FUEL (fun rec x => ?_)
 kernel_rfl
def zq292 : Con := con [.one (.row .lease 127),.one (.fl .str)] [.one (.fl .int)] (fun x => zq297 x.1 x.2.1)
theorem zq296 : TrOk Tryz.prog 96 zq292 := by
 have h : zq1180 (zq662 Tryz.f96) = [(zq1259 (zq662 Tryz.f96) 0)] := by kernel_rfl
 refine zq665 zq294 Tryz.func96 (zq511 h (zq1186 (zq1283 (t := (zq1177 zq290 (loopN zq289 FUEL))) (by kernel_rfl) zq291) lsNil)) _ _ _ (fun x => ?_)
 kernel_rfl
def zq203 : LoopS := { n := 28,base := 1,head := { keep := [0,1,5,6],vals := [.one (.cst (.row 0)),.one (.fl .int),.one (.cst (.row 1)),.one (.fl .int)],objs := [.row .lease 127 false,.row .lease 127 true] },exits := [⟨some 0,{ keep := [5],vals := [.one (.cst (.row 1))],objs := [.row .lease 127 false,.row .lease 127 true] }⟩] }
def zq206 : Env := mkEnv ty fnB [] [(3,(zq1177 zq203 (loopN zq202 FUEL)))]
theorem zq207 : EnvOk Tryz.prog zq206 := envOk tyOk fn_ok zq535 _
theorem zq204 : LOk Tryz.prog (zq1259 (zq662 Tryz.f99) 0) (zq1177 zq203 (loopN zq202 FUEL)) := by
 have h : zq1180 (zq1259 (zq662 Tryz.f99) 0) = [] := by kernel_rfl
 refine zq1178 zq207 (zq1181 h lsNil) zq203 zq202 FUEL (fun rec x => ?_)
 kernel_rfl
def zq205 : Con := con [.one (.row .lease 127),.one (.fl .int)] [.one (.row .lease 127)] (fun x => zq210 x.1 x.2.1)
theorem zq209 : TrOk Tryz.prog 99 zq205 := by
 have h : zq1180 (zq662 Tryz.f99) = [(zq1259 (zq662 Tryz.f99) 0)] := by kernel_rfl
 refine zq665 zq207 Tryz.func99 (zq511 h (zq1186 (zq1283 (t := (zq1177 zq203 (loopN zq202 FUEL))) (by kernel_rfl) zq204) lsNil)) _ _ _ (fun x => ?_)
 kernel_rfl
def zq23 : LoopS := { n := 39,base := 0,head := { keep := [0,2,3,4],vals := [.one (.fl .str),.one (.cst (.ptr 0 0)),.one (.cst (.ptr 1 0)),.one (.fl .int)],objs := [.blk [.fl .addr] 32 true,.blk [.fl .addr] 32 true] },exits := [⟨some 0,{ keep := [2,3],vals := [.one (.cst (.ptr 0 0)),.one (.cst (.ptr 1 0))],objs := [.blk [.fl .addr] 32 true,.blk [.fl .addr] 32 true] }⟩] }
def zq26 : Env := mkEnv ty fnB [] [(3,(zq1177 zq23 (loopN zq22 FUEL)))]
theorem zq27 : EnvOk Tryz.prog zq26 := envOk tyOk fn_ok zq535 _
theorem zq24 : LOk Tryz.prog (zq1259 (zq662 Tryz.f133) 0) (zq1177 zq23 (loopN zq22 FUEL)) := by
 have h : zq1180 (zq1259 (zq662 Tryz.f133) 0) = [] := by kernel_rfl
 refine zq1178 zq27 (zq1181 h lsNil) zq23 zq22 FUEL (fun rec x => ?_)
 kernel_rfl
def zq25 : Con := con [.one (.fl .str)] [.one (.fl .addr)] (fun x => zq30 x.1)
theorem zq29 : TrOk Tryz.prog 133 zq25 := by
 have h : zq1180 (zq662 Tryz.f133) = [(zq1259 (zq662 Tryz.f133) 0)] := by kernel_rfl
 refine zq665 zq27 Tryz.func133 (zq511 h (zq1186 (zq1283 (t := (zq1177 zq23 (loopN zq22 FUEL))) (by kernel_rfl) zq24) lsNil)) _ _ _ (fun x => ?_)
 kernel_rfl
def zq1024 : Env := mkEnv ty fnB [] []
theorem zq1025 : EnvOk Tryz.prog zq1024 := envOk tyOk fn_ok zq535 _
def zq1023 : Con := con [.one (.fl .u64)] [.one (.fl .addr)] (fun x => zq1027 x.1)
theorem zq1026 : TrOk Tryz.prog 58 zq1023 := by
 have h : zq1180 (zq662 Tryz.f58) = [] := by kernel_rfl
 refine zq665 zq1025 Tryz.func58 (zq511 h lsNil) _ _ _ (fun x => ?_)
 kernel_rfl
def zq1008 : Env := mkEnv ty fnB [(58,zq1023)] []
theorem zq1009 : EnvOk Tryz.prog zq1008 := envOk tyOk fn_ok (zq534 zq1026 zq535) _
def zq1007 : Con := con [.one (.fl .u64),.one (.fl .int)] [.one (.fl .pfx)] (fun x => zq1011 x.1 x.2.1)
theorem zq1010 : TrOk Tryz.prog 82 zq1007 := by
 have h : zq1180 (zq662 Tryz.f82) = [] := by kernel_rfl
 refine zq665 zq1009 Tryz.func82 (zq511 h lsNil) _ _ _ (fun x => ?_)
 kernel_rfl
def zq1013 : Env := mkEnv ty fnB [(82,zq1007),(58,zq1023)] []
theorem zq1014 : EnvOk Tryz.prog zq1013 := envOk tyOk fn_ok (zq534 zq1010 (zq534 zq1026 zq535)) _
def zq1012 : Con := con [] [.one (.row .op 36)] (fun x => zq1016)
theorem zq1015 : TrOk Tryz.prog 33 zq1012 := by
 have h : zq1180 (zq662 Tryz.f33) = [] := by kernel_rfl
 refine zq665 zq1014 Tryz.func33 (zq511 h lsNil) _ _ _ (fun x => ?_)
 kernel_rfl
def zq1003 : Env := mkEnv ty fnB [(33,zq1012)] []
theorem zq1004 : EnvOk Tryz.prog zq1003 := envOk tyOk fn_ok (zq534 zq1015 zq535) _
def zq1002 : Con := con [] [.one (.row .event 38)] (fun x => zq1006)
theorem zq1005 : TrOk Tryz.prog 52 zq1002 := by
 have h : zq1180 (zq662 Tryz.f52) = [] := by kernel_rfl
 refine zq665 zq1004 Tryz.func52 (zq511 h lsNil) _ _ _ (fun x => ?_)
 kernel_rfl
def zq623 : Env := mkEnv ty fnB [] []
theorem zq624 : EnvOk Tryz.prog zq623 := envOk tyOk fn_ok zq535 _
def zq622 : Con := con [] [.agg [.fl .int,.fl .int,.fl .int,.fl .int,.row .entry 68,.nest .int .entry 56 68 true]] (fun x => zq626)
theorem zq625 : TrOk Tryz.prog 53 zq622 := by
 have h : zq1180 (zq662 Tryz.f53) = [] := by kernel_rfl
 refine zq665 zq624 Tryz.func53 (zq511 h lsNil) _ _ _ (fun x => ?_)
 kernel_rfl
def zq628 : LoopS := { n := 42,base := 1,head := { keep := [2,5,6,17,18,19],vals := [.one (.cst (.ptr 1 0)),.one (.cst (.ptr 2 0)),.one (.cst (.row 3)),.one (.cst (.row 0)),.one (.fl .int),.one (.fl .int)],objs := [.row .event 38 false,.blk [.fl .int,.fl .int,.fl .int,.fl .int,.cst (.row 4),.cst (.row 5)] 29 true,.blk [.fl .int,.fl .int,.fl .int,.fl .int,.cst (.row 6),.cst (.row 7)] 29 true,.row .bool 4 true,.row .entry 68 true,.nest .int 8 56 true,.row .entry 68 true,.nest .int 9 56 true,.bag .entry 68 true true,.bag .entry 68 true true] },exits := [⟨none,{ keep := [2,3,4],vals := [.one (.cst (.ptr 1 0)),.one (.cst (.row 2)),.one (.fl .int)],objs := [.row .event 38 false,.blk [.fl .int,.fl .int,.fl .int,.fl .int,.cst (.row 3),.cst (.row 4)] 29 true,.row .bool 4 true,.row .entry 68 true,.nest .int 5 56 true,.bag .entry 68 true true] }⟩,⟨some 0,{ keep := [2,5,6],vals := [.one (.cst (.ptr 1 0)),.one (.cst (.ptr 2 0)),.one (.cst (.row 3))],objs := [.row .event 38 false,.blk [.fl .int,.fl .int,.fl .int,.fl .int,.cst (.row 4),.cst (.row 5)] 29 true,.blk [.fl .int,.fl .int,.fl .int,.fl .int,.cst (.row 6),.cst (.row 7)] 29 true,.row .bool 4 true,.row .entry 68 true,.nest .int 8 56 true,.row .entry 68 true,.nest .int 9 56 true,.bag .entry 68 true true,.bag .entry 68 true true] }⟩] }
def zq631 : Env := mkEnv ty fnB [(53,zq622),(9,zq616)] [(6,(zq1177 zq628 (loopN zq627 FUEL)))]
theorem zq632 : EnvOk Tryz.prog zq631 := envOk tyOk fn_ok (zq534 zq625 (zq534 zq620 zq535)) _
theorem zq629 : LOk Tryz.prog (zq1259 (zq662 Tryz.f19) 0) (zq1177 zq628 (loopN zq627 FUEL)) := by
 have h : zq1180 (zq1259 (zq662 Tryz.f19) 0) = [] := by kernel_rfl
 refine zq1178 zq632 (zq1181 h lsNil) zq628 zq627 FUEL (fun rec x => ?_)
 kernel_rfl
def zq630 : Con := con [.one (.row .event 38)] [.agg [.fl .int,.fl .int,.fl .int,.fl .int,.row .entry 68,.nest .int .entry 56 68 true],.one (.row .bool 4),.one (.fl .int)] (fun x => zq635 x.1)
theorem zq634 : TrOk Tryz.prog 19 zq630 := by
 have h : zq1180 (zq662 Tryz.f19) = [(zq1259 (zq662 Tryz.f19) 0)] := by kernel_rfl
 refine zq665 zq632 Tryz.func19 (zq511 h (zq1186 (zq1283 (t := (zq1177 zq628 (loopN zq627 FUEL))) (by kernel_rfl) zq629) lsNil)) _ _ _ (fun x => ?_)
 kernel_rfl
def zq257 : Env := mkEnv ty fnB [(67,zq274)] []
theorem zq258 : EnvOk Tryz.prog zq257 := envOk tyOk fn_ok (zq534 zq278 zq535) _
def zq256 : Con := con [.agg [.fl .int,.fl .int,.fl .int,.row .entry 68],.agg [.fl .int,.fl .int,.fl .int,.row .entry 68]] [.one (.fl .bool)] (fun x => zq261 x.1.1 x.1.2.1 x.1.2.2.1 x.1.2.2.2.1 x.2.1.1 x.2.1.2.1 x.2.1.2.2.1 x.2.1.2.2.2.1)
theorem zq260 : TrOk Tryz.prog 66 zq256 := by
 have h : zq1180 (zq662 Tryz.f66) = [] := by kernel_rfl
 refine zq665 zq258 Tryz.func66 (zq511 h lsNil) _ _ _ (fun x => ?_)
 kernel_rfl
def zq249 : LoopS := { n := 64,base := 6,head := { keep := [2,3,5],vals := [.one (.cst (.ptr 6 0)),.one (.cst (.ptr 7 0)),.one (.fl .int)],objs := [.row .entry 68 false,.bag .entry 68 false false,.nest .int 1 56 false,.row .entry 68 false,.bag .entry 68 false false,.nest .int 4 56 false,.blk [.fl .int,.fl .int,.fl .int,.fl .int,.cst (.row 0),.cst (.row 2)] 29 true,.blk [.fl .int,.fl .int,.fl .int,.fl .int,.cst (.row 3),.cst (.row 5)] 29 true] },exits := [⟨none,{ keep := [4],vals := [.one (.fl .bool)],objs := [.row .entry 68 false,.bag .entry 68 false false,.nest .int 1 56 false,.row .entry 68 false,.bag .entry 68 false false,.nest .int 4 56 false] }⟩,⟨some 0,{ keep := [],vals := [],objs := [.row .entry 68 false,.bag .entry 68 false false,.nest .int 1 56 false,.row .entry 68 false,.bag .entry 68 false false,.nest .int 4 56 false] }⟩] }
def zq252 : Env := mkEnv ty fnB [(66,zq256),(67,zq274)] [(4,(zq1177 zq249 (loopN zq248 FUEL)))]
theorem zq253 : EnvOk Tryz.prog zq252 := envOk tyOk fn_ok (zq534 zq260 (zq534 zq278 zq535)) _
theorem zq250 : LOk Tryz.prog (zq1259 (zq662 Tryz.f25) 0) (zq1177 zq249 (loopN zq248 FUEL)) := by
 have h : zq1180 (zq1259 (zq662 Tryz.f25) 0) = [] := by kernel_rfl
 refine zq1178 zq253 (zq1181 h lsNil) zq249 zq248 FUEL (fun rec x => ?_)
 kernel_rfl
def zq251 : Con := con [.agg [.fl .int,.fl .int,.fl .int,.fl .int,.row .entry 68,.nest .int .entry 56 68 true],.agg [.fl .int,.fl .int,.fl .int,.fl .int,.row .entry 68,.nest .int .entry 56 68 true]] [.one (.fl .bool)] (fun x => zq255 x.1.1 x.1.2.1 x.1.2.2.1 x.1.2.2.2.1 x.1.2.2.2.2.1 x.1.2.2.2.2.2.1 x.2.1.1 x.2.1.2.1 x.2.1.2.2.1 x.2.1.2.2.2.1 x.2.1.2.2.2.2.1 x.2.1.2.2.2.2.2.1)
theorem zq254 : TrOk Tryz.prog 25 zq251 := by
 have h : zq1180 (zq662 Tryz.f25) = [(zq1259 (zq662 Tryz.f25) 0)] := by kernel_rfl
 refine zq665 zq253 Tryz.func25 (zq511 h (zq1186 (zq1283 (t := (zq1177 zq249 (loopN zq248 FUEL))) (by kernel_rfl) zq250) lsNil)) _ _ _ (fun x => ?_)
 kernel_rfl
def zq998 : Env := mkEnv ty fnB [(25,zq251)] []
theorem zq999 : EnvOk Tryz.prog zq998 := envOk tyOk fn_ok (zq534 zq254 zq535) _
def zq997 : Con := con [.agg [.fl .int,.fl .int,.fl .int,.fl .int,.row .entry 68,.nest .int .entry 56 68 true],.one (.fl .int),.one (.fl .int),.agg [.fl .int,.fl .int,.fl .int,.fl .int,.row .entry 68,.nest .int .entry 56 68 true]] [.one (.fl .bool)] (fun x => zq1001 x.1.1 x.1.2.1 x.1.2.2.1 x.1.2.2.2.1 x.1.2.2.2.2.1 x.1.2.2.2.2.2.1 x.2.1 x.2.2.1 x.2.2.2.1.1 x.2.2.2.1.2.1 x.2.2.2.1.2.2.1 x.2.2.2.1.2.2.2.1 x.2.2.2.1.2.2.2.2.1 x.2.2.2.1.2.2.2.2.2.1)
theorem zq1000 : TrOk Tryz.prog 17 zq997 := by
 have h : zq1180 (zq662 Tryz.f17) = [] := by kernel_rfl
 refine zq665 zq999 Tryz.func17 (zq511 h lsNil) _ _ _ (fun x => ?_)
 kernel_rfl
def zq263 : LoopS := { n := 26,base := 2,head := { keep := [0,1,5],vals := [.one (.cst (.row 0)),.one (.cst (.row 1)),.one (.fl .int)],objs := [.row .lease 127 false,.row .lease 127 false] },exits := [⟨none,{ keep := [4],vals := [.one (.fl .bool)],objs := [.row .lease 127 false,.row .lease 127 false] }⟩,⟨some 0,{ keep := [],vals := [],objs := [.row .lease 127 false,.row .lease 127 false] }⟩] }
def zq266 : Env := mkEnv ty fnB [] [(4,(zq1177 zq263 (loopN zq262 FUEL)))]
theorem zq267 : EnvOk Tryz.prog zq266 := envOk tyOk fn_ok zq535 _
theorem zq264 : LOk Tryz.prog (zq1259 (zq662 Tryz.f63) 0) (zq1177 zq263 (loopN zq262 FUEL)) := by
 have h : zq1180 (zq1259 (zq662 Tryz.f63) 0) = [] := by kernel_rfl
 refine zq1178 zq267 (zq1181 h lsNil) zq263 zq262 FUEL (fun rec x => ?_)
 kernel_rfl
def zq265 : Con := con [.one (.row .lease 127),.one (.row .lease 127)] [.one (.fl .bool)] (fun x => zq270 x.1 x.2.1)
theorem zq269 : TrOk Tryz.prog 63 zq265 := by
 have h : zq1180 (zq662 Tryz.f63) = [(zq1259 (zq662 Tryz.f63) 0)] := by kernel_rfl
 refine zq665 zq267 Tryz.func63 (zq511 h (zq1186 (zq1283 (t := (zq1177 zq263 (loopN zq262 FUEL))) (by kernel_rfl) zq264) lsNil)) _ _ _ (fun x => ?_)
 kernel_rfl
def zq240 : LoopS := { n := 26,base := 2,head := { keep := [0,1,5],vals := [.one (.cst (.row 0)),.one (.cst (.row 1)),.one (.fl .int)],objs := [.row .addr 32 false,.row .addr 32 false] },exits := [⟨none,{ keep := [4],vals := [.one (.fl .bool)],objs := [.row .addr 32 false,.row .addr 32 false] }⟩,⟨some 0,{ keep := [],vals := [],objs := [.row .addr 32 false,.row .addr 32 false] }⟩] }
def zq243 : Env := mkEnv ty fnB [] [(4,(zq1177 zq240 (loopN zq239 FUEL)))]
theorem zq244 : EnvOk Tryz.prog zq243 := envOk tyOk fn_ok zq535 _
theorem zq241 : LOk Tryz.prog (zq1259 (zq662 Tryz.f64) 0) (zq1177 zq240 (loopN zq239 FUEL)) := by
 have h : zq1180 (zq1259 (zq662 Tryz.f64) 0) = [] := by kernel_rfl
 refine zq1178 zq244 (zq1181 h lsNil) zq240 zq239 FUEL (fun rec x => ?_)
 kernel_rfl
def zq242 : Con := con [.one (.row .addr 32),.one (.row .addr 32)] [.one (.fl .bool)] (fun x => zq247 x.1 x.2.1)
theorem zq245 : TrOk Tryz.prog 64 zq242 := by
 have h : zq1180 (zq662 Tryz.f64) = [(zq1259 (zq662 Tryz.f64) 0)] := by kernel_rfl
 refine zq665 zq244 Tryz.func64 (zq511 h (zq1186 (zq1283 (t := (zq1177 zq240 (loopN zq239 FUEL))) (by kernel_rfl) zq241) lsNil)) _ _ _ (fun x => ?_)
 kernel_rfl
def zq281 : LoopS := { n := 64,base := 6,head := { keep := [2,3,5],vals := [.one (.cst (.ptr 6 0)),.one (.cst (.ptr 7 0)),.one (.fl .int)],objs := [.bag .addr 32 false false,.nest .pfx 0 116 false,.row .lease 127 false,.bag .addr 32 false false,.nest .pfx 3 116 false,.row .lease 127 false,.blk [.cst (.row 1),.cst (.row 2),.fl .int] 45 true,.blk [.cst (.row 4),.cst (.row 5),.fl .int] 45 true] },exits := [⟨none,{ keep := [4],vals := [.one (.fl .bool)],objs := [.bag .addr 32 false false,.nest .pfx 0 116 false,.row .lease 127 false,.bag .addr 32 false false,.nest .pfx 3 116 false,.row .lease 127 false] }⟩,⟨some 0,{ keep := [],vals := [],objs := [.bag .addr 32 false false,.nest .pfx 0 116 false,.row .lease 127 false,.bag .addr 32 false false,.nest .pfx 3 116 false,.row .lease 127 false] }⟩] }
def zq284 : Env := mkEnv ty fnB [(63,zq265),(64,zq242)] [(4,(zq1177 zq281 (loopN zq280 FUEL)))]
theorem zq285 : EnvOk Tryz.prog zq284 := envOk tyOk fn_ok (zq534 zq269 (zq534 zq245 zq535)) _
theorem zq282 : LOk Tryz.prog (zq1259 (zq662 Tryz.f23) 0) (zq1177 zq281 (loopN zq280 FUEL)) := by
 have h : zq1180 (zq1259 (zq662 Tryz.f23) 0) = [] := by kernel_rfl
 refine zq1178 zq285 (zq1181 h lsNil) zq281 zq280 FUEL (fun rec x => ?_)
 kernel_rfl
def zq283 : Con := con [.agg [.nest .pfx .addr 116 32 true,.row .lease 127,.fl .int],.agg [.nest .pfx .addr 116 32 true,.row .lease 127,.fl .int]] [.one (.fl .bool)] (fun x => zq288 x.1.1 x.1.2.1 x.1.2.2.1 x.2.1.1 x.2.1.2.1 x.2.1.2.2.1)
theorem zq286 : TrOk Tryz.prog 23 zq283 := by
 have h : zq1180 (zq662 Tryz.f23) = [(zq1259 (zq662 Tryz.f23) 0)] := by kernel_rfl
 refine zq665 zq285 Tryz.func23 (zq511 h (zq1186 (zq1283 (t := (zq1177 zq281 (loopN zq280 FUEL))) (by kernel_rfl) zq282) lsNil)) _ _ _ (fun x => ?_)
 kernel_rfl
def zq1018 : Env := mkEnv ty fnB [(23,zq283)] []
theorem zq1019 : EnvOk Tryz.prog zq1018 := envOk tyOk fn_ok (zq534 zq286 zq535) _
def zq1017 : Con := con [.agg [.nest .pfx .addr 116 32 true,.row .lease 127,.fl .int],.one (.fl .int),.one (.fl .int),.agg [.nest .pfx .addr 116 32 true,.row .lease 127,.fl .int]] [.one (.fl .bool)] (fun x => zq1022 x.1.1 x.1.2.1 x.1.2.2.1 x.2.1 x.2.2.1 x.2.2.2.1.1 x.2.2.2.1.2.1 x.2.2.2.1.2.2.1)
theorem zq1021 : TrOk Tryz.prog 18 zq1017 := by
 have h : zq1180 (zq662 Tryz.f18) = [] := by kernel_rfl
 refine zq665 zq1019 Tryz.func18 (zq511 h lsNil) _ _ _ (fun x => ?_)
 kernel_rfl
end Go.Proofs.YtjncjiegmnicbabGreat
namespace Go.Proofs.YtjncjiegmnicbabGreat
open Go Go.Ma Go.RowKit Go.Shelf Go.Proofs
attribute [local go_sem] Oper.semAt_some
def adV (a : Ad) : Value := .agg #[.bool a.v6,.int .u64 a.hi,.int .u64 a.lo]
def pfV (p : Pf) : Value := .agg #[.bool p.ad.v6,.int .u64 p.ad.hi,.int .u64 p.ad.lo,.int .i64 p.bits]
def CKept (A B : World) : Prop := ∀ (b : Nat) (c : Array Value) (t : TypeId) (z : Nat × Nat),A.heap[b]? = some (Go.Obj.cells c t z) → B.heap[b]? = some (Go.Obj.cells c t z)
theorem zq880 {P : Program} {A B : World} (h : Glob P A) (k : CKept A B) : Glob P B := by
 have key : ∀ (g : Nat) (v : Value),A.cell? ⟨g,0,none⟩ = some v → B.cell? ⟨g,0,none⟩ = some v := fun g v hv => by
  cases ho : A.heap[g]? with
  | none => unfold World.cell? at hv; rw [ho] at hv; cases hv
  | some o =>
   cases o with
   | cells c t z =>
    have hb := k g c t z ho
    unfold World.cell? at hv ⊢
    rw [ho] at hv
    rw [hb]
    exact hv
   | _ => unfold World.cell? at hv; rw [ho] at hv; simp at hv
 exact ⟨fun g hg => by obtain ⟨m,hm⟩ := h.num g hg; exact ⟨m,key g _ hm⟩,fun n g hn hg => by obtain ⟨ev,he,h2⟩ := h.err n g hn hg; exact ⟨ev,key g _ he,h2⟩,fun g hg => by obtain ⟨t,z,h1⟩ := h.pow g hg; exact ⟨t,z,k g _ t z h1⟩,fun g hg => by obtain ⟨t,z,h1⟩ := h.ctz g hg; exact ⟨t,z,k g _ t z h1⟩⟩
theorem CKept.trans {A B C : World} (h : CKept A B) (k : CKept B C) : CKept A C := fun b c t z hb => k b c t z (h b c t z hb)
theorem CKept.below {A B : World} (h : Below A.heap.size A B) : CKept A B := fun b c t z hb => (h.block b (zc27.1 hb).1).trans hb
theorem CKept.put {W : World} {l : Nat} {o : Go.Obj} (o' : Go.Obj) (h : W.heap[l]? = some o) (hc : o.isCells = false) : CKept W (W.putObj l o') := fun b c t z hb => by
 have hne : b ≠ l := by rintro rfl; rw [h] at hb; cases hb; cases hc
 exact (World.putObj_heap_other hne).trans hb
def adC (a : Ad) : Array Value := #[.bool a.v6,.int .u64 a.hi,.int .u64 a.lo]
def adAt (w : World) (v : Value) : Ad :=
 match v with
 | .pointer (some p) => (match w.heap[p.block]? with
  | some (Go.Obj.cells c _ _) => (match c.toList with | [.bool b,.int _ h,.int _ l] => ⟨b,h,l⟩ | _ => default)
  | _ => default)
 | _ => default
theorem zq382 {w : World} {D : Nat} {a : Ad} (h : w.heap[D]? = some (Go.Obj.cells (adC a) 32 (0,0))) : adAt w (.pointer (some ⟨D,0,none⟩)) = a := by
 simp [adAt,h,adC]
def leftA (last : Ad) (w : World) (v4 v5 : Value) : Nat :=
 match v5 with
 | .bool true => ((allA last 64 (adAt w v4)).getD []).length
 | _ => 0
theorem zq434 {last : Ad} : ∀ {k : Nat} {a : Ad} {r : List Ad},allA last k a = some r → ∀ {k' : Nat},k ≤ k' → allA last k' a = some r
 | 0,_,_,h,_,_ => by simp [allA] at h
 | k + 1,a,r,h,k',hk => by
  obtain ⟨q,rfl⟩ : ∃ q,k' = q + 1 := ⟨k' - 1,by omega⟩
  simp only [allA] at h ⊢
  rcases zq516 h with ⟨hc,h⟩ | ⟨hc,h⟩
  ·rw [hc]; exact h
  ·rw [hc]
   obtain ⟨y,hy,h⟩ := zc8.1 h
   simp only [br,hy,zc49]
   rcases zq516 h with ⟨hc2,h⟩ | ⟨hc2,h⟩
   ·rw [hc2]
    obtain ⟨r',hr',h⟩ := zc7.1 h
    simp only [zq434 hr' (show k ≤ q by omega),Option.map_some,h]
   ·rw [hc2]; exact h
theorem zq433 {last : Ad} : ∀ {k : Nat} {a : Ad} {r : List Ad},allA last k a = some r → ∃ r',r = a :: r'
 | 0,_,_,h => by simp [allA] at h
 | k + 1,a,r,h => by
  simp only [allA] at h
  rcases zq516 h with ⟨hc,h⟩ | ⟨hc,h⟩
  ·cases h; exact ⟨_,rfl⟩
  ·obtain ⟨y,hy,h⟩ := zc8.1 h
   rcases zq516 h with ⟨hc2,h⟩ | ⟨hc2,h⟩
   ·obtain ⟨r',hr',h⟩ := zc7.1 h
    exact ⟨r',h.symm⟩
   ·cases h; exact ⟨_,rfl⟩
theorem zq391 {W : World} {D : Nat} {a : Ad} (h : W.heap[D]? = some (Go.Obj.cells (adC a) 32 (0,0))) : W.cell? ⟨D,0,none⟩ = some (.bool a.v6) ∧ W.cell? ⟨D,1,none⟩ = some (.int .u64 a.hi) ∧ W.cell? ⟨D,2,none⟩ = some (.int .u64 a.lo) := by
 refine ⟨?_,?_,?_⟩ <;> simp [World.cell?,h,adC]
theorem zq1245 {W w : World} {a b c : Value} {t : TypeId} (h : Below (W.alloc (Go.Obj.cells #[a,b,c] t)).heap.size (W.alloc (Go.Obj.cells #[a,b,c] t)) w) :
  w.cell? ⟨W.heap.size,0,none⟩ = some a ∧ w.cell? ⟨W.heap.size,1,none⟩ = some b ∧ w.cell? ⟨W.heap.size,2,none⟩ = some c ∧ w.frozen? ⟨W.heap.size,0,none⟩ = false ∧ w.frozen? ⟨W.heap.size,1,none⟩ = false ∧ w.frozen? ⟨W.heap.size,2,none⟩ = false := by
 have : w.heap[W.heap.size]? = some (Go.Obj.cells #[a,b,c] t (0,0)) := (h.block _ (by simp)).trans (World.alloc_heap_new W _)
 refine ⟨?_,?_,?_,?_,?_,?_⟩ <;> simp [World.cell?,World.frozen?,this]
theorem zq1247 {W w : World} {a b c : Value} {t : TypeId} (h : Below (W.alloc (Go.Obj.cells #[a,b,c] t)).heap.size (W.alloc (Go.Obj.cells #[a,b,c] t)) w) : w.heap[W.heap.size]? = some (Go.Obj.cells #[a,b,c] t (0,0)) :=
 (h.block _ (by simp)).trans (World.alloc_heap_new W _)
theorem set3 {w : World} {N : Nat} {x y z a b c : Value} {t : TypeId} (h : w.heap[N]? = some (Go.Obj.cells #[x,y,z] t (0,0))) :
  (((w.setCell ⟨N,0,none⟩ a).setCell ⟨N,1,none⟩ b).setCell ⟨N,2,none⟩ c).heap[N]? = some (Go.Obj.cells #[a,b,c] t (0,0)) ∧
  (∀ k,k ≠ N → (((w.setCell ⟨N,0,none⟩ a).setCell ⟨N,1,none⟩ b).setCell ⟨N,2,none⟩ c).heap[k]? = w.heap[k]?) ∧
  Below N w (((w.setCell ⟨N,0,none⟩ a).setCell ⟨N,1,none⟩ b).setCell ⟨N,2,none⟩ c) := by
 obtain ⟨h1,h2,_⟩ := zq1609 w N 0 [a,b,c] #[x,y,z] t (0,0) h
 refine ⟨h1,h2,?_⟩
 exact (((Below.refl N w).setCell (p := ⟨N,0,none⟩) (zc47 _) _).setCell (p := ⟨N,1,none⟩) (zc47 _) _).setCell (p := ⟨N,2,none⟩) (zc47 _) _
theorem zq895 {X Y : World} {row : Option Nat} {b : Nat} {c : Array Value} {t : TypeId} (h : X.heap[b]? = some (Go.Obj.cells c t (0,0))) (hg : X.grownBy Y row) (hr : ∀ r,row = some r → ∃ o : Go.Obj,X.heap[r]? = some o ∧ o.isCells = false) : Y.heap[b]? = some (Go.Obj.cells c t (0,0)) :=
 (hg.block b (zc27.1 h).1 (fun e => by
  obtain ⟨o,ho,hc⟩ := hr b e.symm
  rw [h] at ho
  cases ho
  cases hc)).trans h
theorem zq1814 {w : World} {N : Nat} {a b c : Value} {t : TypeId} (this : w.heap[N]? = some (Go.Obj.cells #[a,b,c] t (0,0))) :
  w.cell? ⟨N,0,none⟩ = some a ∧ w.cell? ⟨N,1,none⟩ = some b ∧ w.cell? ⟨N,2,none⟩ = some c ∧ w.frozen? ⟨N,0,none⟩ = false ∧ w.frozen? ⟨N,1,none⟩ = false ∧ w.frozen? ⟨N,2,none⟩ = false := by
 refine ⟨?_,?_,?_,?_,?_,?_⟩ <;> simp [World.cell?,World.frozen?,this]
theorem zq896 (w : World) (o : Go.Obj) (k : Nat) : (w.alloc o).heap[k]? = if k = w.heap.size then some o else w.heap[k]? := by
 show (w.heap.push o)[k]? = _
 exact Array.getElem?_push
theorem get4 (w : World) (a b c d : Go.Obj) : ((((w.alloc a).alloc b).alloc c).alloc d).heap[w.heap.size]? = some a ∧ ((((w.alloc a).alloc b).alloc c).alloc d).heap[w.heap.size + 1]? = some b ∧ ((((w.alloc a).alloc b).alloc c).alloc d).heap[w.heap.size + 1 + 1]? = some c ∧ ((((w.alloc a).alloc b).alloc c).alloc d).heap[w.heap.size + 1 + 1 + 1]? = some d := by
 refine ⟨?_,?_,?_,?_⟩
 ·rw [zq896,if_neg (by simp only [World.size_alloc]; omega),zq896,if_neg (by simp only [World.size_alloc]; omega),zq896,if_neg (by simp only [World.size_alloc]; omega),zq896,if_pos rfl]
 ·rw [zq896,if_neg (by simp only [World.size_alloc]; omega),zq896,if_neg (by simp only [World.size_alloc]; omega),zq896,if_pos (by simp)]
 ·rw [zq896,if_neg (by simp only [World.size_alloc]; omega),zq896,if_pos (by simp)]
 ·rw [zq896,if_pos (by simp)]
theorem zq481 {A C : World} (hb : Below A.heap.size A C) : A.grownBy C none := ⟨hb.os,hb.tape,hb.output,hb.size,fun k hk _ => hb.block k hk⟩
theorem zq894 {A C : World} (hb : Below A.heap.size A C) {b : Nat} {o : Go.Obj} (h : A.heap[b]? = some o) : C.heap[b]? = some o := (hb.block b (zc27.1 h).1).trans h
theorem zq540 {W : World} {B : Nat} {v : Value} {t : TypeId} (h : W.heap[B]? = some (Go.Obj.cells #[v] t (0,0))) : W.cell? ⟨B,0,none⟩ = some v ∧ W.frozen? ⟨B,0,none⟩ = false := by
 constructor <;> simp [World.cell?,World.frozen?,h]
theorem zq512 {W : World} {B : Nat} {a b c d va vl : Value} {t : TypeId} (h : W.heap[B]? = some (Go.Obj.cells #[a,b,c,d,va,vl] t (0,0))) : W.cell? ⟨B,0,none⟩ = some a ∧ W.cell? ⟨B,1,none⟩ = some b ∧ W.cell? ⟨B,2,none⟩ = some c ∧ W.cell? ⟨B,3,none⟩ = some d := by
 refine ⟨?_,?_,?_,?_⟩ <;> simp [World.cell?,h]
set_option maxRecDepth 100000 in
set_option maxHeartbeats 2000000 in
theorem zq422 (n : Nat) (hn : 1 ≤ n) (l Bx B : Nat) (p : Pf) (va vl : Value) (last : Ad) (xs : List Ad) (J Jx : List Ad → World → Prop)
  (hJ : ∀ pre A C,J pre A → Below A.heap.size A C → J pre C)
  (hY : ∀ pre x W,J pre W → (pre ++ [x]) <+: xs → YieldAt Fence.wide (n - 1) Tryz.prog l #[adV x] W fun e W' => (e = .returned (.bool true) ∧ J (pre ++ [x]) W' ∧ CKept W W') ∨ (e = .returned (.bool false) ∧ Jx (pre ++ [x]) W'))
  (W : World) (hbox : W.heap[Bx]? = some (.cells #[.pointer (some ⟨B,0,none⟩)] 202 (0,0))) (hbook : W.heap[B]? = some (.cells #[.bool p.ad.v6,.int .u64 p.ad.hi,.int .u64 p.ad.lo,.int .i64 p.bits,va,vl] 204 (0,0))) (h0 : J [] W)
  (hlast : ∀ W,Glob Tryz.prog W → Calls Tryz.prog 187 #[pfV p] W fun e W' => e = .returned (adV last) ∧ Below W.heap.size W W')
  (hafter : ∀ a b ok W,Glob Tryz.prog W → zq403 a = some (b,ok,()) → Calls Tryz.prog 188 #[adV a] W fun e W' => e = .returned (.tuple #[adV b,.bool ok]) ∧ Below W.heap.size W W')
  (hall : allA last 64 p.ad = some xs) (hGW : Glob Tryz.prog W) :
  CallsIn Fence.wide n Tryz.prog 186 #[.func (.yield l) #[] #[],.pointer (some ⟨Bx,0,none⟩)] W fun e W' => (∃ v,e = .returned v) ∧ ((∃ ys,ys = xs ∧ J ys W') ∨ (∃ pre,pre <+: xs ∧ Jx pre W')) := by
 have cb : W.cell? ⟨Bx,0,none⟩ = some (.pointer (some ⟨B,0,none⟩)) := by simp [World.cell?,hbox]
 have c0 : W.cell? ⟨B,0,none⟩ = some (.bool p.ad.v6) := by simp [World.cell?,hbook]
 have c1 : W.cell? ⟨B,1,none⟩ = some (.int .u64 p.ad.hi) := by simp [World.cell?,hbook]
 have c2 : W.cell? ⟨B,2,none⟩ = some (.int .u64 p.ad.lo) := by simp [World.cell?,hbook]
 have c3 : W.cell? ⟨B,3,none⟩ = some (.int .i64 p.bits) := by simp [World.cell?,hbook]
 refine callsIn_of_wp Tryz.func186 rfl trivial ?_ rfl
 simp only [Tryz.ntmps186,List.size_toArray,zc21,zc32,Nat.reduceAdd,Nat.reduceSub,Array.replicate_succ,Array.replicate_zero,List.push_toArray,List.append_toArray,zc42,List.cons_append]
 have hlast' := hlast
 simp only [pfV,adV] at hlast'
 gi_wp2_with (refine ⟨trivial,?_⟩; gi_at_call 187; refine (callsIn_wide.2 (hlast' _ hGW)).mono ?_; rintro e w1 ⟨rfl,hb1⟩; have k1 := CKept.below hb1; have hbox1 := k1 _ _ _ _ hbox; have hbook1 := k1 _ _ _ _ hbook; have hB1 : B < w1.heap.size := (zc27.1 hbook1).1; have hX1 : Bx < w1.heap.size := (zc27.1 hbox1).1; have cb1 := (zq540 hbox1).1; obtain ⟨d0,d1,d2,d3⟩ := zq512 hbook1)
 have k0 := CKept.below ((((Below.refl w1.heap.size w1).alloc (zc47 _) (.cells (adC last) 32)).alloc (by simp) (.cells (adC p.ad) 32)))
 gi_loopw [4,5] (fun v4 v5 wr => ∃ (pre rest : List Ad) (D k : Nat) (a : Ad) (ok : Bool),v4 = .pointer (some ⟨D,0,none⟩) ∧ v5 = .bool ok ∧ xs = pre ++ rest ∧ wr.heap[D]? = some (Go.Obj.cells (adC a) 32 (0,0)) ∧ wr.heap[w1.heap.size]? = some (Go.Obj.cells (adC last) 32 (0,0)) ∧ k ≤ 64 ∧ (if ok then allA last k a = some rest else rest = []) ∧ J pre wr ∧ Glob Tryz.prog wr)
  (fun v4 v5 wr => leftA last wr v4 v5)
 case atStart =>
  refine ⟨[],xs,w1.heap.size + 1,64,p.ad,true,rfl,rfl,rfl,?_,?_,zc47 _,hall,?_,zq880 (hGW.mono hb1) k0⟩
  ·have := World.alloc_heap_new (w1.alloc (Go.Obj.cells (adC last) 32)) (Go.Obj.cells (adC p.ad) 32)
   simpa [adC] using this
  ·exact (Below.heap_alloc _ _ _ (by simp)).trans (World.alloc_heap_new w1 (Go.Obj.cells (adC last) 32))
  ·exact hJ _ _ _ h0 ((hb1.alloc hb1.size _).alloc (by have := hb1.size; simp; omega) _)
 case round =>
  obtain ⟨pre,rest,D,k,a,ok,rfl,rfl,hx,hD,hL,hk,hr,hJs,hGr⟩ := hrel
  cases ok with
  | false =>
   have hr : rest = [] := hr
   gi_wp2
   go_end0
   exact ⟨⟨_,rfl⟩,.inl ⟨pre,by simp [hx,hr],hJs⟩⟩
  | true =>
   have hr : allA last k a = some rest := hr
   have hfull := zq434 hr hk
   obtain ⟨e0,e1,e2⟩ := zq391 hD
   obtain ⟨f0,f1,f2⟩ := zq391 hL
   obtain ⟨r1,hr1⟩ := zq433 hr
   obtain ⟨fn,tmps,assign,body,hy,hR⟩ := hY pre a wr hJs (by rw [hx,hr1]; exact ⟨r1,by simp⟩)
   simp only [adV] at hy
   by_cases hal : a = last
   ·subst hal
    have hrest : rest = [a] := by
     cases k with
     | zero => simp [allA] at hr
     | succ k => simp only [allA,decide_true,br] at hr; cases hr; rfl
    gi_wp2
    refine hR.mono ?_
    rintro e W3 (⟨rfl,hJ3,hk3⟩ | ⟨rfl,hJx3⟩)
    ·have hD3 := hk3 _ _ _ _ hD
     have hL3 := hk3 _ _ _ _ hL
     obtain ⟨g0,g1,g2⟩ := zq391 hD3
     obtain ⟨i0,i1,i2⟩ := zq391 hL3
     gi_wp2
     refine bodyPost_ret (results_none rfl _ _ _) rfl ?_
     exact ⟨⟨_,rfl⟩,.inl ⟨_,by rw [hx,hrest],hJ3⟩⟩
    ·gi_wp2
     refine bodyPost_ret (results_none rfl _ _ _) rfl ?_
     exact ⟨⟨_,rfl⟩,.inr ⟨pre ++ [a],by rw [hx,hrest]; exact List.prefix_refl _,hJx3⟩⟩
   ·obtain ⟨b,ok',k',rest',hk',hrest,hb,hcall⟩ : ∃ (b : Ad) (ok' : Bool) (k' : Nat) (rest' : List Ad),k' ≤ 64 ∧ rest = a :: rest' ∧ (if ok' then allA last k' b = some rest' else rest' = []) ∧ zq403 a = some (b,ok',()) := by
     cases k with
     | zero => simp [allA] at hr
     | succ k =>
      simp only [allA,decide_eq_false hal,br] at hr
      obtain ⟨y,hy,hr⟩ := zc8.1 hr
      obtain ⟨b,ok',u⟩ := y
      cases ok' with
      | true =>
       obtain ⟨r',hr',hr⟩ := zc7.1 hr
       exact ⟨b,true,k,r',by omega,hr.symm,by simpa using hr',hy⟩
      | false =>
       cases hr
       exact ⟨b,false,k,[],by omega,rfl,by simp,hy⟩
    have HC : Hid (∀ v6 hi lo W,Glob Tryz.prog W → v6 = a.v6 → hi = a.hi → lo = a.lo → Calls Tryz.prog 188 #[.agg #[.bool v6,.int .u64 hi,.int .u64 lo]] W fun e W' => e = .returned (.tuple #[.agg #[.bool b.v6,.int .u64 b.hi,.int .u64 b.lo],.bool ok']) ∧ Below W.heap.size W W') := by
     rintro _ _ _ W hg rfl rfl rfl
     exact hafter a b ok' W hg hcall
    gi_wp2
    refine hR.mono ?_
    rintro e W3 (⟨rfl,hJ3,hk3⟩ | ⟨rfl,hJx3⟩)
    ·have hD3 := hk3 _ _ _ _ hD
     have hL3 := hk3 _ _ _ _ hL
     obtain ⟨g0,g1,g2⟩ := zq391 hD3
     obtain ⟨i0,i1,i2⟩ := zq391 hL3
     have hG3 := zq880 hGr hk3
     have hlt3 : w1.heap.size < W3.heap.size := (zc27.1 hL3).1
     clear hr hcall hafter hlast hlast' hY hy hR
     gi_wp2_with (refine ⟨trivial,?_⟩; gi_at_call 188; refine (callsIn_wide.2 (HC.out _ _ _ _ (hG3.mono ((Below.refl _ W3).alloc (zc47 _) _)) (by first | rfl | (symm; assumption)) (by first | rfl | (symm; assumption)) (by first | rfl | (symm; assumption)))).mono ?_; rintro e w4 ⟨rfl,hb4⟩; obtain ⟨n0,n1,n2,n3,n4,n5⟩ := zq1245 hb4)
     ·exact absurd (by cases a; cases last; simp_all) hal
     all_goals
      obtain ⟨s1,s2,s3⟩ := set3 (a := .bool b.v6) (b := .int .u64 b.hi) (c := .int .u64 b.lo) (zq1247 hb4)
      refine ⟨⟨pre ++ [a],rest',W3.heap.size,k',b,ok',rfl,rfl,by rw [hx,hrest]; simp,s1,?_,hk',hb,?_⟩,?_⟩
      ·rw [s2 _ (by omega),hb4.block _ (by simp; omega),Below.heap_alloc _ _ _ hlt3]
       exact hL3
      ·have hbb := (((Below.refl W3.heap.size W3).alloc (zc47 _) _).trans (hb4.mono (by simp))).trans s3
       exact ⟨hJ _ _ _ hJ3 hbb,hG3.mono hbb⟩
      ·have hl1 : leftA last wr (.pointer (some ⟨D,0,none⟩)) (.bool true) = rest.length := by
        simp only [leftA,zq382 hD,hfull,Option.getD_some]
       rw [hl1,hrest]
       cases ok' with
       | false => simp [leftA]
       | true =>
        simp only [leftA,zq382 s1,zq434 (by simpa using hb) hk',Option.getD_some,zc21]
        omega
    ·gi_wp2
     refine bodyPost_ret (results_none rfl _ _ _) rfl ?_
     exact ⟨⟨_,rfl⟩,.inr ⟨pre ++ [a],⟨rest',by rw [hx,hrest]; simp⟩,hJx3⟩⟩
set_option maxHeartbeats 1000000 in
/-- b.addresses(): the receiver is boxed; the function value captures the box. -/
theorem zq421 (n : Nat) (p0 : Option Addr) (w : World) :
  CallsIn Fence.wide n Tryz.prog 170 #[.pointer p0] w fun e w' => e = .returned (.func (.func 186) #[] #[.pointer (some ⟨w.heap.size,0,none⟩)]) ∧ w' = w.alloc (.cells #[.pointer p0] 202) := by
 refine callsIn_of_wp Tryz.func170 rfl trivial ?_ rfl
 simp only [Tryz.ntmps170,List.size_toArray,zc21,zc32,Nat.reduceAdd,Nat.reduceSub,Array.replicate_succ,Array.replicate_zero,List.push_toArray,List.append_toArray,zc42,List.cons_append]
 gi_wp2
 go_ret
 exact ⟨rfl,rfl⟩
def elA (xs : List Ad) (i : Nat) : Ad := xs.getD i (xs.headD default)
theorem zq733 {xs : List Ad} (h : xs ≠ []) (i : Nat) : elA xs i ∈ xs := by
 cases xs with
 | nil => exact absurd rfl h
 | cons a r =>
  unfold elA
  rw [zc3]
  cases hx : (a :: r)[i]? with
  | none => simp
  | some y => simpa using zc5 hx
theorem zq423 (n : Nat) (hn : 1 ≤ n) (Bx B : Nat) (p : Pf) (va vl : Value) (last : Ad) (xs : List Ad) (w : World)
  (hbox : w.heap[Bx]? = some (.cells #[.pointer (some ⟨B,0,none⟩)] 202 (0,0))) (hbook : w.heap[B]? = some (.cells #[.bool p.ad.v6,.int .u64 p.ad.hi,.int .u64 p.ad.lo,.int .i64 p.bits,va,vl] 204 (0,0)))
  (hlast : ∀ W,Glob Tryz.prog W → Calls Tryz.prog 187 #[pfV p] W fun e W' => e = .returned (adV last) ∧ Below W.heap.size W W')
  (hafter : ∀ a b ok W,Glob Tryz.prog W → zq403 a = some (b,ok,()) → Calls Tryz.prog 188 #[adV a] W fun e W' => e = .returned (.tuple #[adV b,.bool ok]) ∧ Below W.heap.size W W')
  (hall : allA last 64 p.ad = some xs) (hGw : Glob Tryz.prog w) :
  SeqStopsK Fence.wide n Tryz.prog 186 #[.pointer (some ⟨Bx,0,none⟩)] (fun i : Nat => #[adV (elA xs i)]) CKept (fun ys => ys = List.range xs.length) (fun pre => pre <+: List.range xs.length) xs.length w := by
 intro l J Jx W hW hJ hJx hY h0
 have hk := CKept.below hW
 refine (zq422 n hn l Bx B p va vl last xs (fun pre W => J (List.range pre.length) W) (fun pre W => Jx (List.range pre.length) W) (fun pre A C h hb => hJ _ A C none h ⟨hb.os,hb.tape,hb.output,hb.size,fun k hk _ => hb.block k hk⟩ (fun r e => by cases e)) ?_ W (hk _ _ _ _ hbox) (hk _ _ _ _ hbook) h0 hlast hafter hall (hGw.mono hW)).mono ?_
 ·intro pre x W1 hj hpre
  obtain ⟨t,ht⟩ := hpre
  have hlen : pre.length < xs.length := by rw [← ht]; simp
  have hel : elA xs pre.length = x := by
   unfold elA
   rw [zc3,← ht]
   simp
  have := hY (List.range pre.length) pre.length W1 hj (by simpa using hlen)
  simp only [hel] at this
  refine this.mono ?_
  rintro e W' (⟨h1,h2,h3⟩ | ⟨h1,h2⟩)
  ·exact .inl ⟨h1,by simpa [List.range_succ] using h2,h3⟩
  ·exact .inr ⟨h1,by simpa [List.range_succ] using h2⟩
 ·rintro e W' ⟨h1,h2⟩
  refine ⟨h1,h2.imp ?_ ?_⟩
  ·rintro ⟨ys,rfl,h⟩
   exact ⟨_,rfl,h⟩
  ·rintro ⟨pre,⟨t,ht⟩,h⟩
   refine ⟨_,?_,h⟩
   rw [← ht,zc24,List.range_add]
   exact List.prefix_append _ _
set_option maxRecDepth 100000 in
set_option maxHeartbeats 4000000 in
theorem zq827 (B : Nat) (p : Pf) (va vl : Value) (last : Ad) (xs : List Ad) (tk : Ad → Bool) (w : World) (hG : Glob Tryz.prog w) (hxs : xs ≠ [])
  (hbook : w.heap[B]? = some (.cells #[.bool p.ad.v6,.int .u64 p.ad.hi,.int .u64 p.ad.lo,.int .i64 p.bits,va,vl] 204 (0,0)))
  (hlast : ∀ W,Glob Tryz.prog W → Calls Tryz.prog 187 #[pfV p] W fun e W' => e = .returned (adV last) ∧ Below W.heap.size W W')
  (hafter : ∀ a b ok W,Glob Tryz.prog W → zq403 a = some (b,ok,()) → Calls Tryz.prog 188 #[adV a] W fun e W' => e = .returned (.tuple #[adV b,.bool ok]) ∧ Below W.heap.size W W')
  (htaken : ∀ a W,a ∈ xs → Below w.heap.size w W → Calls Tryz.prog 171 #[.pointer (some ⟨B,0,none⟩),adV a] W fun e W' => e = .returned (.bool (tk a)) ∧ Below W.heap.size W W')
  (hall : allA last 64 p.ad = some xs) (res : Ad × Bool) (hnone : Hid ((∀ i,i < xs.length → tk (elA xs i) = true) → res = (⟨false,0,0⟩,false))) (hsome : Hid (∀ i,i < xs.length → (∀ j,j < i → tk (elA xs j) = true) → tk (elA xs i) = false → res = (elA xs i,true))) :
  CallsIn Fence.wide 9 Tryz.prog 162 #[.pointer (some ⟨B,0,none⟩)] w fun e W' => e = .returned (.tuple #[adV res.1,.bool res.2]) ∧ Below w.heap.size w W' := by
 refine callsIn_of_wp_marks Tryz.func162 rfl trivial ?_ rfl
 simp only [Tryz.ntmps162,List.size_toArray,zc21,zc32,Nat.reduceAdd,Nat.reduceSub,Array.replicate_succ,Array.replicate_zero,List.push_toArray,List.append_toArray,zc42,List.cons_append]
 gi_wp2_with (refine ⟨trivial,?_⟩; gi_at_call 170; refine (zq421 _ _ _).mono ?_; rintro e w' ⟨rfl,rfl⟩)
 have hB0 : Below w.heap.size w ((((w.alloc (Go.Obj.cells #[.pointer (some ⟨B,0,none⟩)] 202)).alloc (Go.Obj.cells #[.bool false,.int .u64 0,.int .u64 0] 32)).alloc (Go.Obj.cells #[.bool false] 4)).alloc (Go.Obj.cells #[.pointer (some ⟨B,0,none⟩)] 202)) :=
  ((((Below.refl _ w).alloc (zc47 _) _).alloc (by simp) _).alloc (by simp; omega) _).alloc (by simp; omega) _
 have hsz : ((((w.alloc (Go.Obj.cells #[.pointer (some ⟨B,0,none⟩)] 202)).alloc (Go.Obj.cells #[.bool false,.int .u64 0,.int .u64 0] 32)).alloc (Go.Obj.cells #[.bool false] 4)).alloc (Go.Obj.cells #[.pointer (some ⟨B,0,none⟩)] 202)).heap.size = w.heap.size + 4 := by simp
 obtain ⟨b1,b2,b3,b4⟩ := get4 w (Go.Obj.cells #[.pointer (some ⟨B,0,none⟩)] 202) (Go.Obj.cells #[.bool false,.int .u64 0,.int .u64 0] 32) (Go.Obj.cells #[.bool false] 4) (Go.Obj.cells #[.pointer (some ⟨B,0,none⟩)] 202)
 obtain ⟨W0,hW0⟩ : ∃ W0,(((w.alloc (Go.Obj.cells #[.pointer (some ⟨B,0,none⟩)] 202)).alloc (Go.Obj.cells #[.bool false,.int .u64 0,.int .u64 0] 32)).alloc (Go.Obj.cells #[.bool false] 4)).alloc (Go.Obj.cells #[.pointer (some ⟨B,0,none⟩)] 202) = W0 := ⟨_,rfl⟩
 rw [hW0] at hB0 hsz b1 b2 b3 b4 ⊢
 have hbook0 := CKept.below hB0 _ _ _ _ hbook
 clear hW0
 refine wpIn_rangeFunc_ownH (F := Fence.wide) (n := 9) rfl (by omega) (gf := 186) (lb := #[.pointer (some ⟨w.heap.size + 1 + 1 + 1,0,none⟩)]) rfl trivial (enters_of Tryz.func186 (by kernel_rfl) rfl)
  (zq423 8 (by omega) (w.heap.size + 1 + 1 + 1) B p va vl last xs W0 b4 hbook0 hlast hafter hall (hG.mono hB0)) (fun h k => h.trans k) (fun W l o o' _ hl hc _ => CKept.put o' hl hc) (Below.refl _ _) (fun _ => rfl)
  (fun pre W => ((∀ i ∈ pre,tk (elA xs i) = true) ∧ W.heap[w.heap.size]? = some (Go.Obj.cells #[.pointer (some ⟨B,0,none⟩)] 202 (0,0)) ∧ W.heap[w.heap.size + 1]? = some (Go.Obj.cells #[.bool false,.int .u64 0,.int .u64 0] 32 (0,0)) ∧ W.heap[w.heap.size + 1 + 1]? = some (Go.Obj.cells #[.bool false] 4 (0,0))) ∧ Below w.heap.size w W)
  (fun c pre W => (∃ pre0 i,c = .ret ∧ pre = pre0 ++ [i] ∧ (∀ j ∈ pre0,tk (elA xs j) = true) ∧ tk (elA xs i) = false ∧ W.heap[w.heap.size + 1]? = some (Go.Obj.cells (adC (elA xs i)) 32 (0,0)) ∧ W.heap[w.heap.size + 1 + 1]? = some (Go.Obj.cells #[.bool true] 4 (0,0))) ∧ Below w.heap.size w W)
  (OwnFrom.and (fun s A C row hs hg hr => ⟨hs.1,zq895 hs.2.1 hg (fun r e => (hr r e).2),zq895 hs.2.2.1 hg (fun r e => (hr r e).2),zq895 hs.2.2.2 hg (fun r e => (hr r e).2)⟩) (ownFrom_below (by omega) (by omega)))
  (fun c => OwnFrom.and (fun s A C row hs hg hr => by
   obtain ⟨pre0,i,h1,h2,h3,h4,h5,h6⟩ := hs
   exact ⟨pre0,i,h1,h2,h3,h4,zq895 h5 hg (fun r e => (hr r e).2),zq895 h6 hg (fun r e => (hr r e).2)⟩) (ownFrom_below (by omega) (by omega)))
  ⟨⟨by simp,b1,b2,b3⟩,hB0⟩
  (fun x a' W => ∃ Bx,w.heap.size + 1 + 1 < Bx ∧ W.heap[Bx]? = some (Go.Obj.cells (adC (elA xs x)) 32 (0,0)) ∧ a' = { tmps := #[.pointer (some ⟨B,0,none⟩),.pointer (some ⟨w.heap.size,0,none⟩),.pointer (some ⟨w.heap.size + 1,0,none⟩),.pointer (some ⟨w.heap.size + 1 + 1,0,none⟩),.pointer (some ⟨Bx,0,none⟩),.pointer (some ⟨B,0,none⟩),.func (.func 186) #[] #[.pointer (some ⟨w.heap.size + 1 + 1 + 1,0,none⟩)],adV (elA xs x),undef,undef,undef,undef,undef,undef],defers := [] })
  (fun x a' _ X Y row hs hg hr => by obtain ⟨Bx,h1,h2,h3⟩ := hs; exact ⟨Bx,h1,zq895 h2 hg (fun r e => (hr r e).2),h3⟩)
  ?assign ?body ?done ?stop
 case assign =>
  rintro l pre x W K ⟨⟨i1,i2,i3,i4⟩,hB1⟩ hK
  have hlt : w.heap.size + 1 + 1 < W.heap.size := (zc27.1 i4).1
  simp only [adV] at hK ⊢
  gi_wp2
  refine hK _ _ ((KeepsOthers.alloc _ _).from _) (CKept.below ((Below.refl _ W).alloc (zc47 _) _)) ⟨⟨i1,(Below.heap_alloc _ _ _ (by omega)).trans i2,(Below.heap_alloc _ _ _ (by omega)).trans i3,(Below.heap_alloc _ _ _ (by omega)).trans i4⟩,hB1.alloc (by omega) _⟩ ⟨W.heap.size,hlt,World.alloc_heap_new W _,rfl⟩
 case body =>
  rintro l pre x a' W hl ⟨r,hr⟩ ⟨⟨i1,i2,i3,i4⟩,hB1⟩ ⟨Bx,hBx,bX,rfl⟩ hlt
  have h1' : 1 ≤ 9 - 1 - 1 := by omega
  have cB := (zq540 i2).1
  obtain ⟨x0,x1,x2⟩ := zq391 bX
  have htk' := htaken (elA xs x) W (zq733 hxs x) hB1
  simp only [adV] at htk' ⊢
  cases htk : tk (elA xs x)
  ·rw [htk] at htk'
   gi_wp2_with (refine ⟨trivial,?_⟩; gi_at_call 171; refine (CallsIn.inRound l (callsIn_wide.2 htk')).mono ?_; rintro e w2 ⟨rfl,hb2⟩; have hk2 := CKept.below hb2; obtain ⟨x0,x1,x2⟩ := zq391 (hk2 _ _ _ _ bX); have j3 := hk2 _ _ _ _ i3; have j4 := hk2 _ _ _ _ i4; obtain ⟨n0,n1,n2,n3,n4,n5⟩ := zq1814 j3; obtain ⟨n6,n7⟩ := zq540 j4)
   obtain ⟨s1,s2,s3⟩ := set3 (a := .bool (elA xs x).v6) (b := .int .u64 (elA xs x).hi) (c := .int .u64 (elA xs x).lo) j3
   have j4' : (((w2.setCell ⟨w.heap.size + 1,0,none⟩ (.bool (elA xs x).v6)).setCell ⟨w.heap.size + 1,1,none⟩ (.int .u64 (elA xs x).hi)).setCell ⟨w.heap.size + 1,2,none⟩ (.int .u64 (elA xs x).lo)).heap[w.heap.size + 1 + 1]? = some (Go.Obj.cells #[.bool false] 4 (0,0)) := (s2 _ (by omega)).trans j4
   refine ⟨((KeepsFrom.of_grownBy (zq481 hb2) (fun j e => by cases e)).trans (((KeepsOthers.setCell _ _ _).from _).trans (((KeepsOthers.setCell _ _ _).from _).trans ((KeepsOthers.setCell _ _ _).from _)))).trans ((KeepsOthers.setCell _ _ _).from _),⟨pre,x,rfl,rfl,i1,htk,?_,?_⟩,?_⟩
   ·exact (Below.heap_setCell _ ⟨w.heap.size + 1 + 1,0,none⟩ _ _ (by show w.heap.size + 1 ≠ w.heap.size + 1 + 1; omega)).trans s1
   ·have := zq1608 _ (w.heap.size + 1 + 1) 0 (.bool true) #[.bool false] 4 (0,0) j4'
    exact this
   ·exact ((hB1.trans (hb2.mono hB1.size)).trans (s3.mono (by omega))).setCell (p := ⟨w.heap.size + 1 + 1,0,none⟩) (by show w.heap.size ≤ w.heap.size + 1 + 1; omega) _
  ·rw [htk] at htk'
   gi_wp2_with (refine ⟨trivial,?_⟩; gi_at_call 171; refine (CallsIn.inRound l (callsIn_wide.2 htk')).mono ?_; rintro e w2 ⟨rfl,hb2⟩; have hk2 := CKept.below hb2)
   have j : ∀ (b : Nat) (o : Go.Obj),W.heap[b]? = some o → w2.heap[b]? = some o := fun b o h => zq894 hb2 h
   refine ⟨KeepsFrom.of_grownBy (zq481 hb2) (fun j e => by cases e),CKept.below hb2,⟨fun i hi => ?_,j _ _ i2,j _ _ i3,j _ _ i4⟩,hB1.trans (hb2.mono hB1.size)⟩
   rcases List.mem_append.1 hi with hi | hi
   ·exact i1 i hi
   ·simp only [List.mem_singleton] at hi
    subst hi
    exact htk
 case done =>
  rintro D ys W hD rfl ⟨⟨i1,i2,i3,i4⟩,hB1⟩ hK
  obtain ⟨n0,n1,n2,n3,n4,n5⟩ := zq1814 i3
  obtain ⟨n6,n7⟩ := zq540 i4
  have hrs := hnone.out (fun i hi => i1 i (by simpa using hi))
  gi_wp2
  obtain ⟨s1,s2,s3⟩ := set3 (a := .bool false) (b := .int .u64 0) (c := .int .u64 0) i3
  have i4' : (((W.setCell ⟨w.heap.size + 1,0,none⟩ (.bool false)).setCell ⟨w.heap.size + 1,1,none⟩ (.int .u64 0)).setCell ⟨w.heap.size + 1,2,none⟩ (.int .u64 0)).heap[w.heap.size + 1 + 1]? = some (Go.Obj.cells #[.bool false] 4 (0,0)) := (s2 _ (by omega)).trans i4
  have t1 := zq1608 _ (w.heap.size + 1 + 1) 0 (.bool false) #[.bool false] 4 (0,0) i4'
  have t2 := (Below.heap_setCell _ ⟨w.heap.size + 1 + 1,0,none⟩ (.bool false) _ (by show w.heap.size + 1 ≠ w.heap.size + 1 + 1; omega)).trans s1
  have hK' := (Below.heap_setCell _ ⟨w.heap.size + 1 + 1,0,none⟩ (.bool false) D (by show D ≠ w.heap.size + 1 + 1; omega)).trans ((s2 D (by omega)).trans hK)
  refine ⟨by simp,.inl ⟨_,_,rfl,run_takeDeferred hK',?_⟩⟩
  have t1' := (World.putObj_heap_other (r := D) (o := .deferred none) (show w.heap.size + 1 + 1 ≠ D by omega)).trans t1
  have t2' := (World.putObj_heap_other (r := D) (o := .deferred none) (show w.heap.size + 1 ≠ D by omega)).trans t2
  obtain ⟨m0,m1,m2,_⟩ := zq1814 t2'
  obtain ⟨m6,_⟩ := zq540 t1'
  refine ⟨.tuple #[.agg #[.bool false,.int .u64 0,.int .u64 0],.bool false],?_,by rw [hrs]; rfl,((hB1.trans (s3.mono (by omega))).setCell (p := ⟨w.heap.size + 1 + 1,0,none⟩) (by show w.heap.size ≤ w.heap.size + 1 + 1; omega) _).trans (belowK_b (w := w) (zc47 _) _ D _ _ (by omega) hK' rfl rfl)⟩
  simp [results,Tryz.f162,go_sem,m0,m1,m2,m6]
 case stop =>
  rintro D c pre W hD hpre ⟨⟨pre0,i,rfl,hp,h3,h4,h5,h6⟩,hB1⟩ hK
  have hrs : res = (elA xs i,true) := by
   obtain ⟨t,ht⟩ := hpre
   rw [hp] at ht
   have hl0 : pre0.length < xs.length := by
    have := congrArg List.length ht
    simp at this
    omega
   have hi : i = pre0.length := by
    have := congrArg (fun l => l[pre0.length]?) ht
    simp [hl0] at this
    exact this
   subst hi
   refine hsome.out _ hl0 (fun j hj => h3 j ?_) h4
   have h0 : (List.range xs.length)[j]? = some j := by rw [List.getElem?_eq_some_iff]; exact ⟨by simp; omega,by simp⟩
   rw [← ht,zc46,zc6 hj] at h0
   exact zc5 h0
  gi_wp2
  refine ⟨by simp,.inl ⟨_,_,rfl,run_takeDeferred hK,?_⟩⟩
  have t1' := (World.putObj_heap_other (r := D) (o := .deferred none) (show w.heap.size + 1 + 1 ≠ D by omega)).trans h6
  have t2' := (World.putObj_heap_other (r := D) (o := .deferred none) (show w.heap.size + 1 ≠ D by omega)).trans h5
  obtain ⟨m0,m1,m2⟩ := zq391 t2'
  obtain ⟨m6,_⟩ := zq540 t1'
  refine ⟨.tuple #[adV (elA xs i),.bool true],?_,by rw [hrs],hB1.trans (belowK_b (w := w) (zc47 _) W D _ _ (by omega) hK rfl rfl)⟩
  simp [results,Tryz.f162,go_sem,m0,m1,m2,m6,adV]
theorem zq835 {P : Program} {W : World} (hG : Glob P W) {f : FuncId} {ps rs : List PS} {t : PsT ps → Option (PsT rs)} (ht : TrOk P f (con ps rs t)) {x : PsT ps} {y : PsT rs} (hx : t x = some y)
  (hdec : decA (encA false ps x 0).2 ps (encA false ps x 0).1 = some x) (hany : (encA false ps x 0).1.all (fun v => !v.isAny) = true) {ρ : Nat → Value} {vals us : List Value}
  (hu : zq0 W ρ 0 vals (encA false ps x 0).1 (encA false ps x 0).2 us) :
  Calls P f vals.toArray W fun e W' => (∃ ρ' n,e = .returned (den ρ' (encR rs y n))) ∧ Below W.heap.size W W' := by
 have hrel := hu.rel
 have hden := hu.den _ (zq879 us)
 have hk : conTr ps rs t (SV × Mem) (encA false ps x 0).1 (encA false ps x 0).2 (fun r m => some (r,m)) = some (encR rs y (encA false ps x 0).2.length,(encA false ps x 0).2 ++ (encA true rs y (encA false ps x 0).2.length).2) := by
  simp only [conTr,hdec,hx,zc49]
 have hc := ht.1 W hG (SV × Mem) (encA false ps x 0).1 (encA false ps x 0).2 (fun r m => some (r,m)) _ hk hany
 have := hc.call (by have := hu.lt.1; simpa using this) _ W hrel
 rw [hden] at this
 refine this.mono ?_
 rintro e w' ⟨ρ',r',m',rfl,hm',_,_,_,hres⟩
 have hres : (some (r',m') : Option (SV × Mem)) = some (encR rs y (encA false ps x 0).2.length,(encA false ps x 0).2 ++ (encA true rs y (encA false ps x 0).2.length).2) := hres
 injection hres with hres
 injection hres with h1 h2
 exact ⟨⟨ρ',_,by rw [h1]⟩,hm'.below⟩
theorem zq849 {k : K} (w : World) (ρ : Nat → Value) (a : k.T) (v : Value) (n : Nat) (h : ∀ ρ,v = den ρ (flV k a)) : zq0 w ρ n [v] [flV k a] [] [] :=
 ⟨rfl,fun ρ' _ => by simp only [denL,h ρ'],fun _ _ _ i o v h => by simp at h,by simp only [ltL,zq830,Bool.and_self],fun o h => by cases h⟩
theorem zq459 {w w' : World} {ρ : Nat → Value} {n : Nat} {vals : List Value} {svs : List SV} {os : Mem} {us : List Value} (h : zq0 w ρ n vals svs os us) (hb : Below w.heap.size w w') : zq0 w' ρ n vals svs os us :=
 ⟨h.len,h.den,fun W ρ' hg i o v hi hv => ⟨(h.obj W ρ' hg i o v hi hv).1.keep (fun b _ hlt => hb.block b hlt) hb.size,(h.obj W ρ' hg i o v hi hv).2⟩,h.lt⟩
def tkOf (p : Pf) (kp : List Ad) (ls : List Ls) (a : Ad) : Bool := match zq351 p kp ls a with | some (t,_) => t | none => false
theorem zq732 {xs : List Ad} {i : Nat} (h : i < xs.length) : elA xs i = xs[i] := by
 unfold elA
 rw [zc3,zc0 h]
 rfl
theorem zq731 {a : Ad} {r : List Ad} {i : Nat} (h : i < r.length) : elA (a :: r) (i + 1) = elA r i := by
 rw [zq732 h,zq732 (by simpa using h)]
 rfl
theorem zq824 {p : Pf} {kp : List Ad} {ls : List Ls} : ∀ {xs : List Ad} {y : Ad × Bool × Unit},zq822 p kp ls xs = some y →
  (∀ a ∈ xs,zq351 p kp ls a = some (tkOf p kp ls a,())) ∧ ((∀ i,i < xs.length → tkOf p kp ls (elA xs i) = true) → y = (⟨false,0,0⟩,false,())) ∧
   (∀ i,i < xs.length → (∀ j,j < i → tkOf p kp ls (elA xs j) = true) → tkOf p kp ls (elA xs i) = false → y = (elA xs i,true,()))
 | [],y,h => by
  cases h
  exact ⟨fun a h => by (cases h),fun _ => rfl,fun i h => by simp at h⟩
 | a :: r,y,h => by
  simp only [zq822] at h
  obtain ⟨t,ht,h⟩ := zc8.1 h
  obtain ⟨y',hy',h⟩ := zc8.1 h
  obtain ⟨h1,h2,h3⟩ := zq824 hy'
  have htk : tkOf p kp ls a = t.1 := by unfold tkOf; rw [ht]
  have hy : (bif t.1 then y' else (a,true,())) = y := by injection h
  refine ⟨fun b hb => ?_,fun hall => ?_,fun i hi hj hti => ?_⟩
  ·rcases zc28.1 hb with rfl | hb
   ·rw [ht,htk]
   ·exact h1 b hb
  ·have h0 := hall 0 (by simp)
   rw [zq732 (by simp),List.getElem_cons_zero,htk] at h0
   rw [h0] at hy
   rw [← hy]
   exact h2 fun i hi => by
    have := hall (i + 1) (by simpa using hi)
    rwa [zq731 hi] at this
  ·cases i with
   | zero =>
    rw [zq732 hi,List.getElem_cons_zero] at hti ⊢
    rw [htk] at hti
    rw [hti] at hy
    exact hy.symm
   | succ i =>
    have h0 := hj 0 (by omega)
    rw [zq732 (by simp),List.getElem_cons_zero,htk] at h0
    rw [h0] at hy
    have hi' : i < r.length := by simpa using hi
    rw [zq731 hi'] at hti ⊢
    rw [← hy]
    exact h3 i hi' (fun j hj' => by
     have := hj (j + 1) (by omega)
     rwa [zq731 (by omega)] at this) hti
def zq330 : Con := con [.ref [.fl .pfx,.row .addr 32,.row .lease 127] 204] [.one (.fl .addr),.one (.fl .bool)] (fun x => zq332 x.1.1 x.1.2.1 x.1.2.2.1)
theorem zq826 (p : Pf) (kp : List Ad) (ls : List Ls) (y : Ad × Bool × Unit) (hx : zq332 p kp ls = some y) (ρ : Nat → Value) (us vals : List Value) (w : World) (hG : Glob Tryz.prog w)
  (hu : zq0 w ρ 0 vals (encA false [.ref [.fl .pfx,.row .addr 32,.row .lease 127] 204] ((p,kp,ls,()),()) 0).1 (encA false [.ref [.fl .pfx,.row .addr 32,.row .lease 127] 204] ((p,kp,ls,()),()) 0).2 us) :
  Calls Tryz.prog 162 vals.toArray w fun e w' => ∃ ρc r m',e = .returned (den ρc r) ∧ RelM w ρc m' w' ∧ resR [.one (.fl .addr),.one (.fl .bool)] r m' = some y := by
 have hg := zq879 us
 have hlen := hu.len
 have hdenv := hu.den _ hg
 obtain ⟨vb,va,vl,rfl⟩ : ∃ vb va vl,us = [vb,va,vl] := by
  have hl1 : us.length = 3 := hlen
  match us,hl1 with
  | [a,b,c],_ => exact ⟨a,b,c,rfl⟩
 obtain ⟨hob,_⟩ := hu.obj w _ hg 0 _ vb rfl rfl
 obtain ⟨b,arr,rfl,_,hheap,harr,hcells⟩ := hob
 have harr : arr.size = 6 := harr
 have hg0 := hcells 0 (.b p.ad.v6) rfl rfl
 have hg1 := hcells 1 (.i .u64 p.ad.hi) rfl rfl
 have hg2 := hcells 2 (.i .u64 p.ad.lo) rfl rfl
 have hg3 := hcells 3 (.i .i64 p.bits) rfl rfl
 have hg4 := hcells 4 (.row 1) rfl rfl
 have hg5 := hcells 5 (.row 2) rfl rfl
 have hA : arr = #[.bool p.ad.v6,.int .u64 p.ad.hi,.int .u64 p.ad.lo,.int .i64 p.bits,zq1637 va,zq1637 vl] := by
  apply Array.ext_getElem?
  intro i
  match i with
  | 0 => rw [hg0]; rfl
  | 1 => rw [hg1]; rfl
  | 2 => rw [hg2]; rfl
  | 3 => rw [hg3]; rfl
  | 4 => rw [hg4]; rfl
  | 5 => rw [hg5]; rfl
  | i + 6 => rw [Array.getElem?_eq_none (by omega),Array.getElem?_eq_none (by simp)]
 subst hA
 have hvals : vals = [.pointer (some ⟨b,0,none⟩)] := by
  rw [← hdenv]
  show [zq1465 (.pointer (some ⟨b,0,none⟩)) 0] = _
  simp only [zq1465,zq395,Nat.add_zero]
 subst hvals
 unfold zq332 at hx
 obtain ⟨y1,hl1,hx⟩ := zc8.1 hx
 obtain ⟨last,u1⟩ := y1
 obtain ⟨xs,hall,hx⟩ := zc8.1 hx
 obtain ⟨f1,f2,f3⟩ := zq824 hx
 obtain ⟨r1,hr1⟩ := zq433 hall
 obtain ⟨ra,rb,ru⟩ := y
 refine (callsIn_wide.1 (zq827 b p _ _ last xs (tkOf p kp ls) w hG (by rw [hr1]; simp) hheap (fun W hg => ?_) (fun a c ok W hg hac => ?_) (fun a W hmem hB => ?_) hall (ra,rb) (fun h => ?_) (fun i hi hj hti => ?_))).mono ?_
 ·have ha := zq849 (k := .pfx) W (fun _ => Go.undef) p (pfV p) 0 (fun _ => rfl)
  refine (zq834 hg zq1431 (x := (p,())) hl1 rfl rfl ha).mono ?_
  rintro e w' ⟨⟨ρ',rfl⟩,hb'⟩
  exact ⟨rfl,hb'⟩
 ·have ha := zq849 (k := .addr) W (fun _ => Go.undef) a (adV a) 0 (fun _ => rfl)
  refine (zq835 hg zq402 (x := (a,())) (y := (c,ok,())) hac rfl rfl ha).mono ?_
  rintro e w' ⟨⟨ρ',n,rfl⟩,hb'⟩
  exact ⟨rfl,hb'⟩
 ·have ha := (zq459 hu hB).app (zq849 (k := .addr) W ρ a (adV a) 3 (fun _ => rfl))
  refine (zq834 (hG.mono hB) zq341 (x := ((p,kp,ls,()),a,())) (f1 a hmem) rfl rfl ha).mono ?_
  rintro e w' ⟨⟨ρ',rfl⟩,hb'⟩
  exact ⟨rfl,hb'⟩
 ·have := f2 h
  cases this
  rfl
 ·have := f3 i hi hj hti
  cases this
  rfl
 ·rintro e w' ⟨rfl,hb⟩
  refine ⟨fun _ => Go.undef,.tup [.agg [.b ra.v6,.i .u64 ra.hi,.i .u64 ra.lo],.b rb],[],rfl,?_,rfl⟩
  exact ⟨hb,fun j o h => by simp at h,fun i j o o' _ h => by simp at h,fun j o h => by simp at h⟩
theorem zq331 : TrOk Tryz.prog 162 zq330 := zq664 _ _ _ fun x y hx ρ us vals w hG hu => zq826 x.1.1 x.1.2.1 x.1.2.2.1 y hx ρ us vals w hG hu
end Go.Proofs.YtjncjiegmnicbabGreat
namespace Go.Proofs.YtjncjiegmnicbabGreat
open Go Go.Ma Go.RowKit Go.Maps Go.Proofs
end Go.Proofs.YtjncjiegmnicbabGreat
namespace Go.Proofs.YtjncjiegmnicbabGreat
open Go Go.Ma Go.RowKit Go.Proofs
def cur (bs : List UInt8) (j : Nat) : List UInt8 := bs.take j ++ List.replicate (bs.length - j) 48
theorem zq673 (bs : List UInt8) (j : Nat) (h : j ≤ bs.length) : (cur bs j).length = bs.length := by simp [cur]; omega
theorem zq672 (bs : List UInt8) : cur bs bs.length = bs := by simp [cur]
theorem cur_at (bs : List UInt8) (q : Nat) (h : q < bs.length) : (cur bs (q + 1))[q]? = some bs[q] := by
 unfold cur
 rw [zc6 (by simp; omega),List.getElem?_take_of_lt (by omega),zc0 h]
theorem zq675 (bs : List UInt8) (q : Nat) (h : q < bs.length) : (cur bs (q + 1)).set q 48 = cur bs q := by
 unfold cur
 rw [zc26 h,zc46,List.set_append_right _ _ (by simp; omega)]
 have : q - (bs.take q).length = 0 := by simp; omega
 rw [this]
 have h2 : bs.length - q = bs.length - (q + 1) + 1 := by omega
 rw [h2,List.replicate_succ]
 rfl
theorem zq674 (bs : List UInt8) (q : Nat) (h : q < bs.length) : (cur bs (q + 1)).set q 49 = bs.take q ++ 49 :: List.replicate (bs.length - (q + 1)) 48 := by
 unfold cur
 rw [zc26 h,zc46,List.set_append_right _ _ (by simp; omega)]
 have : q - (bs.take q).length = 0 := by simp; omega
 rw [this]
 rfl
def IncAt (bs : List UInt8) (j : Nat) : Prop := incR bs.reverse = (incR (bs.take j).reverse).map (List.replicate (bs.length - j) 48 ++ ·)
theorem zq911 (bs : List UInt8) : IncAt bs bs.length := by simp [IncAt]
theorem zq914 {bs : List UInt8} (h : IncAt bs 0) : incR bs.reverse = none := by simpa [IncAt,incR] using h
theorem zq913 {bs : List UInt8} {q : Nat} (h : q < bs.length) (hi : IncAt bs (q + 1)) (hc : ¬ bs[q] = 48) : IncAt bs q := by
 unfold IncAt at *
 rw [hi,zc26 h,List.reverse_append]
 show Option.map _ (incR (bs[q] :: (bs.take q).reverse)) = _
 simp only [incR,hc,if_false,Option.map_map]
 congr 1
 funext l
 have h2 : bs.length - q = bs.length - (q + 1) + 1 := by omega
 simp only [Function.comp,h2,List.replicate_succ',zc46]
 rfl
theorem zq912 {bs : List UInt8} {q : Nat} (h : q < bs.length) (hi : IncAt bs (q + 1)) (hc : bs[q] = 48) : ∃ l,incR bs.reverse = some l ∧ l.reverse = (cur bs (q + 1)).set q 49 := by
 unfold IncAt at *
 rw [zc26 h,List.reverse_append] at hi
 have : incR ((bs[q] :: (bs.take q).reverse)) = some (49 :: (bs.take q).reverse) := by simp only [incR,hc,if_true]
 rw [show [bs[q]].reverse ++ (bs.take q).reverse = bs[q] :: (bs.take q).reverse from rfl,this] at hi
 exact ⟨_,hi,by rw [zq674 _ _ h]; simp⟩
theorem set3h {w : World} {N : Nat} {x y z a b c : Value} {t : TypeId} (h : w.heap[N]? = some (Go.Obj.cells #[x,y,z] t (0,0))) :
  (((w.setCell ⟨N,0,none⟩ a).setCell ⟨N,1,none⟩ b).setCell ⟨N,2,none⟩ c).heap[N]? = some (Go.Obj.cells #[a,b,c] t (0,0)) ∧
  (∀ k,k ≠ N → (((w.setCell ⟨N,0,none⟩ a).setCell ⟨N,1,none⟩ b).setCell ⟨N,2,none⟩ c).heap[k]? = w.heap[k]?) ∧
  Below N w (((w.setCell ⟨N,0,none⟩ a).setCell ⟨N,1,none⟩ b).setCell ⟨N,2,none⟩ c) := by
 obtain ⟨h1,h2,_⟩ := zq1609 w N 0 [a,b,c] #[x,y,z] t (0,0) h
 refine ⟨h1,h2,?_⟩
 exact (((Below.refl N w).setCell (p := ⟨N,0,none⟩) (zc47 _) _).setCell (p := ⟨N,1,none⟩) (zc47 _) _).setCell (p := ⟨N,2,none⟩) (zc47 _) _
theorem zq1815 {w : World} {N : Nat} {a b c : Value} {t : TypeId} (this : w.heap[N]? = some (Go.Obj.cells #[a,b,c] t (0,0))) :
  w.cell? ⟨N,0,none⟩ = some a ∧ w.cell? ⟨N,1,none⟩ = some b ∧ w.cell? ⟨N,2,none⟩ = some c ∧ w.frozen? ⟨N,0,none⟩ = false ∧ w.frozen? ⟨N,1,none⟩ = false ∧ w.frozen? ⟨N,2,none⟩ = false := by
 refine ⟨?_,?_,?_,?_,?_,?_⟩ <;> simp [World.cell?,World.frozen?,this]
def adV3 (a : Ad) : Value := .agg #[.bool a.v6,.int .u64 a.hi,.int .u64 a.lo]
def zq1 (C : Array Value) (l : List UInt8) : Prop := ∀ q (h : q < l.length),C[q]? = some (.int .u8 (l[q].toNat : Int))
theorem zq529 {C : Array Value} {l : List UInt8} (h : zq1 C l) {q : Nat} (hq : q < l.length) (c : UInt8) : zq1 (C.setIfInBounds q (.int .u8 (c.toNat : Int))) (l.set q c) := by
 intro k hk
 have hk' : k < l.length := by simpa using hk
 by_cases e : k = q
 ·subst e
  have := (zc27.1 (h k hk')).1
  simp [this]
 ·rw [Array.getElem?_setIfInBounds_ne (by omega),List.getElem_set_ne (by omega)]
  exact h k hk'
set_option maxRecDepth 100000 in
set_option maxHeartbeats 4000000 in
theorem zq1249 (a : Ad) (s : ByteArray) (w : World) (hs : s.size ≤ 1024) (r : Ad × Bool) (HB : ∀ W,Below w.heap.size w W → Calls Tryz.prog 104 #[adV3 a] W fun e w' => e = .returned (.string s) ∧ Below W.heap.size W w')
  (hnone : incR s.data.toList.reverse = none → r = (⟨false,0,0⟩,false))
  (hsome : ∀ l,incR s.data.toList.reverse = some l → ∃ b,r = (b,true) ∧ ∀ W,Below w.heap.size w W → Calls Tryz.prog 133 #[.string ⟨l.reverse.toArray⟩] W fun e w' => e = .returned (adV3 b) ∧ Below W.heap.size W w') :
  Calls Tryz.prog 125 #[adV3 a] w fun e w' => e = .returned (.tuple #[adV3 r.1,.bool r.2]) ∧ Below w.heap.size w w' := by
 have hcv := fun w s => run_bytes_of_string (P := Tryz.prog) w 9 170 5 s Tryz.underlying9 Tryz.underlying170 Tryz.underlying5
 have HBx := HB _ ((((Below.refl w.heap.size w).alloc (zc47 _) (.cells #[.bool a.v6,.int .u64 a.hi,.int .u64 a.lo] 32)).alloc (by simp) (.cells #[.bool false,.int .u64 0,.int .u64 0] 32)))
 simp only [adV3] at HBx ⊢
 go_enter Tryz.func125,Tryz.ntmps125
 go_wp2_with (go_at_call 104; refine HBx.mono ?_; rintro e w1 ⟨rfl,hb1⟩)
 obtain ⟨B,hB⟩ : ∃ B,B = w1.heap.size := ⟨_,rfl⟩
 obtain ⟨cap,hcap⟩ : ∃ cap,cap = grownCap w1 s.size 0 5 := ⟨_,rfl⟩
 rw [← hB,← hcap]
 obtain ⟨C0,hC0⟩ : ∃ C0,C0 = bytesRow s cap := ⟨_,rfl⟩
 rw [← hC0]
 obtain ⟨bs,hbs⟩ : ∃ bs,bs = s.data.toList := ⟨_,rfl⟩
 have hn : s.size = bs.length := by rw [hbs]; simp
 have hcells0 : zq1 C0 bs := fun q hq => by
  rw [hC0,bytesRow,Array.getElem?_append_left (by simp; omega)]
  subst hbs
  simp at hq
  simp [hq]
 have hw1 : w.heap.size + 1 < w1.heap.size := by have := hb1.size; simp at this; omega
 have hres : w1.heap[w.heap.size + 1]? = some (Go.Obj.cells #[.bool false,.int .u64 0,.int .u64 0] 32 (0,0)) := by
  refine (hb1.block (w.heap.size + 1) (by simp)).trans ?_
  have := heap_alloc_new (w.alloc (Go.Obj.cells #[.bool a.v6,.int .u64 a.hi,.int .u64 a.lo] 32)) (Go.Obj.cells #[.bool false,.int .u64 0,.int .u64 0] 32)
  simpa using this
 have hbw : Below w.heap.size w w1 := (((Below.refl w.heap.size w).alloc (zc47 _) _).alloc (by simp) _).trans (hb1.mono (by simp; omega))
 rw [hn]
 have HN : Hid (incR bs.reverse = none → r = (⟨false,0,0⟩,false)) := by rw [hbs]; exact hnone
 have HS : Hid (∀ l,incR bs.reverse = some l → ∃ b,r = (b,true) ∧ ∀ W,Below w.heap.size w W → Calls Tryz.prog 133 #[.string ⟨l.reverse.toArray⟩] W fun e w' => e = .returned (adV3 b) ∧ Below W.heap.size W w') := by rw [hbs]; exact hsome
 have HM : Hid (bs.length ≤ 1024) := by rw [← hn]; exact hs
 clear hnone hsome hcv HBx HB hbs hC0 hcap hs hn
 go_loopw [5] (fun i wr => ∃ (j : Nat) (C : Array Value) (iv : Int),j ≤ bs.length ∧ i = .int .i64 iv ∧ iv = (j : Int) - 1 ∧ wr.heap[B]? = some (.cells C 5 (C.size,C.size + 1)) ∧ zq1 C (cur bs j) ∧ IncAt bs j ∧
   wr.heap[w.heap.size + 1]? = some (.cells #[.bool false,.int .u64 0,.int .u64 0] 32 (0,0)) ∧ Below w.heap.size w wr)
  (fun i _ => (intOf i + 1).toNat)
 case atStart =>
  refine ⟨bs.length,C0,_,zc47 _,rfl,?_,?_,by rw [zq672]; exact hcells0,zq911 _,?_,?_⟩
  ·have := HM.out
   first | rfl | omega
  ·subst hB
   exact heap_alloc_new w1.drew _
  ·exact (Below.heap_alloc w1.drew _ (w.heap.size + 1) hw1).trans hres
  ·exact (show Below w.heap.size w w1.drew from ⟨hbw.os,hbw.tape,hbw.output,hbw.size,hbw.block⟩).alloc (show w.heap.size ≤ w1.heap.size by omega) _
 case round =>
  obtain ⟨j,C,iv,hj,rfl,hiv,hC,hbc,hinc,hz,hbw⟩ := hrel
  have hwB : w.heap.size + 1 < B := by omega
  cases j with
  | zero =>
   have hneg : ¬ (0 : Int) ≤ iv := by omega
   have hr := HN.out (zq914 hinc)
   obtain ⟨z0,z1,z2,z3,z4,z5⟩ := zq1815 hz
   obtain ⟨s1,s2,s3⟩ := set3h (a := .bool false) (b := .int .u64 0) (c := .int .u64 0) hz
   obtain ⟨y0,y1,y2,_⟩ := zq1815 s1
   have HP : Hid (Below (w.heap.size + 1) wr (((wr.setCell ⟨w.heap.size + 1,0,none⟩ (.bool false)).setCell ⟨w.heap.size + 1,1,none⟩ (.int .u64 0)).setCell ⟨w.heap.size + 1,2,none⟩ (.int .u64 0)) ∧ Below w.heap.size w wr ∧ r = (⟨false,0,0⟩,false)) := ⟨s3,hbw,hr⟩
   clear HS HM HN hr s1 s2 s3 hbw hbc hinc hC hz hres hcells0 hb1 hB hw1 hiv
   go_wp2
   have hB3 := HP.out.2.1.trans (HP.out.1.mono (by omega))
   refine bodyPost_ret (v := .tuple #[.agg #[.bool false,.int .u64 0,.int .u64 0],.bool false]) ?_ rfl ⟨?_,hB3⟩
   ·simp [results,Tryz.f125,go_sem,y0,y1,y2]
   ·rw [HP.out.2.2]
  | succ q =>
   obtain rfl : iv = (q : Int) := by omega
   have hlt : q < bs.length := by omega
   have hwr : wrap64 ((q : Int) - 1) = (q : Int) - 1 := by have := HM.out; unfold wrap64; omega
   have hlc := zq673 bs (q + 1) hj
   have hat : (cur bs (q + 1))[q]'(by omega) = bs[q] := by
    have := cur_at bs q hlt
    rw [zc0 (by omega)] at this
    simpa using this
   have hcell := hbc q (by omega)
   rw [hat] at hcell
   have cB : wr.cell? ⟨B,q,none⟩ = some (.int .u8 (bs[q].toNat : Int)) := by simp [World.cell?,hC,hcell]
   have fB : wr.frozen? ⟨B,q,none⟩ = false := by
    have := (zc27.1 hcell).1
    simp [World.frozen?,hC]
    omega
   have hset := fun v => zq1608 wr B q v C 5 (C.size,C.size + 1) hC
   by_cases hc : bs[q] = 48
   ·have hcI : (bs[q].toNat : Int) = 48 := by rw [hc]; rfl
    obtain ⟨l,hl1,hl2⟩ := zq912 hlt hinc hc
    obtain ⟨b,hr,HA⟩ := HS.out l hl1
    simp only [adV3] at HA
    have hl3 : (l.reverse).length = bs.length := by rw [hl2]; simpa using hlc
    have hback : ∀ W,W = wr.setCell ⟨B,q,none⟩ (.int .u8 49) → (convert 170 9 (.slice (some ⟨B,0,none⟩) bs.length cap)).run Tryz.prog W = .ok (.string ⟨l.reverse.toArray⟩) W := by
     rintro W rfl
     have hb := zq529 hbc (q := q) (by omega) 49
     rw [← hl2] at hb
     have := run_convert_bytes_back (P := Tryz.prog) (wr.setCell ⟨B,q,none⟩ (.int .u8 49)) 170 9 5 ⟨B,0,none⟩ cap l.reverse Tryz.underlying170 Tryz.underlying5 Tryz.underlying9 (fun j hj => by
      rw [Addr.add_lit,Nat.zero_add]
      have e := hset (.int .u8 49)
      simp only [World.cell?,e]
      exact hb j hj)
     rwa [hl3] at this
    have HK : Hid (∀ W,W = wr.setCell ⟨B,q,none⟩ (.int .u8 49) → (convert 170 9 (.slice (some ⟨B,0,none⟩) bs.length cap)).run Tryz.prog W = .ok (.string ⟨l.reverse.toArray⟩) W) := hback
    have hback1 := hback _ rfl
    have HA' : Hid (∀ W,Below w.heap.size w W → Calls Tryz.prog 133 #[.string ⟨l.reverse.toArray⟩] W fun e w' => e = .returned (.agg #[.bool b.v6,.int .u64 b.hi,.int .u64 b.lo]) ∧ Below W.heap.size W w') := HA
    have hz2 : (wr.setCell ⟨B,q,none⟩ (.int .u8 49)).heap[w.heap.size + 1]? = some (.cells #[.bool false,.int .u64 0,.int .u64 0] 32 (0,0)) := (Below.heap_setCell _ ⟨B,q,none⟩ _ _ (by show w.heap.size + 1 ≠ B; omega)).trans hz
    have hbw2 : Below w.heap.size w (wr.setCell ⟨B,q,none⟩ (.int .u8 49)) := hbw.setCell (p := ⟨B,q,none⟩) (by show w.heap.size ≤ B; omega) _
    have HP : Hid ((wr.setCell ⟨B,q,none⟩ (.int .u8 49)).heap[w.heap.size + 1]? = some (.cells #[.bool false,.int .u64 0,.int .u64 0] 32 (0,0)) ∧ Below w.heap.size w (wr.setCell ⟨B,q,none⟩ (.int .u8 49)) ∧ r = (b,true)) := ⟨hz2,hbw2,hr⟩
    clear HS HM HN hset hcell hat hlc hbc hinc hC hz hbw hres hcells0 hb1 hB hw1 hiv hz2 hbw2 hr HA HK hback hl2 hl1 hl3 hc
    go_wp2_with (go_at_call 133; refine (HA'.out _ HP.out.2.1).mono ?_; rintro e w2 ⟨rfl,hb2⟩; obtain ⟨z0,z1,z2,z3,z4,z5⟩ := zq1815 ((hb2.block _ (zc27.1 HP.out.1).1).trans HP.out.1))
    obtain ⟨hz2,hbw2,hr⟩ := HP.out
    obtain ⟨s1,s2,s3⟩ := set3h (a := .bool b.v6) (b := .int .u64 b.hi) (c := .int .u64 b.lo) ((hb2.block _ (zc27.1 hz2).1).trans hz2)
    obtain ⟨y0,y1,y2,_⟩ := zq1815 s1
    have hB3 := (hbw2.trans (hb2.mono hbw2.size)).trans (s3.mono (by omega))
    refine bodyPost_ret (v := .tuple #[.agg #[.bool b.v6,.int .u64 b.hi,.int .u64 b.lo],.bool true]) ?_ rfl ⟨?_,hB3⟩
    ·simp [results,Tryz.f125,go_sem,y0,y1,y2]
    ·rw [hr]
   ·have hcI : ¬ (bs[q].toNat : Int) = 48 := fun e => hc (by
     have : bs[q].toNat = 48 := by omega
     exact UInt8.toNat_inj.1 (by rw [this]; rfl))
    have HP : Hid ((wr.heap[B]? = some (.cells C 5 (C.size,C.size + 1)) ∧ zq1 C (cur bs (q + 1)) ∧ IncAt bs (q + 1)) ∧ (wr.heap[w.heap.size + 1]? = some (.cells #[.bool false,.int .u64 0,.int .u64 0] 32 (0,0)) ∧ Below w.heap.size w wr)) := ⟨⟨hC,hbc,hinc⟩,hz,hbw⟩
    clear HS HM HN hset hcell hat hlc hbc hinc hC hz hbw hres hcells0 hb1 hB hw1 hiv
    go_wp2
    go_roundw
    case rel =>
     obtain ⟨⟨hC,hbc,hinc⟩,hz,hbw⟩ := HP.out
     have hlc := zq673 bs (q + 1) hj
     have hset := zq1608 wr B q (.int .u8 48) C 5 (C.size,C.size + 1) hC
     refine ⟨q,C.setIfInBounds q (.int .u8 48),(q : Int) - 1,by omega,?_,rfl,?_,?_,zq913 hlt hinc hc,?_,?_⟩
     ·first | rw [hwr] | rfl
     ·rw [hset]; simp
     ·rw [← zq675 bs q hlt]
      exact zq529 hbc (by omega) 48
     ·exact (Below.heap_setCell _ ⟨B,q,none⟩ _ _ (by show w.heap.size + 1 ≠ B; omega)).trans hz
     ·exact hbw.setCell (p := ⟨B,q,none⟩) (by show w.heap.size ≤ B; omega) _
    case measure =>
     first | (simp only [hwr,intOf]; omega) | (simp only [intOf]; omega)
theorem zq850 {k : K} (w : World) (ρ : Nat → Value) (a : k.T) (v : Value) (n : Nat) (h : ∀ ρ,v = den ρ (flV k a)) : zq0 w ρ n [v] [flV k a] [] [] :=
 ⟨rfl,fun ρ' _ => by simp only [denL,h ρ'],fun _ _ _ i o v h => by simp at h,by simp only [ltL,zq830,Bool.and_self],fun o h => by cases h⟩
def zq211 : Con := con [.one (.fl .addr)] [.one (.fl .addr),.one (.fl .bool)] (fun x => zq214 x.1)
theorem zq1248 (a : Ad) (y : Ad × Bool × Unit) (hx : zq214 a = some y) (ρ : Nat → Value) (us vals : List Value) (w : World) (hG : Glob Tryz.prog w)
  (hu : zq0 w ρ 0 vals (encA false [.one (.fl .addr)] (a,()) 0).1 (encA false [.one (.fl .addr)] (a,()) 0).2 us) :
  Calls Tryz.prog 125 vals.toArray w fun e w' => ∃ ρc r m',e = .returned (den ρc r) ∧ RelM w ρc m' w' ∧ resR [.one (.fl .addr),.one (.fl .bool)] r m' = some y := by
 have hg := zq879 us
 have hdenv := hu.den _ hg
 have hvals : vals = [adV3 a] := hdenv.symm
 subst hvals
 obtain ⟨ra,rb,ru⟩ := y
 unfold zq214 at hx
 obtain ⟨y1,h1,hx⟩ := zc8.1 hx
 obtain ⟨s,us1⟩ := y1
 obtain ⟨hq,hx⟩ := zq1561 hx
 have hq : s.size ≤ 1024 := Nat.le_of_ble_eq_true hq
 refine (zq1249 a s w hq (ra,rb) (fun W hW => ?_) (fun hn => ?_) (fun l hl => ?_)).mono ?_
 ·have ha := zq850 (k := .addr) W (fun _ => Go.undef) a (adV3 a) 0 (fun _ => rfl)
  refine (zq834 (hG.mono hW) zq50 (x := (a,())) h1 rfl rfl ha).mono ?_
  rintro e w' ⟨⟨ρ',rfl⟩,hb'⟩
  exact ⟨rfl,hb'⟩
 ·rw [show (s,us1).1.data.toList = s.data.toList from rfl,hn] at hx
  cases hx
  rfl
 ·rw [show (s,us1).1.data.toList = s.data.toList from rfl,hl] at hx
  obtain ⟨z,hz,hx⟩ := zc8.1 hx
  cases hx
  refine ⟨z.1,rfl,fun W hW => ?_⟩
  have ha := zq850 (k := .str) W (fun _ => Go.undef) (⟨l.reverse.toArray⟩ : ByteArray) (.string ⟨l.reverse.toArray⟩) 0 (fun _ => rfl)
  refine (zq834 (hG.mono hW) zq29 (x := ((⟨l.reverse.toArray⟩ : ByteArray),())) hz rfl rfl ha).mono ?_
  rintro e w' ⟨⟨ρ',rfl⟩,hb'⟩
  exact ⟨rfl,hb'⟩
 ·rintro e w' ⟨rfl,hb⟩
  refine ⟨fun _ => Go.undef,.tup [.agg [.b ra.v6,.i .u64 ra.hi,.i .u64 ra.lo],.b rb],[],rfl,?_,rfl⟩
  exact ⟨hb,fun j o h => by simp at h,fun i j o o' _ h => by simp at h,fun j o h => by simp at h⟩
theorem zq213 : TrOk Tryz.prog 125 zq211 := zq664 _ _ _ fun x y hx ρ us vals w hG hu => zq1248 x.1 y hx ρ us vals w hG hu
end Go.Proofs.YtjncjiegmnicbabGreat
namespace Go.Proofs.YtjncjiegmnicbabGreat
open Go Go.Ma Go.RowKit Go.Lib Go.Proofs
theorem zq916 : (Tryz.prog.info? 32).map (fun i => (i.zero.map (·.cells.size),i.size,i.bytes)) = some (some 3,3,24) := by kernel_rfl
theorem zq1634 (w : World) : (Go.sizeOf 32).run Tryz.prog w = .ok 3 w := by kernel_rfl
set_option maxHeartbeats 4000000 in
set_option maxRecDepth 100000 in
/-- There is room, i < len(s): in place. -/
theorem zq929 (b off n c i vb voff m vc : Nat) (cs vs : List Value) (w : World) (hi : i < n) (hm : 0 < m) (hroom : n + m ≤ c) (hc63 : c ≤ 9223372036854775807) (hvb : vb ≠ b)
  (hcl : cs.length = n * 3) (hvl : vs.length = m * 3)
  (hcs : ∀ j v,cs[j]? = some v → w.cell? ⟨b,off + j,none⟩ = some v) (hsp : ∀ j,j < (n + m) * 3 → (w.cell? ⟨b,off + j,none⟩).isSome = true) (hfz : ∀ j,j < (n + m) * 3 → w.frozen? ⟨b,off + j,none⟩ = false)
  (hvs : ∀ j v,vs[j]? = some v → w.cell? ⟨vb,voff + j,none⟩ = some v) (h1c : ∀ v ∈ cs,v.oneCell' = true) (h1v : ∀ v ∈ vs,v.oneCell' = true)
  (tA tB : TypeId) (kA kB : Nat) (hsa : w.shape? vb = some (tA,kA)) (hsb : w.shape? b = some (tB,kB)) (hkB : kB ≠ 0) (hfa : w.frozen? ⟨vb,voff,none⟩ = false) (hfe : w.frozen? ⟨vb,kA,none⟩ = false) :
  Calls Tryz.prog 148 #[.slice (some ⟨b,off,none⟩) n c,.int .i64 i,.slice (some ⟨vb,voff,none⟩) m vc] w fun e w' =>
   e = .returned (.slice (some ⟨b,off,none⟩) (n + m) c) ∧ w' = (w.drew.setCells b (off + (i + m) * 3) (cs.drop (i * 3))).setCells b (off + i * 3) vs := by
 have u30 := run_underlying Tryz.underlying52
 have z49 := zq1634
 have hz1 : ¬ ((m : Int) = 0) := by omega
 have hz2 : ¬ ((i : Int) = (n : Int)) := by omega
 have hsz : (Tryz.prog.info? 32).map (·.size) = some 3 := by
  obtain ⟨i0,hi0,hz⟩ := zc7.1 zq916
  simp only [zc11] at hz
  rw [hi0]; simp [hz.2.1]
 have hov : ∀ lb cb,(callFunc 158 #[.slice (some ⟨vb,voff,none⟩) m vc,.slice (some ⟨b,off + (i + m) * 3,none⟩) lb cb]).run Tryz.prog w = .ok (.value (.bool false)) w := fun lb cb => by
  rw [run_callFunc_extern Tryz.func158 (by kernel_rfl) (by kernel_rfl) (by kernel_rfl) (e := Extern.SlicesOverlaps.overlaps #[52,52] #[4]) (by kernel_rfl),
   Lib.run_overlaps_apart w 52 4 32 Tryz.underlying52 3 zq1634 ⟨vb,voff,none⟩ ⟨b,off + (i + m) * 3,none⟩ m vc lb cb hvb tA tB kA kB hsa hsb hkB hfa hfe]
  rfl
 have hdl : (cs.drop (i * 3)).length = (n - i) * 3 := by rw [zc40,hcl]; omega
 have mixed := zq1220
 have hw1 : IntKind.i64.wrap ((i : Int) + (m : Int)) = (i : Int) + (m : Int) := by rw [IntKind.wrap_i64]; omega
 have hb1 : (0 : Int) ≤ (i : Int) + (m : Int) := by omega
 have hin : i ≤ n := by omega
 have htn : ((i : Int) + (m : Int)).toNat = i + m := by omega
 have hb2 : ¬ (c = i + m) := by omega
 have hb3 : (i : Int) ≤ (n : Int) + (m : Int) := by omega
 have hb4 : ¬ (c = i) := by omega
 have hcp1 : ∀ ty dc sc,(Builtin.copy_ #[52,52] ty #[.slice (some ⟨b,off + (i + m) * 3,none⟩) (n + m - (i + m)) dc,.slice (some ⟨b,off + i * 3,none⟩) (n + m - i) sc]).run Tryz.prog w.drew = .ok (goInt ((n - i : Nat) : Int)) (w.drew.setCells b (off + (i + m) * 3) (cs.drop (i * 3))) := fun ty dc sc =>
  zq1589 w.drew _ _ ty 32 3 b (off + (i + m) * 3) (n + m - (i + m)) dc ⟨b,off + i * 3,none⟩ (n + m - i) sc (n - i) (cs.drop (i * 3)) Tryz.underlying52 hsz (by simp only [Nat.min_def]; split <;> omega) hdl
   (fun j v hj => by rw [Addr.add_lit,Nat.add_assoc]; exact hcs (i * 3 + j) v (by rwa [zc39] at hj))
   (fun j hj => by rw [Nat.add_assoc]; exact hsp _ (by omega)) (fun j hj => by rw [Nat.add_assoc]; exact hfz _ (by omega)) (fun v hv => h1c v (List.mem_of_mem_drop hv))
 obtain ⟨W1,hW1⟩ : ∃ W1,W1 = w.drew.setCells b (off + (i + m) * 3) (cs.drop (i * 3)) := ⟨_,rfl⟩
 have hsp1 : ∀ k,k < (n + m) * 3 → (W1.cell? ⟨b,off + k,none⟩).isSome = true := fun k hk => by
  rw [hW1]
  exact isSome_setCells b _ _ _ (fun j hj => by rw [Nat.add_assoc]; exact hsp _ (by omega)) _ (hsp k hk)
 have hcp2 : ∀ (W : World),(∀ x,W.cell? x = W1.cell? x) → (∀ x,W.frozen? x = W1.frozen? x) → ∀ ty dc,(Builtin.copy_ #[52,52] ty #[.slice (some ⟨b,off + i * 3,none⟩) (n + m - i) dc,.slice (some ⟨vb,voff,none⟩) m vc]).run Tryz.prog W = .ok (goInt m) (W.setCells b (off + i * 3) vs) := fun W hWc hWf ty dc =>
  zq1589 W _ _ ty 32 3 b (off + i * 3) (n + m - i) dc ⟨vb,voff,none⟩ m vc m vs Tryz.underlying52 hsz (by simp only [Nat.min_def]; split <;> omega) hvl
   (fun j v hj => by
    rw [Addr.add_lit,hWc,hW1,World.cell?_setCells_out b _ _ _ _ (fun h _ => absurd h hvb)]
    exact hvs j v hj)
   (fun j hj => by rw [hWc,Nat.add_assoc]; exact hsp1 _ (by omega)) (fun j hj => by rw [hWf,hW1,World.frozen?_setCells,Nat.add_assoc]; exact hfz _ (by omega)) h1v
 rw [← hW1] at hcp1
 go_enter Tryz.func148,Tryz.ntmps148
 go_wp2_with (simp only [hov])
 go_region_law_o (refine step_copy_runI rfl _ _ 52 52 rfl _ _ (by simp [Act.eval,Act.put]) (by simp [Act.eval,Act.put]) (hcp1 _ _ _) ?_)
 go_wp2_with (at_builtin; refine wpList_copy_runI _ rfl _ _ 52 52 rfl _ _ rfl rfl (hcp2 _ (fun _ => rfl) (fun _ => rfl) _ _) ?_)
 go_ret
 first | exact ⟨rfl,rfl⟩ | exact ⟨rfl,by rw [hW1]⟩
set_option maxHeartbeats 4000000 in
set_option maxRecDepth 100000 in
/-- i < len(s), no room: a new row. -/
theorem zq927 (b off n c i vb voff m vc : Nat) (cs vs : List Value) (z : Value) (hz0 : (Tryz.prog.info? 32).map (·.zero) = some (some z)) (w : World) (hi : i < n) (hm : 0 < m) (hnc : n ≤ c) (hroom : c < n + m) (hbig : (n + m) * 24 ≤ 140737488355328)
  (hcl : cs.length = n * 3) (hvl : vs.length = m * 3)
  (hcs : ∀ j v,cs[j]? = some v → w.cell? ⟨b,off + j,none⟩ = some v)
  (hvs : ∀ j v,vs[j]? = some v → w.cell? ⟨vb,voff + j,none⟩ = some v) (h1c : ∀ v ∈ cs,v.oneCell' = true) (h1v : ∀ v ∈ vs,v.oneCell' = true) :
  Calls Tryz.prog 148 #[.slice (some ⟨b,off,none⟩) n c,.int .i64 i,.slice (some ⟨vb,voff,none⟩) m vc] w fun e w' =>
   e = .returned (.slice (some ⟨w.heap.size,0,none⟩) (n + m) (grownCap w (n + m) c 32)) ∧
   w' = (((w.alloc (.cells ((cs.take (i * 3)).toArray ++ Builtin.zeroCells z.cells (n + m - i) ++ Builtin.zeroCells z.cells (grownCap w (n + m) c 32 - (n + m))) 32)).drew.setCells w.heap.size (i * 3) vs).drew).setCells w.heap.size ((i + m) * 3) (cs.drop (i * 3)) := by
 have u30 := run_underlying Tryz.underlying52
 have z49 := zq1634
 have mixed := zq1220
 obtain ⟨i0,hi0,hz⟩ := zc7.1 zq916
 simp only [zc11] at hz
 obtain ⟨hzc,hzs,hzb⟩ := hz
 have hz0 : i0.zero = some z := by rw [hi0] at hz0; simpa using hz0
 have hzc : z.cells.size = 3 := by rw [hz0] at hzc; simpa using hzc
 have hz1 : ¬ ((m : Int) = 0) := by omega
 have hz2 : ¬ ((i : Int) = (n : Int)) := by omega
 have hz3 : (c : Int) < (n : Int) + (m : Int) := by omega
 have hsz : (Tryz.prog.info? 32).map (·.size) = some 3 := by rw [hi0]; simp [hzs]
 have hbw : b < w.heap.size := block_lt_of_cell (hcs 0 _ (zc0 (by omega)))
 have hvw : vb < w.heap.size := block_lt_of_cell (hvs 0 _ (zc0 (by omega)))
 have hkk : (n : Int) + (m : Int) - (i : Int) = ((n + m - i : Nat) : Int) := by omega
 have hik : i + (n + m - i) = n + m := by omega
 have hold : (Builtin.firstCells i0.size i (.slice (some ⟨b,off,none⟩) i c)).run Tryz.prog w.drew = .ok (cs.take (i * 3)).toArray w.drew := by
  rw [hzs]
  exact run_firstCells_some w.drew 3 i ⟨b,off,none⟩ i c (cs.take (i * 3)) (by rw [zc20]; omega) (fun j v hj => by
   rw [Addr.add_lit]
   rw [zc14] at hj
   split at hj
   ·exact hcs j v hj
   ·cases hj)
 have hrz : ∀ ty,(Builtin.append_ #[52,3] ty #[.slice (some ⟨b,off,none⟩) i c,.int .i64 ((n : Int) + (m : Int) - (i : Int))]).run Tryz.prog w =
   .ok (.slice (some ⟨w.heap.size,0,none⟩) (n + m) (grownCap w (n + m) c 32)) (w.drew.alloc (.cells ((cs.take (i * 3)).toArray ++ Builtin.zeroCells z.cells (n + m - i) ++ Builtin.zeroCells z.cells (grownCap w (n + m) c 32 - (n + m))) 32)) := fun ty => by
  have h := Lib.run_append_grow_zeros w 52 3 ty 32 i0 z .i64 .i64 Tryz.underlying52 Tryz.underlying3 hi0 hz0 (some ⟨b,off,none⟩) i c (cs.take (i * 3)) hold (n + m - i) (by omega) (by omega) (by omega) (by omega) (by rw [hzb]; omega) (by rw [hzb,hik]; exact growslice_fits hroom hbig)
  rw [hik] at h
  rw [hkk]
  exact h
 obtain ⟨G,hG⟩ : ∃ G,G = grownCap w (n + m) c 32 := ⟨_,rfl⟩
 obtain ⟨ROW,hROW⟩ : ∃ ROW : Array Value,ROW = (cs.take (i * 3)).toArray ++ Builtin.zeroCells z.cells (n + m - i) ++ Builtin.zeroCells z.cells (G - (n + m)) := ⟨_,rfl⟩
 rw [← hG] at hrz ⊢
 rw [← hROW] at hrz ⊢
 have hRl : (n + m) * 3 ≤ ROW.size := by
  rw [hROW]
  simp [Builtin.zeroCells,hzc]
  omega
 obtain ⟨W1,hW1⟩ : ∃ W1,W1 = w.drew.alloc (.cells ROW 32) := ⟨_,rfl⟩
 rw [← hW1] at hrz
 have hN : ∀ j,j < (n + m) * 3 → (W1.cell? ⟨w.heap.size,j,none⟩).isSome = true := fun j hj => by
  rw [hW1,World.cell?_alloc_at (w := w.drew) ROW _ w.heap.size j rfl,zc44 (by omega)]; rfl
 have hNf : ∀ j,W1.frozen? ⟨w.heap.size,j,none⟩ = false := fun j => by rw [hW1]; exact World.frozen?_alloc_at (w := w.drew) ROW _ w.heap.size j rfl
 have hOb : ∀ j v,w.cell? ⟨b,j,none⟩ = some v → W1.cell? ⟨b,j,none⟩ = some v := fun j v h => by rw [hW1,World.cell?_alloc_past (w := w.drew) _ b j hbw]; exact h
 have hOv : ∀ j v,w.cell? ⟨vb,j,none⟩ = some v → W1.cell? ⟨vb,j,none⟩ = some v := fun j v h => by rw [hW1,World.cell?_alloc_past (w := w.drew) _ vb j hvw]; exact h
 have hcpA : ∀ (W : World),(∀ x,W.cell? x = W1.cell? x) → (∀ x,W.frozen? x = W1.frozen? x) → ∀ ty dc,(Builtin.copy_ #[52,52] ty #[.slice (some ⟨w.heap.size,i * 3,none⟩) (n + m - i) dc,.slice (some ⟨vb,voff,none⟩) m vc]).run Tryz.prog W = .ok (goInt (m : Int)) (W.setCells w.heap.size (i * 3) vs) := fun W hWc hWf ty dc =>
  zq1589 W _ _ ty 32 3 w.heap.size (i * 3) (n + m - i) dc ⟨vb,voff,none⟩ m vc m vs Tryz.underlying52 hsz (by simp only [Nat.min_def]; split <;> omega) hvl
   (fun j v hj => by rw [Addr.add_lit,hWc]; exact hOv _ v (hvs j v hj))
   (fun j hj => by rw [hWc]; exact hN _ (by omega)) (fun j hj => by rw [hWf]; exact hNf _) h1v
 have hGn : n + m ≤ G := by rw [hG]; exact grownCap_ge w _ _ _
 have hG63 : G ≤ 9223372036854775807 := by
  have := grownCap_le_maxLen w (n + m) c 32 (by unfold maxLen; omega)
  rw [← hG] at this
  unfold maxLen at this
  omega
 have hGi : ¬ (G = i) := by omega
 have hGim : ¬ (G = i + m) := by omega
 have hci : ¬ (c = i) := by omega
 have hbN : b ≠ w.heap.size := by omega
 have hdl : (cs.drop (i * 3)).length = (n - i) * 3 := by rw [zc40,hcl]; omega
 have hcpB : ∀ (W : World),(∀ x,W.cell? x = (W1.setCells w.heap.size (i * 3) vs).cell? x) → (∀ x,W.frozen? x = (W1.setCells w.heap.size (i * 3) vs).frozen? x) → ∀ ty dc sc,(Builtin.copy_ #[52,52] ty #[.slice (some ⟨w.heap.size,(i + m) * 3,none⟩) (n + m - (i + m)) dc,.slice (some ⟨b,off + i * 3,none⟩) (n - i) sc]).run Tryz.prog W = .ok (goInt ((n - i : Nat) : Int)) (W.setCells w.heap.size ((i + m) * 3) (cs.drop (i * 3))) := fun W hWc hWf ty dc sc =>
  zq1589 W _ _ ty 32 3 w.heap.size ((i + m) * 3) (n + m - (i + m)) dc ⟨b,off + i * 3,none⟩ (n - i) sc (n - i) (cs.drop (i * 3)) Tryz.underlying52 hsz (by simp only [Nat.min_def]; split <;> omega) hdl
   (fun j v hj => by
    rw [Addr.add_lit,hWc,World.cell?_setCells_out _ _ _ _ _ (fun h _ => absurd h hbN),Nat.add_assoc]
    exact hOb _ v (hcs (i * 3 + j) v (by rwa [zc39] at hj)))
   (fun j hj => by rw [hWc]; exact isSome_setCells _ _ _ _ (fun t ht => hN _ (by omega)) _ (hN _ (by omega)))
   (fun j hj => by rw [hWf,World.frozen?_setCells]; exact hNf _) (fun v hv => h1c v (List.mem_of_mem_drop hv))
 subst hW1
 have hE1 : ∀ x,((w.alloc (.cells ROW 32)).drew).cell? x = (w.drew.alloc (.cells ROW 32)).cell? x := fun x => rfl
 have hE2 : ∀ x,((w.alloc (.cells ROW 32)).drew).frozen? x = (w.drew.alloc (.cells ROW 32)).frozen? x := fun x => rfl
 have hF1 : ∀ x,(((w.alloc (.cells ROW 32)).drew.setCells w.heap.size (i * 3) vs).drew).cell? x = ((w.drew.alloc (.cells ROW 32)).setCells w.heap.size (i * 3) vs).cell? x := fun x => rfl
 have hF2 : ∀ x,(((w.alloc (.cells ROW 32)).drew.setCells w.heap.size (i * 3) vs).drew).frozen? x = ((w.drew.alloc (.cells ROW 32)).setCells w.heap.size (i * 3) vs).frozen? x := fun x => rfl
 have hw1 : IntKind.i64.wrap ((i : Int) + (m : Int)) = (i : Int) + (m : Int) := by rw [IntKind.wrap_i64]; omega
 have hb1 : (0 : Int) ≤ (i : Int) + (m : Int) := by omega
 have hin : i ≤ n := by omega
 have htn : ((i : Int) + (m : Int)).toNat = i + m := by omega
 have hb3 : (i : Int) ≤ (n : Int) := by omega
 clear hkk hik hold hROW hG hRl
 go_enter Tryz.func148,Tryz.ntmps148
 go_wp2_with (first
  | (at_builtin; refine Lib.wpList_append_run _ rfl _ _ _ _ rfl _ _ rfl rfl _ _ (hrz _) ?_)
  | (at_builtin; refine wpList_copy_runI _ rfl _ _ 52 52 rfl _ _ rfl rfl (hcpA _ hE1 hE2 _ _) ?_)
  | (at_builtin; refine wpList_copy_runI _ rfl _ _ 52 52 rfl _ _ rfl rfl (hcpB _ (fun _ => rfl) (fun _ => rfl) _ _ _) ?_))
 go_region_law_o (refine step_copy_runI rfl _ _ 52 52 rfl (.slice (some ⟨w.heap.size,(i + m) * 3,none⟩) (n + m - (i + m)) (G - (i + m))) (.slice (some ⟨b,off + i * 3,none⟩) (n - i) (c - i)) (by simp [Act.eval,Act.put]) (by simp [Act.eval,Act.put]) (hcpB _ hF1 hF2 3 (G - (i + m)) (c - i)) ?_)
 go_wp2
 go_ret
 exact ⟨rfl,rfl⟩
set_option maxHeartbeats 4000000 in
set_option maxRecDepth 100000 in
/-- At the end: whatever append does. -/
theorem zq926 (v : Value) (base : Option Addr) (n c : Nat) (vb vc m : Nat) (v' : Value) (w w' : World) (hm : 0 < m) (hnc : n ≤ c)
  (hrun : ∀ ty,(Builtin.append_ #[52,52] ty #[.slice base n c,.slice (some ⟨vb,0,none⟩) m vc]).run Tryz.prog w = .ok v' w') (hsl : ∃ A N C,v' = .slice A N C) (hnil : base = none → n = 0) :
  Calls Tryz.prog 148 #[.slice base n c,.int .i64 n,.slice (some ⟨vb,0,none⟩) m vc] w fun e w2 => e = .returned v' ∧ w2 = w' := by
 have u30 := run_underlying Tryz.underlying52
 have z49 := zq1634
 have mixed := zq1220
 have hz1 : ¬ ((m : Int) = 0) := by omega
 obtain ⟨A,N,C,rfl⟩ := hsl
 go_enter Tryz.func148,Tryz.ntmps148
 cases base with
 | none =>
  have h0 := hnil rfl
  subst h0
  go_wp2_with (at_builtin; refine Lib.wpList_append_run _ rfl _ _ _ _ rfl _ _ rfl rfl _ _ (hrun _) ?_)
  all_goals (go_ret; exact ⟨rfl,rfl⟩)
 | some a =>
  obtain ⟨ab,ao,asp⟩ := a
  go_wp2_with (at_builtin; refine Lib.wpList_append_run _ rfl _ _ _ _ rfl _ _ rfl rfl _ _ (hrun _) ?_)
  all_goals (go_ret; exact ⟨rfl,rfl⟩)
theorem zq925 {arr : Array Value} {n i : Nat} {cs xs : List Value} (hi : i < n) (hcl : cs.length = n * 3) (hxl : xs.length = 3) (hsz : (n + 1) * 3 ≤ arr.size) (h0 : ∀ q,q < i * 3 → arr[q]? = cs[q]?) :
  (zq1605 (zq1605 arr ((i + 1) * 3) (cs.drop (i * 3))) (i * 3) xs).toList.take ((n + 1) * 3) = cs.take (i * 3) ++ xs ++ cs.drop (i * 3) ∧
  (zq1605 (zq1605 arr (i * 3) xs) ((i + 1) * 3) (cs.drop (i * 3))).toList.take ((n + 1) * 3) = cs.take (i * 3) ++ xs ++ cs.drop (i * 3) := by
 have hdl : (cs.drop (i * 3)).length = (n - i) * 3 := by rw [zc40,hcl]; omega
 have hrhs : ∀ q : Nat,(cs.take (i * 3) ++ xs ++ cs.drop (i * 3))[q]? = if q < i * 3 then cs[q]? else if q < (i + 1) * 3 then xs[q - i * 3]? else (cs.drop (i * 3))[q - (i + 1) * 3]? := by
  intro q
  rw [zc46,zc29,zc20,Nat.min_eq_left (by omega)]
  split
  ·rw [zc14,if_pos (by assumption)]
  ·rw [zc29,hxl]
   by_cases hq : q < (i + 1) * 3
   ·rw [if_pos (by omega),if_pos hq]
   ·rw [if_neg (by omega),if_neg hq]
    congr 1
    omega
 constructor
 ·apply List.ext_getElem?
  intro q
  rw [hrhs,zc14]
  by_cases hq : q < (n + 1) * 3
  ·rw [if_pos hq,zc25,zq1606 _ _ _ _ (by rw [zq1607]; omega)]
   by_cases h1 : q < i * 3
   ·rw [if_neg (by omega),if_pos h1,zq1606 _ _ _ _ (by omega),if_neg (by omega),h0 q h1]
   ·rw [if_neg h1]
    by_cases h2 : q < (i + 1) * 3
    ·rw [if_pos (by omega),if_pos h2]
    ·rw [if_neg (by omega),if_neg h2,zq1606 _ _ _ _ (by omega),if_pos (by omega)]
  ·rw [if_neg hq,if_neg (by omega),if_neg (by omega),zc22 (by omega)]
 ·apply List.ext_getElem?
  intro q
  rw [hrhs,zc14]
  by_cases hq : q < (n + 1) * 3
  ·rw [if_pos hq,zc25,zq1606 _ _ _ _ (by rw [zq1607]; omega)]
   by_cases h1 : q < i * 3
   ·rw [if_neg (by omega),if_pos h1,zq1606 _ _ _ _ (by omega),if_neg (by omega),h0 q h1]
   ·rw [if_neg h1]
    by_cases h2 : q < (i + 1) * 3
    ·rw [if_neg (by omega),if_pos h2,zq1606 _ _ _ _ (by omega),if_pos (by omega)]
    ·rw [if_pos (by omega),if_neg h2]
  ·rw [if_neg hq,if_neg (by omega),if_neg (by omega),zc22 (by omega)]
theorem zq928 (base : Nat) (w : World) (v u : Value) (n i : Nat) (cs xs : List Value) (h1 : w.ownsRow base 32 3 v n cs) (h2 : w.ownsRow base 32 3 u 1 xs) (hap : ∀ b,v.ownBlock = some b → u.ownBlock ≠ some b) (hc1 : ∀ x ∈ cs,oneC x = true) (hc2 : ∀ x ∈ xs,oneC x = true)
  (hbase : base ≤ w.heap.size) (hin : i ≤ n) (hbig : n + 1 ≤ 274877906944) :
  Calls Tryz.prog 148 #[v,.int .i64 (i : Int),u] w fun r w' => ∃ v',r = .returned v' ∧ w'.ownsRow base 32 3 v' (n + 1) (cs.take (i * 3) ++ xs ++ cs.drop (i * 3)) ∧ w.grownBy w' v.ownBlock ∧ (∀ b,v'.ownBlock = some b → v.ownBlock = some b ∨ w.heap.size ≤ b) := by
 obtain ⟨i0,hi0,hz⟩ := zc7.1 zq916
 simp only [zc11] at hz
 obtain ⟨hzc,hzs,hzb⟩ := hz
 obtain ⟨z,hz0,hzc⟩ := zc7.1 hzc
 have hcl := h1.1
 have hxl : xs.length = 3 := by have := h2.1; omega
 rcases h2.2 with ⟨_,h0⟩ | ⟨vb,vc,curv,rfl,hvbase,hvheap,hvc,hvcm,hvsz,hvtake⟩
 ·cases h0
 have hvs : ∀ j x,xs[j]? = some x → w.cell? ⟨vb,0 + j,none⟩ = some x := by
  intro j x hj
  rw [Nat.zero_add,zq543 hvheap,← zc25]
  rw [← hvtake,zc14] at hj
  split at hj
  ·exact hj
  ·cases hj
 have h1v : ∀ x ∈ xs,x.oneCell' = true := fun x hx => zq1279 (hc2 x hx)
 have h1c : ∀ x ∈ cs,x.oneCell' = true := fun x hx => zq1279 (hc1 x hx)
 by_cases hine : i = n
 ·subst hine
  have htd : cs.take (i * 3) ++ xs ++ cs.drop (i * 3) = cs ++ xs := by rw [List.take_of_length_le (by omega),zc18 (by omega),List.append_nil]
  rw [htd]
  have hown5 : w.ownsRow base 32 i0.size v i cs := by rw [hzs]; exact h1
  obtain ⟨v',w',hrun,hown',hgb,hblk⟩ := zq458 (P := Tryz.prog) w base 52 0 32 i0 z Tryz.underlying52 hi0 hz0 (by rw [hzs]; exact hzc) (by omega) v i cs hown5 (some ⟨vb,0,none⟩) 1 vc xs (by rw [hzs]; omega) (by simp)
   (fun ad had j x hj => by
    cases had
    rw [zq395]
    exact hvs j x hj) h1v (by unfold maxLen; omega) (by rw [hzb]; omega) hbase
  have hrun' : ∀ ty,(Builtin.append_ #[52,52] ty #[v,.slice (some ⟨vb,0,none⟩) 1 vc]).run Tryz.prog w = .ok v' w' := fun ty => by
   rw [← hrun]
   rfl
  rw [hzs] at hown'
  have hsl : ∃ A N C,v' = .slice A N C := by
   rcases hown'.2 with ⟨h,_⟩ | ⟨g,cp,cur,h,_⟩
   ·exact ⟨_,_,_,h⟩
   ·exact ⟨_,_,_,h⟩
  have hv : ∃ A c,v = .slice A i c ∧ i ≤ c ∧ (A = none → i = 0) := by
   rcases h1.2 with ⟨h,h0⟩ | ⟨g,cp,cur,h,_,_,hc,_⟩
   ·exact ⟨none,0,by rw [h,h0],by omega,fun _ => h0⟩
   ·exact ⟨_,cp,h,hc,fun h => by cases h⟩
  obtain ⟨A,c,rfl,hc,hnil⟩ := hv
  refine (zq926 (.slice A i c) A i c vb vc 1 v' w w' (by omega) hc hrun' hsl hnil).mono ?_
  rintro e w2 ⟨rfl,rfl⟩
  exact ⟨v',rfl,hown',hgb,hblk⟩
 ·have hi : i < n := by omega
  rcases h1.2 with ⟨_,h0⟩ | ⟨g,cap,cur,rfl,hgbase,hgheap,hnc,hcm,hgsz,hgtake⟩
  ·omega
  have hvbg : vb ≠ g := fun e => hap g rfl (by rw [e]; rfl)
  have hcs : ∀ j x,cs[j]? = some x → w.cell? ⟨g,0 + j,none⟩ = some x := by
   intro j x hj
   rw [Nat.zero_add,zq543 hgheap,← zc25]
   rw [← hgtake,zc14] at hj
   split at hj
   ·exact hj
   ·cases hj
  by_cases hroom : n + 1 ≤ cap
  ·refine (zq929 g 0 n cap i vb 0 1 vc cs xs w hi (by omega) hroom (by unfold maxLen at hcm; omega) hvbg hcl (by omega) hcs
    (fun j hj => by rw [Nat.zero_add,zq543 hgheap,zc44 (by omega)]; rfl) (fun j hj => by simp [World.frozen?,hgheap]) hvs h1c h1v 32 32 curv.size cur.size
    (by simp [World.shape?,hvheap]) (by simp [World.shape?,hgheap]) (by omega) (by simp [World.frozen?,hvheap]) (by simp [World.frozen?,hvheap])).mono ?_
   rintro e w' ⟨rfl,rfl⟩
   have hg0 : w.drew.heap[g]? = some (.cells cur 32 (0,0)) := hgheap
   obtain ⟨a1,a2,a3,a4,a5,a6⟩ := zq1609 w.drew g (0 + (i + 1) * 3) (cs.drop (i * 3)) cur 32 (0,0) hg0
   obtain ⟨b1,b2,b3,b4,b5,b6⟩ := zq1609 _ g (0 + i * 3) xs _ 32 (0,0) a1
   have hdl : (cs.drop (i * 3)).length = (n - i) * 3 := by rw [zc40,hcl]; omega
   refine ⟨_,rfl,⟨?_,.inr ⟨g,cap,_,rfl,hgbase,b1,hroom,hcm,by rw [zq1607,zq1607]; exact hgsz,?_⟩⟩,⟨b4.trans a4,b5.trans a5,b6.trans a6,by rw [b3,a3]; exact zc47 _,fun k hk hne => ?_⟩,fun b hb => .inl hb⟩
   ·simp only [zc24,zc20,hdl,hxl]; omega
   ·rw [Nat.zero_add,Nat.zero_add]
    refine (zq925 hi hcl hxl (by omega) fun q hq => ?_).1
    rw [← hgtake,zc14,if_pos (by omega),zc25]
   ·have hkg : k ≠ g := fun e => hne (by rw [e]; rfl)
    exact (b2 k hkg).trans (a2 k hkg)
  ·refine (zq927 g 0 n cap i vb 0 1 vc cs xs z (by rw [hi0]; simp [hz0]) w hi (by omega) hnc (by omega) (by omega) hcl (by omega) hcs hvs h1c h1v).mono ?_
   rintro e w' ⟨rfl,rfl⟩
   obtain ⟨G,hG⟩ : ∃ G,G = grownCap w (n + 1) cap 32 := ⟨_,rfl⟩
   have hGn : n + 1 ≤ G := by rw [hG]; exact grownCap_ge w _ _ _
   have hG63 : G ≤ maxLen := by rw [hG]; exact grownCap_le_maxLen w (n + 1) cap 32 (by unfold maxLen; omega)
   rw [← hG]
   obtain ⟨ROW,hROW⟩ : ∃ ROW : Array Value,ROW = (cs.take (i * 3)).toArray ++ Builtin.zeroCells z.cells (n + 1 - i) ++ Builtin.zeroCells z.cells (G - (n + 1)) := ⟨_,rfl⟩
   rw [← hROW]
   have hRs : ROW.size = G * 3 := by
    rw [hROW]
    simp [Builtin.zeroCells,hzc]
    omega
   have hR0 : ∀ q,q < i * 3 → ROW[q]? = cs[q]? := fun q hq => by
    rw [hROW,Array.append_assoc,Array.getElem?_append_left (by simp; omega)]
    simp only [List.getElem?_toArray,zc14,if_pos hq]
   have hh : ((w.alloc (.cells ROW 32)).drew).heap[w.heap.size]? = some (.cells ROW 32 (0,0)) := by
    show (w.heap.push _)[w.heap.size]? = _
    exact Array.getElem?_push_size
   obtain ⟨a1,a2,a3,a4,a5,a6⟩ := zq1609 _ w.heap.size (i * 3) xs ROW 32 (0,0) hh
   have a1' : (((w.alloc (.cells ROW 32)).drew.setCells w.heap.size (i * 3) xs).drew).heap[w.heap.size]? = _ := a1
   obtain ⟨b1,b2,b3,b4,b5,b6⟩ := zq1609 _ w.heap.size ((i + 1) * 3) (cs.drop (i * 3)) _ 32 (0,0) a1'
   have hdl : (cs.drop (i * 3)).length = (n - i) * 3 := by rw [zc40,hcl]; omega
   have hold : ∀ k,k < w.heap.size → ((w.alloc (.cells ROW 32)).drew).heap[k]? = w.heap[k]? := fun k hk => by
    show (w.heap.push _)[k]? = _
    rw [Array.getElem?_push,if_neg (by omega)]
   refine ⟨_,rfl,⟨?_,.inr ⟨w.heap.size,G,_,rfl,hbase,b1,hGn,hG63,by rw [zq1607,zq1607]; exact hRs,?_⟩⟩,⟨b4.trans a4,b5.trans a5,b6.trans a6,?_,fun k hk hne => ?_⟩,fun b hb => .inr ?_⟩
   ·simp only [zc24,zc20,hdl,hxl]; omega
   ·exact (zq925 hi hcl hxl (by omega) hR0).2
   ·rw [b3]
    show w.heap.size ≤ ((w.alloc (.cells ROW 32)).drew.setCells w.heap.size (i * 3) xs).heap.size
    rw [a3]
    show w.heap.size ≤ (w.heap.push _).size
    simp
   ·exact ((b2 k (by omega)).trans (a2 k (by omega))).trans (hold k hk)
   ·cases hb
    exact zc47 _
theorem zq918 : (Tryz.prog.info? 116).map (fun i => (i.zero.map (·.cells.size),i.size,i.bytes)) = some (some 5,5,56) := by kernel_rfl
theorem zq1636 (w : World) : (Go.sizeOf 116).run Tryz.prog w = .ok 5 w := by kernel_rfl
set_option maxHeartbeats 4000000 in
set_option maxRecDepth 100000 in
/-- There is room, i < len(s): in place. -/
theorem zq940 (b off n c i vb voff m vc : Nat) (cs vs : List Value) (w : World) (hi : i < n) (hm : 0 < m) (hroom : n + m ≤ c) (hc63 : c ≤ 9223372036854775807) (hvb : vb ≠ b)
  (hcl : cs.length = n * 5) (hvl : vs.length = m * 5)
  (hcs : ∀ j v,cs[j]? = some v → w.cell? ⟨b,off + j,none⟩ = some v) (hsp : ∀ j,j < (n + m) * 5 → (w.cell? ⟨b,off + j,none⟩).isSome = true) (hfz : ∀ j,j < (n + m) * 5 → w.frozen? ⟨b,off + j,none⟩ = false)
  (hvs : ∀ j v,vs[j]? = some v → w.cell? ⟨vb,voff + j,none⟩ = some v) (h1c : ∀ v ∈ cs,v.oneCell' = true) (h1v : ∀ v ∈ vs,v.oneCell' = true)
  (tA tB : TypeId) (kA kB : Nat) (hsa : w.shape? vb = some (tA,kA)) (hsb : w.shape? b = some (tB,kB)) (hkB : kB ≠ 0) (hfa : w.frozen? ⟨vb,voff,none⟩ = false) (hfe : w.frozen? ⟨vb,kA,none⟩ = false) :
  Calls Tryz.prog 146 #[.slice (some ⟨b,off,none⟩) n c,.int .i64 i,.slice (some ⟨vb,voff,none⟩) m vc] w fun e w' =>
   e = .returned (.slice (some ⟨b,off,none⟩) (n + m) c) ∧ w' = (w.drew.setCells b (off + (i + m) * 5) (cs.drop (i * 5))).setCells b (off + i * 5) vs := by
 have u30 := run_underlying Tryz.underlying42
 have z49 := zq1636
 have hz1 : ¬ ((m : Int) = 0) := by omega
 have hz2 : ¬ ((i : Int) = (n : Int)) := by omega
 have hsz : (Tryz.prog.info? 116).map (·.size) = some 5 := by
  obtain ⟨i0,hi0,hz⟩ := zc7.1 zq918
  simp only [zc11] at hz
  rw [hi0]; simp [hz.2.1]
 have hov : ∀ lb cb,(callFunc 156 #[.slice (some ⟨vb,voff,none⟩) m vc,.slice (some ⟨b,off + (i + m) * 5,none⟩) lb cb]).run Tryz.prog w = .ok (.value (.bool false)) w := fun lb cb => by
  rw [run_callFunc_extern Tryz.func156 (by kernel_rfl) (by kernel_rfl) (by kernel_rfl) (e := Extern.SlicesOverlaps.overlaps #[42,42] #[4]) (by kernel_rfl),
   Lib.run_overlaps_apart w 42 4 116 Tryz.underlying42 5 zq1636 ⟨vb,voff,none⟩ ⟨b,off + (i + m) * 5,none⟩ m vc lb cb hvb tA tB kA kB hsa hsb hkB hfa hfe]
  rfl
 have hdl : (cs.drop (i * 5)).length = (n - i) * 5 := by rw [zc40,hcl]; omega
 have mixed := zq1220
 have hw1 : IntKind.i64.wrap ((i : Int) + (m : Int)) = (i : Int) + (m : Int) := by rw [IntKind.wrap_i64]; omega
 have hb1 : (0 : Int) ≤ (i : Int) + (m : Int) := by omega
 have hin : i ≤ n := by omega
 have htn : ((i : Int) + (m : Int)).toNat = i + m := by omega
 have hb2 : ¬ (c = i + m) := by omega
 have hb3 : (i : Int) ≤ (n : Int) + (m : Int) := by omega
 have hb4 : ¬ (c = i) := by omega
 have hcp1 : ∀ ty dc sc,(Builtin.copy_ #[42,42] ty #[.slice (some ⟨b,off + (i + m) * 5,none⟩) (n + m - (i + m)) dc,.slice (some ⟨b,off + i * 5,none⟩) (n + m - i) sc]).run Tryz.prog w.drew = .ok (goInt ((n - i : Nat) : Int)) (w.drew.setCells b (off + (i + m) * 5) (cs.drop (i * 5))) := fun ty dc sc =>
  zq1589 w.drew _ _ ty 116 5 b (off + (i + m) * 5) (n + m - (i + m)) dc ⟨b,off + i * 5,none⟩ (n + m - i) sc (n - i) (cs.drop (i * 5)) Tryz.underlying42 hsz (by simp only [Nat.min_def]; split <;> omega) hdl
   (fun j v hj => by rw [Addr.add_lit,Nat.add_assoc]; exact hcs (i * 5 + j) v (by rwa [zc39] at hj))
   (fun j hj => by rw [Nat.add_assoc]; exact hsp _ (by omega)) (fun j hj => by rw [Nat.add_assoc]; exact hfz _ (by omega)) (fun v hv => h1c v (List.mem_of_mem_drop hv))
 obtain ⟨W1,hW1⟩ : ∃ W1,W1 = w.drew.setCells b (off + (i + m) * 5) (cs.drop (i * 5)) := ⟨_,rfl⟩
 have hsp1 : ∀ k,k < (n + m) * 5 → (W1.cell? ⟨b,off + k,none⟩).isSome = true := fun k hk => by
  rw [hW1]
  exact isSome_setCells b _ _ _ (fun j hj => by rw [Nat.add_assoc]; exact hsp _ (by omega)) _ (hsp k hk)
 have hcp2 : ∀ (W : World),(∀ x,W.cell? x = W1.cell? x) → (∀ x,W.frozen? x = W1.frozen? x) → ∀ ty dc,(Builtin.copy_ #[42,42] ty #[.slice (some ⟨b,off + i * 5,none⟩) (n + m - i) dc,.slice (some ⟨vb,voff,none⟩) m vc]).run Tryz.prog W = .ok (goInt m) (W.setCells b (off + i * 5) vs) := fun W hWc hWf ty dc =>
  zq1589 W _ _ ty 116 5 b (off + i * 5) (n + m - i) dc ⟨vb,voff,none⟩ m vc m vs Tryz.underlying42 hsz (by simp only [Nat.min_def]; split <;> omega) hvl
   (fun j v hj => by
    rw [Addr.add_lit,hWc,hW1,World.cell?_setCells_out b _ _ _ _ (fun h _ => absurd h hvb)]
    exact hvs j v hj)
   (fun j hj => by rw [hWc,Nat.add_assoc]; exact hsp1 _ (by omega)) (fun j hj => by rw [hWf,hW1,World.frozen?_setCells,Nat.add_assoc]; exact hfz _ (by omega)) h1v
 rw [← hW1] at hcp1
 go_enter Tryz.func146,Tryz.ntmps146
 go_wp2_with (simp only [hov])
 go_region_law_o (refine step_copy_runI rfl _ _ 42 42 rfl _ _ (by simp [Act.eval,Act.put]) (by simp [Act.eval,Act.put]) (hcp1 _ _ _) ?_)
 go_wp2_with (at_builtin; refine wpList_copy_runI _ rfl _ _ 42 42 rfl _ _ rfl rfl (hcp2 _ (fun _ => rfl) (fun _ => rfl) _ _) ?_)
 go_ret
 first | exact ⟨rfl,rfl⟩ | exact ⟨rfl,by rw [hW1]⟩
set_option maxHeartbeats 4000000 in
set_option maxRecDepth 100000 in
/-- i < len(s), no room: a new row. -/
theorem zq938 (b off n c i vb voff m vc : Nat) (cs vs : List Value) (z : Value) (hz0 : (Tryz.prog.info? 116).map (·.zero) = some (some z)) (w : World) (hi : i < n) (hm : 0 < m) (hnc : n ≤ c) (hroom : c < n + m) (hbig : (n + m) * 56 ≤ 140737488355328)
  (hcl : cs.length = n * 5) (hvl : vs.length = m * 5)
  (hcs : ∀ j v,cs[j]? = some v → w.cell? ⟨b,off + j,none⟩ = some v)
  (hvs : ∀ j v,vs[j]? = some v → w.cell? ⟨vb,voff + j,none⟩ = some v) (h1c : ∀ v ∈ cs,v.oneCell' = true) (h1v : ∀ v ∈ vs,v.oneCell' = true) :
  Calls Tryz.prog 146 #[.slice (some ⟨b,off,none⟩) n c,.int .i64 i,.slice (some ⟨vb,voff,none⟩) m vc] w fun e w' =>
   e = .returned (.slice (some ⟨w.heap.size,0,none⟩) (n + m) (grownCap w (n + m) c 116)) ∧
   w' = (((w.alloc (.cells ((cs.take (i * 5)).toArray ++ Builtin.zeroCells z.cells (n + m - i) ++ Builtin.zeroCells z.cells (grownCap w (n + m) c 116 - (n + m))) 116)).drew.setCells w.heap.size (i * 5) vs).drew).setCells w.heap.size ((i + m) * 5) (cs.drop (i * 5)) := by
 have u30 := run_underlying Tryz.underlying42
 have z49 := zq1636
 have mixed := zq1220
 obtain ⟨i0,hi0,hz⟩ := zc7.1 zq918
 simp only [zc11] at hz
 obtain ⟨hzc,hzs,hzb⟩ := hz
 have hz0 : i0.zero = some z := by rw [hi0] at hz0; simpa using hz0
 have hzc : z.cells.size = 5 := by rw [hz0] at hzc; simpa using hzc
 have hz1 : ¬ ((m : Int) = 0) := by omega
 have hz2 : ¬ ((i : Int) = (n : Int)) := by omega
 have hz3 : (c : Int) < (n : Int) + (m : Int) := by omega
 have hsz : (Tryz.prog.info? 116).map (·.size) = some 5 := by rw [hi0]; simp [hzs]
 have hbw : b < w.heap.size := block_lt_of_cell (hcs 0 _ (zc0 (by omega)))
 have hvw : vb < w.heap.size := block_lt_of_cell (hvs 0 _ (zc0 (by omega)))
 have hkk : (n : Int) + (m : Int) - (i : Int) = ((n + m - i : Nat) : Int) := by omega
 have hik : i + (n + m - i) = n + m := by omega
 have hold : (Builtin.firstCells i0.size i (.slice (some ⟨b,off,none⟩) i c)).run Tryz.prog w.drew = .ok (cs.take (i * 5)).toArray w.drew := by
  rw [hzs]
  exact run_firstCells_some w.drew 5 i ⟨b,off,none⟩ i c (cs.take (i * 5)) (by rw [zc20]; omega) (fun j v hj => by
   rw [Addr.add_lit]
   rw [zc14] at hj
   split at hj
   ·exact hcs j v hj
   ·cases hj)
 have hrz : ∀ ty,(Builtin.append_ #[42,3] ty #[.slice (some ⟨b,off,none⟩) i c,.int .i64 ((n : Int) + (m : Int) - (i : Int))]).run Tryz.prog w =
   .ok (.slice (some ⟨w.heap.size,0,none⟩) (n + m) (grownCap w (n + m) c 116)) (w.drew.alloc (.cells ((cs.take (i * 5)).toArray ++ Builtin.zeroCells z.cells (n + m - i) ++ Builtin.zeroCells z.cells (grownCap w (n + m) c 116 - (n + m))) 116)) := fun ty => by
  have h := Lib.run_append_grow_zeros w 42 3 ty 116 i0 z .i64 .i64 Tryz.underlying42 Tryz.underlying3 hi0 hz0 (some ⟨b,off,none⟩) i c (cs.take (i * 5)) hold (n + m - i) (by omega) (by omega) (by omega) (by omega) (by rw [hzb]; omega) (by rw [hzb,hik]; exact growslice_fits hroom hbig)
  rw [hik] at h
  rw [hkk]
  exact h
 obtain ⟨G,hG⟩ : ∃ G,G = grownCap w (n + m) c 116 := ⟨_,rfl⟩
 obtain ⟨ROW,hROW⟩ : ∃ ROW : Array Value,ROW = (cs.take (i * 5)).toArray ++ Builtin.zeroCells z.cells (n + m - i) ++ Builtin.zeroCells z.cells (G - (n + m)) := ⟨_,rfl⟩
 rw [← hG] at hrz ⊢
 rw [← hROW] at hrz ⊢
 have hRl : (n + m) * 5 ≤ ROW.size := by
  rw [hROW]
  simp [Builtin.zeroCells,hzc]
  omega
 obtain ⟨W1,hW1⟩ : ∃ W1,W1 = w.drew.alloc (.cells ROW 116) := ⟨_,rfl⟩
 rw [← hW1] at hrz
 have hN : ∀ j,j < (n + m) * 5 → (W1.cell? ⟨w.heap.size,j,none⟩).isSome = true := fun j hj => by
  rw [hW1,World.cell?_alloc_at (w := w.drew) ROW _ w.heap.size j rfl,zc44 (by omega)]; rfl
 have hNf : ∀ j,W1.frozen? ⟨w.heap.size,j,none⟩ = false := fun j => by rw [hW1]; exact World.frozen?_alloc_at (w := w.drew) ROW _ w.heap.size j rfl
 have hOb : ∀ j v,w.cell? ⟨b,j,none⟩ = some v → W1.cell? ⟨b,j,none⟩ = some v := fun j v h => by rw [hW1,World.cell?_alloc_past (w := w.drew) _ b j hbw]; exact h
 have hOv : ∀ j v,w.cell? ⟨vb,j,none⟩ = some v → W1.cell? ⟨vb,j,none⟩ = some v := fun j v h => by rw [hW1,World.cell?_alloc_past (w := w.drew) _ vb j hvw]; exact h
 have hcpA : ∀ (W : World),(∀ x,W.cell? x = W1.cell? x) → (∀ x,W.frozen? x = W1.frozen? x) → ∀ ty dc,(Builtin.copy_ #[42,42] ty #[.slice (some ⟨w.heap.size,i * 5,none⟩) (n + m - i) dc,.slice (some ⟨vb,voff,none⟩) m vc]).run Tryz.prog W = .ok (goInt (m : Int)) (W.setCells w.heap.size (i * 5) vs) := fun W hWc hWf ty dc =>
  zq1589 W _ _ ty 116 5 w.heap.size (i * 5) (n + m - i) dc ⟨vb,voff,none⟩ m vc m vs Tryz.underlying42 hsz (by simp only [Nat.min_def]; split <;> omega) hvl
   (fun j v hj => by rw [Addr.add_lit,hWc]; exact hOv _ v (hvs j v hj))
   (fun j hj => by rw [hWc]; exact hN _ (by omega)) (fun j hj => by rw [hWf]; exact hNf _) h1v
 have hGn : n + m ≤ G := by rw [hG]; exact grownCap_ge w _ _ _
 have hG63 : G ≤ 9223372036854775807 := by
  have := grownCap_le_maxLen w (n + m) c 116 (by unfold maxLen; omega)
  rw [← hG] at this
  unfold maxLen at this
  omega
 have hGi : ¬ (G = i) := by omega
 have hGim : ¬ (G = i + m) := by omega
 have hci : ¬ (c = i) := by omega
 have hbN : b ≠ w.heap.size := by omega
 have hdl : (cs.drop (i * 5)).length = (n - i) * 5 := by rw [zc40,hcl]; omega
 have hcpB : ∀ (W : World),(∀ x,W.cell? x = (W1.setCells w.heap.size (i * 5) vs).cell? x) → (∀ x,W.frozen? x = (W1.setCells w.heap.size (i * 5) vs).frozen? x) → ∀ ty dc sc,(Builtin.copy_ #[42,42] ty #[.slice (some ⟨w.heap.size,(i + m) * 5,none⟩) (n + m - (i + m)) dc,.slice (some ⟨b,off + i * 5,none⟩) (n - i) sc]).run Tryz.prog W = .ok (goInt ((n - i : Nat) : Int)) (W.setCells w.heap.size ((i + m) * 5) (cs.drop (i * 5))) := fun W hWc hWf ty dc sc =>
  zq1589 W _ _ ty 116 5 w.heap.size ((i + m) * 5) (n + m - (i + m)) dc ⟨b,off + i * 5,none⟩ (n - i) sc (n - i) (cs.drop (i * 5)) Tryz.underlying42 hsz (by simp only [Nat.min_def]; split <;> omega) hdl
   (fun j v hj => by
    rw [Addr.add_lit,hWc,World.cell?_setCells_out _ _ _ _ _ (fun h _ => absurd h hbN),Nat.add_assoc]
    exact hOb _ v (hcs (i * 5 + j) v (by rwa [zc39] at hj)))
   (fun j hj => by rw [hWc]; exact isSome_setCells _ _ _ _ (fun t ht => hN _ (by omega)) _ (hN _ (by omega)))
   (fun j hj => by rw [hWf,World.frozen?_setCells]; exact hNf _) (fun v hv => h1c v (List.mem_of_mem_drop hv))
 subst hW1
 have hE1 : ∀ x,((w.alloc (.cells ROW 116)).drew).cell? x = (w.drew.alloc (.cells ROW 116)).cell? x := fun x => rfl
 have hE2 : ∀ x,((w.alloc (.cells ROW 116)).drew).frozen? x = (w.drew.alloc (.cells ROW 116)).frozen? x := fun x => rfl
 have hF1 : ∀ x,(((w.alloc (.cells ROW 116)).drew.setCells w.heap.size (i * 5) vs).drew).cell? x = ((w.drew.alloc (.cells ROW 116)).setCells w.heap.size (i * 5) vs).cell? x := fun x => rfl
 have hF2 : ∀ x,(((w.alloc (.cells ROW 116)).drew.setCells w.heap.size (i * 5) vs).drew).frozen? x = ((w.drew.alloc (.cells ROW 116)).setCells w.heap.size (i * 5) vs).frozen? x := fun x => rfl
 have hw1 : IntKind.i64.wrap ((i : Int) + (m : Int)) = (i : Int) + (m : Int) := by rw [IntKind.wrap_i64]; omega
 have hb1 : (0 : Int) ≤ (i : Int) + (m : Int) := by omega
 have hin : i ≤ n := by omega
 have htn : ((i : Int) + (m : Int)).toNat = i + m := by omega
 have hb3 : (i : Int) ≤ (n : Int) := by omega
 clear hkk hik hold hROW hG hRl
 go_enter Tryz.func146,Tryz.ntmps146
 go_wp2_with (first
  | (at_builtin; refine Lib.wpList_append_run _ rfl _ _ _ _ rfl _ _ rfl rfl _ _ (hrz _) ?_)
  | (at_builtin; refine wpList_copy_runI _ rfl _ _ 42 42 rfl _ _ rfl rfl (hcpA _ hE1 hE2 _ _) ?_)
  | (at_builtin; refine wpList_copy_runI _ rfl _ _ 42 42 rfl _ _ rfl rfl (hcpB _ (fun _ => rfl) (fun _ => rfl) _ _ _) ?_))
 go_region_law_o (refine step_copy_runI rfl _ _ 42 42 rfl (.slice (some ⟨w.heap.size,(i + m) * 5,none⟩) (n + m - (i + m)) (G - (i + m))) (.slice (some ⟨b,off + i * 5,none⟩) (n - i) (c - i)) (by simp [Act.eval,Act.put]) (by simp [Act.eval,Act.put]) (hcpB _ hF1 hF2 3 (G - (i + m)) (c - i)) ?_)
 go_wp2
 go_ret
 exact ⟨rfl,rfl⟩
set_option maxHeartbeats 4000000 in
set_option maxRecDepth 100000 in
/-- At the end: whatever append does. -/
theorem zq937 (v : Value) (base : Option Addr) (n c : Nat) (vb vc m : Nat) (v' : Value) (w w' : World) (hm : 0 < m) (hnc : n ≤ c)
  (hrun : ∀ ty,(Builtin.append_ #[42,42] ty #[.slice base n c,.slice (some ⟨vb,0,none⟩) m vc]).run Tryz.prog w = .ok v' w') (hsl : ∃ A N C,v' = .slice A N C) (hnil : base = none → n = 0) :
  Calls Tryz.prog 146 #[.slice base n c,.int .i64 n,.slice (some ⟨vb,0,none⟩) m vc] w fun e w2 => e = .returned v' ∧ w2 = w' := by
 have u30 := run_underlying Tryz.underlying42
 have z49 := zq1636
 have mixed := zq1220
 have hz1 : ¬ ((m : Int) = 0) := by omega
 obtain ⟨A,N,C,rfl⟩ := hsl
 go_enter Tryz.func146,Tryz.ntmps146
 cases base with
 | none =>
  have h0 := hnil rfl
  subst h0
  go_wp2_with (at_builtin; refine Lib.wpList_append_run _ rfl _ _ _ _ rfl _ _ rfl rfl _ _ (hrun _) ?_)
  all_goals (go_ret; exact ⟨rfl,rfl⟩)
 | some a =>
  obtain ⟨ab,ao,asp⟩ := a
  go_wp2_with (at_builtin; refine Lib.wpList_append_run _ rfl _ _ _ _ rfl _ _ rfl rfl _ _ (hrun _) ?_)
  all_goals (go_ret; exact ⟨rfl,rfl⟩)
theorem zq936 {arr : Array Value} {n i : Nat} {cs xs : List Value} (hi : i < n) (hcl : cs.length = n * 5) (hxl : xs.length = 5) (hsz : (n + 1) * 5 ≤ arr.size) (h0 : ∀ q,q < i * 5 → arr[q]? = cs[q]?) :
  (zq1605 (zq1605 arr ((i + 1) * 5) (cs.drop (i * 5))) (i * 5) xs).toList.take ((n + 1) * 5) = cs.take (i * 5) ++ xs ++ cs.drop (i * 5) ∧
  (zq1605 (zq1605 arr (i * 5) xs) ((i + 1) * 5) (cs.drop (i * 5))).toList.take ((n + 1) * 5) = cs.take (i * 5) ++ xs ++ cs.drop (i * 5) := by
 have hdl : (cs.drop (i * 5)).length = (n - i) * 5 := by rw [zc40,hcl]; omega
 have hrhs : ∀ q : Nat,(cs.take (i * 5) ++ xs ++ cs.drop (i * 5))[q]? = if q < i * 5 then cs[q]? else if q < (i + 1) * 5 then xs[q - i * 5]? else (cs.drop (i * 5))[q - (i + 1) * 5]? := by
  intro q
  rw [zc46,zc29,zc20,Nat.min_eq_left (by omega)]
  split
  ·rw [zc14,if_pos (by assumption)]
  ·rw [zc29,hxl]
   by_cases hq : q < (i + 1) * 5
   ·rw [if_pos (by omega),if_pos hq]
   ·rw [if_neg (by omega),if_neg hq]
    congr 1
    omega
 constructor
 ·apply List.ext_getElem?
  intro q
  rw [hrhs,zc14]
  by_cases hq : q < (n + 1) * 5
  ·rw [if_pos hq,zc25,zq1606 _ _ _ _ (by rw [zq1607]; omega)]
   by_cases h1 : q < i * 5
   ·rw [if_neg (by omega),if_pos h1,zq1606 _ _ _ _ (by omega),if_neg (by omega),h0 q h1]
   ·rw [if_neg h1]
    by_cases h2 : q < (i + 1) * 5
    ·rw [if_pos (by omega),if_pos h2]
    ·rw [if_neg (by omega),if_neg h2,zq1606 _ _ _ _ (by omega),if_pos (by omega)]
  ·rw [if_neg hq,if_neg (by omega),if_neg (by omega),zc22 (by omega)]
 ·apply List.ext_getElem?
  intro q
  rw [hrhs,zc14]
  by_cases hq : q < (n + 1) * 5
  ·rw [if_pos hq,zc25,zq1606 _ _ _ _ (by rw [zq1607]; omega)]
   by_cases h1 : q < i * 5
   ·rw [if_neg (by omega),if_pos h1,zq1606 _ _ _ _ (by omega),if_neg (by omega),h0 q h1]
   ·rw [if_neg h1]
    by_cases h2 : q < (i + 1) * 5
    ·rw [if_neg (by omega),if_pos h2,zq1606 _ _ _ _ (by omega),if_pos (by omega)]
    ·rw [if_pos (by omega),if_neg h2]
  ·rw [if_neg hq,if_neg (by omega),if_neg (by omega),zc22 (by omega)]
theorem zq939 (base : Nat) (w : World) (v u : Value) (n i : Nat) (cs xs : List Value) (h1 : w.ownsRow base 116 5 v n cs) (h2 : w.ownsRow base 116 5 u 1 xs) (hap : ∀ b,v.ownBlock = some b → u.ownBlock ≠ some b) (hc1 : ∀ x ∈ cs,oneC x = true) (hc2 : ∀ x ∈ xs,oneC x = true)
  (hbase : base ≤ w.heap.size) (hin : i ≤ n) (hbig : n + 1 ≤ 274877906944) :
  Calls Tryz.prog 146 #[v,.int .i64 (i : Int),u] w fun r w' => ∃ v',r = .returned v' ∧ w'.ownsRow base 116 5 v' (n + 1) (cs.take (i * 5) ++ xs ++ cs.drop (i * 5)) ∧ w.grownBy w' v.ownBlock ∧ (∀ b,v'.ownBlock = some b → v.ownBlock = some b ∨ w.heap.size ≤ b) := by
 obtain ⟨i0,hi0,hz⟩ := zc7.1 zq918
 simp only [zc11] at hz
 obtain ⟨hzc,hzs,hzb⟩ := hz
 obtain ⟨z,hz0,hzc⟩ := zc7.1 hzc
 have hcl := h1.1
 have hxl : xs.length = 5 := by have := h2.1; omega
 rcases h2.2 with ⟨_,h0⟩ | ⟨vb,vc,curv,rfl,hvbase,hvheap,hvc,hvcm,hvsz,hvtake⟩
 ·cases h0
 have hvs : ∀ j x,xs[j]? = some x → w.cell? ⟨vb,0 + j,none⟩ = some x := by
  intro j x hj
  rw [Nat.zero_add,zq543 hvheap,← zc25]
  rw [← hvtake,zc14] at hj
  split at hj
  ·exact hj
  ·cases hj
 have h1v : ∀ x ∈ xs,x.oneCell' = true := fun x hx => zq1279 (hc2 x hx)
 have h1c : ∀ x ∈ cs,x.oneCell' = true := fun x hx => zq1279 (hc1 x hx)
 by_cases hine : i = n
 ·subst hine
  have htd : cs.take (i * 5) ++ xs ++ cs.drop (i * 5) = cs ++ xs := by rw [List.take_of_length_le (by omega),zc18 (by omega),List.append_nil]
  rw [htd]
  have hown5 : w.ownsRow base 116 i0.size v i cs := by rw [hzs]; exact h1
  obtain ⟨v',w',hrun,hown',hgb,hblk⟩ := zq458 (P := Tryz.prog) w base 42 0 116 i0 z Tryz.underlying42 hi0 hz0 (by rw [hzs]; exact hzc) (by omega) v i cs hown5 (some ⟨vb,0,none⟩) 1 vc xs (by rw [hzs]; omega) (by simp)
   (fun ad had j x hj => by
    cases had
    rw [zq395]
    exact hvs j x hj) h1v (by unfold maxLen; omega) (by rw [hzb]; omega) hbase
  have hrun' : ∀ ty,(Builtin.append_ #[42,42] ty #[v,.slice (some ⟨vb,0,none⟩) 1 vc]).run Tryz.prog w = .ok v' w' := fun ty => by
   rw [← hrun]
   rfl
  rw [hzs] at hown'
  have hsl : ∃ A N C,v' = .slice A N C := by
   rcases hown'.2 with ⟨h,_⟩ | ⟨g,cp,cur,h,_⟩
   ·exact ⟨_,_,_,h⟩
   ·exact ⟨_,_,_,h⟩
  have hv : ∃ A c,v = .slice A i c ∧ i ≤ c ∧ (A = none → i = 0) := by
   rcases h1.2 with ⟨h,h0⟩ | ⟨g,cp,cur,h,_,_,hc,_⟩
   ·exact ⟨none,0,by rw [h,h0],by omega,fun _ => h0⟩
   ·exact ⟨_,cp,h,hc,fun h => by cases h⟩
  obtain ⟨A,c,rfl,hc,hnil⟩ := hv
  refine (zq937 (.slice A i c) A i c vb vc 1 v' w w' (by omega) hc hrun' hsl hnil).mono ?_
  rintro e w2 ⟨rfl,rfl⟩
  exact ⟨v',rfl,hown',hgb,hblk⟩
 ·have hi : i < n := by omega
  rcases h1.2 with ⟨_,h0⟩ | ⟨g,cap,cur,rfl,hgbase,hgheap,hnc,hcm,hgsz,hgtake⟩
  ·omega
  have hvbg : vb ≠ g := fun e => hap g rfl (by rw [e]; rfl)
  have hcs : ∀ j x,cs[j]? = some x → w.cell? ⟨g,0 + j,none⟩ = some x := by
   intro j x hj
   rw [Nat.zero_add,zq543 hgheap,← zc25]
   rw [← hgtake,zc14] at hj
   split at hj
   ·exact hj
   ·cases hj
  by_cases hroom : n + 1 ≤ cap
  ·refine (zq940 g 0 n cap i vb 0 1 vc cs xs w hi (by omega) hroom (by unfold maxLen at hcm; omega) hvbg hcl (by omega) hcs
    (fun j hj => by rw [Nat.zero_add,zq543 hgheap,zc44 (by omega)]; rfl) (fun j hj => by simp [World.frozen?,hgheap]) hvs h1c h1v 116 116 curv.size cur.size
    (by simp [World.shape?,hvheap]) (by simp [World.shape?,hgheap]) (by omega) (by simp [World.frozen?,hvheap]) (by simp [World.frozen?,hvheap])).mono ?_
   rintro e w' ⟨rfl,rfl⟩
   have hg0 : w.drew.heap[g]? = some (.cells cur 116 (0,0)) := hgheap
   obtain ⟨a1,a2,a3,a4,a5,a6⟩ := zq1609 w.drew g (0 + (i + 1) * 5) (cs.drop (i * 5)) cur 116 (0,0) hg0
   obtain ⟨b1,b2,b3,b4,b5,b6⟩ := zq1609 _ g (0 + i * 5) xs _ 116 (0,0) a1
   have hdl : (cs.drop (i * 5)).length = (n - i) * 5 := by rw [zc40,hcl]; omega
   refine ⟨_,rfl,⟨?_,.inr ⟨g,cap,_,rfl,hgbase,b1,hroom,hcm,by rw [zq1607,zq1607]; exact hgsz,?_⟩⟩,⟨b4.trans a4,b5.trans a5,b6.trans a6,by rw [b3,a3]; exact zc47 _,fun k hk hne => ?_⟩,fun b hb => .inl hb⟩
   ·simp only [zc24,zc20,hdl,hxl]; omega
   ·rw [Nat.zero_add,Nat.zero_add]
    refine (zq936 hi hcl hxl (by omega) fun q hq => ?_).1
    rw [← hgtake,zc14,if_pos (by omega),zc25]
   ·have hkg : k ≠ g := fun e => hne (by rw [e]; rfl)
    exact (b2 k hkg).trans (a2 k hkg)
  ·refine (zq938 g 0 n cap i vb 0 1 vc cs xs z (by rw [hi0]; simp [hz0]) w hi (by omega) hnc (by omega) (by omega) hcl (by omega) hcs hvs h1c h1v).mono ?_
   rintro e w' ⟨rfl,rfl⟩
   obtain ⟨G,hG⟩ : ∃ G,G = grownCap w (n + 1) cap 116 := ⟨_,rfl⟩
   have hGn : n + 1 ≤ G := by rw [hG]; exact grownCap_ge w _ _ _
   have hG63 : G ≤ maxLen := by rw [hG]; exact grownCap_le_maxLen w (n + 1) cap 116 (by unfold maxLen; omega)
   rw [← hG]
   obtain ⟨ROW,hROW⟩ : ∃ ROW : Array Value,ROW = (cs.take (i * 5)).toArray ++ Builtin.zeroCells z.cells (n + 1 - i) ++ Builtin.zeroCells z.cells (G - (n + 1)) := ⟨_,rfl⟩
   rw [← hROW]
   have hRs : ROW.size = G * 5 := by
    rw [hROW]
    simp [Builtin.zeroCells,hzc]
    omega
   have hR0 : ∀ q,q < i * 5 → ROW[q]? = cs[q]? := fun q hq => by
    rw [hROW,Array.append_assoc,Array.getElem?_append_left (by simp; omega)]
    simp only [List.getElem?_toArray,zc14,if_pos hq]
   have hh : ((w.alloc (.cells ROW 116)).drew).heap[w.heap.size]? = some (.cells ROW 116 (0,0)) := by
    show (w.heap.push _)[w.heap.size]? = _
    exact Array.getElem?_push_size
   obtain ⟨a1,a2,a3,a4,a5,a6⟩ := zq1609 _ w.heap.size (i * 5) xs ROW 116 (0,0) hh
   have a1' : (((w.alloc (.cells ROW 116)).drew.setCells w.heap.size (i * 5) xs).drew).heap[w.heap.size]? = _ := a1
   obtain ⟨b1,b2,b3,b4,b5,b6⟩ := zq1609 _ w.heap.size ((i + 1) * 5) (cs.drop (i * 5)) _ 116 (0,0) a1'
   have hdl : (cs.drop (i * 5)).length = (n - i) * 5 := by rw [zc40,hcl]; omega
   have hold : ∀ k,k < w.heap.size → ((w.alloc (.cells ROW 116)).drew).heap[k]? = w.heap[k]? := fun k hk => by
    show (w.heap.push _)[k]? = _
    rw [Array.getElem?_push,if_neg (by omega)]
   refine ⟨_,rfl,⟨?_,.inr ⟨w.heap.size,G,_,rfl,hbase,b1,hGn,hG63,by rw [zq1607,zq1607]; exact hRs,?_⟩⟩,⟨b4.trans a4,b5.trans a5,b6.trans a6,?_,fun k hk hne => ?_⟩,fun b hb => .inr ?_⟩
   ·simp only [zc24,zc20,hdl,hxl]; omega
   ·exact (zq936 hi hcl hxl (by omega) hR0).2
   ·rw [b3]
    show w.heap.size ≤ ((w.alloc (.cells ROW 116)).drew.setCells w.heap.size (i * 5) xs).heap.size
    rw [a3]
    show w.heap.size ≤ (w.heap.push _).size
    simp
   ·exact ((b2 k (by omega)).trans (a2 k (by omega))).trans (hold k hk)
   ·cases hb
    exact zc47 _
def zq1670 : Con := zq1805 (zq931 .addr 32)
theorem zq1671 : TrOk Tryz.prog 148 zq1670 := zq1806 (zq954 .addr 32 zq928)
def zq1674 : Con := zq933 .pfx .addr 116 32
theorem zq1675 : TrOk Tryz.prog 146 zq1674 := zq935 .pfx .addr 116 32 zq939
end Go.Proofs.YtjncjiegmnicbabGreat
namespace Go.Proofs.YtjncjiegmnicbabGreat
open Go Go.Ma Go.RowKit Go.Lib Go.Proofs
theorem zq1588 {P : Program} (w : World) (t e : TypeId) (z : Value) (s : Nat) (ht : P.underlying t = some (.slice e)) (hv : ∀ w,(zeroValue e).run P w = .ok z w) (hz : z.cells.size = s) (h1 : ∀ v ∈ z.cells.toList,v.oneCell' = true) (b o n : Nat) (hn : 0 < n)
  (hc : ∀ j,j < n * s → (w.cell? ⟨b,o + j,none⟩).isSome = true) (hf : ∀ j,j < n * s → w.frozen? ⟨b,o + j,none⟩ = false) :
  ∃ Z : List Value,Z.length = n * s ∧ ∀ ty c,(Builtin.clear_ #[t] ty #[.slice (some ⟨b,o,none⟩) n c]).run P w = .ok (.tuple #[]) (w.setCells b o Z) := by
 have hlen : (Builtin.zeroCells z.cells n).toList.length = n * s := by simp [Builtin.zeroCells,hz]
 have hst := run_storeCells_cells (P := P) b o (Builtin.zeroCells z.cells n).toList 0 w (fun j hj => by rw [hlen] at hj; first | exact hc j (by simpa using hj) | simpa using hc j (by simpa using hj)) (fun j hj => by rw [hlen] at hj; first | exact hf j (by simpa using hj) | simpa using hf j (by simpa using hj)) (fun v hv' => by
  simp only [Builtin.zeroCells,Array.toList_map,List.mem_map] at hv'
  obtain ⟨q,hq,rfl⟩ := hv'
  have hs : 0 < z.cells.size := by
   rcases Nat.eq_zero_or_pos z.cells.size with h0 | h0
   ·simp [h0] at hq
   ·exact h0
  refine h1 _ ?_
  rw [getElem!_pos z.cells _ (Nat.mod_lt _ hs)]
  simp)
 simp only [Nat.add_zero] at hst
 obtain ⟨m,rfl⟩ : ∃ m,n = m + 1 := ⟨n - 1,by omega⟩
 exact ⟨_,hlen,fun ty c => by simp [Builtin.clear_,run_underlying ht,hv,hst]⟩
theorem zq1858 : ∃ z,(∀ w,(zeroValue 127).run Tryz.prog w = .ok z w) ∧ z.cells.size = 5 ∧ ∀ v ∈ z.cells.toList,v.oneCell' = true := by
 obtain ⟨i,d,z,hi,hd,hz,h1,h2,_⟩ := (tyOk.ty 127 rfl).ex
 have h2 : z.cells.toList = [.bool false,.int .u64 0,.int .u64 0,.string .empty,.int .i64 0] := h2.symm
 refine ⟨z,fun w => by simp [zeroValue,typeInfo,hi,hz],by rw [← Array.length_toList,h2]; rfl,fun v hv => ?_⟩
 rw [h2] at hv
 simp only [zc28,List.not_mem_nil,or_false] at hv
 rcases hv with rfl | rfl | rfl | rfl | rfl <;> rfl
set_option maxHeartbeats 4000000 in
set_option maxRecDepth 100000 in
theorem zq706 (A : Option Addr) (n c i : Nat) (w : World) (hin : i ≤ n) (hnc : n ≤ c) (hA : A = none → n = 0 ∧ c = 0) :
  Calls Tryz.prog 153 #[.slice A n c,.int .i64 i,.int .i64 i] w fun e w' => e = .returned (.slice A n c) ∧ w' = w := by
 have u30 := run_underlying Tryz.underlying43
 have z49 := zq1635
 have mixed := zq1220
 cases A with
 | none =>
  obtain ⟨rfl,rfl⟩ := hA rfl
  have h0 : i = 0 := by omega
  subst h0
  go_enter Tryz.func153,Tryz.ntmps153
  go_wp2
  all_goals (go_ret; exact ⟨rfl,rfl⟩)
 | some a =>
  obtain ⟨ab,ao,asp⟩ := a
  go_enter Tryz.func153,Tryz.ntmps153
  go_wp2
  all_goals (go_ret; exact ⟨rfl,rfl⟩)
set_option maxHeartbeats 4000000 in
set_option maxRecDepth 100000 in
theorem zq707 (b n c i j : Nat) (cs : List Value) (w : World) (hij : i < j) (hjn : j ≤ n) (hnc : n ≤ c) (hc63 : c ≤ 9223372036854775807) (hcl : cs.length = n * 5)
  (hcs : ∀ q v,cs[q]? = some v → w.cell? ⟨b,q,none⟩ = some v) (hfz : ∀ q,q < n * 5 → w.frozen? ⟨b,q,none⟩ = false) (h1c : ∀ v ∈ cs,v.oneCell' = true) :
  Calls Tryz.prog 153 #[.slice (some ⟨b,0,none⟩) n c,.int .i64 i,.int .i64 j] w fun e w' =>
   e = .returned (.slice (some ⟨b,0,none⟩) (i + (n - j)) c) ∧ ∃ Z : List Value,Z.length = (j - i) * 5 ∧ w' = (w.drew.setCells b (0 + i * 5) (cs.drop (j * 5))).setCells b ((i + (n - j)) * 5) Z := by
 have u30 := run_underlying Tryz.underlying43
 have z49 := zq1635
 have mixed := zq1220
 obtain ⟨i0,hi0,hz⟩ := zc7.1 zq917
 simp only [zc11] at hz
 obtain ⟨hzc,hzs,hzb⟩ := hz
 obtain ⟨news,hnews⟩ : ∃ news,news = cs.drop (j * 5) := ⟨_,rfl⟩
 have hlen : news.length = (n - j) * 5 := by rw [hnews,zc40,hcl]; omega
 obtain ⟨A,hA,hsrc⟩ : ∃ A : Addr,(if c = j then (some (⟨b,0,none⟩ : Addr)) else some ⟨b,j * 5,none⟩) = some A ∧ Hid (∀ t u,news[t]? = some u → w.drew.cell? (A.add t) = some u) := by
  by_cases h : c = j
  ·refine ⟨⟨b,0,none⟩,by simp [h],fun t u hu => ?_⟩
   have h0 : news.length = 0 := by rw [hlen]; omega
   rw [List.length_eq_zero_iff.1 h0] at hu
   simp at hu
  ·refine ⟨⟨b,j * 5,none⟩,by simp [h],fun t u hu => ?_⟩
   rw [hnews,zc39] at hu
   rw [Addr.add_lit]
   exact hcs _ u hu
 have s1 : Hid (news.length = (n - j) * 5) := hlen
 have s2 : Hid (∀ u ∈ news,u.oneCell' = true) := fun u hu => h1c u (List.mem_of_mem_drop (by rw [← hnews]; exact hu))
 have hsome : ∀ q,q < n * 5 → (w.cell? ⟨b,q,none⟩).isSome = true := fun q hq => by
  rw [hcs q _ (zc0 (by omega))]; rfl
 have s3 : Hid (∀ t,t < news.length → (w.drew.cell? ⟨b,0 + i * 5 + t,none⟩).isSome = true ∧ w.drew.frozen? ⟨b,0 + i * 5 + t,none⟩ = false) := fun t ht => by
  rw [hlen] at ht
  exact ⟨hsome _ (by omega),hfz _ (by omega)⟩
 obtain ⟨W1,hW1⟩ : ∃ W1,W1 = w.drew.setCells b (0 + i * 5) news := ⟨_,rfl⟩
 obtain ⟨z,zv,zs,zo⟩ := zq1858
 have hsome1 : ∀ q,q < n * 5 → (W1.cell? ⟨b,q,none⟩).isSome = true := fun q hq => by
  rw [hW1]
  exact isSome_setCells b _ _ _ (fun t ht => by rw [hlen] at ht; exact hsome _ (by omega)) _ (hsome q hq)
 have hfz1 : ∀ q,q < n * 5 → W1.frozen? ⟨b,q,none⟩ = false := fun q hq => by
  rw [hW1,World.frozen?_setCells]; exact hfz q hq
 obtain ⟨Z,hZl,hcl'⟩ : ∃ Z : List Value,Z.length = (j - i) * 5 ∧ ∀ ty cc,(Builtin.clear_ #[43] ty #[.slice (some ⟨b,(i + (n - j)) * 5,none⟩) (n - (i + (n - j))) cc]).run Tryz.prog W1 = .ok (.tuple #[]) (W1.setCells b ((i + (n - j)) * 5) Z) := by
  obtain ⟨Z,h1,h2⟩ := zq1588 W1 _ _ z 5 Tryz.underlying43 zv zs zo b ((i + (n - j)) * 5) (n - (i + (n - j))) (by omega) (fun q hq => hsome1 _ (by omega)) (fun q hq => hfz1 _ (by omega))
  exact ⟨Z,by rw [h1]; congr 1; omega,h2⟩
 have hW : Hid (W1 = w.drew.setCells b (0 + i * 5) news) := hW1
 have X : Hid (Z.length = (j - i) * 5) := hZl
 have hic : i ≤ c := by omega
 have hjc : j ≤ c := by omega
 have hne : ¬ ((i : Int) = (j : Int)) := by omega
 have hin : i ≤ n := by omega
 have hij' : i ≤ j := by omega
 subst hnews
 clear hZl hW1 hsome1 hfz1 hsome hcs hfz hlen zo zs zv hcl
 go_enter Tryz.func153,Tryz.ntmps153
 go_wp2_with fail
 go_region_law_o (refine step_append_room rfl (.tmp 22) (.tmp 25) 43 rfl 127 i0 5 Tryz.underlying43 hi0 hzs b 0 i c (by simp [Act.eval,Act.put]) A (n - j) (c - j) (cs.drop (j * 5)) (by simp [Act.eval,Act.put]) s1.out hsrc.out s2.out (by omega) s3.out ?_; rw [← hW.out])
 go_wp2
 go_ret
 exact ⟨rfl,Z,X.out,by rw [← hW.out]⟩
theorem zq704 {arr : Array Value} {n i j : Nat} {cs Z : List Value} (hij : i < j) (hjn : j ≤ n) (hcl : cs.length = n * 5) (hZ : Z.length = (j - i) * 5) (hsz : n * 5 ≤ arr.size) (h0 : ∀ q,q < i * 5 → arr[q]? = cs[q]?) :
  (zq1605 (zq1605 arr (i * 5) (cs.drop (j * 5))) ((i + (n - j)) * 5) Z).toList.take ((i + (n - j)) * 5) = cs.take (i * 5) ++ cs.drop (j * 5) := by
 have hdl : (cs.drop (j * 5)).length = (n - j) * 5 := by rw [zc40,hcl]; omega
 apply List.ext_getElem?
 intro q
 rw [zc14,zc29,zc20,Nat.min_eq_left (by omega)]
 by_cases hq : q < (i + (n - j)) * 5
 ·rw [if_pos hq,zc25,zq1606 _ _ _ _ (by rw [zq1607]; omega),if_neg (by omega),zq1606 _ _ _ _ (by omega)]
  by_cases h1 : q < i * 5
  ·rw [if_neg (by omega),if_pos h1,zc14,if_pos h1,h0 q h1]
  ·rw [if_pos (by omega),if_neg h1]
 ·rw [if_neg hq,if_neg (by omega),zc22 (by omega)]
theorem zq705 (base : Nat) (w : World) (v : Value) (n i j : Nat) (cs : List Value) (h1 : w.ownsRow base 127 5 v n cs) (hc1 : ∀ x ∈ cs,oneC x = true) (_ : base ≤ w.heap.size) (hij : i ≤ j) (hjn : j ≤ n) :
  Calls Tryz.prog 153 #[v,.int .i64 (i : Int),.int .i64 (j : Int)] w fun r w' => ∃ v',r = .returned v' ∧ w'.ownsRow base 127 5 v' (n - (j - i)) (cs.take (i * 5) ++ cs.drop (j * 5)) ∧ w.grownBy w' v.ownBlock ∧ (∀ b,v'.ownBlock = some b → v.ownBlock = some b ∨ w.heap.size ≤ b) := by
 have hcl := h1.1
 by_cases hije : i = j
 ·subst hije
  have hv : ∃ A c,v = .slice A n c ∧ n ≤ c ∧ (A = none → n = 0 ∧ c = 0) := by
   rcases h1.2 with ⟨h,h0⟩ | ⟨g,cp,cur,h,_,_,hc,_⟩
   ·exact ⟨none,0,by rw [h,h0],by omega,fun _ => ⟨h0,rfl⟩⟩
   ·exact ⟨_,cp,h,hc,fun h => by cases h⟩
  obtain ⟨A,c,rfl,hc,hnil⟩ := hv
  refine (zq706 A n c i w hjn hc hnil).mono ?_
  rintro e w' ⟨rfl,rfl⟩
  exact ⟨_,rfl,by rw [Nat.sub_self,Nat.sub_zero,List.take_append_drop]; exact h1,⟨rfl,rfl,rfl,zc47 _,fun _ _ _ => rfl⟩,fun b hb => .inl hb⟩
 ·have hlt : i < j := by omega
  rcases h1.2 with ⟨_,h0⟩ | ⟨g,cap,cur,rfl,hgbase,hgheap,hnc,hcm,hgsz,hgtake⟩
  ·omega
  have hcs : ∀ q x,cs[q]? = some x → w.cell? ⟨g,q,none⟩ = some x := by
   intro q x hq
   rw [zq543 hgheap,← zc25]
   rw [← hgtake,zc14] at hq
   split at hq
   ·exact hq
   ·cases hq
  refine (zq707 g n cap i j cs w hlt hjn hnc (by unfold maxLen at hcm; omega) hcl hcs (fun q hq => by simp [World.frozen?,hgheap]) (fun x hx => zq1279 (hc1 x hx))).mono ?_
  rintro e w' ⟨rfl,Z,hZ,rfl⟩
  have hg0 : w.drew.heap[g]? = some (.cells cur 127 (0,0)) := hgheap
  obtain ⟨a1,a2,a3,a4,a5,a6⟩ := zq1609 w.drew g (0 + i * 5) (cs.drop (j * 5)) cur 127 (0,0) hg0
  obtain ⟨b1,b2,b3,b4,b5,b6⟩ := zq1609 _ g ((i + (n - j)) * 5) Z _ 127 (0,0) a1
  have hdl : (cs.drop (j * 5)).length = (n - j) * 5 := by rw [zc40,hcl]; omega
  have hn' : n - (j - i) = i + (n - j) := by omega
  rw [hn']
  refine ⟨_,rfl,⟨?_,.inr ⟨g,cap,_,rfl,hgbase,b1,by omega,hcm,by rw [zq1607,zq1607]; exact hgsz,?_⟩⟩,⟨b4.trans a4,b5.trans a5,b6.trans a6,by rw [b3,a3]; exact zc47 _,fun k hk hne => ?_⟩,fun b hb => .inl hb⟩
  ·simp only [zc24,zc20,hdl]; omega
  ·rw [Nat.zero_add]
   have : n * 5 ≤ cap * 5 := Nat.mul_le_mul_right _ hnc
   exact zq704 hlt hjn hcl hZ (by omega) fun q hq => by
    rw [← hgtake,zc14,if_pos (by omega),zc25]
  ·have hkg : k ≠ g := fun e => hne (by rw [e]; rfl)
   exact (b2 k hkg).trans (a2 k hkg)
def zq1660 : Con := zq703 .lease 127
theorem zq1661 : TrOk Tryz.prog 153 zq1660 := del_ok .lease 127 zq705
end Go.Proofs.YtjncjiegmnicbabGreat
namespace Go.Proofs
open Go.Shelf
def Tryz.sortLs_ren : Go.Shelf.Ren := ⟨fun | 6 => 151 | 15 => 167 | 14 => 166 | 28 => 182 | 29 => 183 | 20 => 174 | 21 => 175 | 22 => 176 | 23 => 177 | 24 => 178 | 25 => 179 | 26 => 180 | 27 => 181 | 46 => 192 | 47 => 193 | 48 => 194 | 49 => 195 | 50 => 196 | 57 => 199 | n => n,fun | 22 => 43 | 24 => 127 | 25 => 195 | 3 => 3 | 39 => 198 | 0 => 0 | 53 => 222 | 55 => 30 | 4 => 4 | 46 => 216 | 45 => 215 | 50 => 186 | 5 => 5 | 9 => 9 | 66 => 227 | 70 => 231 | 76 => 235 | 77 => 236 | n => n,fun | n => n⟩
theorem Tryz.sortLs : Go.Proofs.SlLaysF0.n6 Tryz.prog Tryz.sortLs_ren := {
 mixed := by kernel_rfl
 f6 := ⟨Tryz.f151.name,by decide,Tryz.func151.trans (congrArg some (by kernel_rfl))⟩
 f14 := ⟨Tryz.f166.name,by decide,Tryz.func166.trans (congrArg some (by kernel_rfl))⟩
 f15 := Tryz.func167.trans (congrArg some (by kernel_rfl))
 f20 := ⟨Tryz.f174.name,by decide,Tryz.func174.trans (congrArg some (by kernel_rfl))⟩
 f21 := ⟨Tryz.f175.name,by decide,Tryz.func175.trans (congrArg some (by kernel_rfl))⟩
 f22 := ⟨Tryz.f176.name,by decide,Tryz.func176.trans (congrArg some (by kernel_rfl))⟩
 f23 := ⟨Tryz.f177.name,by decide,Tryz.func177.trans (congrArg some (by kernel_rfl))⟩
 f24 := ⟨Tryz.f178.name,by decide,Tryz.func178.trans (congrArg some (by kernel_rfl))⟩
 f25 := ⟨Tryz.f179.name,by decide,Tryz.func179.trans (congrArg some (by kernel_rfl))⟩
 f26 := ⟨Tryz.f180.name,by decide,Tryz.func180.trans (congrArg some (by kernel_rfl))⟩
 f27 := ⟨Tryz.f181.name,by decide,Tryz.func181.trans (congrArg some (by kernel_rfl))⟩
 f28 := Tryz.func182.trans (congrArg some (by kernel_rfl))
 f29 := Tryz.func183.trans (congrArg some (by kernel_rfl))
 f46 := ⟨Tryz.f192.name,by decide,Tryz.func192.trans (congrArg some (by kernel_rfl))⟩
 f47 := Tryz.func193.trans (congrArg some (by kernel_rfl))
 f48 := Tryz.func194.trans (congrArg some (by kernel_rfl))
 f49 := ⟨Tryz.f195.name,by decide,Tryz.func195.trans (congrArg some (by kernel_rfl))⟩
 f50 := ⟨Tryz.f196.name,by decide,Tryz.func196.trans (congrArg some (by kernel_rfl))⟩
 f57 := ⟨Tryz.f199.name,by decide,Tryz.func199.trans (congrArg some (by kernel_rfl))⟩
 t0 := Tryz.underlying0
 a0 := Tryz.isAgg0
 z0 := Tryz.sizeOf0
 v0 := Tryz.zeroValue0
 t3 := Tryz.underlying3
 a3 := Tryz.isAgg3
 z3 := Tryz.sizeOf3
 v3 := Tryz.zeroValue3
 t4 := Tryz.underlying4
 a4 := Tryz.isAgg4
 z4 := Tryz.sizeOf4
 v4 := Tryz.zeroValue4
 t5 := Tryz.underlying5
 a5 := Tryz.isAgg5
 z5 := Tryz.sizeOf5
 v5 := Tryz.zeroValue5
 t9 := Tryz.underlying9
 a9 := Tryz.isAgg9
 z9 := Tryz.sizeOf9
 v9 := Tryz.zeroValue9
 t22 := Tryz.underlying43
 a22 := Tryz.isAgg43
 z22 := Tryz.sizeOf43
 v22 := Tryz.zeroValue43
 t25 := Tryz.underlying195
 a25 := Tryz.isAgg195
 z25 := Tryz.sizeOf195
 v25 := Tryz.zeroValue195
 t39 := Tryz.underlying198
 a39 := Tryz.isAgg198
 z39 := Tryz.sizeOf198
 v39 := Tryz.zeroValue198
 t45 := Tryz.underlying215
 a45 := Tryz.isAgg215
 z45 := Tryz.sizeOf215
 v45 := Tryz.zeroValue215
 t46 := Tryz.underlying216
 a46 := Tryz.isAgg216
 z46 := Tryz.sizeOf216
 v46 := Tryz.zeroValue216
 t50 := Tryz.underlying186
 a50 := Tryz.isAgg186
 z50 := Tryz.sizeOf186
 v50 := Tryz.zeroValue186
 t53 := Tryz.underlying222
 a53 := Tryz.isAgg222
 z53 := Tryz.sizeOf222
 v53 := Tryz.zeroValue222
 t55 := Tryz.underlying30
 a55 := Tryz.isAgg30
 z55 := Tryz.sizeOf30
 v55 := Tryz.zeroValue30
 t66 := Tryz.underlying227
 a66 := Tryz.isAgg227
 z66 := Tryz.sizeOf227
 v66 := Tryz.zeroValue227
 t70 := Tryz.underlying231
 a70 := Tryz.isAgg231
 z70 := Tryz.sizeOf231
 v70 := Tryz.zeroValue231
 t76 := Tryz.underlying235
 a76 := Tryz.isAgg235
 z76 := Tryz.sizeOf235
 v76 := Tryz.zeroValue235
 t77 := Tryz.underlying236
 a77 := Tryz.isAgg236
 z77 := Tryz.sizeOf236
 v77 := Tryz.zeroValue236 }
end Go.Proofs
namespace Go.Proofs.YtjncjiegmnicbabGreat
open Go Go.Ma Go.RowKit Go.Lib Go.Proofs Go.Sort
def cmpN (x y : Int) : Int := if x < y then -1 else if y < x then 1 else 0
def cmpA (a b : Ad) : Int := if a.v6 != b.v6 then (if b.v6 then -1 else 1) else if a.hi = b.hi then cmpN a.lo b.lo else cmpN a.hi b.hi
def encLs (x : Ls) : List Value := [.bool x.ad.v6,.int .u64 x.ad.hi,.int .u64 x.ad.lo,.string x.who,.int .i64 x.upto]
set_option maxHeartbeats 1000000 in
theorem zq661 (x y : Int) (W : World) : Calls Tryz.prog 131 #[.int .u64 x,.int .u64 y] W fun e w' => e = .returned (.int .i64 (cmpN x y)) ∧ w' = W := by
 unfold cmpN
 by_cases h1 : x < y
 ·rw [if_pos h1]
  go_enter Tryz.func131,Tryz.ntmps131
  go_wp2
  all_goals (go_ret; exact ⟨rfl,rfl⟩)
 ·rw [if_neg h1]
  by_cases h2 : y < x
  ·rw [if_pos h2]
   go_enter Tryz.func131,Tryz.ntmps131
   go_wp2
   all_goals (go_ret; exact ⟨rfl,rfl⟩)
  ·rw [if_neg h2]
   go_enter Tryz.func131,Tryz.ntmps131
   go_wp2
   all_goals (go_ret; exact ⟨rfl,rfl⟩)
set_option maxHeartbeats 2000000 in
set_option maxRecDepth 100000 in
theorem zq1349 (a b : Ad) (W : World) : Calls Tryz.prog 114 #[.agg #[.bool a.v6,.int .u64 a.hi,.int .u64 a.lo],.agg #[.bool b.v6,.int .u64 b.hi,.int .u64 b.lo]] W fun e w' => e = .returned (.int .i64 (cmpA a b)) ∧ ∃ q os',w' = grow (W.drewN q) os' := by
 obtain ⟨av,ah,al⟩ := a
 obtain ⟨bv,bh,bl⟩ := b
 have hx : ∀ x y : Int,∃ r,cmpN x y = r ∧ Hid (∀ W',Calls Tryz.prog 131 #[.int .u64 x,.int .u64 y] W' fun e w' => e = .returned (.int .i64 r) ∧ w' = W') := fun x y => ⟨_,rfl,zq661 x y⟩
 cases av <;> cases bv
 ·by_cases h : ah = bh
  ·subst h
   obtain ⟨r,hr,hcon⟩ := hx al bl
   rw [show cmpA ⟨false,ah,al⟩ ⟨false,ah,bl⟩ = r by simp [cmpA,hr]]
   go_enter Tryz.func114,Tryz.ntmps114
   go_wp2_with (go_at_call 131; refine (hcon.out _).mono ?_; rintro e w' ⟨rfl,rfl⟩)
   all_goals (go_ret; exact ⟨rfl,0,_,by rw [alloc_eq_grow,alloc_eq_grow,grow_grow]; rfl⟩)
  ·obtain ⟨r,hr,hcon⟩ := hx ah bh
   rw [show cmpA ⟨false,ah,al⟩ ⟨false,bh,bl⟩ = r by simp [cmpA,hr,h]]
   go_enter Tryz.func114,Tryz.ntmps114
   go_wp2_with (go_at_call 131; refine (hcon.out _).mono ?_; rintro e w' ⟨rfl,rfl⟩)
   all_goals (go_ret; exact ⟨rfl,0,_,by rw [alloc_eq_grow,alloc_eq_grow,grow_grow]; rfl⟩)
 ·go_enter Tryz.func114,Tryz.ntmps114
  go_wp2
  all_goals (go_ret; exact ⟨rfl,0,_,by rw [alloc_eq_grow,alloc_eq_grow,grow_grow]; rfl⟩)
 ·go_enter Tryz.func114,Tryz.ntmps114
  go_wp2
  all_goals (go_ret; exact ⟨rfl,0,_,by rw [alloc_eq_grow,alloc_eq_grow,grow_grow]; rfl⟩)
 ·by_cases h : ah = bh
  ·subst h
   obtain ⟨r,hr,hcon⟩ := hx al bl
   rw [show cmpA ⟨true,ah,al⟩ ⟨true,ah,bl⟩ = r by simp [cmpA,hr]]
   go_enter Tryz.func114,Tryz.ntmps114
   go_wp2_with (go_at_call 131; refine (hcon.out _).mono ?_; rintro e w' ⟨rfl,rfl⟩)
   all_goals (go_ret; exact ⟨rfl,0,_,by rw [alloc_eq_grow,alloc_eq_grow,grow_grow]; rfl⟩)
  ·obtain ⟨r,hr,hcon⟩ := hx ah bh
   rw [show cmpA ⟨true,ah,al⟩ ⟨true,bh,bl⟩ = r by simp [cmpA,hr,h]]
   go_enter Tryz.func114,Tryz.ntmps114
   go_wp2_with (go_at_call 131; refine (hcon.out _).mono ?_; rintro e w' ⟨rfl,rfl⟩)
   all_goals (go_ret; exact ⟨rfl,0,_,by rw [alloc_eq_grow,alloc_eq_grow,grow_grow]; rfl⟩)
set_option maxHeartbeats 2000000 in
set_option maxRecDepth 100000 in
theorem zq1185 (x y : Ls) (W : World) : Calls Tryz.prog 152 #[.agg (encLs x).toArray,.agg (encLs y).toArray] W fun e w' => e = .returned (.int .i64 (cmpA x.ad y.ad)) ∧ ∃ q os',w' = grow (W.drewN q) os' := by
 obtain ⟨⟨av,ah,al⟩,aw,au⟩ := x
 obtain ⟨⟨bv,bh,bl⟩,bw,bu⟩ := y
 obtain ⟨r,hr,hcon⟩ : ∃ r,cmpA ⟨av,ah,al⟩ ⟨bv,bh,bl⟩ = r ∧ Hid (∀ W',Calls Tryz.prog 114 #[.agg #[.bool av,.int .u64 ah,.int .u64 al],.agg #[.bool bv,.int .u64 bh,.int .u64 bl]] W' fun e w' => e = .returned (.int .i64 r) ∧ ∃ q os',w' = grow (W'.drewN q) os') := ⟨_,rfl,fun W' => zq1349 ⟨av,ah,al⟩ ⟨bv,bh,bl⟩ W'⟩
 show Calls _ _ _ _ fun e w' => e = .returned (.int .i64 (cmpA ⟨av,ah,al⟩ ⟨bv,bh,bl⟩)) ∧ _
 rw [hr]
 show Calls _ _ #[.agg #[.bool av,.int .u64 ah,.int .u64 al,.string aw,.int .i64 au],.agg #[.bool bv,.int .u64 bh,.int .u64 bl,.string bw,.int .i64 bu]] _ _
 go_enter Tryz.func152,Tryz.ntmps152
 go_wp2_with (go_at_call 114; refine (hcon.out _).mono ?_; rintro e w' ⟨rfl,q,os',rfl⟩)
 all_goals (go_ret; refine ⟨rfl,q,?_⟩)
 rw [alloc_eq_grow,alloc_eq_grow,grow_grow]
 exact ⟨_,grow_grow (W.drewN q) _ os'⟩
end Go.Proofs.YtjncjiegmnicbabGreat
namespace Go.Ma
open Go Go.Shelf Go.RowKit Go.Lib Go.Proofs Go.Sort
theorem zq833 {α : Type} (enc : α → List Value) (k : Nat) (hk : ∀ x,(enc x).length = k) : ∀ (l : List α) (j : Nat),j < l.length * k → (l.flatMap enc)[j]? = (l[j / k]?).bind fun a => (enc a)[j % k]?
 | [],j,h => by simp at h
 | x :: r,j,h => by
  have k0 : 0 < k := by
   rcases Nat.eq_zero_or_pos k with h0 | h0
   ·subst h0; simp at h
   ·exact h0
  rw [List.flatMap_cons]
  by_cases hj : j < k
  ·rw [zc6 (by rw [hk]; exact hj),Nat.div_eq_of_lt hj,Nat.mod_eq_of_lt hj]
   rfl
  ·rw [List.getElem?_append_right (by rw [hk]; omega),hk,zq833 enc k hk r (j - k) (by simp [Nat.add_mul] at h; omega)]
   have e1 : j / k = (j - k) / k + 1 := by
    have := Nat.add_div_right (j - k) k0
    rwa [Nat.sub_add_cancel (by omega)] at this
   have e2 : (j - k) % k = j % k := by
    have := Nat.add_mod_right (j - k) k
    rwa [Nat.sub_add_cancel (by omega),eq_comm] at this
   rw [e1,e2,List.getElem?_cons_succ]
theorem zq832 {α : Type} [Inhabited α] (enc : α → List Value) (k : Nat) (hk : ∀ x,(enc x).length = k) (d : Array α) : (flatK enc k d).toList = d.toList.flatMap enc := by
 have hlen' : ∀ l : List α,(l.flatMap enc).length = l.length * k := by
  intro l
  induction l with
  | nil => simp
  | cons x r ih => rw [List.flatMap_cons,zc24,hk,ih,zc21,Nat.add_mul]; omega
 have hlen : (d.toList.flatMap enc).length = d.size * k := by rw [hlen']; simp
 refine List.ext_getElem? fun j => ?_
 by_cases hj : j < d.size * k
 ·have k0 : 0 < k := by
   rcases Nat.eq_zero_or_pos k with h0 | h0
   ·subst h0; simp at hj
   ·exact h0
  rw [zq833 enc k hk d.toList j (by simpa using hj)]
  have hd : j / k < d.size := Nat.div_lt_of_lt_mul (by rw [Nat.mul_comm]; exact hj)
  have hm : j % k < (enc (d[j / k]'hd)).length := by rw [hk]; exact Nat.mod_lt _ k0
  have h1 : (flatK enc k d).toList[j]? = some (flatK enc k d)[j]! := by
   rw [zc25,zc44 (by simpa using hj),getElem!_pos _ j (by simpa using hj)]
  rw [h1,get_flatK _ _ _ _ hj,getElem!_pos d _ hd,zc25,zc44 hd,zc49,zc0 hm,getElem!_pos (enc (d[j / k]'hd)) (j % k) hm]
 ·rw [zc22 (by simpa using hj),zc22 (by omega)]
theorem zq1470 (F : Array Value) (c : Array Value) (h : F.size ≤ c.size) : (putCells id 0 F c).toList.take F.size = F.toList := by
 refine List.ext_getElem? fun j => ?_
 rw [zc14]
 by_cases hj : j < F.size
 ·rw [if_pos hj]
  unfold putCells
  rw [zc25,Array.getElem?_mapIdx,zc44 (show j < c.size by omega),Option.map_some,if_pos (by omega),zc25,zc44 hj]
  simp [getElem!_pos F j hj]
 ·rw [if_neg hj,zc22 (by simpa using hj)]
theorem zq1686 {P : Program} {ρ : Ren} {α : Type} [Inhabited α] (L : SlLaysF0.n6 P ρ) (k : Nat) (aE : ∀ w,(isAgg (ρ.t 24)).run P w = .ok true w) (zE : ∀ w,(Go.sizeOf (ρ.t 24)).run P w = .ok k w) (enc : α → List Value) (hk : ∀ x,(enc x).length = k) (h1 : ∀ x,∀ v ∈ enc x,v.oneCell' = true) (cf : α → α → Int) (hO : SWO (ltOf cf)) (g : Nat) (cb : Array Value)
  (eg : ∀ args w,(callFunc g args).run P w = .ok (.enter g args) w)
  (hcmp : ∀ (w : World) (x y : α),Calls P g (#[.agg (enc x).toArray,.agg (enc y).toArray] ++ cb) w fun e w' => e = .returned (.int .i64 (cf x y)) ∧ ∃ q os',w' = grow (w.drewN q) os')
  (base : Nat) (e : TypeId) (w : World) (v : Value) (l : List α) (hown : w.ownsRow base e k v l.length (l.flatMap enc)) (hl : l ≠ []) (hsz : l.length < 4611686018427387904) :
  Calls P (ρ.f 6) #[v,.func (.func g) #[] cb] w fun r w' => r = .returned (.tuple #[]) ∧ ∃ l' : List α,l'.Perm l ∧ l'.Pairwise (fun a b => ltOf cf b a = false) ∧ w'.ownsRow base e k v l'.length (l'.flatMap enc) ∧ w.grownBy w' v.ownBlock := by
 obtain ⟨hlen,⟨_,h0⟩ | ⟨b,cap,cur,rfl,hb,hg,hnc,hcm,hcs,htake⟩⟩ := hown
 ·exact absurd (List.eq_nil_of_length_eq_zero h0) hl
 have hblk : b < w.heap.size := (zc27.1 hg).1
 have hkc : l.length * k ≤ cur.size := by rw [hcs]; exact Nat.mul_le_mul_right k hnc
 have hflat : (flatK enc k l.toArray).toList = l.flatMap enc := by rw [zq832 enc k hk]
 have hH : HoldsK enc k w b 0 l.toArray := by
  intro j hj
  have hj : j < l.length * k := by simpa using hj
  refine ⟨?_,?_⟩
  ·have hc : w.cell? ⟨b,0 + j,none⟩ = cur[j]? := by simp [World.cell?,hg]
   rw [hc]
   have e1 : cur[j]? = (flatK enc k l.toArray)[j]? := by
    rw [← zc25,← zc25,hflat,← htake,zc14,if_pos hj]
   rw [e1,zc44 (by simpa using hj),getElem!_pos _ j (by simpa using hj)]
   rfl
  ·simp [World.frozen?,hg]
 refine (AnyQ.slices_SortFunc L k aE zE enc hk h1 cf hO g cb b 0 cap l.toArray w eg (fun m os dk _ x y => hcmp _ x y) hH hblk (by simpa using hsz)).mono ?_
 rintro r w' ⟨rfl,d',n,os,hp,hs,rfl⟩
 obtain ⟨hsize,_,hperm⟩ := hp
 have hsize : d'.size = l.length := by simpa using hsize
 have hperm : d'.toList.Perm l := by
  have e1 : d'.extract 0 l.length = d' := by rw [← hsize]; simp
  have e2 : l.toArray.extract 0 l.length = l.toArray := by simp
  have : l.toArray.size = l.length := by simp
  rw [this,e1,e2] at hperm
  simpa using hperm
 have hheap : (sortWorldK enc k w b 0 n d' os).heap[b]? = some (.cells (putCells id 0 (flatK enc k d') cur) e (0,0)) := by
  simp only [sortWorldK,grow,putRowK,putRow,mapBlock,Sort.ahead]
  rw [Array.getElem?_append_left (by simpa using hblk),Array.getElem?_modify,if_pos rfl,hg]
  rfl
 refine ⟨rfl,d'.toList,hperm,?_,⟨?_,.inr ⟨b,cap,_,?_,hb,hheap,?_,hcm,?_,?_⟩⟩,⟨rfl,rfl,rfl,?_,?_⟩⟩
 ·rw [List.pairwise_iff_getElem]
  intro i j hi hj hij
  have hj' : j < d'.size := by simpa using hj
  have := hs i j (Nat.zero_le _) hij (by simp; omega)
  rw [getElem!_pos d' j hj',getElem!_pos d' i (by omega)] at this
  simpa using this
 ·rw [← zq832 enc k hk]; simp
 ·simp [hsize]
 ·simp [hsize]; omega
 ·simp [putCells,hcs]
 ·have hf : (flatK enc k d').size = d'.toList.length * k := by simp
  rw [← zq832 enc k hk,← hf,zq1470]
  simp only [size_flatK,hsize]
  exact hkc
 ·simp [sortWorldK,grow,putRowK,putRow,mapBlock,Sort.ahead]
 ·intro q hq hne
  have hne : b ≠ q := fun e => hne (by simp [Value.ownBlock,e])
  simp only [sortWorldK,grow,putRowK,putRow,mapBlock,Sort.ahead]
  rw [Array.getElem?_append_left (by simpa using hq),Array.getElem?_modify,if_neg hne]
end Go.Ma
namespace Go.Proofs.YtjncjiegmnicbabGreat
open Go Go.Ma Go.RowKit Go.Lib Go.Proofs Go.Sort
theorem zq660 (a b : Ad) : decide (cmpA a b < 0) = adLt a b := by
 unfold cmpA cmpN adLt
 obtain ⟨av,ah,al⟩ := a
 obtain ⟨bv,bh,bl⟩ := b
 cases av <;> cases bv <;> simp
 all_goals
  by_cases h : ah = bh
  ·subst h
   by_cases h1 : al < bl
   ·simp [h1]
   ·by_cases h2 : bl < al <;> simp [h1,h2]
  ·by_cases h1 : ah < bh
   ·simp [h,h1]
   ·by_cases h2 : bh < ah <;> simp [h,h1,h2]
theorem zq1193 (x y : Ls) : ltOf (fun x y : Ls => cmpA x.ad y.ad) x y = adLt x.ad y.ad := zq660 _ _
theorem swo_ls : SWO (ltOf fun x y : Ls => cmpA x.ad y.ad) where
 irrefl x := by rw [zq1193]; exact zq385 _
 trans x y z h1 h2 := by rw [zq1193] at *; exact zq389 h1 h2
 ntrans x y z h1 h2 := by rw [zq1193] at *; exact zq387 h1 h2
theorem zq739 (ρ : Nat → Value) (x : Ls) : denL ρ (K.enc .lease x) = encLs x := rfl
def zq1676 : Con := zq1682 .lease zq1685 sortL 127 152
theorem zq1677 : TrOk Tryz.prog 151 zq1676 := by
 refine zq1687 .lease zq1685 sortL _ _ (fun W hG base w v l ρ hb hown hbase hok => ?_)
 simp only [zq1685,Bool.and_eq_true,Bool.not_eq_true'] at hok
 obtain ⟨h1,h2,h3⟩ := hok
 have h1 : l ≠ [] := fun e => by rw [e] at h1; cases h1
 have hsz : l.length < 4611686018427387904 := by
  have := Nat.le_of_ble_eq_true (show Nat.ble ((l.length : Int).toNat + (0 : Int).toNat) 274877906944 = true from h2)
  have e : (0 : Int).toNat = 0 := rfl
  omega
 have e0 : (fun a : Ls => denL ρ (K.enc .lease a)) = encLs := funext fun x => zq739 ρ x
 have hown' : w.ownsRow base 127 5 v l.length (l.flatMap encLs) := by rw [← e0]; exact hown
 have hm := zq1686 Tryz.sortLs 5 (fun w => Tryz.isAgg127 w) (fun w => Tryz.sizeOf127 w) encLs (fun _ => rfl) (fun x v hv => by
   simp only [encLs,zc28,List.not_mem_nil,or_false] at hv
   rcases hv with rfl | rfl | rfl | rfl | rfl <;> rfl) (fun x y : Ls => cmpA x.ad y.ad) swo_ls 152 #[] (enters_of Tryz.func152 (by kernel_rfl) rfl)
  (fun w x y => zq1185 x y w) base 127 w v l hown' h1 hsz
 refine hm.mono ?_
 rintro r w' ⟨rfl,l',hp,hpw,hown2,hgb⟩
 have hl' : l' = sortL l := zq1688 hp (hpw.imp fun {a b} h => by
  rw [zq1193] at h
  exact h) h3
 subst hl'
 refine ⟨rfl,?_,hgb⟩
 show w'.ownsRow base 127 5 v (sortL l).length ((sortL l).flatMap fun a : Ls => denL ρ (K.enc .lease a))
 rw [e0]
 exact hown2
end Go.Proofs.YtjncjiegmnicbabGreat
namespace Go.Proofs.YtjncjiegmnicbabGreat
open Go Go.Ma Go.RowKit Go.Lib
end Go.Proofs.YtjncjiegmnicbabGreat
