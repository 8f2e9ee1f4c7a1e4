/-
  Parts: Wk Hf Ia Ib Ir Ic MaU Id Hc Ik.
-/
import Derived.RangeFuncNested
import Derived.RangeFuncBound
import Derived.RangeFuncCalls
import Derived.RangeFuncLeaves
import Derived.RangeFuncBox
import Derived.Shelf.Abstract
import Derived.Shelf.RegionOpen
import Derived.WalkKit
import Derived.OwnWalkIn
import Derived.TacticsInMore
import Derived.LoopNIn
import Derived.LoopIn
import Derived.ProofKit
import Derived.Lib.Walk
import Derived.Lib.SliceRun
import Derived.Lib.JoinLaws
import Derived.Lib.AppendZeros
import Derived.Lib.AppendZerosOnto
import Derived.Lib.Overlaps
import Derived.Laws.Externs
import Derived.Laws.IdiomCopy
import Derived.Laws.AppendOwn
import Derived.Shelf.Spec.SlicesInsertGrow
import Derived.Deep.RegionLaw
import Derived.Shelf.SlSortCmp.WholeK
import Derived.Test.YtjolfddpghkabaaGreatProg
import Derived.Test.YtjolfddpghkabaaGreatZr5
set_option linter.unusedVariables false
set_option linter.unusedSimpArgs false
open List renaming getElem?_eq_getElem → zc0, getD_eq_getElem?_getD → zc3, mem_of_getElem? → zc5, getElem?_append_left → zc6, getElem?_take → zc14, drop_of_length_le → zc18, length_take → zc20, length_cons → zc21, getElem?_eq_none → zc22, length_append → zc24, mem_cons → zc28, getElem?_append → zc29, length_nil → zc32, getElem?_drop → zc39, length_drop → zc40, nil_append → zc42, append_assoc → zc46
open Option renaming map_eq_some_iff → zc7, bind_eq_some_iff → zc8, bind_some → zc48
open Prod.mk renaming injEq → zc11
open Array renaming getElem?_toList → zc25, getElem?_eq_some_iff → zc27, getElem?_eq_getElem → zc44
open Nat renaming le_refl → zc47
noncomputable section
namespace Go.Proofs.YtjolfddpghkabaaGreat
open Go Go.Ma
def zq906 : Env := mkEnv ty fnB [] []
theorem zq907 : EnvOk Tryz.prog zq906 := envOk tyOk fn_ok zq370 _
def zq905 : Con := con [.one (.fl .u64)] [.one (.fl .addr)] (fun x => zq909 x.1)
theorem zq908 : TrOk Tryz.prog 34 zq905 := by
 have h : zq1088 (zq492 Tryz.f34) = [] := by kernel_rfl
 refine zq494 zq907 Tryz.func34 (zq352 h lsNil) _ _ _ (fun x => ?_)
 kernel_rfl
def zq884 : Env := mkEnv ty fnB [(34,zq905)] []
theorem zq885 : EnvOk Tryz.prog zq884 := envOk tyOk fn_ok (zq369 zq908 zq370) _
def zq883 : Con := con [.one (.fl .u64),.one (.fl .int)] [.one (.fl .pfx)] (fun x => zq887 x.1 x.2.1)
theorem zq886 : TrOk Tryz.prog 48 zq883 := by
 have h : zq1088 (zq492 Tryz.f48) = [] := by kernel_rfl
 refine zq494 zq885 Tryz.func48 (zq352 h lsNil) _ _ _ (fun x => ?_)
 kernel_rfl
def zq894 : Env := mkEnv ty fnB [(48,zq883),(34,zq905)] []
theorem zq895 : EnvOk Tryz.prog zq894 := envOk tyOk fn_ok (zq369 zq886 (zq369 zq908 zq370)) _
def zq893 : Con := con [] [.one (.row .op 36)] (fun x => zq897)
theorem zq896 : TrOk Tryz.prog 15 zq893 := by
 have h : zq1088 (zq492 Tryz.f15) = [] := by kernel_rfl
 refine zq494 zq895 Tryz.func15 (zq352 h lsNil) _ _ _ (fun x => ?_)
 kernel_rfl
def zq869 : Env := mkEnv ty fnB [(15,zq893)] []
theorem zq870 : EnvOk Tryz.prog zq869 := envOk tyOk fn_ok (zq369 zq896 zq370) _
def zq868 : Con := con [] [.one (.row .event 38)] (fun x => zq872)
theorem zq871 : TrOk Tryz.prog 24 zq868 := by
 have h : zq1088 (zq492 Tryz.f24) = [] := by kernel_rfl
 refine zq494 zq870 Tryz.func24 (zq352 h lsNil) _ _ _ (fun x => ?_)
 kernel_rfl
def zq453 : Env := mkEnv ty fnB [] []
theorem zq454 : EnvOk Tryz.prog zq453 := envOk tyOk fn_ok zq370 _
def zq452 : Con := con [] [.agg [.fl .int,.fl .int,.fl .int,.fl .int,.row .entry 100,.nest .int .entry 41 100 true]] (fun x => zq456)
theorem zq455 : TrOk Tryz.prog 27 zq452 := by
 have h : zq1088 (zq492 Tryz.f27) = [] := by kernel_rfl
 refine zq494 zq454 Tryz.func27 (zq352 h lsNil) _ _ _ (fun x => ?_)
 kernel_rfl
def zq485 : Env := mkEnv ty fnB [] []
theorem zq486 : EnvOk Tryz.prog zq485 := envOk tyOk fn_ok zq370 _
def zq484 : Con := con [.one (.fl .int),.one (.fl .int),.one (.fl .int)] [.one (.fl .bool)] (fun x => zq489 x.1 x.2.1 x.2.2.1)
theorem zq488 : TrOk Tryz.prog 54 zq484 := by
 have h : zq1088 (zq492 Tryz.f54) = [] := by kernel_rfl
 refine zq494 zq486 Tryz.func54 (zq352 h lsNil) _ _ _ (fun x => ?_)
 kernel_rfl
def zq647 : Env := mkEnv ty fnB [] []
theorem zq648 : EnvOk Tryz.prog zq647 := envOk tyOk fn_ok zq370 _
def zq646 : Con := con [.one (.fl .int),.one (.fl .int),.one (.fl .int)] [.one (.fl .bool)] (fun x => zq651 x.1 x.2.1 x.2.2.1)
theorem zq650 : TrOk Tryz.prog 45 zq646 := by
 have h : zq1088 (zq492 Tryz.f45) = [] := by kernel_rfl
 refine zq494 zq648 Tryz.func45 (zq352 h lsNil) _ _ _ (fun x => ?_)
 kernel_rfl
def zq1077 : Env := mkEnv ty fnB [] []
theorem zq1078 : EnvOk Tryz.prog zq1077 := envOk tyOk fn_ok zq370 _
def zq1076 : Con := con [.one (.fl .int)] [.one (.fl .bool)] (fun x => zq1081 x.1)
theorem zq1080 : TrOk Tryz.prog 59 zq1076 := by
 have h : zq1088 (zq492 Tryz.f59) = [] := by kernel_rfl
 refine zq494 zq1078 Tryz.func59 (zq352 h lsNil) _ _ _ (fun x => ?_)
 kernel_rfl
def zq1742 : Env := mkEnv ty fnB [] []
theorem zq1743 : EnvOk Tryz.prog zq1742 := envOk tyOk fn_ok zq370 _
def zq1741 : Con := con [.one (.fl .int),.one (.fl .int),.one (.fl .int)] [.one (.fl .bool)] (fun x => zq1746 x.1 x.2.1 x.2.2.1)
theorem zq1745 : TrOk Tryz.prog 72 zq1741 := by
 have h : zq1088 (zq492 Tryz.f72) = [] := by kernel_rfl
 refine zq494 zq1743 Tryz.func72 (zq352 h lsNil) _ _ _ (fun x => ?_)
 kernel_rfl
def zq1718 : Env := mkEnv ty fnB [] []
theorem zq1719 : EnvOk Tryz.prog zq1718 := envOk tyOk fn_ok zq370 _
def zq1717 : Con := con [.one (.fl .op)] [.one (.fl .bool)] (fun x => zq1722 x.1)
theorem zq1721 : TrOk Tryz.prog 73 zq1717 := by
 have h : zq1088 (zq492 Tryz.f73) = [] := by kernel_rfl
 refine zq494 zq1719 Tryz.func73 (zq352 h lsNil) _ _ _ (fun x => ?_)
 kernel_rfl
def zq247 : Env := mkEnv ty fnB [] []
theorem zq248 : EnvOk Tryz.prog zq247 := envOk tyOk fn_ok zq370 _
def zq246 : Con := con [.one (.fl .addr)] [.one (.fl .int)] (fun x => zq251 x.1)
theorem zq250 : TrOk Tryz.prog 76 zq246 := by
 have h : zq1088 (zq492 Tryz.f76) = [] := by kernel_rfl
 refine zq494 zq248 Tryz.func76 (zq352 h lsNil) _ _ _ (fun x => ?_)
 kernel_rfl
def zq1352 : Env := mkEnv ty fnB [] []
theorem zq1353 : EnvOk Tryz.prog zq1352 := envOk tyOk fn_ok zq370 _
def zq1351 : Con := con [.one (.fl .addr)] [.one (.fl .int)] (fun x => zq1356 x.1)
theorem zq1355 : TrOk Tryz.prog 83 zq1351 := by
 have h : zq1088 (zq492 Tryz.f83) = [] := by kernel_rfl
 refine zq494 zq1353 Tryz.func83 (zq352 h lsNil) _ _ _ (fun x => ?_)
 kernel_rfl
def zq1358 : Env := mkEnv ty fnB [(83,zq1351)] []
theorem zq1359 : EnvOk Tryz.prog zq1358 := envOk tyOk fn_ok (zq369 zq1355 zq370) _
def zq1357 : Con := con [.one (.fl .addr),.one (.fl .int)] [.one (.fl .addr)] (fun x => zq1362 x.1 x.2.1)
theorem zq1361 : TrOk Tryz.prog 90 zq1357 := by
 have h : zq1088 (zq492 Tryz.f90) = [] := by kernel_rfl
 refine zq494 zq1359 Tryz.func90 (zq352 h lsNil) _ _ _ (fun x => ?_)
 kernel_rfl
def zq1316 : Env := mkEnv ty fnB [(90,zq1357)] []
theorem zq1317 : EnvOk Tryz.prog zq1316 := envOk tyOk fn_ok (zq369 zq1361 zq370) _
def zq1315 : Con := con [.one (.fl .addr),.one (.fl .int)] [.one (.fl .addr)] (fun x => zq1320 x.1 x.2.1)
theorem zq1319 : TrOk Tryz.prog 84 zq1315 := by
 have h : zq1088 (zq492 Tryz.f84) = [] := by kernel_rfl
 refine zq494 zq1317 Tryz.func84 (zq352 h lsNil) _ _ _ (fun x => ?_)
 kernel_rfl
def zq1310 : Env := mkEnv ty fnB [(76,zq246),(83,zq1351),(84,zq1315)] []
theorem zq1311 : EnvOk Tryz.prog zq1310 := envOk tyOk fn_ok (zq369 zq250 (zq369 zq1355 (zq369 zq1319 zq370))) _
def zq1309 : Con := con [.one (.fl .pfx)] [.one (.fl .int)] (fun x => zq1314 x.1)
theorem zq1313 : TrOk Tryz.prog 74 zq1309 := by
 have h : zq1088 (zq492 Tryz.f74) = [] := by kernel_rfl
 refine zq494 zq1311 Tryz.func74 (zq352 h lsNil) _ _ _ (fun x => ?_)
 kernel_rfl
def zq940 : Env := mkEnv ty fnB [(83,zq1351)] []
theorem zq941 : EnvOk Tryz.prog zq940 := envOk tyOk fn_ok (zq369 zq1355 zq370) _
def zq939 : Con := con [.one (.fl .pfx)] [.one (.fl .bool)] (fun x => zq944 x.1)
theorem zq943 : TrOk Tryz.prog 75 zq939 := by
 have h : zq1088 (zq492 Tryz.f75) = [] := by kernel_rfl
 refine zq494 zq941 Tryz.func75 (zq352 h lsNil) _ _ _ (fun x => ?_)
 kernel_rfl
def zq984 : Env := mkEnv ty fnB [] []
theorem zq985 : EnvOk Tryz.prog zq984 := envOk tyOk fn_ok zq370 _
def zq983 : Con := con [.one (.fl .int),.one (.fl .int),.one (.fl .int)] [.one (.fl .bool)] (fun x => zq988 x.1 x.2.1 x.2.2.1)
theorem zq987 : TrOk Tryz.prog 85 zq983 := by
 have h : zq1088 (zq492 Tryz.f85) = [] := by kernel_rfl
 refine zq494 zq985 Tryz.func85 (zq352 h lsNil) _ _ _ (fun x => ?_)
 kernel_rfl
def zq975 : LoopS := { n := 33,base := 0,head := { keep := [0,6,7],vals := [.one (.fl .str),.one (.fl .int),.one (.fl .int)],objs := [] },exits := [⟨none,{ keep := [2],vals := [.one (.fl .bool)],objs := [] }⟩,⟨some 0,{ keep := [0],vals := [.one (.fl .str)],objs := [] }⟩] }
def zq978 : Env := mkEnv ty fnB [(85,zq983)] [(2,(zq1084 zq975 (loopN zq974 FUEL)))]
theorem zq979 : EnvOk Tryz.prog zq978 := envOk tyOk fn_ok (zq369 zq987 zq370) _
theorem zq976 : LOk Tryz.prog (zq1158 (zq492 Tryz.f77) 0) (zq1084 zq975 (loopN zq974 FUEL)) := by
 have h : zq1088 (zq1158 (zq492 Tryz.f77) 0) = [] := by kernel_rfl
 refine zq1085 zq979 (zq1089 h lsNil) zq975 zq974 FUEL (fun rec x => ?_)
 kernel_rfl
def zq977 : Con := con [.one (.fl .str)] [.one (.fl .bool)] (fun x => zq982 x.1)
theorem zq981 : TrOk Tryz.prog 77 zq977 := by
 have h : zq1088 (zq492 Tryz.f77) = [(zq1158 (zq492 Tryz.f77) 0)] := by kernel_rfl
 refine zq494 zq979 Tryz.func77 (zq352 h (zq1094 (zq1183 (t := (zq1084 zq975 (loopN zq974 FUEL))) (by kernel_rfl) zq976) lsNil)) _ _ _ (fun x => ?_)
 kernel_rfl
def zq1657 : Env := mkEnv ty fnB [(72,zq1741),(73,zq1717),(74,zq1309),(75,zq939),(76,zq246),(77,zq977)] []
theorem zq1658 : EnvOk Tryz.prog zq1657 := envOk tyOk fn_ok (zq369 zq1745 (zq369 zq1721 (zq369 zq1313 (zq369 zq943 (zq369 zq250 (zq369 zq981 zq370)))))) _
def zq1656 : Con := con [.one (.fl .op)] [.one (.fl .int)] (fun x => zq1661 x.1)
theorem zq1660 : TrOk Tryz.prog 60 zq1656 := by
 have h : zq1088 (zq492 Tryz.f60) = [] := by kernel_rfl
 refine zq494 zq1658 Tryz.func60 (zq352 h lsNil) _ _ _ (fun x => ?_)
 kernel_rfl
def zq1038 : LoopS := { n := 48,base := 1,head := { keep := [0,9,10,11],vals := [.one (.cst (.row 0)),.one (.cst (.row 0)),.one (.fl .int),.one (.fl .int)],objs := [.row .entry 100 false] },exits := [⟨none,{ keep := [2],vals := [.one (.fl .int)],objs := [.row .entry 100 false] }⟩,⟨some 0,{ keep := [],vals := [],objs := [.row .entry 100 false] }⟩] }
def zq1041 : Env := mkEnv ty fnB [(59,zq1076),(60,zq1656)] [(4,(zq1084 zq1038 (loopN zq1037 FUEL)))]
theorem zq1042 : EnvOk Tryz.prog zq1041 := envOk tyOk fn_ok (zq369 zq1080 (zq369 zq1660 zq370)) _
theorem zq1039 : LOk Tryz.prog (zq1158 (zq492 Tryz.f33) 0) (zq1084 zq1038 (loopN zq1037 FUEL)) := by
 have h : zq1088 (zq1158 (zq492 Tryz.f33) 0) = [] := by kernel_rfl
 refine zq1085 zq1042 (zq1089 h lsNil) zq1038 zq1037 FUEL (fun rec x => ?_)
 kernel_rfl
def zq1040 : Con := con [.one (.row .entry 100)] [.one (.fl .int)] (fun x => zq1045 x.1)
theorem zq1044 : TrOk Tryz.prog 33 zq1040 := by
 have h : zq1088 (zq492 Tryz.f33) = [(zq1158 (zq492 Tryz.f33) 0)] := by kernel_rfl
 refine zq494 zq1042 Tryz.func33 (zq352 h (zq1094 (zq1183 (t := (zq1084 zq1038 (loopN zq1037 FUEL))) (by kernel_rfl) zq1039) lsNil)) _ _ _ (fun x => ?_)
 kernel_rfl
def zq598 : Env := mkEnv ty fnB [] []
theorem zq599 : EnvOk Tryz.prog zq598 := envOk tyOk fn_ok zq370 _
def zq597 : Con := con [.one (.fl .entry),.ref [.fl .int,.fl .int,.fl .int,.row .entry 100] 26] [.one (.fl .bool)] (fun x => zq601 x.1 x.2.1.1 x.2.1.2.1 x.2.1.2.2.1 x.2.1.2.2.2.1)
theorem zq600 : TrOk Tryz.prog 57 zq597 := by
 have h : zq1088 (zq492 Tryz.f57) = [] := by kernel_rfl
 refine zq494 zq599 Tryz.func57 (zq352 h lsNil) _ _ _ (fun x => ?_)
 kernel_rfl
def zq612 : LoopS := { n := 19,base := 2,head := { keep := [0,1,7,8],vals := [.one (.cst (.row 0)),.one (.cst (.fn 57 [.ptr 1 0])),.one (.fl .int),.one (.fl .int)],objs := [.row .entry 100 false,.blk [.fl .int,.fl .int,.fl .int,.cst (.row 0)] 26 true] },exits := [⟨none,{ keep := [4],vals := [.one (.fl .int)],objs := [.row .entry 100 false,.blk [.fl .int,.fl .int,.fl .int,.cst (.row 0)] 26 true] }⟩,⟨some 0,{ keep := [],vals := [],objs := [.row .entry 100 false,.blk [.fl .int,.fl .int,.fl .int,.cst (.row 0)] 26 true] }⟩] }
def zq614 : Env := mkEnv ty fnB [(57,zq597)] [(2,(zq1084 zq612 (loopN zq611 FUEL)))]
theorem zq615 : EnvOk Tryz.prog zq614 := envOk tyOk fn_ok (zq369 zq600 zq370) _
theorem zq613 : LOk Tryz.prog (zq1158 (zq492 Tryz.f69) 0) (zq1084 zq612 (loopN zq611 FUEL)) := by
 have h : zq1088 (zq1158 (zq492 Tryz.f69) 0) = [] := by kernel_rfl
 refine zq1085 zq615 (zq1089 h lsNil) zq612 zq611 FUEL (fun rec x => ?_)
 kernel_rfl
theorem zq616 : TrOk Tryz.prog 69 (zq757 zq614 Tryz.f69) := by
 have h : zq1088 (zq492 Tryz.f69) = [(zq1158 (zq492 Tryz.f69) 0)] := by kernel_rfl
 exact zq758 zq615 Tryz.func69 (zq352 h (zq1094 (zq1183 (t := (zq1084 zq612 (loopN zq611 FUEL))) (by kernel_rfl) zq613) lsNil))
def zq608 : Env := mkEnv ty fnB [(69,(zq757 zq614 Tryz.f69))] []
theorem zq609 : EnvOk Tryz.prog zq608 := envOk tyOk fn_ok (zq369 zq616 zq370) _
theorem zq610 : TrOk Tryz.prog 56 (zq757 zq608 Tryz.f56) := by
 have h : zq1088 (zq492 Tryz.f56) = [] := by kernel_rfl
 exact zq758 zq609 Tryz.func56 (zq352 h lsNil)
def zq603 : Env := mkEnv ty fnB [(45,zq646),(33,zq1040),(56,(zq757 zq608 Tryz.f56))] []
theorem zq604 : EnvOk Tryz.prog zq603 := envOk tyOk fn_ok (zq369 zq650 (zq369 zq1044 (zq369 zq610 zq370))) _
def zq602 : Con := con [.agg [.fl .int,.fl .int,.fl .int,.row .entry 100]] [.one (.fl .int)] (fun x => zq617 x.1.1 x.1.2.1 x.1.2.2.1 x.1.2.2.2.1)
theorem zq606 : TrOk Tryz.prog 29 zq602 := by
 have h : zq1088 (zq492 Tryz.f29) = [] := by kernel_rfl
 refine zq494 zq604 Tryz.func29 (zq352 h lsNil) _ _ _ (fun x => ?_)
 kernel_rfl
def zq1047 : Env := mkEnv ty fnB [] []
theorem zq1048 : EnvOk Tryz.prog zq1047 := envOk tyOk fn_ok zq370 _
def zq1046 : Con := con [.one (.fl .entry),.one (.fl .entry)] [.one (.fl .bool)] (fun x => zq1050 x.1 x.2.1)
theorem zq1049 : TrOk Tryz.prog 71 zq1046 := by
 have h : zq1088 (zq492 Tryz.f71) = [] := by kernel_rfl
 refine zq494 zq1048 Tryz.func71 (zq352 h lsNil) _ _ _ (fun x => ?_)
 kernel_rfl
def zq1057 : LoopS := { n := 32,base := 3,head := { keep := [1,2,15,16,17],vals := [.one (.cst (.row 2)),.one (.cst (.fn 71 [])),.one (.cst (.row 0)),.one (.fl .int),.one (.fl .int)],objs := [.row .entry 100 false,.row .entry 100 false,.row .entry 100 false] },exits := [⟨none,{ keep := [6],vals := [.one (.fl .bool)],objs := [.row .entry 100 false,.row .entry 100 false,.row .entry 100 false] }⟩,⟨some 0,{ keep := [],vals := [],objs := [.row .entry 100 false,.row .entry 100 false,.row .entry 100 false] }⟩] }
def zq1059 : Env := mkEnv ty fnB [(71,zq1046)] [(4,(zq1084 zq1057 (loopN zq1056 FUEL)))]
theorem zq1060 : EnvOk Tryz.prog zq1059 := envOk tyOk fn_ok (zq369 zq1049 zq370) _
theorem zq1058 : LOk Tryz.prog (zq1158 (zq492 Tryz.f70) 0) (zq1084 zq1057 (loopN zq1056 FUEL)) := by
 have h : zq1088 (zq1158 (zq492 Tryz.f70) 0) = [] := by kernel_rfl
 refine zq1085 zq1060 (zq1089 h lsNil) zq1057 zq1056 FUEL (fun rec x => ?_)
 kernel_rfl
theorem zq1061 : TrOk Tryz.prog 70 (zq757 zq1059 Tryz.f70) := by
 have h : zq1088 (zq492 Tryz.f70) = [(zq1158 (zq492 Tryz.f70) 0)] := by kernel_rfl
 exact zq758 zq1060 Tryz.func70 (zq352 h (zq1094 (zq1183 (t := (zq1084 zq1057 (loopN zq1056 FUEL))) (by kernel_rfl) zq1058) lsNil))
def zq1052 : Env := mkEnv ty fnB [(70,(zq757 zq1059 Tryz.f70))] []
theorem zq1053 : EnvOk Tryz.prog zq1052 := envOk tyOk fn_ok (zq369 zq1061 zq370) _
def zq1051 : Con := con [.one (.row .entry 100),.one (.row .entry 100)] [.one (.fl .bool)] (fun x => zq1062 x.1 x.2.1)
theorem zq1055 : TrOk Tryz.prog 58 zq1051 := by
 have h : zq1088 (zq492 Tryz.f58) = [] := by kernel_rfl
 refine zq494 zq1053 Tryz.func58 (zq352 h lsNil) _ _ _ (fun x => ?_)
 kernel_rfl
def zq479 : Env := mkEnv ty fnB [(54,zq484),(33,zq1040),(58,zq1051)] []
theorem zq480 : EnvOk Tryz.prog zq479 := envOk tyOk fn_ok (zq369 zq488 (zq369 zq1044 (zq369 zq1055 zq370))) _
def zq478 : Con := con [.agg [.fl .int,.fl .int,.fl .int,.fl .int,.row .entry 100,.nest .int .entry 41 100 true],.agg [.fl .int,.row .entry 100]] [.one (.fl .int)] (fun x => zq483 x.1.1 x.1.2.1 x.1.2.2.1 x.1.2.2.2.1 x.1.2.2.2.2.1 x.1.2.2.2.2.2.1 x.2.1.1 x.2.1.2.1)
theorem zq482 : TrOk Tryz.prog 55 zq478 := by
 have h : zq1088 (zq492 Tryz.f55) = [] := by kernel_rfl
 refine zq494 zq480 Tryz.func55 (zq352 h lsNil) _ _ _ (fun x => ?_)
 kernel_rfl
def zq425 : LoopS := { n := 85,base := 3,head := { keep := [1,26,27,28],vals := [.one (.cst (.ptr 3 0)),.one (.cst (.row 2)),.one (.fl .int),.one (.fl .int)],objs := [.row .entry 100 false,.bag .entry 100 false false,.nest .int 1 41 false,.blk [.fl .int,.fl .int,.fl .int,.fl .int,.cst (.row 0),.cst (.row 2)] 29 true] },exits := [⟨none,{ keep := [2],vals := [.one (.fl .int)],objs := [.row .entry 100 false,.bag .entry 100 false false,.nest .int 1 41 false] }⟩,⟨some 0,{ keep := [1],vals := [.one (.cst (.ptr 3 0))],objs := [.row .entry 100 false,.bag .entry 100 false false,.nest .int 1 41 false,.blk [.fl .int,.fl .int,.fl .int,.fl .int,.cst (.row 0),.cst (.row 2)] 29 true] }⟩] }
def zq422 : LoopS := { n := 85,base := 3,head := { keep := [1,57,58,59],vals := [.one (.cst (.ptr 3 0)),.one (.cst (.row 2)),.one (.fl .int),.one (.fl .int)],objs := [.row .entry 100 false,.bag .entry 100 false false,.nest .int 1 41 false,.blk [.fl .int,.fl .int,.fl .int,.fl .int,.cst (.row 0),.cst (.row 2)] 29 true] },exits := [⟨none,{ keep := [2],vals := [.one (.fl .int)],objs := [.row .entry 100 false,.bag .entry 100 false false,.nest .int 1 41 false] }⟩,⟨some 2,{ keep := [],vals := [],objs := [.row .entry 100 false,.bag .entry 100 false false,.nest .int 1 41 false] }⟩] }
def zq428 : Env := mkEnv ty fnB [(54,zq484),(29,zq602),(55,zq478)] [(9,(zq1084 zq425 (loopN zq424 FUEL))),(19,(zq1084 zq422 (loopN zq421 FUEL)))]
theorem zq429 : EnvOk Tryz.prog zq428 := envOk tyOk fn_ok (zq369 zq488 (zq369 zq606 (zq369 zq482 zq370))) _
theorem zq423 : LOk Tryz.prog (zq1158 (zq492 Tryz.f26) 1) (zq1084 zq422 (loopN zq421 FUEL)) := by
 have h : zq1088 (zq1158 (zq492 Tryz.f26) 1) = [] := by kernel_rfl
 refine zq1085 zq429 (zq1089 h lsNil) zq422 zq421 FUEL (fun rec x => ?_)
 kernel_rfl
theorem zq426 : LOk Tryz.prog (zq1158 (zq492 Tryz.f26) 0) (zq1084 zq425 (loopN zq424 FUEL)) := by
 have h : zq1088 (zq1158 (zq492 Tryz.f26) 0) = [] := by kernel_rfl
 refine zq1085 zq429 (zq1089 h lsNil) zq425 zq424 FUEL (fun rec x => ?_)
 kernel_rfl
def zq427 : Con := con [.agg [.fl .int,.fl .int,.fl .int,.fl .int,.row .entry 100,.nest .int .entry 41 100 true]] [.one (.fl .int)] (fun x => zq432 x.1.1 x.1.2.1 x.1.2.2.1 x.1.2.2.2.1 x.1.2.2.2.2.1 x.1.2.2.2.2.2.1)
theorem zq431 : TrOk Tryz.prog 26 zq427 := by
 have h : zq1088 (zq492 Tryz.f26) = [(zq1158 (zq492 Tryz.f26) 0),(zq1158 (zq492 Tryz.f26) 1)] := by kernel_rfl
 refine zq494 zq429 Tryz.func26 (zq352 h (zq1094 (zq1183 (t := (zq1084 zq425 (loopN zq424 FUEL))) (by kernel_rfl) zq426) (zq1094 (zq1183 (t := (zq1084 zq422 (loopN zq421 FUEL))) (by kernel_rfl) zq423) lsNil))) _ _ _ (fun x => ?_)
 kernel_rfl
def zq473 : Env := mkEnv ty fnB [(54,zq484)] []
theorem zq474 : EnvOk Tryz.prog zq473 := envOk tyOk fn_ok (zq369 zq488 zq370) _
def zq472 : Con := con [.one (.fl .int),.one (.fl .event)] [.one (.fl .int)] (fun x => zq477 x.1 x.2.1)
theorem zq476 : TrOk Tryz.prog 42 zq472 := by
 have h : zq1088 (zq492 Tryz.f42) = [] := by kernel_rfl
 refine zq494 zq474 Tryz.func42 (zq352 h lsNil) _ _ _ (fun x => ?_)
 kernel_rfl
def zq1591 : Env := mkEnv ty fnB [] []
theorem zq1592 : EnvOk Tryz.prog zq1591 := envOk tyOk fn_ok zq370 _
def zq1590 : Con := con [.one (.row .entry 100)] [.one (.row .entry 100)] (fun x => zq1594 x.1)
theorem zq1593 : TrOk Tryz.prog 64 zq1590 := by
 have h : zq1088 (zq492 Tryz.f64) = [] := by kernel_rfl
 refine zq494 zq1592 Tryz.func64 (zq352 h lsNil) _ _ _ (fun x => ?_)
 kernel_rfl
def zq628 : Env := mkEnv ty fnB [(64,zq1590)] []
theorem zq629 : EnvOk Tryz.prog zq628 := envOk tyOk fn_ok (zq369 zq1593 zq370) _
def zq627 : Con := con [.agg [.fl .int,.fl .int,.fl .int,.row .entry 100]] [.agg [.fl .int,.fl .int,.fl .int,.row .entry 100]] (fun x => zq632 x.1.1 x.1.2.1 x.1.2.2.1 x.1.2.2.2.1)
theorem zq631 : TrOk Tryz.prog 63 zq627 := by
 have h : zq1088 (zq492 Tryz.f63) = [] := by kernel_rfl
 refine zq494 zq629 Tryz.func63 (zq352 h lsNil) _ _ _ (fun x => ?_)
 kernel_rfl
def zq618 : Env := mkEnv ty fnB [] []
theorem zq619 : EnvOk Tryz.prog zq618 := envOk tyOk fn_ok zq370 _
theorem zq620 : TrOk Tryz.prog 66 (zq757 zq618 Tryz.f66) := by
 have h : zq1088 (zq492 Tryz.f66) = [] := by kernel_rfl
 exact zq758 zq619 Tryz.func66 (zq352 h lsNil)
def zq622 : Env := mkEnv ty fnB [(63,zq627),(66,(zq757 zq618 Tryz.f66))] []
theorem zq623 : EnvOk Tryz.prog zq622 := envOk tyOk fn_ok (zq369 zq631 (zq369 zq620 zq370)) _
def zq621 : Con := con [.agg [.fl .int,.fl .int,.fl .int,.row .entry 100],.one (.fl .int),.one (.fl .int)] [.agg [.fl .int,.fl .int,.fl .int,.row .entry 100],.one (.fl .int)] (fun x => zq626 x.1.1 x.1.2.1 x.1.2.2.1 x.1.2.2.2.1 x.2.1 x.2.2.1)
theorem zq625 : TrOk Tryz.prog 46 zq621 := by
 have h : zq1088 (zq492 Tryz.f46) = [] := by kernel_rfl
 refine zq494 zq623 Tryz.func46 (zq352 h lsNil) _ _ _ (fun x => ?_)
 kernel_rfl
def zq1064 : Env := mkEnv ty fnB [(59,zq1076),(60,zq1656),(64,zq1590)] []
theorem zq1065 : EnvOk Tryz.prog zq1064 := envOk tyOk fn_ok (zq369 zq1080 (zq369 zq1660 (zq369 zq1593 zq370))) _
def zq1063 : Con := con [.one (.row .entry 100),.one (.fl .int),.one (.fl .op)] [.one (.row .entry 100),.one (.fl .int)] (fun x => zq1068 x.1 x.2.1 x.2.2.1)
theorem zq1067 : TrOk Tryz.prog 49 zq1063 := by
 have h : zq1088 (zq492 Tryz.f49) = [] := by kernel_rfl
 refine zq494 zq1065 Tryz.func49 (zq352 h lsNil) _ _ _ (fun x => ?_)
 kernel_rfl
def zq634 : Env := mkEnv ty fnB [(49,zq1063)] []
theorem zq635 : EnvOk Tryz.prog zq634 := envOk tyOk fn_ok (zq369 zq1067 zq370) _
def zq633 : Con := con [.agg [.fl .int,.fl .int,.fl .int,.row .entry 100],.one (.fl .int),.one (.fl .op)] [.agg [.fl .int,.fl .int,.fl .int,.row .entry 100],.one (.fl .int)] (fun x => zq638 x.1.1 x.1.2.1 x.1.2.2.1 x.1.2.2.2.1 x.2.1 x.2.2.1)
theorem zq637 : TrOk Tryz.prog 47 zq633 := by
 have h : zq1088 (zq492 Tryz.f47) = [] := by kernel_rfl
 refine zq494 zq635 Tryz.func47 (zq352 h lsNil) _ _ _ (fun x => ?_)
 kernel_rfl
def zq1544 : Env := mkEnv ty fnB [(64,zq1590)] []
theorem zq1545 : EnvOk Tryz.prog zq1544 := envOk tyOk fn_ok (zq369 zq1593 zq370) _
def zq1543 : Con := con [.one (.row .entry 100),.one (.row .entry 100),.one (.fl .int)] [.one (.row .entry 100)] (fun x => zq1548 x.1 x.2.1 x.2.2.1)
theorem zq1547 : TrOk Tryz.prog 51 zq1543 := by
 have h : zq1088 (zq492 Tryz.f51) = [] := by kernel_rfl
 refine zq494 zq1545 Tryz.func51 (zq352 h lsNil) _ _ _ (fun x => ?_)
 kernel_rfl
def zq434 : Env := mkEnv ty fnB [] []
theorem zq435 : EnvOk Tryz.prog zq434 := envOk tyOk fn_ok zq370 _
theorem zq436 : TrOk Tryz.prog 65 (zq757 zq434 Tryz.f65) := by
 have h : zq1088 (zq492 Tryz.f65) = [] := by kernel_rfl
 exact zq758 zq435 Tryz.func65 (zq352 h lsNil)
def zq437 : Env := mkEnv ty fnB [(46,zq621),(65,(zq757 zq434 Tryz.f65)),(47,zq633),(51,zq1543)] []
theorem zq438 : EnvOk Tryz.prog zq437 := envOk tyOk fn_ok (zq369 zq625 (zq369 zq436 (zq369 zq637 (zq369 zq1547 zq370)))) _
theorem zq439 : TrOk Tryz.prog 44 (zq757 zq437 Tryz.f44) := by
 have h : zq1088 (zq492 Tryz.f44) = [] := by kernel_rfl
 exact zq758 zq438 Tryz.func44 (zq352 h lsNil)
def zq441 : LoopS := { n := 40,base := 9,head := { keep := [3,15,16,17],vals := [.one (.cst (.ptr 9 0)),.one (.cst (.row 2)),.one (.fl .int),.one (.fl .int)],objs := [.row .entry 100 false,.bag .entry 100 false false,.nest .int 1 41 false,.blk [.fl .int,.fl .int,.fl .int,.fl .int,.cst (.row 0),.cst (.row 2)] 29 true,.blk [.fl .event] 38 true,.blk [.fl .int,.fl .int,.fl .int,.fl .int,.cst (.row 6),.cst (.row 7)] 29 true,.row .entry 100 true,.nest .int 8 41 true,.bag .entry 100 true true,.blk [.fl .int,.fl .int,.fl .int,.fl .int,.cst (.row 10),.cst (.row 11)] 94 true,.row .entry 100 true,.nest .int 12 41 true,.bag .entry 100 true true] },exits := [⟨some 0,{ keep := [3],vals := [.one (.cst (.ptr 9 0))],objs := [.row .entry 100 false,.bag .entry 100 false false,.nest .int 1 41 false,.blk [.fl .int,.fl .int,.fl .int,.fl .int,.cst (.row 0),.cst (.row 2)] 29 true,.blk [.fl .event] 38 true,.blk [.fl .int,.fl .int,.fl .int,.fl .int,.cst (.row 6),.cst (.row 7)] 29 true,.row .entry 100 true,.nest .int 8 41 true,.bag .entry 100 true true,.blk [.fl .int,.fl .int,.fl .int,.fl .int,.cst (.row 10),.cst (.row 11)] 94 true,.row .entry 100 true,.nest .int 12 41 true,.bag .entry 100 true true] }⟩] }
def zq443 : Env := mkEnv ty fnB [(63,zq627),(64,zq1590)] [(3,(zq1084 zq441 (loopN zq440 FUEL)))]
theorem zq444 : EnvOk Tryz.prog zq443 := envOk tyOk fn_ok (zq369 zq631 (zq369 zq1593 zq370)) _
theorem zq442 : LOk Tryz.prog (zq1158 (zq492 Tryz.f43) 0) (zq1084 zq441 (loopN zq440 FUEL)) := by
 have h : zq1088 (zq1158 (zq492 Tryz.f43) 0) = [] := by kernel_rfl
 refine zq1085 zq444 (zq1089 h lsNil) zq441 zq440 FUEL (fun rec x => ?_)
 kernel_rfl
theorem zq445 : TrOk Tryz.prog 43 (zq757 zq443 Tryz.f43) := by
 have h : zq1088 (zq492 Tryz.f43) = [(zq1158 (zq492 Tryz.f43) 0)] := by kernel_rfl
 exact zq758 zq444 Tryz.func43 (zq352 h (zq1094 (zq1183 (t := (zq1084 zq441 (loopN zq440 FUEL))) (by kernel_rfl) zq442) lsNil))
def zq433 : List (Nat × JoinS) := [(13,{ n := 32,exits := [⟨some BIG,{ keep := [2,3,4,7],vals := [.one (.cst (.ptr 3 0)),.one (.cst (.ptr 4 0)),.one (.cst (.ptr 5 0)),.one (.fl .int)],objs := [.row .entry 100 false,.bag .entry 100 false false,.nest .int 1 41 false,.blk [.fl .int,.fl .int,.fl .int,.fl .int,.cst (.row 0),.cst (.row 2)] 29 true,.blk [.fl .event] 38 true,.blk [.fl .int,.fl .int,.fl .int,.fl .int,.cst (.row 6),.cst (.row 7)] 29 true,.row .entry 100 true,.nest .int 8 41 true,.bag .entry 100 true true] }⟩] })]
def zq447 : Env := mkEnv ty fnB [(26,zq427),(42,zq472),(44,(zq757 zq437 Tryz.f44)),(43,(zq757 zq443 Tryz.f43))] [] zq433
theorem zq448 : EnvOk Tryz.prog zq447 := envOk tyOk fn_ok (zq369 zq431 (zq369 zq476 (zq369 zq439 (zq369 zq445 zq370)))) _ _
def zq446 : Con := con [.agg [.fl .int,.fl .int,.fl .int,.fl .int,.row .entry 100,.nest .int .entry 41 100 true],.one (.fl .event)] [.agg [.fl .int,.fl .int,.fl .int,.fl .int,.row .entry 100,.nest .int .entry 41 100 true],.one (.fl .bool),.one (.fl .int)] (fun x => zq451 x.1.1 x.1.2.1 x.1.2.2.1 x.1.2.2.2.1 x.1.2.2.2.2.1 x.1.2.2.2.2.2.1 x.2.1)
theorem zq450 : TrOk Tryz.prog 11 zq446 := by
 have h : zq1088 (zq492 Tryz.f11) = [] := by kernel_rfl
 refine zq494 zq448 Tryz.func11 (zq352 h lsNil) _ _ _ (fun x => ?_)
 kernel_rfl
def zq458 : LoopS := { n := 42,base := 1,head := { keep := [2,5,6,17,18,19],vals := [.one (.cst (.ptr 1 0)),.one (.cst (.ptr 2 0)),.one (.cst (.row 3)),.one (.cst (.row 0)),.one (.fl .int),.one (.fl .int)],objs := [.row .event 38 false,.blk [.fl .int,.fl .int,.fl .int,.fl .int,.cst (.row 4),.cst (.row 5)] 29 true,.blk [.fl .int,.fl .int,.fl .int,.fl .int,.cst (.row 6),.cst (.row 7)] 29 true,.row .bool 4 true,.row .entry 100 true,.nest .int 8 41 true,.row .entry 100 true,.nest .int 9 41 true,.bag .entry 100 true true,.bag .entry 100 true true] },exits := [⟨none,{ keep := [2,3,4],vals := [.one (.cst (.ptr 1 0)),.one (.cst (.row 2)),.one (.fl .int)],objs := [.row .event 38 false,.blk [.fl .int,.fl .int,.fl .int,.fl .int,.cst (.row 3),.cst (.row 4)] 29 true,.row .bool 4 true,.row .entry 100 true,.nest .int 5 41 true,.bag .entry 100 true true] }⟩,⟨some 0,{ keep := [2,5,6],vals := [.one (.cst (.ptr 1 0)),.one (.cst (.ptr 2 0)),.one (.cst (.row 3))],objs := [.row .event 38 false,.blk [.fl .int,.fl .int,.fl .int,.fl .int,.cst (.row 4),.cst (.row 5)] 29 true,.blk [.fl .int,.fl .int,.fl .int,.fl .int,.cst (.row 6),.cst (.row 7)] 29 true,.row .bool 4 true,.row .entry 100 true,.nest .int 8 41 true,.row .entry 100 true,.nest .int 9 41 true,.bag .entry 100 true true,.bag .entry 100 true true] }⟩] }
def zq461 : Env := mkEnv ty fnB [(27,zq452),(11,zq446)] [(6,(zq1084 zq458 (loopN zq457 FUEL)))]
theorem zq462 : EnvOk Tryz.prog zq461 := envOk tyOk fn_ok (zq369 zq455 (zq369 zq450 zq370)) _
theorem zq459 : LOk Tryz.prog (zq1158 (zq492 Tryz.f20) 0) (zq1084 zq458 (loopN zq457 FUEL)) := by
 have h : zq1088 (zq1158 (zq492 Tryz.f20) 0) = [] := by kernel_rfl
 refine zq1085 zq462 (zq1089 h lsNil) zq458 zq457 FUEL (fun rec x => ?_)
 kernel_rfl
def zq460 : Con := con [.one (.row .event 38)] [.agg [.fl .int,.fl .int,.fl .int,.fl .int,.row .entry 100,.nest .int .entry 41 100 true],.one (.row .bool 4),.one (.fl .int)] (fun x => zq465 x.1)
theorem zq464 : TrOk Tryz.prog 20 zq460 := by
 have h : zq1088 (zq492 Tryz.f20) = [(zq1158 (zq492 Tryz.f20) 0)] := by kernel_rfl
 refine zq494 zq462 Tryz.func20 (zq352 h (zq1094 (zq1183 (t := (zq1084 zq458 (loopN zq457 FUEL))) (by kernel_rfl) zq459) lsNil)) _ _ _ (fun x => ?_)
 kernel_rfl
def zq1596 : Env := mkEnv ty fnB [] []
theorem zq1597 : EnvOk Tryz.prog zq1596 := envOk tyOk fn_ok zq370 _
def zq1595 : Con := con [.one (.row .lease 105)] [.one (.row .lease 105)] (fun x => zq1599 x.1)
theorem zq1598 : TrOk Tryz.prog 91 zq1595 := by
 have h : zq1088 (zq492 Tryz.f91) = [] := by kernel_rfl
 refine zq494 zq1597 Tryz.func91 (zq352 h lsNil) _ _ _ (fun x => ?_)
 kernel_rfl
def zq1586 : Env := mkEnv ty fnB [] []
theorem zq1587 : EnvOk Tryz.prog zq1586 := envOk tyOk fn_ok zq370 _
def zq1585 : Con := con [.one (.row .addr 32)] [.one (.row .addr 32)] (fun x => zq1589 x.1)
theorem zq1588 : TrOk Tryz.prog 92 zq1585 := by
 have h : zq1088 (zq492 Tryz.f92) = [] := by kernel_rfl
 refine zq494 zq1587 Tryz.func92 (zq352 h lsNil) _ _ _ (fun x => ?_)
 kernel_rfl
def zq1663 : LoopS := { n := 32,base := 3,head := { keep := [2,3,13,14,15],vals := [.one (.cst (.ptr 3 0)),.one (.cst (.ptr 4 0)),.one (.cst (.row 1)),.one (.fl .int),.one (.fl .int)],objs := [.bag .addr 32 false false,.nest .pfx 0 103 false,.row .lease 105 false,.blk [.cst (.row 5),.cst (.row 6),.fl .int] 61 true,.blk [.cst (.row 7),.cst (.row 8),.fl .int] 61 true,.nest .pfx 9 103 true,.row .lease 105 true,.nest .pfx 10 103 true,.row .lease 105 true,.bag .addr 32 true true,.bag .addr 32 true true] },exits := [⟨some 0,{ keep := [2,3],vals := [.one (.cst (.ptr 3 0)),.one (.cst (.ptr 4 0))],objs := [.bag .addr 32 false false,.nest .pfx 0 103 false,.row .lease 105 false,.blk [.cst (.row 5),.cst (.row 6),.fl .int] 61 true,.blk [.cst (.row 7),.cst (.row 8),.fl .int] 61 true,.nest .pfx 9 103 true,.row .lease 105 true,.nest .pfx 10 103 true,.row .lease 105 true,.bag .addr 32 true true,.bag .addr 32 true true] }⟩] }
def zq1666 : Env := mkEnv ty fnB [(91,zq1595),(92,zq1585)] [(3,(zq1084 zq1663 (loopN zq1662 FUEL)))]
theorem zq1667 : EnvOk Tryz.prog zq1666 := envOk tyOk fn_ok (zq369 zq1598 (zq369 zq1588 zq370)) _
theorem zq1664 : LOk Tryz.prog (zq1158 (zq492 Tryz.f88) 0) (zq1084 zq1663 (loopN zq1662 FUEL)) := by
 have h : zq1088 (zq1158 (zq492 Tryz.f88) 0) = [] := by kernel_rfl
 refine zq1085 zq1667 (zq1089 h lsNil) zq1663 zq1662 FUEL (fun rec x => ?_)
 kernel_rfl
def zq1665 : Con := con [.agg [.nest .pfx .addr 103 32 true,.row .lease 105,.fl .int]] [.agg [.nest .pfx .addr 103 32 true,.row .lease 105,.fl .int]] (fun x => zq1670 x.1.1 x.1.2.1 x.1.2.2.1)
theorem zq1669 : TrOk Tryz.prog 88 zq1665 := by
 have h : zq1088 (zq492 Tryz.f88) = [(zq1158 (zq492 Tryz.f88) 0)] := by kernel_rfl
 refine zq494 zq1667 Tryz.func88 (zq352 h (zq1094 (zq1183 (t := (zq1084 zq1663 (loopN zq1662 FUEL))) (by kernel_rfl) zq1664) lsNil)) _ _ _ (fun x => ?_)
 kernel_rfl
def zq1322 : Env := mkEnv ty fnB [(84,zq1315)] []
theorem zq1323 : EnvOk Tryz.prog zq1322 := envOk tyOk fn_ok (zq369 zq1319 zq370) _
def zq1321 : Con := con [.one (.fl .pfx),.one (.fl .addr)] [.one (.fl .bool)] (fun x => zq1326 x.1 x.2.1)
theorem zq1325 : TrOk Tryz.prog 110 zq1321 := by
 have h : zq1088 (zq492 Tryz.f110) = [] := by kernel_rfl
 refine zq494 zq1323 Tryz.func110 (zq352 h lsNil) _ _ _ (fun x => ?_)
 kernel_rfl
def zq1346 : Env := mkEnv ty fnB [(110,zq1321)] []
theorem zq1347 : EnvOk Tryz.prog zq1346 := envOk tyOk fn_ok (zq369 zq1325 zq370) _
def zq1345 : Con := con [.one (.fl .pfx),.one (.fl .pfx)] [.one (.fl .bool)] (fun x => zq1350 x.1 x.2.1)
theorem zq1349 : TrOk Tryz.prog 118 zq1345 := by
 have h : zq1088 (zq492 Tryz.f118) = [] := by kernel_rfl
 refine zq494 zq1347 Tryz.func118 (zq352 h lsNil) _ _ _ (fun x => ?_)
 kernel_rfl
def zq1334 : Env := mkEnv ty fnB [(118,zq1345)] []
theorem zq1335 : EnvOk Tryz.prog zq1334 := envOk tyOk fn_ok (zq369 zq1349 zq370) _
def zq1333 : Con := con [.one (.fl .pfx),.one (.fl .pfx)] [.one (.fl .bool)] (fun x => zq1338 x.1 x.2.1)
theorem zq1337 : TrOk Tryz.prog 100 zq1333 := by
 have h : zq1088 (zq492 Tryz.f100) = [] := by kernel_rfl
 refine zq494 zq1335 Tryz.func100 (zq352 h lsNil) _ _ _ (fun x => ?_)
 kernel_rfl
def zq211 : Env := mkEnv ty fnB [(100,zq1333)] []
theorem zq212 : EnvOk Tryz.prog zq211 := envOk tyOk fn_ok (zq369 zq1337 zq370) _
def zq210 : Con := con [.agg [.fl .pfx,.row .addr 32],.ref [.fl .pfx] 34] [.one (.fl .bool)] (fun x => zq214 x.1.1 x.1.2.1 x.2.1.1)
theorem zq213 : TrOk Tryz.prog 99 zq210 := by
 have h : zq1088 (zq492 Tryz.f99) = [] := by kernel_rfl
 refine zq494 zq212 Tryz.func99 (zq352 h lsNil) _ _ _ (fun x => ?_)
 kernel_rfl
def zq253 : Env := mkEnv ty fnB [] []
theorem zq254 : EnvOk Tryz.prog zq253 := envOk tyOk fn_ok zq370 _
def zq252 : Con := con [.one (.fl .u64),.one (.fl .u64)] [.one (.fl .int)] (fun x => zq256 x.1 x.2.1)
theorem zq255 : TrOk Tryz.prog 122 zq252 := by
 have h : zq1088 (zq492 Tryz.f122) = [] := by kernel_rfl
 refine zq494 zq254 Tryz.func122 (zq352 h lsNil) _ _ _ (fun x => ?_)
 kernel_rfl
def zq258 : Env := mkEnv ty fnB [(122,zq252)] []
theorem zq259 : EnvOk Tryz.prog zq258 := envOk tyOk fn_ok (zq369 zq255 zq370) _
def zq257 : Con := con [.one (.fl .addr),.one (.fl .addr)] [.one (.fl .int)] (fun x => zq262 x.1 x.2.1)
theorem zq261 : TrOk Tryz.prog 107 zq257 := by
 have h : zq1088 (zq492 Tryz.f107) = [] := by kernel_rfl
 refine zq494 zq259 Tryz.func107 (zq352 h lsNil) _ _ _ (fun x => ?_)
 kernel_rfl
def zq1340 : Env := mkEnv ty fnB [(107,zq257)] []
theorem zq1341 : EnvOk Tryz.prog zq1340 := envOk tyOk fn_ok (zq369 zq261 zq370) _
def zq1339 : Con := con [.one (.fl .pfx),.one (.fl .pfx)] [.one (.fl .int)] (fun x => zq1344 x.1 x.2.1)
theorem zq1343 : TrOk Tryz.prog 103 zq1339 := by
 have h : zq1088 (zq492 Tryz.f103) = [] := by kernel_rfl
 refine zq494 zq1341 Tryz.func103 (zq352 h lsNil) _ _ _ (fun x => ?_)
 kernel_rfl
def zq216 : Env := mkEnv ty fnB [(103,zq1339)] []
theorem zq217 : EnvOk Tryz.prog zq216 := envOk tyOk fn_ok (zq369 zq1343 zq370) _
def zq215 : Con := con [.agg [.fl .pfx,.row .addr 32],.one (.fl .pfx)] [.one (.fl .int)] (fun x => zq219 x.1.1 x.1.2.1 x.2.1)
theorem zq218 : TrOk Tryz.prog 102 zq215 := by
 have h : zq1088 (zq492 Tryz.f102) = [] := by kernel_rfl
 refine zq494 zq217 Tryz.func102 (zq352 h lsNil) _ _ _ (fun x => ?_)
 kernel_rfl
def zq1725 : Env := mkEnv ty fnB [(110,zq1321)] []
theorem zq1726 : EnvOk Tryz.prog zq1725 := envOk tyOk fn_ok (zq369 zq1325 zq370) _
def zq1724 : Con := con [.agg [.fl .pfx,.row .addr 32],.ref [.fl .addr] 32] [.one (.fl .bool)] (fun x => zq1728 x.1.1 x.1.2.1 x.2.1.1)
theorem zq1727 : TrOk Tryz.prog 121 zq1724 := by
 have h : zq1088 (zq492 Tryz.f121) = [] := by kernel_rfl
 refine zq494 zq1726 Tryz.func121 (zq352 h lsNil) _ _ _ (fun x => ?_)
 kernel_rfl
def zq1735 : LoopS := { n := 19,base := 5,head := { keep := [0,1,7,8],vals := [.one (.cst (.row 1)),.one (.cst (.fn 121 [.ptr 4 0])),.one (.fl .int),.one (.fl .int)],objs := [.bag .addr 32 false false,.nest .pfx 0 103 false,.row .lease 105 false,.blk [.cst (.row 1),.cst (.row 2),.fl .int] 61 true,.blk [.fl .addr] 32 true] },exits := [⟨none,{ keep := [4],vals := [.one (.fl .int)],objs := [.bag .addr 32 false false,.nest .pfx 0 103 false,.row .lease 105 false,.blk [.cst (.row 1),.cst (.row 2),.fl .int] 61 true,.blk [.fl .addr] 32 true] }⟩,⟨some 0,{ keep := [],vals := [],objs := [.bag .addr 32 false false,.nest .pfx 0 103 false,.row .lease 105 false,.blk [.cst (.row 1),.cst (.row 2),.fl .int] 61 true,.blk [.fl .addr] 32 true] }⟩] }
def zq1737 : Env := mkEnv ty fnB [(121,zq1724)] [(2,(zq1084 zq1735 (loopN zq1734 FUEL)))]
theorem zq1738 : EnvOk Tryz.prog zq1737 := envOk tyOk fn_ok (zq369 zq1727 zq370) _
theorem zq1736 : LOk Tryz.prog (zq1158 (zq492 Tryz.f117) 0) (zq1084 zq1735 (loopN zq1734 FUEL)) := by
 have h : zq1088 (zq1158 (zq492 Tryz.f117) 0) = [] := by kernel_rfl
 refine zq1085 zq1738 (zq1089 h lsNil) zq1735 zq1734 FUEL (fun rec x => ?_)
 kernel_rfl
theorem zq1739 : TrOk Tryz.prog 117 (zq757 zq1737 Tryz.f117) := by
 have h : zq1088 (zq492 Tryz.f117) = [(zq1158 (zq492 Tryz.f117) 0)] := by kernel_rfl
 exact zq758 zq1738 Tryz.func117 (zq352 h (zq1094 (zq1183 (t := (zq1084 zq1735 (loopN zq1734 FUEL))) (by kernel_rfl) zq1736) lsNil))
def zq1730 : Env := mkEnv ty fnB [(117,(zq757 zq1737 Tryz.f117))] []
theorem zq1731 : EnvOk Tryz.prog zq1730 := envOk tyOk fn_ok (zq369 zq1739 zq370) _
def zq1729 : Con := con [.agg [.nest .pfx .addr 103 32 true,.row .lease 105,.fl .int],.one (.fl .addr)] [.one (.fl .int)] (fun x => zq1740 x.1.1 x.1.2.1 x.1.2.2.1 x.2.1)
theorem zq1733 : TrOk Tryz.prog 105 zq1729 := by
 have h : zq1088 (zq492 Tryz.f105) = [] := by kernel_rfl
 refine zq494 zq1731 Tryz.func105 (zq352 h lsNil) _ _ _ (fun x => ?_)
 kernel_rfl
def zq195 : Env := mkEnv ty fnB [] []
theorem zq196 : EnvOk Tryz.prog zq195 := envOk tyOk fn_ok zq370 _
def zq194 : Con := con [.one (.fl .lease),.ref [.fl .str] 9] [.one (.fl .bool)] (fun x => zq198 x.1 x.2.1.1)
theorem zq197 : TrOk Tryz.prog 126 zq194 := by
 have h : zq1088 (zq492 Tryz.f126) = [] := by kernel_rfl
 refine zq494 zq196 Tryz.func126 (zq352 h lsNil) _ _ _ (fun x => ?_)
 kernel_rfl
def zq204 : LoopS := { n := 19,base := 5,head := { keep := [0,1,7,8],vals := [.one (.cst (.row 3)),.one (.cst (.fn 126 [.ptr 4 0])),.one (.fl .int),.one (.fl .int)],objs := [.blk [.cst (.row 2),.cst (.row 3),.fl .int] 141 false,.bag .addr 32 false false,.nest .pfx 1 103 false,.row .lease 105 false,.blk [.fl .str] 9 true] },exits := [⟨none,{ keep := [4],vals := [.one (.fl .int)],objs := [.blk [.cst (.row 2),.cst (.row 3),.fl .int] 141 false,.bag .addr 32 false false,.nest .pfx 1 103 false,.row .lease 105 false,.blk [.fl .str] 9 true] }⟩,⟨some 0,{ keep := [],vals := [],objs := [.blk [.cst (.row 2),.cst (.row 3),.fl .int] 141 false,.bag .addr 32 false false,.nest .pfx 1 103 false,.row .lease 105 false,.blk [.fl .str] 9 true] }⟩] }
def zq206 : Env := mkEnv ty fnB [(126,zq194)] [(2,(zq1084 zq204 (loopN zq203 FUEL)))]
theorem zq207 : EnvOk Tryz.prog zq206 := envOk tyOk fn_ok (zq369 zq197 zq370) _
theorem zq205 : LOk Tryz.prog (zq1158 (zq492 Tryz.f125) 0) (zq1084 zq204 (loopN zq203 FUEL)) := by
 have h : zq1088 (zq1158 (zq492 Tryz.f125) 0) = [] := by kernel_rfl
 refine zq1085 zq207 (zq1089 h lsNil) zq204 zq203 FUEL (fun rec x => ?_)
 kernel_rfl
theorem zq208 : TrOk Tryz.prog 125 (zq757 zq206 Tryz.f125) := by
 have h : zq1088 (zq492 Tryz.f125) = [(zq1158 (zq492 Tryz.f125) 0)] := by kernel_rfl
 exact zq758 zq207 Tryz.func125 (zq352 h (zq1094 (zq1183 (t := (zq1084 zq204 (loopN zq203 FUEL))) (by kernel_rfl) zq205) lsNil))
def zq200 : Env := mkEnv ty fnB [(125,(zq757 zq206 Tryz.f125))] []
theorem zq201 : EnvOk Tryz.prog zq200 := envOk tyOk fn_ok (zq369 zq208 zq370) _
def zq199 : Con := con [.ref [.nest .pfx .addr 103 32 true,.row .lease 105,.fl .int] 141,.one (.fl .str)] [.one (.fl .int)] (fun x => zq209 x.1.1 x.1.2.1 x.1.2.2.1 x.2.1)
theorem zq202 : TrOk Tryz.prog 109 zq199 := by
 have h : zq1088 (zq492 Tryz.f109) = [] := by kernel_rfl
 refine zq494 zq201 Tryz.func109 (zq352 h lsNil) _ _ _ (fun x => ?_)
 kernel_rfl
def zq917 : Env := mkEnv ty fnB [] []
theorem zq918 : EnvOk Tryz.prog zq917 := envOk tyOk fn_ok zq370 _
def zq916 : Con := con [.one (.fl .lease),.ref [.fl .int] 3] [.one (.fl .bool)] (fun x => zq920 x.1 x.2.1.1)
theorem zq919 : TrOk Tryz.prog 116 zq916 := by
 have h : zq1088 (zq492 Tryz.f116) = [] := by kernel_rfl
 refine zq494 zq918 Tryz.func116 (zq352 h lsNil) _ _ _ (fun x => ?_)
 kernel_rfl
def zq933 : LoopS := { n := 19,base := 5,head := { keep := [0,1,7,8],vals := [.one (.cst (.row 3)),.one (.cst (.fn 116 [.ptr 1 0])),.one (.fl .int),.one (.fl .int)],objs := [.row .lease 105 false,.blk [.fl .int] 3 true,.row .lease 105 true,.row .lease 105 true,.row .lease 105 true] },exits := [⟨none,{ keep := [4],vals := [.one (.fl .int)],objs := [.row .lease 105 false,.blk [.fl .int] 3 true,.row .lease 105 true,.row .lease 105 true,.row .lease 105 true] }⟩,⟨some 0,{ keep := [],vals := [],objs := [.row .lease 105 false,.blk [.fl .int] 3 true,.row .lease 105 true,.row .lease 105 true,.row .lease 105 true] }⟩] }
def zq935 : Env := mkEnv ty fnB [(116,zq916)] [(2,(zq1084 zq933 (loopN zq932 FUEL)))]
theorem zq936 : EnvOk Tryz.prog zq935 := envOk tyOk fn_ok (zq369 zq919 zq370) _
theorem zq934 : LOk Tryz.prog (zq1158 (zq492 Tryz.f125) 0) (zq1084 zq933 (loopN zq932 FUEL)) := by
 have h : zq1088 (zq1158 (zq492 Tryz.f125) 0) = [] := by kernel_rfl
 refine zq1085 zq936 (zq1089 h lsNil) zq933 zq932 FUEL (fun rec x => ?_)
 kernel_rfl
theorem zq937 : TrOk Tryz.prog 125 (zq757 zq935 Tryz.f125) := by
 have h : zq1088 (zq492 Tryz.f125) = [(zq1158 (zq492 Tryz.f125) 0)] := by kernel_rfl
 exact zq758 zq936 Tryz.func125 (zq352 h (zq1094 (zq1183 (t := (zq1084 zq933 (loopN zq932 FUEL))) (by kernel_rfl) zq934) lsNil))
def zq927 : LoopS := { n := 42,base := 4,head := { keep := [0,1,5,6],vals := [.one (.cst (.row 3)),.one (.cst (.fn 116 [.ptr 1 0])),.one (.fl .int),.one (.fl .int)],objs := [.row .lease 105 false,.blk [.fl .int] 3 true,.row .lease 105 true,.row .lease 105 true] },exits := [⟨some 0,{ keep := [0,5],vals := [.one (.cst (.row 3)),.one (.fl .int)],objs := [.row .lease 105 false,.blk [.fl .int] 3 true,.row .lease 105 true,.row .lease 105 true] }⟩] }
def zq929 : Env := mkEnv ty fnB [(116,zq916),(125,(zq757 zq935 Tryz.f125))] [(5,(zq1084 zq927 (loopN zq926 FUEL)))]
theorem zq930 : EnvOk Tryz.prog zq929 := envOk tyOk fn_ok (zq369 zq919 (zq369 zq937 zq370)) _
theorem zq928 : LOk Tryz.prog (zq1158 (zq492 Tryz.f115) 0) (zq1084 zq927 (loopN zq926 FUEL)) := by
 have h : zq1088 (zq1158 (zq492 Tryz.f115) 0) = [] := by kernel_rfl
 refine zq1085 zq930 (zq1089 h lsNil) zq927 zq926 FUEL (fun rec x => ?_)
 kernel_rfl
theorem zq931 : TrOk Tryz.prog 115 (zq757 zq929 Tryz.f115) := by
 have h : zq1088 (zq492 Tryz.f115) = [(zq1158 (zq492 Tryz.f115) 0)] := by kernel_rfl
 exact zq758 zq930 Tryz.func115 (zq352 h (zq1094 (zq1183 (t := (zq1084 zq927 (loopN zq926 FUEL))) (by kernel_rfl) zq928) lsNil))
def zq922 : Env := mkEnv ty fnB [(91,zq1595),(115,(zq757 zq929 Tryz.f115))] []
theorem zq923 : EnvOk Tryz.prog zq922 := envOk tyOk fn_ok (zq369 zq1598 (zq369 zq931 zq370)) _
def zq921 : Con := con [.one (.row .lease 105),.one (.fl .int)] [.one (.row .lease 105)] (fun x => zq938 x.1 x.2.1)
theorem zq925 : TrOk Tryz.prog 97 zq921 := by
 have h : zq1088 (zq492 Tryz.f97) = [] := by kernel_rfl
 refine zq494 zq923 Tryz.func97 (zq352 h lsNil) _ _ _ (fun x => ?_)
 kernel_rfl
def zq946 : Env := mkEnv ty fnB [] []
theorem zq947 : EnvOk Tryz.prog zq946 := envOk tyOk fn_ok zq370 _
def zq945 : Con := con [.one (.fl .lease),.ref [.fl .str] 9] [.one (.fl .bool)] (fun x => zq949 x.1 x.2.1.1)
theorem zq948 : TrOk Tryz.prog 127 zq945 := by
 have h : zq1088 (zq492 Tryz.f127) = [] := by kernel_rfl
 refine zq494 zq947 Tryz.func127 (zq352 h lsNil) _ _ _ (fun x => ?_)
 kernel_rfl
def zq1328 : Env := mkEnv ty fnB [(90,zq1357)] []
theorem zq1329 : EnvOk Tryz.prog zq1328 := envOk tyOk fn_ok (zq369 zq1361 zq370) _
def zq1327 : Con := con [.one (.fl .pfx)] [.one (.fl .addr)] (fun x => zq1332 x.1)
theorem zq1331 : TrOk Tryz.prog 153 zq1327 := by
 have h : zq1088 (zq492 Tryz.f153) = [] := by kernel_rfl
 refine zq494 zq1329 Tryz.func153 (zq352 h lsNil) _ _ _ (fun x => ?_)
 kernel_rfl
def zq241 : Env := mkEnv ty fnB [] []
theorem zq242 : EnvOk Tryz.prog zq241 := envOk tyOk fn_ok zq370 _
def zq240 : Con := con [.one (.fl .addr)] [.one (.fl .addr),.one (.fl .bool)] (fun x => zq245 x.1)
theorem zq244 : TrOk Tryz.prog 154 zq240 := by
 have h : zq1088 (zq492 Tryz.f154) = [] := by kernel_rfl
 refine zq494 zq242 Tryz.func154 (zq352 h lsNil) _ _ _ (fun x => ?_)
 kernel_rfl
def zq1611 : LoopS := { n := 19,base := 1,head := { keep := [0,3,7,8],vals := [.one (.cst (.row 0)),.one (.cst (.ptr 1 0)),.one (.fl .int),.one (.fl .int)],objs := [.row .addr 32 false,.blk [.fl .addr] 32 true] },exits := [⟨none,{ keep := [4],vals := [.one (.fl .int)],objs := [.row .addr 32 false] }⟩,⟨some 0,{ keep := [],vals := [],objs := [.row .addr 32 false] }⟩] }
def zq1614 : Env := mkEnv ty fnB [] [(2,(zq1084 zq1611 (loopN zq1610 FUEL)))]
theorem zq1615 : EnvOk Tryz.prog zq1614 := envOk tyOk fn_ok zq370 _
theorem zq1612 : LOk Tryz.prog (zq1158 (zq492 Tryz.f164) 0) (zq1084 zq1611 (loopN zq1610 FUEL)) := by
 have h : zq1088 (zq1158 (zq492 Tryz.f164) 0) = [] := by kernel_rfl
 refine zq1085 zq1615 (zq1089 h lsNil) zq1611 zq1610 FUEL (fun rec x => ?_)
 kernel_rfl
def zq1613 : Con := con [.one (.row .addr 32),.one (.fl .addr)] [.one (.fl .int)] (fun x => zq1617 x.1 x.2.1)
theorem zq1616 : TrOk Tryz.prog 164 zq1613 := by
 have h : zq1088 (zq492 Tryz.f164) = [(zq1158 (zq492 Tryz.f164) 0)] := by kernel_rfl
 refine zq494 zq1615 Tryz.func164 (zq352 h (zq1094 (zq1183 (t := (zq1084 zq1611 (loopN zq1610 FUEL))) (by kernel_rfl) zq1612) lsNil)) _ _ _ (fun x => ?_)
 kernel_rfl
def zq1601 : Env := mkEnv ty fnB [(164,zq1613)] []
theorem zq1602 : EnvOk Tryz.prog zq1601 := envOk tyOk fn_ok (zq369 zq1616 zq370) _
def zq1600 : Con := con [.one (.row .addr 32),.one (.fl .addr)] [.one (.fl .bool)] (fun x => zq1604 x.1 x.2.1)
theorem zq1603 : TrOk Tryz.prog 155 zq1600 := by
 have h : zq1088 (zq492 Tryz.f155) = [] := by kernel_rfl
 refine zq494 zq1602 Tryz.func155 (zq352 h lsNil) _ _ _ (fun x => ?_)
 kernel_rfl
def zq176 : Env := mkEnv ty fnB [] []
theorem zq177 : EnvOk Tryz.prog zq176 := envOk tyOk fn_ok zq370 _
def zq175 : Con := con [.one (.fl .lease),.ref [.fl .addr] 32] [.one (.fl .bool)] (fun x => zq179 x.1 x.2.1.1)
theorem zq178 : TrOk Tryz.prog 157 zq175 := by
 have h : zq1088 (zq492 Tryz.f157) = [] := by kernel_rfl
 refine zq494 zq177 Tryz.func157 (zq352 h lsNil) _ _ _ (fun x => ?_)
 kernel_rfl
def zq188 : LoopS := { n := 19,base := 4,head := { keep := [0,1,7,8],vals := [.one (.cst (.row 2)),.one (.cst (.fn 157 [.ptr 3 0])),.one (.fl .int),.one (.fl .int)],objs := [.blk [.fl .bool,.fl .u64,.fl .u64,.fl .int,.cst (.row 1),.cst (.row 2)] 182 false,.row .addr 32 false,.row .lease 105 false,.blk [.fl .addr] 32 false] },exits := [⟨none,{ keep := [4],vals := [.one (.fl .int)],objs := [.blk [.fl .bool,.fl .u64,.fl .u64,.fl .int,.cst (.row 1),.cst (.row 2)] 182 false,.row .addr 32 false,.row .lease 105 false,.blk [.fl .addr] 32 false] }⟩,⟨some 0,{ keep := [],vals := [],objs := [.blk [.fl .bool,.fl .u64,.fl .u64,.fl .int,.cst (.row 1),.cst (.row 2)] 182 false,.row .addr 32 false,.row .lease 105 false,.blk [.fl .addr] 32 false] }⟩] }
def zq190 : Env := mkEnv ty fnB [(157,zq175)] [(2,(zq1084 zq188 (loopN zq187 FUEL)))]
theorem zq191 : EnvOk Tryz.prog zq190 := envOk tyOk fn_ok (zq369 zq178 zq370) _
theorem zq189 : LOk Tryz.prog (zq1158 (zq492 Tryz.f125) 0) (zq1084 zq188 (loopN zq187 FUEL)) := by
 have h : zq1088 (zq1158 (zq492 Tryz.f125) 0) = [] := by kernel_rfl
 refine zq1085 zq191 (zq1089 h lsNil) zq188 zq187 FUEL (fun rec x => ?_)
 kernel_rfl
theorem zq192 : TrOk Tryz.prog 125 (zq757 zq190 Tryz.f125) := by
 have h : zq1088 (zq492 Tryz.f125) = [(zq1158 (zq492 Tryz.f125) 0)] := by kernel_rfl
 exact zq758 zq191 Tryz.func125 (zq352 h (zq1094 (zq1183 (t := (zq1084 zq188 (loopN zq187 FUEL))) (by kernel_rfl) zq189) lsNil))
def zq184 : Env := mkEnv ty fnB [(125,(zq757 zq190 Tryz.f125))] []
theorem zq185 : EnvOk Tryz.prog zq184 := envOk tyOk fn_ok (zq369 zq192 zq370) _
theorem zq186 : TrOk Tryz.prog 156 (flCon zq184 Tryz.f156 [.one (.fl .bool)]) := by
 have h : zq1088 (zq492 Tryz.f156) = [] := by kernel_rfl
 exact zq669 zq185 Tryz.func156 (zq352 h lsNil) [.one (.fl .bool)] rfl
def zq181 : Env := mkEnv ty fnB [(155,zq1600),(156,(flCon zq184 Tryz.f156 [.one (.fl .bool)]))] []
theorem zq182 : EnvOk Tryz.prog zq181 := envOk tyOk fn_ok (zq369 zq1603 (zq369 zq186 zq370)) _
def zq180 : Con := con [.ref [.fl .pfx,.row .addr 32,.row .lease 105] 182,.one (.fl .addr)] [.one (.fl .bool)] (fun x => zq193 x.1.1 x.1.2.1 x.1.2.2.1 x.2.1)
theorem zq183 : TrOk Tryz.prog 137 zq180 := by
 have h : zq1088 (zq492 Tryz.f137) = [] := by kernel_rfl
 refine zq494 zq182 Tryz.func137 (zq352 h lsNil) _ _ _ (fun x => ?_)
 kernel_rfl
def zq951 : Env := mkEnv ty fnB [(107,zq257)] []
theorem zq952 : EnvOk Tryz.prog zq951 := envOk tyOk fn_ok (zq369 zq261 zq370) _
def zq950 : Con := con [.one (.fl .lease),.one (.fl .lease)] [.one (.fl .int)] (fun x => zq954 x.1 x.2.1)
theorem zq953 : TrOk Tryz.prog 130 zq950 := by
 have h : zq1088 (zq492 Tryz.f130) = [] := by kernel_rfl
 refine zq494 zq952 Tryz.func130 (zq352 h lsNil) _ _ _ (fun x => ?_)
 kernel_rfl
def zq864 : Env := mkEnv ty fnB [(15,zq893)] []
theorem zq865 : EnvOk Tryz.prog zq864 := envOk tyOk fn_ok (zq369 zq896 zq370) _
def zq863 : Con := con [] [.one (.row .entry 100)] (fun x => zq867)
theorem zq866 : TrOk Tryz.prog 30 zq863 := by
 have h : zq1088 (zq492 Tryz.f30) = [] := by kernel_rfl
 refine zq494 zq865 Tryz.func30 (zq352 h lsNil) _ _ _ (fun x => ?_)
 kernel_rfl
def zq901 : Env := mkEnv ty fnB [(30,zq863)] []
theorem zq902 : EnvOk Tryz.prog zq901 := envOk tyOk fn_ok (zq369 zq866 zq370) _
def zq900 : Con := con [] [.agg [.fl .int,.fl .int,.fl .int,.row .entry 100]] (fun x => zq904)
theorem zq903 : TrOk Tryz.prog 28 zq900 := by
 have h : zq1088 (zq492 Tryz.f28) = [] := by kernel_rfl
 refine zq494 zq902 Tryz.func28 (zq352 h lsNil) _ _ _ (fun x => ?_)
 kernel_rfl
def zq592 : Env := mkEnv ty fnB [(29,zq602),(45,zq646),(46,zq621)] []
theorem zq593 : EnvOk Tryz.prog zq592 := envOk tyOk fn_ok (zq369 zq606 (zq369 zq650 (zq369 zq625 zq370))) _
def zq591 : Con := con [.agg [.fl .int,.fl .int,.fl .int,.row .entry 100],.one (.fl .int),.one (.fl .int)] [.agg [.fl .int,.fl .int,.fl .int,.row .entry 100],.one (.fl .int),.one (.fl .int)] (fun x => zq596 x.1.1 x.1.2.1 x.1.2.2.1 x.1.2.2.2.1 x.2.1 x.2.2.1)
theorem zq595 : TrOk Tryz.prog 13 zq591 := by
 have h : zq1088 (zq492 Tryz.f13) = [] := by kernel_rfl
 refine zq494 zq593 Tryz.func13 (zq352 h lsNil) _ _ _ (fun x => ?_)
 kernel_rfl
def zq640 : Env := mkEnv ty fnB [(29,zq602),(47,zq633)] []
theorem zq641 : EnvOk Tryz.prog zq640 := envOk tyOk fn_ok (zq369 zq606 (zq369 zq637 zq370)) _
def zq639 : Con := con [.agg [.fl .int,.fl .int,.fl .int,.row .entry 100],.one (.fl .int),.one (.fl .op)] [.agg [.fl .int,.fl .int,.fl .int,.row .entry 100],.one (.fl .int)] (fun x => zq644 x.1.1 x.1.2.1 x.1.2.2.1 x.1.2.2.2.1 x.2.1 x.2.2.1)
theorem zq643 : TrOk Tryz.prog 14 zq639 := by
 have h : zq1088 (zq492 Tryz.f14) = [] := by kernel_rfl
 refine zq494 zq641 Tryz.func14 (zq352 h lsNil) _ _ _ (fun x => ?_)
 kernel_rfl
def zq874 : Env := mkEnv ty fnB [(28,zq900),(13,zq591),(15,zq893),(14,zq639),(29,zq602)] []
theorem zq875 : EnvOk Tryz.prog zq874 := envOk tyOk fn_ok (zq369 zq903 (zq369 zq595 (zq369 zq896 (zq369 zq643 (zq369 zq606 zq370))))) _
def zq873 : Con := con [] [.one (.fl .bool)] (fun x => zq877)
theorem zq876 : TrOk Tryz.prog 5 zq873 := by
 have h : zq1088 (zq492 Tryz.f5) = [] := by kernel_rfl
 refine zq494 zq875 Tryz.func5 (zq352 h lsNil) _ _ _ (fun x => ?_)
 kernel_rfl
def zq1028 : Env := mkEnv ty fnB [(33,zq1040),(58,zq1051)] []
theorem zq1029 : EnvOk Tryz.prog zq1028 := envOk tyOk fn_ok (zq369 zq1044 (zq369 zq1055 zq370)) _
def zq1032 : Env := mkEnv ty fnB [(33,zq1040),(58,zq1051)] [(2,(zq1791 zq1028 (zq1158 (zq492 Tryz.f32) 0) 16))]
theorem zq1033 : EnvOk Tryz.prog zq1032 := envOk tyOk fn_ok (zq369 zq1044 (zq369 zq1055 zq370)) _
theorem zq1030 : LOk Tryz.prog (zq1158 (zq492 Tryz.f32) 0) (zq1791 zq1028 (zq1158 (zq492 Tryz.f32) 0) 16) := by
 have h : zq1088 (zq1158 (zq492 Tryz.f32) 0) = [] := by kernel_rfl
 exact zq1792 zq1029 (zq1089 h lsNil) 16
def zq1031 : Con := con [.one (.row .entry 100),.one (.row .entry 100)] [.one (.fl .bool),.one (.fl .int)] (fun x => zq1036 x.1 x.2.1)
theorem zq1035 : TrOk Tryz.prog 32 zq1031 := by
 have h : zq1088 (zq492 Tryz.f32) = [(zq1158 (zq492 Tryz.f32) 0)] := by kernel_rfl
 refine zq494 zq1033 Tryz.func32 (zq352 h (zq1094 (zq1183 (t := (zq1791 zq1028 (zq1158 (zq492 Tryz.f32) 0) 16)) (by kernel_rfl) zq1030) lsNil)) _ _ _ (fun x => ?_)
 kernel_rfl
def zq1550 : Env := mkEnv ty fnB [(32,zq1031),(51,zq1543)] []
theorem zq1551 : EnvOk Tryz.prog zq1550 := envOk tyOk fn_ok (zq369 zq1035 (zq369 zq1547 zq370)) _
def zq1549 : Con := con [.one (.row .entry 100),.one (.row .entry 100),.one (.fl .int)] [.one (.row .entry 100),.one (.fl .int)] (fun x => zq1554 x.1 x.2.1 x.2.2.1)
theorem zq1553 : TrOk Tryz.prog 18 zq1549 := by
 have h : zq1088 (zq492 Tryz.f18) = [] := by kernel_rfl
 refine zq494 zq1551 Tryz.func18 (zq352 h lsNil) _ _ _ (fun x => ?_)
 kernel_rfl
def zq140 : LoopS := { n := 26,base := 2,head := { keep := [0,1,5],vals := [.one (.cst (.row 0)),.one (.cst (.row 1)),.one (.fl .int)],objs := [.row .entry 100 false,.row .entry 100 false] },exits := [⟨none,{ keep := [4],vals := [.one (.fl .bool)],objs := [.row .entry 100 false,.row .entry 100 false] }⟩,⟨some 0,{ keep := [],vals := [],objs := [.row .entry 100 false,.row .entry 100 false] }⟩] }
def zq143 : Env := mkEnv ty fnB [] [(4,(zq1084 zq140 (loopN zq139 FUEL)))]
theorem zq144 : EnvOk Tryz.prog zq143 := envOk tyOk fn_ok zq370 _
theorem zq141 : LOk Tryz.prog (zq1158 (zq492 Tryz.f31) 0) (zq1084 zq140 (loopN zq139 FUEL)) := by
 have h : zq1088 (zq1158 (zq492 Tryz.f31) 0) = [] := by kernel_rfl
 refine zq1085 zq144 (zq1089 h lsNil) zq140 zq139 FUEL (fun rec x => ?_)
 kernel_rfl
def zq142 : Con := con [.one (.row .entry 100),.one (.row .entry 100)] [.one (.fl .bool)] (fun x => zq147 x.1 x.2.1)
theorem zq146 : TrOk Tryz.prog 31 zq142 := by
 have h : zq1088 (zq492 Tryz.f31) = [(zq1158 (zq492 Tryz.f31) 0)] := by kernel_rfl
 refine zq494 zq144 Tryz.func31 (zq352 h (zq1094 (zq1183 (t := (zq1084 zq140 (loopN zq139 FUEL))) (by kernel_rfl) zq141) lsNil)) _ _ _ (fun x => ?_)
 kernel_rfl
def zq1011 : Env := mkEnv ty fnB [(33,zq1040),(49,zq1063)] []
theorem zq1012 : EnvOk Tryz.prog zq1011 := envOk tyOk fn_ok (zq369 zq1044 (zq369 zq1067 zq370)) _
def zq1010 : Con := con [.one (.row .entry 100),.one (.fl .int),.one (.fl .op)] [.one (.row .entry 100),.one (.fl .int)] (fun x => zq1015 x.1 x.2.1 x.2.2.1)
theorem zq1014 : TrOk Tryz.prog 16 zq1010 := by
 have h : zq1088 (zq492 Tryz.f16) = [] := by kernel_rfl
 refine zq494 zq1012 Tryz.func16 (zq352 h lsNil) _ _ _ (fun x => ?_)
 kernel_rfl
def zq155 : Env := mkEnv ty fnB [] []
theorem zq156 : EnvOk Tryz.prog zq155 := envOk tyOk fn_ok zq370 _
def zq154 : Con := con [.one (.fl .int),.one (.fl .int),.one (.fl .int)] [.one (.fl .bool)] (fun x => zq159 x.1 x.2.1 x.2.2.1)
theorem zq158 : TrOk Tryz.prog 35 zq154 := by
 have h : zq1088 (zq492 Tryz.f35) = [] := by kernel_rfl
 refine zq494 zq156 Tryz.func35 (zq352 h lsNil) _ _ _ (fun x => ?_)
 kernel_rfl
def zq42 : Env := mkEnv ty fnB [] []
theorem zq43 : EnvOk Tryz.prog zq42 := envOk tyOk fn_ok zq370 _
def zq41 : Con := con [.one (.fl .addr)] [.one (.fl .int)] (fun x => zq46 x.1)
theorem zq45 : TrOk Tryz.prog 80 zq41 := by
 have h : zq1088 (zq492 Tryz.f80) = [] := by kernel_rfl
 refine zq494 zq43 Tryz.func80 (zq352 h lsNil) _ _ _ (fun x => ?_)
 kernel_rfl
def zq161 : Env := mkEnv ty fnB [] []
theorem zq162 : EnvOk Tryz.prog zq161 := envOk tyOk fn_ok zq370 _
def zq160 : Con := con [.one (.fl .addr)] [.one (.fl .int)] (fun x => zq165 x.1)
theorem zq164 : TrOk Tryz.prog 86 zq160 := by
 have h : zq1088 (zq492 Tryz.f86) = [] := by kernel_rfl
 refine zq494 zq162 Tryz.func86 (zq352 h lsNil) _ _ _ (fun x => ?_)
 kernel_rfl
def zq30 : LoopS := { n := 42,base := 0,head := { keep := [1,3,4],vals := [.one (.cst (.ptr 0 0)),.one (.cst (.row 1)),.one (.fl .int)],objs := [.blk [.fl .addr] 32 true,.row .u8 5 true] },exits := [⟨some 0,{ keep := [1,3],vals := [.one (.cst (.ptr 0 0)),.one (.cst (.row 1))],objs := [.blk [.fl .addr] 32 true,.row .u8 5 true] }⟩] }
def zq33 : LoopS := { n := 42,base := 0,head := { keep := [1,3,5],vals := [.one (.cst (.ptr 0 0)),.one (.cst (.row 1)),.one (.fl .int)],objs := [.blk [.fl .addr] 32 true,.row .u8 5 true] },exits := [⟨some 2,{ keep := [1,3],vals := [.one (.cst (.ptr 0 0)),.one (.cst (.row 1))],objs := [.blk [.fl .addr] 32 true,.row .u8 5 true] }⟩] }
def zq36 : Env := mkEnv ty fnB [] [(3,(zq1084 zq30 (loopN zq29 FUEL))),(7,(zq1084 zq33 (loopN zq32 FUEL)))]
theorem zq37 : EnvOk Tryz.prog zq36 := envOk tyOk fn_ok zq370 _
theorem zq34 : LOk Tryz.prog (zq1158 (zq492 Tryz.f87) 1) (zq1084 zq33 (loopN zq32 FUEL)) := by
 have h : zq1088 (zq1158 (zq492 Tryz.f87) 1) = [] := by kernel_rfl
 refine zq1085 zq37 (zq1089 h lsNil) zq33 zq32 FUEL (fun rec x => ?_)
 kernel_rfl
theorem zq31 : LOk Tryz.prog (zq1158 (zq492 Tryz.f87) 0) (zq1084 zq30 (loopN zq29 FUEL)) := by
 have h : zq1088 (zq1158 (zq492 Tryz.f87) 0) = [] := by kernel_rfl
 refine zq1085 zq37 (zq1089 h lsNil) zq30 zq29 FUEL (fun rec x => ?_)
 kernel_rfl
def zq35 : Con := con [.one (.fl .addr)] [.one (.fl .str)] (fun x => zq40 x.1)
theorem zq39 : TrOk Tryz.prog 87 zq35 := by
 have h : zq1088 (zq492 Tryz.f87) = [(zq1158 (zq492 Tryz.f87) 0),(zq1158 (zq492 Tryz.f87) 1)] := by kernel_rfl
 refine zq494 zq37 Tryz.func87 (zq352 h (zq1094 (zq1183 (t := (zq1084 zq30 (loopN zq29 FUEL))) (by kernel_rfl) zq31) (zq1094 (zq1183 (t := (zq1084 zq33 (loopN zq32 FUEL))) (by kernel_rfl) zq34) lsNil))) _ _ _ (fun x => ?_)
 kernel_rfl
def zq90 : LoopS := { n := 34,base := 0,head := { keep := [4,5],vals := [.one (.fl .str),.one (.fl .int)],objs := [] },exits := [⟨none,{ keep := [2],vals := [.one (.fl .int)],objs := [] }⟩,⟨some 0,{ keep := [],vals := [],objs := [] }⟩] }
def zq93 : Env := mkEnv ty fnB [(80,zq41),(86,zq160),(35,zq154),(87,zq35)] [(8,(zq1084 zq90 (loopN zq89 FUEL)))]
theorem zq94 : EnvOk Tryz.prog zq93 := envOk tyOk fn_ok (zq369 zq45 (zq369 zq164 (zq369 zq158 (zq369 zq39 zq370)))) _
theorem zq91 : LOk Tryz.prog (zq1158 (zq492 Tryz.f78) 0) (zq1084 zq90 (loopN zq89 FUEL)) := by
 have h : zq1088 (zq1158 (zq492 Tryz.f78) 0) = [] := by kernel_rfl
 refine zq1085 zq94 (zq1089 h lsNil) zq90 zq89 FUEL (fun rec x => ?_)
 kernel_rfl
def zq92 : Con := con [.one (.fl .pfx)] [.one (.fl .int)] (fun x => zq97 x.1)
theorem zq96 : TrOk Tryz.prog 78 zq92 := by
 have h : zq1088 (zq492 Tryz.f78) = [(zq1158 (zq492 Tryz.f78) 0)] := by kernel_rfl
 refine zq494 zq94 Tryz.func78 (zq352 h (zq1094 (zq1183 (t := (zq1084 zq90 (loopN zq89 FUEL))) (by kernel_rfl) zq91) lsNil)) _ _ _ (fun x => ?_)
 kernel_rfl
def zq111 : Env := mkEnv ty fnB [(86,zq160)] []
theorem zq112 : EnvOk Tryz.prog zq111 := envOk tyOk fn_ok (zq369 zq164 zq370) _
def zq110 : Con := con [.one (.fl .pfx)] [.one (.fl .bool)] (fun x => zq115 x.1)
theorem zq114 : TrOk Tryz.prog 79 zq110 := by
 have h : zq1088 (zq492 Tryz.f79) = [] := by kernel_rfl
 refine zq494 zq112 Tryz.func79 (zq352 h lsNil) _ _ _ (fun x => ?_)
 kernel_rfl
def zq117 : LoopS := { n := 27,base := 0,head := { keep := [0,3],vals := [.one (.fl .str),.one (.fl .int)],objs := [] },exits := [⟨none,{ keep := [2],vals := [.one (.fl .bool)],objs := [] }⟩,⟨some 0,{ keep := [0],vals := [.one (.fl .str)],objs := [] }⟩] }
def zq120 : Env := mkEnv ty fnB [(35,zq154)] [(2,(zq1084 zq117 (loopN zq116 FUEL)))]
theorem zq121 : EnvOk Tryz.prog zq120 := envOk tyOk fn_ok (zq369 zq158 zq370) _
theorem zq118 : LOk Tryz.prog (zq1158 (zq492 Tryz.f81) 0) (zq1084 zq117 (loopN zq116 FUEL)) := by
 have h : zq1088 (zq1158 (zq492 Tryz.f81) 0) = [] := by kernel_rfl
 refine zq1085 zq121 (zq1089 h lsNil) zq117 zq116 FUEL (fun rec x => ?_)
 kernel_rfl
def zq119 : Con := con [.one (.fl .str)] [.one (.fl .bool)] (fun x => zq124 x.1)
theorem zq123 : TrOk Tryz.prog 81 zq119 := by
 have h : zq1088 (zq492 Tryz.f81) = [(zq1158 (zq492 Tryz.f81) 0)] := by kernel_rfl
 refine zq494 zq121 Tryz.func81 (zq352 h (zq1094 (zq1183 (t := (zq1084 zq117 (loopN zq116 FUEL))) (by kernel_rfl) zq118) lsNil)) _ _ _ (fun x => ?_)
 kernel_rfl
def zq84 : Env := mkEnv ty fnB [(35,zq154),(78,zq92),(79,zq110),(80,zq41),(81,zq119)] []
theorem zq85 : EnvOk Tryz.prog zq84 := envOk tyOk fn_ok (zq369 zq158 (zq369 zq96 (zq369 zq114 (zq369 zq45 (zq369 zq123 zq370))))) _
def zq83 : Con := con [.one (.fl .op)] [.one (.fl .int)] (fun x => zq88 x.1)
theorem zq87 : TrOk Tryz.prog 61 zq83 := by
 have h : zq1088 (zq492 Tryz.f61) = [] := by kernel_rfl
 refine zq494 zq85 Tryz.func61 (zq352 h lsNil) _ _ _ (fun x => ?_)
 kernel_rfl
def zq75 : LoopS := { n := 54,base := 1,head := { keep := [0,3],vals := [.one (.cst (.row 0)),.one (.fl .int)],objs := [.row .entry 100 false] },exits := [⟨none,{ keep := [2],vals := [.one (.fl .int)],objs := [.row .entry 100 false] }⟩,⟨some 0,{ keep := [],vals := [],objs := [.row .entry 100 false] }⟩] }
def zq78 : Env := mkEnv ty fnB [(35,zq154),(61,zq83)] [(4,(zq1084 zq75 (loopN zq74 FUEL)))]
theorem zq79 : EnvOk Tryz.prog zq78 := envOk tyOk fn_ok (zq369 zq158 (zq369 zq87 zq370)) _
theorem zq76 : LOk Tryz.prog (zq1158 (zq492 Tryz.f37) 0) (zq1084 zq75 (loopN zq74 FUEL)) := by
 have h : zq1088 (zq1158 (zq492 Tryz.f37) 0) = [] := by kernel_rfl
 refine zq1085 zq79 (zq1089 h lsNil) zq75 zq74 FUEL (fun rec x => ?_)
 kernel_rfl
def zq77 : Con := con [.one (.row .entry 100)] [.one (.fl .int)] (fun x => zq82 x.1)
theorem zq81 : TrOk Tryz.prog 37 zq77 := by
 have h : zq1088 (zq492 Tryz.f37) = [(zq1158 (zq492 Tryz.f37) 0)] := by kernel_rfl
 refine zq494 zq79 Tryz.func37 (zq352 h (zq1094 (zq1183 (t := (zq1084 zq75 (loopN zq74 FUEL))) (by kernel_rfl) zq76) lsNil)) _ _ _ (fun x => ?_)
 kernel_rfl
def zq60 : LoopS := { n := 73,base := 1,head := { keep := [1,3,4],vals := [.one (.cst (.ptr 1 0)),.one (.fl .int),.one (.fl .int)],objs := [.row .entry 100 false,.blk [.fl .int,.fl .int,.fl .int,.cst (.row 0)] 26 true] },exits := [⟨some 0,{ keep := [3],vals := [.one (.fl .int)],objs := [.row .entry 100 false] }⟩] }
def zq63 : Env := mkEnv ty fnB [(35,zq154),(37,zq77)] [(7,(zq1084 zq60 (loopN zq59 FUEL)))]
theorem zq64 : EnvOk Tryz.prog zq63 := envOk tyOk fn_ok (zq369 zq158 (zq369 zq81 zq370)) _
theorem zq61 : LOk Tryz.prog (zq1158 (zq492 Tryz.f36) 0) (zq1084 zq60 (loopN zq59 FUEL)) := by
 have h : zq1088 (zq1158 (zq492 Tryz.f36) 0) = [] := by kernel_rfl
 refine zq1085 zq64 (zq1089 h lsNil) zq60 zq59 FUEL (fun rec x => ?_)
 kernel_rfl
def zq62 : Con := con [.agg [.fl .int,.fl .int,.fl .int,.row .entry 100]] [.one (.fl .int)] (fun x => zq67 x.1.1 x.1.2.1 x.1.2.2.1 x.1.2.2.2.1)
theorem zq66 : TrOk Tryz.prog 36 zq62 := by
 have h : zq1088 (zq492 Tryz.f36) = [(zq1158 (zq492 Tryz.f36) 0)] := by kernel_rfl
 refine zq494 zq64 Tryz.func36 (zq352 h (zq1094 (zq1183 (t := (zq1084 zq60 (loopN zq59 FUEL))) (by kernel_rfl) zq61) lsNil)) _ _ _ (fun x => ?_)
 kernel_rfl
def zq99 : Env := mkEnv ty fnB [(31,zq142)] []
theorem zq100 : EnvOk Tryz.prog zq99 := envOk tyOk fn_ok (zq369 zq146 zq370) _
def zq98 : Con := con [.one (.row .entry 100),.one (.row .entry 100)] [.one (.fl .bool)] (fun x => zq103 x.1 x.2.1)
theorem zq102 : TrOk Tryz.prog 38 zq98 := by
 have h : zq1088 (zq492 Tryz.f38) = [] := by kernel_rfl
 refine zq494 zq100 Tryz.func38 (zq352 h lsNil) _ _ _ (fun x => ?_)
 kernel_rfl
def zq51 : LoopS := { n := 108,base := 3,head := { keep := [1,4],vals := [.one (.cst (.ptr 3 0)),.one (.fl .int)],objs := [.row .entry 100 false,.bag .entry 100 false false,.nest .int 1 41 false,.blk [.fl .int,.fl .int,.fl .int,.fl .int,.cst (.row 0),.cst (.row 2)] 29 true] },exits := [⟨none,{ keep := [2],vals := [.one (.fl .int)],objs := [.row .entry 100 false,.bag .entry 100 false false,.nest .int 1 41 false] }⟩,⟨some 0,{ keep := [1],vals := [.one (.cst (.ptr 3 0))],objs := [.row .entry 100 false,.bag .entry 100 false false,.nest .int 1 41 false,.blk [.fl .int,.fl .int,.fl .int,.fl .int,.cst (.row 0),.cst (.row 2)] 29 true] }⟩] }
def zq48 : LoopS := { n := 108,base := 3,head := { keep := [1,6],vals := [.one (.cst (.ptr 3 0)),.one (.fl .int)],objs := [.row .entry 100 false,.bag .entry 100 false false,.nest .int 1 41 false,.blk [.fl .int,.fl .int,.fl .int,.fl .int,.cst (.row 0),.cst (.row 2)] 29 true] },exits := [⟨none,{ keep := [2],vals := [.one (.fl .int)],objs := [.row .entry 100 false,.bag .entry 100 false false,.nest .int 1 41 false] }⟩,⟨some 2,{ keep := [],vals := [],objs := [.row .entry 100 false,.bag .entry 100 false false,.nest .int 1 41 false] }⟩] }
def zq54 : Env := mkEnv ty fnB [(35,zq154),(36,zq62),(37,zq77),(38,zq98)] [(9,(zq1084 zq51 (loopN zq50 FUEL))),(21,(zq1084 zq48 (loopN zq47 FUEL)))]
theorem zq55 : EnvOk Tryz.prog zq54 := envOk tyOk fn_ok (zq369 zq158 (zq369 zq66 (zq369 zq81 (zq369 zq102 zq370)))) _
theorem zq49 : LOk Tryz.prog (zq1158 (zq492 Tryz.f8) 1) (zq1084 zq48 (loopN zq47 FUEL)) := by
 have h : zq1088 (zq1158 (zq492 Tryz.f8) 1) = [] := by kernel_rfl
 refine zq1085 zq55 (zq1089 h lsNil) zq48 zq47 FUEL (fun rec x => ?_)
 kernel_rfl
theorem zq52 : LOk Tryz.prog (zq1158 (zq492 Tryz.f8) 0) (zq1084 zq51 (loopN zq50 FUEL)) := by
 have h : zq1088 (zq1158 (zq492 Tryz.f8) 0) = [] := by kernel_rfl
 refine zq1085 zq55 (zq1089 h lsNil) zq51 zq50 FUEL (fun rec x => ?_)
 kernel_rfl
def zq53 : Con := con [.agg [.fl .int,.fl .int,.fl .int,.fl .int,.row .entry 100,.nest .int .entry 41 100 true]] [.one (.fl .int)] (fun x => zq58 x.1.1 x.1.2.1 x.1.2.2.1 x.1.2.2.2.1 x.1.2.2.2.2.1 x.1.2.2.2.2.2.1)
theorem zq57 : TrOk Tryz.prog 8 zq53 := by
 have h : zq1088 (zq492 Tryz.f8) = [(zq1158 (zq492 Tryz.f8) 0),(zq1158 (zq492 Tryz.f8) 1)] := by kernel_rfl
 refine zq494 zq55 Tryz.func8 (zq352 h (zq1094 (zq1183 (t := (zq1084 zq51 (loopN zq50 FUEL))) (by kernel_rfl) zq52) (zq1094 (zq1183 (t := (zq1084 zq48 (loopN zq47 FUEL))) (by kernel_rfl) zq49) lsNil))) _ _ _ (fun x => ?_)
 kernel_rfl
def zq69 : Env := mkEnv ty fnB [(35,zq154)] []
theorem zq70 : EnvOk Tryz.prog zq69 := envOk tyOk fn_ok (zq369 zq158 zq370) _
def zq68 : Con := con [.one (.fl .int),.one (.fl .event)] [.one (.fl .int)] (fun x => zq73 x.1 x.2.1)
theorem zq72 : TrOk Tryz.prog 9 zq68 := by
 have h : zq1088 (zq492 Tryz.f9) = [] := by kernel_rfl
 refine zq494 zq70 Tryz.func9 (zq352 h lsNil) _ _ _ (fun x => ?_)
 kernel_rfl
def zq9 : Env := mkEnv ty fnB [] []
theorem zq10 : EnvOk Tryz.prog zq9 := envOk tyOk fn_ok zq370 _
def zq8 : Con := lcon [.agg [.fl .int,.fl .int,.fl .int,.row .entry 100],.one (.fl .int),.one (.fl .int)] [.agg [.fl .int,.fl .int,.fl .int,.row .entry 100],.one (.fl .int)] (fun x => zq13 x.1.1 x.1.2.1 x.1.2.2.1 x.1.2.2.2.1 x.2.1 x.2.2.1)
theorem zq12 : TrOk Tryz.prog 39 zq8 := by
 have h : zq1088 (zq492 Tryz.f39) = [] := by kernel_rfl
 refine zq915 zq10 Tryz.func39 (zq352 h lsNil) _ _ rfl rfl _ (fun x => ?_)
 kernel_rfl
def zq15 : Env := mkEnv ty fnB [(35,zq154),(61,zq83)] []
theorem zq16 : EnvOk Tryz.prog zq15 := envOk tyOk fn_ok (zq369 zq158 (zq369 zq87 zq370)) _
def zq14 : Con := con [.one (.row .entry 100),.one (.fl .int),.one (.fl .op)] [.one (.row .entry 100),.one (.fl .int)] (fun x => zq19 x.1 x.2.1 x.2.2.1)
theorem zq18 : TrOk Tryz.prog 62 zq14 := by
 have h : zq1088 (zq492 Tryz.f62) = [] := by kernel_rfl
 refine zq494 zq16 Tryz.func62 (zq352 h lsNil) _ _ _ (fun x => ?_)
 kernel_rfl
def zq149 : Env := mkEnv ty fnB [(62,zq14)] []
theorem zq150 : EnvOk Tryz.prog zq149 := envOk tyOk fn_ok (zq369 zq18 zq370) _
def zq148 : Con := con [.agg [.fl .int,.fl .int,.fl .int,.row .entry 100],.one (.fl .int),.one (.fl .op)] [.agg [.fl .int,.fl .int,.fl .int,.row .entry 100],.one (.fl .int)] (fun x => zq153 x.1.1 x.1.2.1 x.1.2.2.1 x.1.2.2.2.1 x.2.1 x.2.2.1)
theorem zq152 : TrOk Tryz.prog 40 zq148 := by
 have h : zq1088 (zq492 Tryz.f40) = [] := by kernel_rfl
 refine zq494 zq150 Tryz.func40 (zq352 h lsNil) _ _ _ (fun x => ?_)
 kernel_rfl
def zq21 : LoopS := { n := 33,base := 2,head := { keep := [0,1,2,7,8],vals := [.one (.cst (.row 0)),.one (.cst (.row 1)),.one (.fl .int),.one (.cst (.row 2)),.one (.fl .int)],objs := [.row .entry 100 false,.row .entry 100 false,.row .entry 100 true] },exits := [⟨some 0,{ keep := [7],vals := [.one (.cst (.row 2))],objs := [.row .entry 100 false,.row .entry 100 false,.row .entry 100 true] }⟩] }
def zq24 : Env := mkEnv ty fnB [] [(3,(zq1084 zq21 (loopN zq20 FUEL)))]
theorem zq25 : EnvOk Tryz.prog zq24 := envOk tyOk fn_ok zq370 _
theorem zq22 : LOk Tryz.prog (zq1158 (zq492 Tryz.f41) 0) (zq1084 zq21 (loopN zq20 FUEL)) := by
 have h : zq1088 (zq1158 (zq492 Tryz.f41) 0) = [] := by kernel_rfl
 refine zq1085 zq25 (zq1089 h lsNil) zq21 zq20 FUEL (fun rec x => ?_)
 kernel_rfl
def zq23 : Con := con [.one (.row .entry 100),.one (.row .entry 100),.one (.fl .int)] [.one (.row .entry 100)] (fun x => zq28 x.1 x.2.1 x.2.2.1)
theorem zq27 : TrOk Tryz.prog 41 zq23 := by
 have h : zq1088 (zq492 Tryz.f41) = [(zq1158 (zq492 Tryz.f41) 0)] := by kernel_rfl
 refine zq494 zq25 Tryz.func41 (zq352 h (zq1094 (zq1183 (t := (zq1084 zq21 (loopN zq20 FUEL))) (by kernel_rfl) zq22) lsNil)) _ _ _ (fun x => ?_)
 kernel_rfl
def zq105 : Env := mkEnv ty fnB [(39,zq8),(40,zq148),(41,zq23)] []
theorem zq106 : EnvOk Tryz.prog zq105 := envOk tyOk fn_ok (zq369 zq12 (zq369 zq152 (zq369 zq27 zq370))) _
def zq104 : Con := lcon [.agg [.fl .int,.fl .int,.fl .int,.fl .int,.row .entry 100,.nest .int .entry 41 100 true],.one (.fl .event)] [.agg [.fl .int,.fl .int,.fl .int,.fl .int,.row .entry 100,.nest .int .entry 41 100 false],.one (.fl .bool)] (fun x => zq109 x.1.1 x.1.2.1 x.1.2.2.1 x.1.2.2.2.1 x.1.2.2.2.2.1 x.1.2.2.2.2.2.1 x.2.1)
theorem zq108 : TrOk Tryz.prog 10 zq104 := by
 have h : zq1088 (zq492 Tryz.f10) = [] := by kernel_rfl
 refine zq915 zq106 Tryz.func10 (zq352 h lsNil) _ _ rfl rfl _ (fun x => ?_)
 kernel_rfl
def zq134 : Env := mkEnv ty fnB [(31,zq142)] []
theorem zq135 : EnvOk Tryz.prog zq134 := envOk tyOk fn_ok (zq369 zq146 zq370) _
def zq133 : Con := con [.agg [.fl .int,.fl .int,.fl .int,.row .entry 100],.agg [.fl .int,.fl .int,.fl .int,.row .entry 100]] [.one (.fl .bool)] (fun x => zq138 x.1.1 x.1.2.1 x.1.2.2.1 x.1.2.2.2.1 x.2.1.1 x.2.1.2.1 x.2.1.2.2.1 x.2.1.2.2.2.1)
theorem zq137 : TrOk Tryz.prog 53 zq133 := by
 have h : zq1088 (zq492 Tryz.f53) = [] := by kernel_rfl
 refine zq494 zq135 Tryz.func53 (zq352 h lsNil) _ _ _ (fun x => ?_)
 kernel_rfl
def zq126 : LoopS := { n := 64,base := 6,head := { keep := [2,3,5],vals := [.one (.cst (.ptr 6 0)),.one (.cst (.ptr 7 0)),.one (.fl .int)],objs := [.row .entry 100 false,.bag .entry 100 false false,.nest .int 1 41 false,.row .entry 100 false,.bag .entry 100 false false,.nest .int 4 41 false,.blk [.fl .int,.fl .int,.fl .int,.fl .int,.cst (.row 0),.cst (.row 2)] 29 true,.blk [.fl .int,.fl .int,.fl .int,.fl .int,.cst (.row 3),.cst (.row 5)] 29 true] },exits := [⟨none,{ keep := [4],vals := [.one (.fl .bool)],objs := [.row .entry 100 false,.bag .entry 100 false false,.nest .int 1 41 false,.row .entry 100 false,.bag .entry 100 false false,.nest .int 4 41 false] }⟩,⟨some 0,{ keep := [],vals := [],objs := [.row .entry 100 false,.bag .entry 100 false false,.nest .int 1 41 false,.row .entry 100 false,.bag .entry 100 false false,.nest .int 4 41 false] }⟩] }
def zq129 : Env := mkEnv ty fnB [(53,zq133),(31,zq142)] [(4,(zq1084 zq126 (loopN zq125 FUEL)))]
theorem zq130 : EnvOk Tryz.prog zq129 := envOk tyOk fn_ok (zq369 zq137 (zq369 zq146 zq370)) _
theorem zq127 : LOk Tryz.prog (zq1158 (zq492 Tryz.f21) 0) (zq1084 zq126 (loopN zq125 FUEL)) := by
 have h : zq1088 (zq1158 (zq492 Tryz.f21) 0) = [] := by kernel_rfl
 refine zq1085 zq130 (zq1089 h lsNil) zq126 zq125 FUEL (fun rec x => ?_)
 kernel_rfl
def zq128 : Con := con [.agg [.fl .int,.fl .int,.fl .int,.fl .int,.row .entry 100,.nest .int .entry 41 100 true],.agg [.fl .int,.fl .int,.fl .int,.fl .int,.row .entry 100,.nest .int .entry 41 100 true]] [.one (.fl .bool)] (fun x => zq132 x.1.1 x.1.2.1 x.1.2.2.1 x.1.2.2.2.1 x.1.2.2.2.2.1 x.1.2.2.2.2.2.1 x.2.1.1 x.2.1.2.1 x.2.1.2.2.1 x.2.1.2.2.2.1 x.2.1.2.2.2.2.1 x.2.1.2.2.2.2.2.1)
theorem zq131 : TrOk Tryz.prog 21 zq128 := by
 have h : zq1088 (zq492 Tryz.f21) = [(zq1158 (zq492 Tryz.f21) 0)] := by kernel_rfl
 refine zq494 zq130 Tryz.func21 (zq352 h (zq1094 (zq1183 (t := (zq1084 zq126 (loopN zq125 FUEL))) (by kernel_rfl) zq127) lsNil)) _ _ _ (fun x => ?_)
 kernel_rfl
def zq859 : Env := mkEnv ty fnB [(21,zq128)] []
theorem zq860 : EnvOk Tryz.prog zq859 := envOk tyOk fn_ok (zq369 zq131 zq370) _
def zq858 : Con := con [.agg [.fl .int,.fl .int,.fl .int,.fl .int,.row .entry 100,.nest .int .entry 41 100 true],.one (.fl .int),.one (.fl .int),.agg [.fl .int,.fl .int,.fl .int,.fl .int,.row .entry 100,.nest .int .entry 41 100 true]] [.one (.fl .bool)] (fun x => zq862 x.1.1 x.1.2.1 x.1.2.2.1 x.1.2.2.2.1 x.1.2.2.2.2.1 x.1.2.2.2.2.2.1 x.2.1 x.2.2.1 x.2.2.2.1.1 x.2.2.2.1.2.1 x.2.2.2.1.2.2.1 x.2.2.2.1.2.2.2.1 x.2.2.2.1.2.2.2.2.1 x.2.2.2.1.2.2.2.2.2.1)
theorem zq861 : TrOk Tryz.prog 12 zq858 := by
 have h : zq1088 (zq492 Tryz.f12) = [] := by kernel_rfl
 refine zq494 zq860 Tryz.func12 (zq352 h lsNil) _ _ _ (fun x => ?_)
 kernel_rfl
end Go.Proofs.YtjolfddpghkabaaGreat
namespace Go.Proofs.YtjolfddpghkabaaGreat
open Go Go.Ma Go.RowKit Go.Shelf Go.Proofs
attribute [local go_sem] Oper.semAt_some
def adV (a : Ad) : Value := .agg #[.bool a.v6,.int .u64 a.hi,.int .u64 a.lo]
def pfV (p : Pf) : Value := .agg #[.bool p.ad.v6,.int .u64 p.ad.hi,.int .u64 p.ad.lo,.int .i64 p.bits]
def CKept (A B : World) : Prop := ∀ (b : Nat) (c : Array Value) (t : TypeId) (z : Nat × Nat),A.heap[b]? = some (Go.Obj.cells c t z) → B.heap[b]? = some (Go.Obj.cells c t z)
theorem zq721 {P : Program} {A B : World} (h : Glob P A) (k : CKept A B) : Glob P B := by
 have key : ∀ (g : Nat) (v : Value),A.cell? ⟨g,0,none⟩ = some v → B.cell? ⟨g,0,none⟩ = some v := fun g v hv => by
  cases ho : A.heap[g]? with
  | none => unfold World.cell? at hv; rw [ho] at hv; cases hv
  | some o =>
   cases o with
   | cells c t z =>
    have hb := k g c t z ho
    unfold World.cell? at hv ⊢
    rw [ho] at hv
    rw [hb]
    exact hv
   | _ => unfold World.cell? at hv; rw [ho] at hv; simp at hv
 exact ⟨fun g hg => by obtain ⟨m,hm⟩ := h.num g hg; exact ⟨m,key g _ hm⟩,fun n g hn hg => by obtain ⟨ev,he,h2⟩ := h.err n g hn hg; exact ⟨ev,key g _ he,h2⟩,fun g hg => by obtain ⟨t,z,h1⟩ := h.pow g hg; exact ⟨t,z,k g _ t z h1⟩,fun g hg => by obtain ⟨t,z,h1⟩ := h.ctz g hg; exact ⟨t,z,k g _ t z h1⟩,fun g hg => by obtain ⟨t,z,h1⟩ := h.txt g hg; exact ⟨t,z,k g _ t z h1⟩⟩
theorem CKept.trans {A B C : World} (h : CKept A B) (k : CKept B C) : CKept A C := fun b c t z hb => k b c t z (h b c t z hb)
theorem CKept.below {A B : World} (h : Below A.heap.size A B) : CKept A B := fun b c t z hb => (h.block b (zc27.1 hb).1).trans hb
theorem CKept.put {W : World} {l : Nat} {o : Go.Obj} (o' : Go.Obj) (h : W.heap[l]? = some o) (hc : o.isCells = false) : CKept W (W.putObj l o') := fun b c t z hb => by
 have hne : b ≠ l := by rintro rfl; rw [h] at hb; cases hb; cases hc
 exact (World.putObj_heap_other hne).trans hb
def adC (a : Ad) : Array Value := #[.bool a.v6,.int .u64 a.hi,.int .u64 a.lo]
def adAt (w : World) (v : Value) : Ad :=
 match v with
 | .pointer (some p) => (match w.heap[p.block]? with
  | some (Go.Obj.cells c _ _) => (match c.toList with | [.bool b,.int _ h,.int _ l] => ⟨b,h,l⟩ | _ => default)
  | _ => default)
 | _ => default
theorem zq224 {w : World} {D : Nat} {a : Ad} (h : w.heap[D]? = some (Go.Obj.cells (adC a) 32 (0,0))) : adAt w (.pointer (some ⟨D,0,none⟩)) = a := by
 simp [adAt,h,adC]
def leftA (last : Ad) (w : World) (v4 v5 : Value) : Nat :=
 match v5 with
 | .bool true => ((allA last 64 (adAt w v4)).getD []).length
 | _ => 0
theorem zq270 {last : Ad} : ∀ {k : Nat} {a : Ad} {r : List Ad},allA last k a = some r → ∀ {k' : Nat},k ≤ k' → allA last k' a = some r
 | 0,_,_,h,_,_ => by simp [allA] at h
 | k + 1,a,r,h,k',hk => by
  obtain ⟨q,rfl⟩ : ∃ q,k' = q + 1 := ⟨k' - 1,by omega⟩
  simp only [allA] at h ⊢
  rcases zq357 h with ⟨hc,h⟩ | ⟨hc,h⟩
  ·rw [hc]; exact h
  ·rw [hc]
   obtain ⟨y,hy,h⟩ := zc8.1 h
   simp only [br,hy,zc48]
   rcases zq357 h with ⟨hc2,h⟩ | ⟨hc2,h⟩
   ·rw [hc2]
    obtain ⟨r',hr',h⟩ := zc7.1 h
    simp only [zq270 hr' (show k ≤ q by omega),Option.map_some,h]
   ·rw [hc2]; exact h
theorem zq269 {last : Ad} : ∀ {k : Nat} {a : Ad} {r : List Ad},allA last k a = some r → ∃ r',r = a :: r'
 | 0,_,_,h => by simp [allA] at h
 | k + 1,a,r,h => by
  simp only [allA] at h
  rcases zq357 h with ⟨hc,h⟩ | ⟨hc,h⟩
  ·cases h; exact ⟨_,rfl⟩
  ·obtain ⟨y,hy,h⟩ := zc8.1 h
   rcases zq357 h with ⟨hc2,h⟩ | ⟨hc2,h⟩
   ·obtain ⟨r',hr',h⟩ := zc7.1 h
    exact ⟨r',h.symm⟩
   ·cases h; exact ⟨_,rfl⟩
theorem zq233 {W : World} {D : Nat} {a : Ad} (h : W.heap[D]? = some (Go.Obj.cells (adC a) 32 (0,0))) : W.cell? ⟨D,0,none⟩ = some (.bool a.v6) ∧ W.cell? ⟨D,1,none⟩ = some (.int .u64 a.hi) ∧ W.cell? ⟨D,2,none⟩ = some (.int .u64 a.lo) := by
 refine ⟨?_,?_,?_⟩ <;> simp [World.cell?,h,adC]
theorem zq1145 {W w : World} {a b c : Value} {t : TypeId} (h : Below (W.alloc (Go.Obj.cells #[a,b,c] t)).heap.size (W.alloc (Go.Obj.cells #[a,b,c] t)) w) :
  w.cell? ⟨W.heap.size,0,none⟩ = some a ∧ w.cell? ⟨W.heap.size,1,none⟩ = some b ∧ w.cell? ⟨W.heap.size,2,none⟩ = some c ∧ w.frozen? ⟨W.heap.size,0,none⟩ = false ∧ w.frozen? ⟨W.heap.size,1,none⟩ = false ∧ w.frozen? ⟨W.heap.size,2,none⟩ = false := by
 have : w.heap[W.heap.size]? = some (Go.Obj.cells #[a,b,c] t (0,0)) := (h.block _ (by simp)).trans (World.alloc_heap_new W _)
 refine ⟨?_,?_,?_,?_,?_,?_⟩ <;> simp [World.cell?,World.frozen?,this]
theorem zq1147 {W w : World} {a b c : Value} {t : TypeId} (h : Below (W.alloc (Go.Obj.cells #[a,b,c] t)).heap.size (W.alloc (Go.Obj.cells #[a,b,c] t)) w) : w.heap[W.heap.size]? = some (Go.Obj.cells #[a,b,c] t (0,0)) :=
 (h.block _ (by simp)).trans (World.alloc_heap_new W _)
theorem set3 {w : World} {N : Nat} {x y z a b c : Value} {t : TypeId} (h : w.heap[N]? = some (Go.Obj.cells #[x,y,z] t (0,0))) :
  (((w.setCell ⟨N,0,none⟩ a).setCell ⟨N,1,none⟩ b).setCell ⟨N,2,none⟩ c).heap[N]? = some (Go.Obj.cells #[a,b,c] t (0,0)) ∧
  (∀ k,k ≠ N → (((w.setCell ⟨N,0,none⟩ a).setCell ⟨N,1,none⟩ b).setCell ⟨N,2,none⟩ c).heap[k]? = w.heap[k]?) ∧
  Below N w (((w.setCell ⟨N,0,none⟩ a).setCell ⟨N,1,none⟩ b).setCell ⟨N,2,none⟩ c) := by
 obtain ⟨h1,h2,_⟩ := zq1530 w N 0 [a,b,c] #[x,y,z] t (0,0) h
 refine ⟨h1,h2,?_⟩
 exact (((Below.refl N w).setCell (p := ⟨N,0,none⟩) (zc47 _) _).setCell (p := ⟨N,1,none⟩) (zc47 _) _).setCell (p := ⟨N,2,none⟩) (zc47 _) _
theorem zq739 {X Y : World} {row : Option Nat} {b : Nat} {c : Array Value} {t : TypeId} (h : X.heap[b]? = some (Go.Obj.cells c t (0,0))) (hg : X.grownBy Y row) (hr : ∀ r,row = some r → ∃ o : Go.Obj,X.heap[r]? = some o ∧ o.isCells = false) : Y.heap[b]? = some (Go.Obj.cells c t (0,0)) :=
 (hg.block b (zc27.1 h).1 (fun e => by
  obtain ⟨o,ho,hc⟩ := hr b e.symm
  rw [h] at ho
  cases ho
  cases hc)).trans h
theorem zq1776 {w : World} {N : Nat} {a b c : Value} {t : TypeId} (this : w.heap[N]? = some (Go.Obj.cells #[a,b,c] t (0,0))) :
  w.cell? ⟨N,0,none⟩ = some a ∧ w.cell? ⟨N,1,none⟩ = some b ∧ w.cell? ⟨N,2,none⟩ = some c ∧ w.frozen? ⟨N,0,none⟩ = false ∧ w.frozen? ⟨N,1,none⟩ = false ∧ w.frozen? ⟨N,2,none⟩ = false := by
 refine ⟨?_,?_,?_,?_,?_,?_⟩ <;> simp [World.cell?,World.frozen?,this]
theorem zq740 (w : World) (o : Go.Obj) (k : Nat) : (w.alloc o).heap[k]? = if k = w.heap.size then some o else w.heap[k]? := by
 show (w.heap.push o)[k]? = _
 exact Array.getElem?_push
theorem get4 (w : World) (a b c d : Go.Obj) : ((((w.alloc a).alloc b).alloc c).alloc d).heap[w.heap.size]? = some a ∧ ((((w.alloc a).alloc b).alloc c).alloc d).heap[w.heap.size + 1]? = some b ∧ ((((w.alloc a).alloc b).alloc c).alloc d).heap[w.heap.size + 1 + 1]? = some c ∧ ((((w.alloc a).alloc b).alloc c).alloc d).heap[w.heap.size + 1 + 1 + 1]? = some d := by
 refine ⟨?_,?_,?_,?_⟩
 ·rw [zq740,if_neg (by simp only [World.size_alloc]; omega),zq740,if_neg (by simp only [World.size_alloc]; omega),zq740,if_neg (by simp only [World.size_alloc]; omega),zq740,if_pos rfl]
 ·rw [zq740,if_neg (by simp only [World.size_alloc]; omega),zq740,if_neg (by simp only [World.size_alloc]; omega),zq740,if_pos (by simp)]
 ·rw [zq740,if_neg (by simp only [World.size_alloc]; omega),zq740,if_pos (by simp)]
 ·rw [zq740,if_pos (by simp)]
theorem zq326 {A C : World} (hb : Below A.heap.size A C) : A.grownBy C none := ⟨hb.os,hb.tape,hb.output,hb.size,fun k hk _ => hb.block k hk⟩
theorem zq738 {A C : World} (hb : Below A.heap.size A C) {b : Nat} {o : Go.Obj} (h : A.heap[b]? = some o) : C.heap[b]? = some o := (hb.block b (zc27.1 h).1).trans h
theorem zq375 {W : World} {B : Nat} {v : Value} {t : TypeId} (h : W.heap[B]? = some (Go.Obj.cells #[v] t (0,0))) : W.cell? ⟨B,0,none⟩ = some v ∧ W.frozen? ⟨B,0,none⟩ = false := by
 constructor <;> simp [World.cell?,World.frozen?,h]
theorem zq353 {W : World} {B : Nat} {a b c d va vl : Value} {t : TypeId} (h : W.heap[B]? = some (Go.Obj.cells #[a,b,c,d,va,vl] t (0,0))) : W.cell? ⟨B,0,none⟩ = some a ∧ W.cell? ⟨B,1,none⟩ = some b ∧ W.cell? ⟨B,2,none⟩ = some c ∧ W.cell? ⟨B,3,none⟩ = some d := by
 refine ⟨?_,?_,?_,?_⟩ <;> simp [World.cell?,h]
set_option maxRecDepth 100000 in
set_option maxHeartbeats 2000000 in
theorem zq264 (n : Nat) (hn : 1 ≤ n) (l Bx B : Nat) (p : Pf) (va vl : Value) (last : Ad) (xs : List Ad) (J Jx : List Ad → World → Prop)
  (hJ : ∀ pre A C,J pre A → Below A.heap.size A C → J pre C)
  (hY : ∀ pre x W,J pre W → (pre ++ [x]) <+: xs → YieldAt Fence.wide (n - 1) Tryz.prog l #[adV x] W fun e W' => (e = .returned (.bool true) ∧ J (pre ++ [x]) W' ∧ CKept W W') ∨ (e = .returned (.bool false) ∧ Jx (pre ++ [x]) W'))
  (W : World) (hbox : W.heap[Bx]? = some (.cells #[.pointer (some ⟨B,0,none⟩)] 180 (0,0))) (hbook : W.heap[B]? = some (.cells #[.bool p.ad.v6,.int .u64 p.ad.hi,.int .u64 p.ad.lo,.int .i64 p.bits,va,vl] 182 (0,0))) (h0 : J [] W)
  (hlast : ∀ W,Glob Tryz.prog W → Calls Tryz.prog 153 #[pfV p] W fun e W' => e = .returned (adV last) ∧ Below W.heap.size W W')
  (hafter : ∀ a b ok W,Glob Tryz.prog W → zq245 a = some (b,ok,()) → Calls Tryz.prog 154 #[adV a] W fun e W' => e = .returned (.tuple #[adV b,.bool ok]) ∧ Below W.heap.size W W')
  (hall : allA last 64 p.ad = some xs) (hGW : Glob Tryz.prog W) :
  CallsIn Fence.wide n Tryz.prog 152 #[.func (.yield l) #[] #[],.pointer (some ⟨Bx,0,none⟩)] W fun e W' => (∃ v,e = .returned v) ∧ ((∃ ys,ys = xs ∧ J ys W') ∨ (∃ pre,pre <+: xs ∧ Jx pre W')) := by
 have cb : W.cell? ⟨Bx,0,none⟩ = some (.pointer (some ⟨B,0,none⟩)) := by simp [World.cell?,hbox]
 have c0 : W.cell? ⟨B,0,none⟩ = some (.bool p.ad.v6) := by simp [World.cell?,hbook]
 have c1 : W.cell? ⟨B,1,none⟩ = some (.int .u64 p.ad.hi) := by simp [World.cell?,hbook]
 have c2 : W.cell? ⟨B,2,none⟩ = some (.int .u64 p.ad.lo) := by simp [World.cell?,hbook]
 have c3 : W.cell? ⟨B,3,none⟩ = some (.int .i64 p.bits) := by simp [World.cell?,hbook]
 refine callsIn_of_wp Tryz.func152 rfl trivial ?_ rfl
 simp only [Tryz.ntmps152,List.size_toArray,zc21,zc32,Nat.reduceAdd,Nat.reduceSub,Array.replicate_succ,Array.replicate_zero,List.push_toArray,List.append_toArray,zc42,List.cons_append]
 have hlast' := hlast
 simp only [pfV,adV] at hlast'
 gi_wp2_with (refine ⟨trivial,?_⟩; gi_at_call 153; refine (callsIn_wide.2 (hlast' _ hGW)).mono ?_; rintro e w1 ⟨rfl,hb1⟩; have k1 := CKept.below hb1; have hbox1 := k1 _ _ _ _ hbox; have hbook1 := k1 _ _ _ _ hbook; have hB1 : B < w1.heap.size := (zc27.1 hbook1).1; have hX1 : Bx < w1.heap.size := (zc27.1 hbox1).1; have cb1 := (zq375 hbox1).1; obtain ⟨d0,d1,d2,d3⟩ := zq353 hbook1)
 have k0 := CKept.below ((((Below.refl w1.heap.size w1).alloc (zc47 _) (.cells (adC last) 32)).alloc (by simp) (.cells (adC p.ad) 32)))
 gi_loopw [4,5] (fun v4 v5 wr => ∃ (pre rest : List Ad) (D k : Nat) (a : Ad) (ok : Bool),v4 = .pointer (some ⟨D,0,none⟩) ∧ v5 = .bool ok ∧ xs = pre ++ rest ∧ wr.heap[D]? = some (Go.Obj.cells (adC a) 32 (0,0)) ∧ wr.heap[w1.heap.size]? = some (Go.Obj.cells (adC last) 32 (0,0)) ∧ k ≤ 64 ∧ (if ok then allA last k a = some rest else rest = []) ∧ J pre wr ∧ Glob Tryz.prog wr)
  (fun v4 v5 wr => leftA last wr v4 v5)
 case atStart =>
  refine ⟨[],xs,w1.heap.size + 1,64,p.ad,true,rfl,rfl,rfl,?_,?_,zc47 _,hall,?_,zq721 (hGW.mono hb1) k0⟩
  ·have := World.alloc_heap_new (w1.alloc (Go.Obj.cells (adC last) 32)) (Go.Obj.cells (adC p.ad) 32)
   simpa [adC] using this
  ·exact (Below.heap_alloc _ _ _ (by simp)).trans (World.alloc_heap_new w1 (Go.Obj.cells (adC last) 32))
  ·exact hJ _ _ _ h0 ((hb1.alloc hb1.size _).alloc (by have := hb1.size; simp; omega) _)
 case round =>
  obtain ⟨pre,rest,D,k,a,ok,rfl,rfl,hx,hD,hL,hk,hr,hJs,hGr⟩ := hrel
  cases ok with
  | false =>
   have hr : rest = [] := hr
   gi_wp2
   go_end0
   exact ⟨⟨_,rfl⟩,.inl ⟨pre,by simp [hx,hr],hJs⟩⟩
  | true =>
   have hr : allA last k a = some rest := hr
   have hfull := zq270 hr hk
   obtain ⟨e0,e1,e2⟩ := zq233 hD
   obtain ⟨f0,f1,f2⟩ := zq233 hL
   obtain ⟨r1,hr1⟩ := zq269 hr
   obtain ⟨fn,tmps,assign,body,hy,hR⟩ := hY pre a wr hJs (by rw [hx,hr1]; exact ⟨r1,by simp⟩)
   simp only [adV] at hy
   by_cases hal : a = last
   ·subst hal
    have hrest : rest = [a] := by
     cases k with
     | zero => simp [allA] at hr
     | succ k => simp only [allA,decide_true,br] at hr; cases hr; rfl
    gi_wp2
    refine hR.mono ?_
    rintro e W3 (⟨rfl,hJ3,hk3⟩ | ⟨rfl,hJx3⟩)
    ·have hD3 := hk3 _ _ _ _ hD
     have hL3 := hk3 _ _ _ _ hL
     obtain ⟨g0,g1,g2⟩ := zq233 hD3
     obtain ⟨i0,i1,i2⟩ := zq233 hL3
     gi_wp2
     refine bodyPost_ret (results_none rfl _ _ _) rfl ?_
     exact ⟨⟨_,rfl⟩,.inl ⟨_,by rw [hx,hrest],hJ3⟩⟩
    ·gi_wp2
     refine bodyPost_ret (results_none rfl _ _ _) rfl ?_
     exact ⟨⟨_,rfl⟩,.inr ⟨pre ++ [a],by rw [hx,hrest]; exact List.prefix_refl _,hJx3⟩⟩
   ·obtain ⟨b,ok',k',rest',hk',hrest,hb,hcall⟩ : ∃ (b : Ad) (ok' : Bool) (k' : Nat) (rest' : List Ad),k' ≤ 64 ∧ rest = a :: rest' ∧ (if ok' then allA last k' b = some rest' else rest' = []) ∧ zq245 a = some (b,ok',()) := by
     cases k with
     | zero => simp [allA] at hr
     | succ k =>
      simp only [allA,decide_eq_false hal,br] at hr
      obtain ⟨y,hy,hr⟩ := zc8.1 hr
      obtain ⟨b,ok',u⟩ := y
      cases ok' with
      | true =>
       obtain ⟨r',hr',hr⟩ := zc7.1 hr
       exact ⟨b,true,k,r',by omega,hr.symm,by simpa using hr',hy⟩
      | false =>
       cases hr
       exact ⟨b,false,k,[],by omega,rfl,by simp,hy⟩
    have HC : Hid (∀ v6 hi lo W,Glob Tryz.prog W → v6 = a.v6 → hi = a.hi → lo = a.lo → Calls Tryz.prog 154 #[.agg #[.bool v6,.int .u64 hi,.int .u64 lo]] W fun e W' => e = .returned (.tuple #[.agg #[.bool b.v6,.int .u64 b.hi,.int .u64 b.lo],.bool ok']) ∧ Below W.heap.size W W') := by
     rintro _ _ _ W hg rfl rfl rfl
     exact hafter a b ok' W hg hcall
    gi_wp2
    refine hR.mono ?_
    rintro e W3 (⟨rfl,hJ3,hk3⟩ | ⟨rfl,hJx3⟩)
    ·have hD3 := hk3 _ _ _ _ hD
     have hL3 := hk3 _ _ _ _ hL
     obtain ⟨g0,g1,g2⟩ := zq233 hD3
     obtain ⟨i0,i1,i2⟩ := zq233 hL3
     have hG3 := zq721 hGr hk3
     have hlt3 : w1.heap.size < W3.heap.size := (zc27.1 hL3).1
     clear hr hcall hafter hlast hlast' hY hy hR
     gi_wp2_with (refine ⟨trivial,?_⟩; gi_at_call 154; refine (callsIn_wide.2 (HC.out _ _ _ _ (hG3.mono ((Below.refl _ W3).alloc (zc47 _) _)) (by first | rfl | (symm; assumption)) (by first | rfl | (symm; assumption)) (by first | rfl | (symm; assumption)))).mono ?_; rintro e w4 ⟨rfl,hb4⟩; obtain ⟨n0,n1,n2,n3,n4,n5⟩ := zq1145 hb4)
     ·exact absurd (by cases a; cases last; simp_all) hal
     all_goals
      obtain ⟨s1,s2,s3⟩ := set3 (a := .bool b.v6) (b := .int .u64 b.hi) (c := .int .u64 b.lo) (zq1147 hb4)
      refine ⟨⟨pre ++ [a],rest',W3.heap.size,k',b,ok',rfl,rfl,by rw [hx,hrest]; simp,s1,?_,hk',hb,?_⟩,?_⟩
      ·rw [s2 _ (by omega),hb4.block _ (by simp; omega),Below.heap_alloc _ _ _ hlt3]
       exact hL3
      ·have hbb := (((Below.refl W3.heap.size W3).alloc (zc47 _) _).trans (hb4.mono (by simp))).trans s3
       exact ⟨hJ _ _ _ hJ3 hbb,hG3.mono hbb⟩
      ·have hl1 : leftA last wr (.pointer (some ⟨D,0,none⟩)) (.bool true) = rest.length := by
        simp only [leftA,zq224 hD,hfull,Option.getD_some]
       rw [hl1,hrest]
       cases ok' with
       | false => simp [leftA]
       | true =>
        simp only [leftA,zq224 s1,zq270 (by simpa using hb) hk',Option.getD_some,zc21]
        omega
    ·gi_wp2
     refine bodyPost_ret (results_none rfl _ _ _) rfl ?_
     exact ⟨⟨_,rfl⟩,.inr ⟨pre ++ [a],⟨rest',by rw [hx,hrest]; simp⟩,hJx3⟩⟩
set_option maxHeartbeats 1000000 in
/-- b.addresses(): the receiver is boxed; the function value captures the box. -/
theorem zq263 (n : Nat) (p0 : Option Addr) (w : World) :
  CallsIn Fence.wide n Tryz.prog 136 #[.pointer p0] w fun e w' => e = .returned (.func (.func 152) #[] #[.pointer (some ⟨w.heap.size,0,none⟩)]) ∧ w' = w.alloc (.cells #[.pointer p0] 180) := by
 refine callsIn_of_wp Tryz.func136 rfl trivial ?_ rfl
 simp only [Tryz.ntmps136,List.size_toArray,zc21,zc32,Nat.reduceAdd,Nat.reduceSub,Array.replicate_succ,Array.replicate_zero,List.push_toArray,List.append_toArray,zc42,List.cons_append]
 gi_wp2
 go_ret
 exact ⟨rfl,rfl⟩
def elA (xs : List Ad) (i : Nat) : Ad := xs.getD i (xs.headD default)
theorem zq556 {xs : List Ad} (h : xs ≠ []) (i : Nat) : elA xs i ∈ xs := by
 cases xs with
 | nil => exact absurd rfl h
 | cons a r =>
  unfold elA
  rw [zc3]
  cases hx : (a :: r)[i]? with
  | none => simp
  | some y => simpa using zc5 hx
theorem zq265 (n : Nat) (hn : 1 ≤ n) (Bx B : Nat) (p : Pf) (va vl : Value) (last : Ad) (xs : List Ad) (w : World)
  (hbox : w.heap[Bx]? = some (.cells #[.pointer (some ⟨B,0,none⟩)] 180 (0,0))) (hbook : w.heap[B]? = some (.cells #[.bool p.ad.v6,.int .u64 p.ad.hi,.int .u64 p.ad.lo,.int .i64 p.bits,va,vl] 182 (0,0)))
  (hlast : ∀ W,Glob Tryz.prog W → Calls Tryz.prog 153 #[pfV p] W fun e W' => e = .returned (adV last) ∧ Below W.heap.size W W')
  (hafter : ∀ a b ok W,Glob Tryz.prog W → zq245 a = some (b,ok,()) → Calls Tryz.prog 154 #[adV a] W fun e W' => e = .returned (.tuple #[adV b,.bool ok]) ∧ Below W.heap.size W W')
  (hall : allA last 64 p.ad = some xs) (hGw : Glob Tryz.prog w) :
  SeqStopsK Fence.wide n Tryz.prog 152 #[.pointer (some ⟨Bx,0,none⟩)] (fun i : Nat => #[adV (elA xs i)]) CKept (fun ys => ys = List.range xs.length) (fun pre => pre <+: List.range xs.length) xs.length w := by
 intro l J Jx W hW hJ hJx hY h0
 have hk := CKept.below hW
 refine (zq264 n hn l Bx B p va vl last xs (fun pre W => J (List.range pre.length) W) (fun pre W => Jx (List.range pre.length) W) (fun pre A C h hb => hJ _ A C none h ⟨hb.os,hb.tape,hb.output,hb.size,fun k hk _ => hb.block k hk⟩ (fun r e => by cases e)) ?_ W (hk _ _ _ _ hbox) (hk _ _ _ _ hbook) h0 hlast hafter hall (hGw.mono hW)).mono ?_
 ·intro pre x W1 hj hpre
  obtain ⟨t,ht⟩ := hpre
  have hlen : pre.length < xs.length := by rw [← ht]; simp
  have hel : elA xs pre.length = x := by
   unfold elA
   rw [zc3,← ht]
   simp
  have := hY (List.range pre.length) pre.length W1 hj (by simpa using hlen)
  simp only [hel] at this
  refine this.mono ?_
  rintro e W' (⟨h1,h2,h3⟩ | ⟨h1,h2⟩)
  ·exact .inl ⟨h1,by simpa [List.range_succ] using h2,h3⟩
  ·exact .inr ⟨h1,by simpa [List.range_succ] using h2⟩
 ·rintro e W' ⟨h1,h2⟩
  refine ⟨h1,h2.imp ?_ ?_⟩
  ·rintro ⟨ys,rfl,h⟩
   exact ⟨_,rfl,h⟩
  ·rintro ⟨pre,⟨t,ht⟩,h⟩
   refine ⟨_,?_,h⟩
   rw [← ht,zc24,List.range_add]
   exact List.prefix_append _ _
set_option maxRecDepth 100000 in
set_option maxHeartbeats 4000000 in
theorem zq668 (B : Nat) (p : Pf) (va vl : Value) (last : Ad) (xs : List Ad) (tk : Ad → Bool) (w : World) (hG : Glob Tryz.prog w) (hxs : xs ≠ [])
  (hbook : w.heap[B]? = some (.cells #[.bool p.ad.v6,.int .u64 p.ad.hi,.int .u64 p.ad.lo,.int .i64 p.bits,va,vl] 182 (0,0)))
  (hlast : ∀ W,Glob Tryz.prog W → Calls Tryz.prog 153 #[pfV p] W fun e W' => e = .returned (adV last) ∧ Below W.heap.size W W')
  (hafter : ∀ a b ok W,Glob Tryz.prog W → zq245 a = some (b,ok,()) → Calls Tryz.prog 154 #[adV a] W fun e W' => e = .returned (.tuple #[adV b,.bool ok]) ∧ Below W.heap.size W W')
  (htaken : ∀ a W,a ∈ xs → Below w.heap.size w W → Calls Tryz.prog 137 #[.pointer (some ⟨B,0,none⟩),adV a] W fun e W' => e = .returned (.bool (tk a)) ∧ Below W.heap.size W W')
  (hall : allA last 64 p.ad = some xs) (res : Ad × Bool) (hnone : Hid ((∀ i,i < xs.length → tk (elA xs i) = true) → res = (⟨false,0,0⟩,false))) (hsome : Hid (∀ i,i < xs.length → (∀ j,j < i → tk (elA xs j) = true) → tk (elA xs i) = false → res = (elA xs i,true))) :
  CallsIn Fence.wide 9 Tryz.prog 128 #[.pointer (some ⟨B,0,none⟩)] w fun e W' => e = .returned (.tuple #[adV res.1,.bool res.2]) ∧ Below w.heap.size w W' := by
 refine callsIn_of_wp_marks Tryz.func128 rfl trivial ?_ rfl
 simp only [Tryz.ntmps128,List.size_toArray,zc21,zc32,Nat.reduceAdd,Nat.reduceSub,Array.replicate_succ,Array.replicate_zero,List.push_toArray,List.append_toArray,zc42,List.cons_append]
 gi_wp2_with (refine ⟨trivial,?_⟩; gi_at_call 136; refine (zq263 _ _ _).mono ?_; rintro e w' ⟨rfl,rfl⟩)
 have hB0 : Below w.heap.size w ((((w.alloc (Go.Obj.cells #[.pointer (some ⟨B,0,none⟩)] 180)).alloc (Go.Obj.cells #[.bool false,.int .u64 0,.int .u64 0] 32)).alloc (Go.Obj.cells #[.bool false] 4)).alloc (Go.Obj.cells #[.pointer (some ⟨B,0,none⟩)] 180)) :=
  ((((Below.refl _ w).alloc (zc47 _) _).alloc (by simp) _).alloc (by simp; omega) _).alloc (by simp; omega) _
 have hsz : ((((w.alloc (Go.Obj.cells #[.pointer (some ⟨B,0,none⟩)] 180)).alloc (Go.Obj.cells #[.bool false,.int .u64 0,.int .u64 0] 32)).alloc (Go.Obj.cells #[.bool false] 4)).alloc (Go.Obj.cells #[.pointer (some ⟨B,0,none⟩)] 180)).heap.size = w.heap.size + 4 := by simp
 obtain ⟨b1,b2,b3,b4⟩ := get4 w (Go.Obj.cells #[.pointer (some ⟨B,0,none⟩)] 180) (Go.Obj.cells #[.bool false,.int .u64 0,.int .u64 0] 32) (Go.Obj.cells #[.bool false] 4) (Go.Obj.cells #[.pointer (some ⟨B,0,none⟩)] 180)
 obtain ⟨W0,hW0⟩ : ∃ W0,(((w.alloc (Go.Obj.cells #[.pointer (some ⟨B,0,none⟩)] 180)).alloc (Go.Obj.cells #[.bool false,.int .u64 0,.int .u64 0] 32)).alloc (Go.Obj.cells #[.bool false] 4)).alloc (Go.Obj.cells #[.pointer (some ⟨B,0,none⟩)] 180) = W0 := ⟨_,rfl⟩
 rw [hW0] at hB0 hsz b1 b2 b3 b4 ⊢
 have hbook0 := CKept.below hB0 _ _ _ _ hbook
 clear hW0
 refine wpIn_rangeFunc_ownH (F := Fence.wide) (n := 9) rfl (by omega) (gf := 152) (lb := #[.pointer (some ⟨w.heap.size + 1 + 1 + 1,0,none⟩)]) rfl trivial (enters_of Tryz.func152 (by kernel_rfl) rfl)
  (zq265 8 (by omega) (w.heap.size + 1 + 1 + 1) B p va vl last xs W0 b4 hbook0 hlast hafter hall (hG.mono hB0)) (fun h k => h.trans k) (fun W l o o' _ hl hc _ => CKept.put o' hl hc) (Below.refl _ _) (fun _ => rfl)
  (fun pre W => ((∀ i ∈ pre,tk (elA xs i) = true) ∧ W.heap[w.heap.size]? = some (Go.Obj.cells #[.pointer (some ⟨B,0,none⟩)] 180 (0,0)) ∧ W.heap[w.heap.size + 1]? = some (Go.Obj.cells #[.bool false,.int .u64 0,.int .u64 0] 32 (0,0)) ∧ W.heap[w.heap.size + 1 + 1]? = some (Go.Obj.cells #[.bool false] 4 (0,0))) ∧ Below w.heap.size w W)
  (fun c pre W => (∃ pre0 i,c = .ret ∧ pre = pre0 ++ [i] ∧ (∀ j ∈ pre0,tk (elA xs j) = true) ∧ tk (elA xs i) = false ∧ W.heap[w.heap.size + 1]? = some (Go.Obj.cells (adC (elA xs i)) 32 (0,0)) ∧ W.heap[w.heap.size + 1 + 1]? = some (Go.Obj.cells #[.bool true] 4 (0,0))) ∧ Below w.heap.size w W)
  (OwnFrom.and (fun s A C row hs hg hr => ⟨hs.1,zq739 hs.2.1 hg (fun r e => (hr r e).2),zq739 hs.2.2.1 hg (fun r e => (hr r e).2),zq739 hs.2.2.2 hg (fun r e => (hr r e).2)⟩) (ownFrom_below (by omega) (by omega)))
  (fun c => OwnFrom.and (fun s A C row hs hg hr => by
   obtain ⟨pre0,i,h1,h2,h3,h4,h5,h6⟩ := hs
   exact ⟨pre0,i,h1,h2,h3,h4,zq739 h5 hg (fun r e => (hr r e).2),zq739 h6 hg (fun r e => (hr r e).2)⟩) (ownFrom_below (by omega) (by omega)))
  ⟨⟨by simp,b1,b2,b3⟩,hB0⟩
  (fun x a' W => ∃ Bx,w.heap.size + 1 + 1 < Bx ∧ W.heap[Bx]? = some (Go.Obj.cells (adC (elA xs x)) 32 (0,0)) ∧ a' = { tmps := #[.pointer (some ⟨B,0,none⟩),.pointer (some ⟨w.heap.size,0,none⟩),.pointer (some ⟨w.heap.size + 1,0,none⟩),.pointer (some ⟨w.heap.size + 1 + 1,0,none⟩),.pointer (some ⟨Bx,0,none⟩),.pointer (some ⟨B,0,none⟩),.func (.func 152) #[] #[.pointer (some ⟨w.heap.size + 1 + 1 + 1,0,none⟩)],adV (elA xs x),undef,undef,undef,undef,undef,undef],defers := [] })
  (fun x a' _ X Y row hs hg hr => by obtain ⟨Bx,h1,h2,h3⟩ := hs; exact ⟨Bx,h1,zq739 h2 hg (fun r e => (hr r e).2),h3⟩)
  ?assign ?body ?done ?stop
 case assign =>
  rintro l pre x W K ⟨⟨i1,i2,i3,i4⟩,hB1⟩ hK
  have hlt : w.heap.size + 1 + 1 < W.heap.size := (zc27.1 i4).1
  simp only [adV] at hK ⊢
  gi_wp2
  refine hK _ _ ((KeepsOthers.alloc _ _).from _) (CKept.below ((Below.refl _ W).alloc (zc47 _) _)) ⟨⟨i1,(Below.heap_alloc _ _ _ (by omega)).trans i2,(Below.heap_alloc _ _ _ (by omega)).trans i3,(Below.heap_alloc _ _ _ (by omega)).trans i4⟩,hB1.alloc (by omega) _⟩ ⟨W.heap.size,hlt,World.alloc_heap_new W _,rfl⟩
 case body =>
  rintro l pre x a' W hl ⟨r,hr⟩ ⟨⟨i1,i2,i3,i4⟩,hB1⟩ ⟨Bx,hBx,bX,rfl⟩ hlt
  have h1' : 1 ≤ 9 - 1 - 1 := by omega
  have cB := (zq375 i2).1
  obtain ⟨x0,x1,x2⟩ := zq233 bX
  have htk' := htaken (elA xs x) W (zq556 hxs x) hB1
  simp only [adV] at htk' ⊢
  cases htk : tk (elA xs x)
  ·rw [htk] at htk'
   gi_wp2_with (refine ⟨trivial,?_⟩; gi_at_call 137; refine (CallsIn.inRound l (callsIn_wide.2 htk')).mono ?_; rintro e w2 ⟨rfl,hb2⟩; have hk2 := CKept.below hb2; obtain ⟨x0,x1,x2⟩ := zq233 (hk2 _ _ _ _ bX); have j3 := hk2 _ _ _ _ i3; have j4 := hk2 _ _ _ _ i4; obtain ⟨n0,n1,n2,n3,n4,n5⟩ := zq1776 j3; obtain ⟨n6,n7⟩ := zq375 j4)
   obtain ⟨s1,s2,s3⟩ := set3 (a := .bool (elA xs x).v6) (b := .int .u64 (elA xs x).hi) (c := .int .u64 (elA xs x).lo) j3
   have j4' : (((w2.setCell ⟨w.heap.size + 1,0,none⟩ (.bool (elA xs x).v6)).setCell ⟨w.heap.size + 1,1,none⟩ (.int .u64 (elA xs x).hi)).setCell ⟨w.heap.size + 1,2,none⟩ (.int .u64 (elA xs x).lo)).heap[w.heap.size + 1 + 1]? = some (Go.Obj.cells #[.bool false] 4 (0,0)) := (s2 _ (by omega)).trans j4
   refine ⟨((KeepsFrom.of_grownBy (zq326 hb2) (fun j e => by cases e)).trans (((KeepsOthers.setCell _ _ _).from _).trans (((KeepsOthers.setCell _ _ _).from _).trans ((KeepsOthers.setCell _ _ _).from _)))).trans ((KeepsOthers.setCell _ _ _).from _),⟨pre,x,rfl,rfl,i1,htk,?_,?_⟩,?_⟩
   ·exact (Below.heap_setCell _ ⟨w.heap.size + 1 + 1,0,none⟩ _ _ (by show w.heap.size + 1 ≠ w.heap.size + 1 + 1; omega)).trans s1
   ·have := zq1529 _ (w.heap.size + 1 + 1) 0 (.bool true) #[.bool false] 4 (0,0) j4'
    exact this
   ·exact ((hB1.trans (hb2.mono hB1.size)).trans (s3.mono (by omega))).setCell (p := ⟨w.heap.size + 1 + 1,0,none⟩) (by show w.heap.size ≤ w.heap.size + 1 + 1; omega) _
  ·rw [htk] at htk'
   gi_wp2_with (refine ⟨trivial,?_⟩; gi_at_call 137; refine (CallsIn.inRound l (callsIn_wide.2 htk')).mono ?_; rintro e w2 ⟨rfl,hb2⟩; have hk2 := CKept.below hb2)
   have j : ∀ (b : Nat) (o : Go.Obj),W.heap[b]? = some o → w2.heap[b]? = some o := fun b o h => zq738 hb2 h
   refine ⟨KeepsFrom.of_grownBy (zq326 hb2) (fun j e => by cases e),CKept.below hb2,⟨fun i hi => ?_,j _ _ i2,j _ _ i3,j _ _ i4⟩,hB1.trans (hb2.mono hB1.size)⟩
   rcases List.mem_append.1 hi with hi | hi
   ·exact i1 i hi
   ·simp only [List.mem_singleton] at hi
    subst hi
    exact htk
 case done =>
  rintro D ys W hD rfl ⟨⟨i1,i2,i3,i4⟩,hB1⟩ hK
  obtain ⟨n0,n1,n2,n3,n4,n5⟩ := zq1776 i3
  obtain ⟨n6,n7⟩ := zq375 i4
  have hrs := hnone.out (fun i hi => i1 i (by simpa using hi))
  gi_wp2
  obtain ⟨s1,s2,s3⟩ := set3 (a := .bool false) (b := .int .u64 0) (c := .int .u64 0) i3
  have i4' : (((W.setCell ⟨w.heap.size + 1,0,none⟩ (.bool false)).setCell ⟨w.heap.size + 1,1,none⟩ (.int .u64 0)).setCell ⟨w.heap.size + 1,2,none⟩ (.int .u64 0)).heap[w.heap.size + 1 + 1]? = some (Go.Obj.cells #[.bool false] 4 (0,0)) := (s2 _ (by omega)).trans i4
  have t1 := zq1529 _ (w.heap.size + 1 + 1) 0 (.bool false) #[.bool false] 4 (0,0) i4'
  have t2 := (Below.heap_setCell _ ⟨w.heap.size + 1 + 1,0,none⟩ (.bool false) _ (by show w.heap.size + 1 ≠ w.heap.size + 1 + 1; omega)).trans s1
  have hK' := (Below.heap_setCell _ ⟨w.heap.size + 1 + 1,0,none⟩ (.bool false) D (by show D ≠ w.heap.size + 1 + 1; omega)).trans ((s2 D (by omega)).trans hK)
  refine ⟨by simp,.inl ⟨_,_,rfl,run_takeDeferred hK',?_⟩⟩
  have t1' := (World.putObj_heap_other (r := D) (o := .deferred none) (show w.heap.size + 1 + 1 ≠ D by omega)).trans t1
  have t2' := (World.putObj_heap_other (r := D) (o := .deferred none) (show w.heap.size + 1 ≠ D by omega)).trans t2
  obtain ⟨m0,m1,m2,_⟩ := zq1776 t2'
  obtain ⟨m6,_⟩ := zq375 t1'
  refine ⟨.tuple #[.agg #[.bool false,.int .u64 0,.int .u64 0],.bool false],?_,by rw [hrs]; rfl,((hB1.trans (s3.mono (by omega))).setCell (p := ⟨w.heap.size + 1 + 1,0,none⟩) (by show w.heap.size ≤ w.heap.size + 1 + 1; omega) _).trans (belowK_b (w := w) (zc47 _) _ D _ _ (by omega) hK' rfl rfl)⟩
  simp [results,Tryz.f128,go_sem,m0,m1,m2,m6]
 case stop =>
  rintro D c pre W hD hpre ⟨⟨pre0,i,rfl,hp,h3,h4,h5,h6⟩,hB1⟩ hK
  have hrs : res = (elA xs i,true) := by
   obtain ⟨t,ht⟩ := hpre
   rw [hp] at ht
   have hl0 : pre0.length < xs.length := by
    have := congrArg List.length ht
    simp at this
    omega
   have hi : i = pre0.length := by
    have := congrArg (fun l => l[pre0.length]?) ht
    simp [hl0] at this
    exact this
   subst hi
   refine hsome.out _ hl0 (fun j hj => h3 j ?_) h4
   have h0 : (List.range xs.length)[j]? = some j := by rw [List.getElem?_eq_some_iff]; exact ⟨by simp; omega,by simp⟩
   rw [← ht,zc46,zc6 hj] at h0
   exact zc5 h0
  gi_wp2
  refine ⟨by simp,.inl ⟨_,_,rfl,run_takeDeferred hK,?_⟩⟩
  have t1' := (World.putObj_heap_other (r := D) (o := .deferred none) (show w.heap.size + 1 + 1 ≠ D by omega)).trans h6
  have t2' := (World.putObj_heap_other (r := D) (o := .deferred none) (show w.heap.size + 1 ≠ D by omega)).trans h5
  obtain ⟨m0,m1,m2⟩ := zq233 t2'
  obtain ⟨m6,_⟩ := zq375 t1'
  refine ⟨.tuple #[adV (elA xs i),.bool true],?_,by rw [hrs],hB1.trans (belowK_b (w := w) (zc47 _) W D _ _ (by omega) hK rfl rfl)⟩
  simp [results,Tryz.f128,go_sem,m0,m1,m2,m6,adV]
theorem zq675 {P : Program} {W : World} (hG : Glob P W) {f : FuncId} {ps rs : List PS} {t : PsT ps → Option (PsT rs)} (ht : TrOk P f (con ps rs t)) {x : PsT ps} {y : PsT rs} (hx : t x = some y)
  (hdec : decA (encA false ps x 0).2 ps (encA false ps x 0).1 = some x) (hany : (encA false ps x 0).1.all (fun v => !v.isAny) = true) {ρ : Nat → Value} {vals us : List Value}
  (hu : zq0 W ρ 0 vals (encA false ps x 0).1 (encA false ps x 0).2 us) :
  Calls P f vals.toArray W fun e W' => (∃ ρ' n,e = .returned (den ρ' (encR rs y n))) ∧ Below W.heap.size W W' := by
 have hrel := hu.rel
 have hden := hu.den _ (zq717 us)
 have hk : conTr ps rs t (SV × Mem) (encA false ps x 0).1 (encA false ps x 0).2 (fun r m => some (r,m)) = some (encR rs y (encA false ps x 0).2.length,(encA false ps x 0).2 ++ (encA true rs y (encA false ps x 0).2.length).2) := by
  simp only [conTr,hdec,hx,zc48]
 have hc := ht.1 W hG (SV × Mem) (encA false ps x 0).1 (encA false ps x 0).2 (fun r m => some (r,m)) _ hk hany
 have := hc.call (by have := hu.lt.1; simpa using this) _ W hrel
 rw [hden] at this
 refine this.mono ?_
 rintro e w' ⟨ρ',r',m',rfl,hm',_,_,_,hres⟩
 have hres : (some (r',m') : Option (SV × Mem)) = some (encR rs y (encA false ps x 0).2.length,(encA false ps x 0).2 ++ (encA true rs y (encA false ps x 0).2.length).2) := hres
 injection hres with hres
 injection hres with h1 h2
 exact ⟨⟨ρ',_,by rw [h1]⟩,hm'.below⟩
theorem zq688 {k : K} (w : World) (ρ : Nat → Value) (a : k.T) (v : Value) (n : Nat) (h : ∀ ρ,v = den ρ (flV k a)) : zq0 w ρ n [v] [flV k a] [] [] :=
 ⟨rfl,fun ρ' _ => by simp only [denL,h ρ'],fun _ _ _ i o v h => by simp at h,by simp only [ltL,zq670,Bool.and_self],fun o h => by cases h⟩
theorem zq303 {w w' : World} {ρ : Nat → Value} {n : Nat} {vals : List Value} {svs : List SV} {os : Mem} {us : List Value} (h : zq0 w ρ n vals svs os us) (hb : Below w.heap.size w w') : zq0 w' ρ n vals svs os us :=
 ⟨h.len,h.den,fun W ρ' hg i o v hi hv => ⟨(h.obj W ρ' hg i o v hi hv).1.keep (fun b _ hlt => hb.block b hlt) hb.size,(h.obj W ρ' hg i o v hi hv).2⟩,h.lt⟩
def tkOf (p : Pf) (kp : List Ad) (ls : List Ls) (a : Ad) : Bool := match zq193 p kp ls a with | some (t,_) => t | none => false
theorem zq555 {xs : List Ad} {i : Nat} (h : i < xs.length) : elA xs i = xs[i] := by
 unfold elA
 rw [zc3,zc0 h]
 rfl
theorem zq554 {a : Ad} {r : List Ad} {i : Nat} (h : i < r.length) : elA (a :: r) (i + 1) = elA r i := by
 rw [zq555 h,zq555 (by simpa using h)]
 rfl
theorem zq665 {p : Pf} {kp : List Ad} {ls : List Ls} : ∀ {xs : List Ad} {y : Ad × Bool × Unit},zq663 p kp ls xs = some y →
  (∀ a ∈ xs,zq193 p kp ls a = some (tkOf p kp ls a,())) ∧ ((∀ i,i < xs.length → tkOf p kp ls (elA xs i) = true) → y = (⟨false,0,0⟩,false,())) ∧
   (∀ i,i < xs.length → (∀ j,j < i → tkOf p kp ls (elA xs j) = true) → tkOf p kp ls (elA xs i) = false → y = (elA xs i,true,()))
 | [],y,h => by
  cases h
  exact ⟨fun a h => by (cases h),fun _ => rfl,fun i h => by simp at h⟩
 | a :: r,y,h => by
  simp only [zq663] at h
  obtain ⟨t,ht,h⟩ := zc8.1 h
  obtain ⟨y',hy',h⟩ := zc8.1 h
  obtain ⟨h1,h2,h3⟩ := zq665 hy'
  have htk : tkOf p kp ls a = t.1 := by unfold tkOf; rw [ht]
  have hy : (bif t.1 then y' else (a,true,())) = y := by injection h
  refine ⟨fun b hb => ?_,fun hall => ?_,fun i hi hj hti => ?_⟩
  ·rcases zc28.1 hb with rfl | hb
   ·rw [ht,htk]
   ·exact h1 b hb
  ·have h0 := hall 0 (by simp)
   rw [zq555 (by simp),List.getElem_cons_zero,htk] at h0
   rw [h0] at hy
   rw [← hy]
   exact h2 fun i hi => by
    have := hall (i + 1) (by simpa using hi)
    rwa [zq554 hi] at this
  ·cases i with
   | zero =>
    rw [zq555 hi,List.getElem_cons_zero] at hti ⊢
    rw [htk] at hti
    rw [hti] at hy
    exact hy.symm
   | succ i =>
    have h0 := hj 0 (by omega)
    rw [zq555 (by simp),List.getElem_cons_zero,htk] at h0
    rw [h0] at hy
    have hi' : i < r.length := by simpa using hi
    rw [zq554 hi'] at hti ⊢
    rw [← hy]
    exact h3 i hi' (fun j hj' => by
     have := hj (j + 1) (by omega)
     rwa [zq554 (by omega)] at this) hti
def zq172 : Con := con [.ref [.fl .pfx,.row .addr 32,.row .lease 105] 182] [.one (.fl .addr),.one (.fl .bool)] (fun x => zq174 x.1.1 x.1.2.1 x.1.2.2.1)
theorem zq667 (p : Pf) (kp : List Ad) (ls : List Ls) (y : Ad × Bool × Unit) (hx : zq174 p kp ls = some y) (ρ : Nat → Value) (us vals : List Value) (w : World) (hG : Glob Tryz.prog w)
  (hu : zq0 w ρ 0 vals (encA false [.ref [.fl .pfx,.row .addr 32,.row .lease 105] 182] ((p,kp,ls,()),()) 0).1 (encA false [.ref [.fl .pfx,.row .addr 32,.row .lease 105] 182] ((p,kp,ls,()),()) 0).2 us) :
  Calls Tryz.prog 128 vals.toArray w fun e w' => ∃ ρc r m',e = .returned (den ρc r) ∧ RelM w ρc m' w' ∧ resR [.one (.fl .addr),.one (.fl .bool)] r m' = some y := by
 have hg := zq717 us
 have hlen := hu.len
 have hdenv := hu.den _ hg
 obtain ⟨vb,va,vl,rfl⟩ : ∃ vb va vl,us = [vb,va,vl] := by
  have hl1 : us.length = 3 := hlen
  match us,hl1 with
  | [a,b,c],_ => exact ⟨a,b,c,rfl⟩
 obtain ⟨hob,_⟩ := hu.obj w _ hg 0 _ vb rfl rfl
 obtain ⟨b,arr,rfl,_,hheap,harr,hcells⟩ := hob
 have harr : arr.size = 6 := harr
 have hg0 := hcells 0 (.b p.ad.v6) rfl rfl
 have hg1 := hcells 1 (.i .u64 p.ad.hi) rfl rfl
 have hg2 := hcells 2 (.i .u64 p.ad.lo) rfl rfl
 have hg3 := hcells 3 (.i .i64 p.bits) rfl rfl
 have hg4 := hcells 4 (.row 1) rfl rfl
 have hg5 := hcells 5 (.row 2) rfl rfl
 have hA : arr = #[.bool p.ad.v6,.int .u64 p.ad.hi,.int .u64 p.ad.lo,.int .i64 p.bits,zq1583 va,zq1583 vl] := by
  apply Array.ext_getElem?
  intro i
  match i with
  | 0 => rw [hg0]; rfl
  | 1 => rw [hg1]; rfl
  | 2 => rw [hg2]; rfl
  | 3 => rw [hg3]; rfl
  | 4 => rw [hg4]; rfl
  | 5 => rw [hg5]; rfl
  | i + 6 => rw [Array.getElem?_eq_none (by omega),Array.getElem?_eq_none (by simp)]
 subst hA
 have hvals : vals = [.pointer (some ⟨b,0,none⟩)] := by
  rw [← hdenv]
  show [zq1365 (.pointer (some ⟨b,0,none⟩)) 0] = _
  simp only [zq1365,zq237,Nat.add_zero]
 subst hvals
 unfold zq174 at hx
 obtain ⟨y1,hl1,hx⟩ := zc8.1 hx
 obtain ⟨last,u1⟩ := y1
 obtain ⟨xs,hall,hx⟩ := zc8.1 hx
 obtain ⟨f1,f2,f3⟩ := zq665 hx
 obtain ⟨r1,hr1⟩ := zq269 hall
 obtain ⟨ra,rb,ru⟩ := y
 refine (callsIn_wide.1 (zq668 b p _ _ last xs (tkOf p kp ls) w hG (by rw [hr1]; simp) hheap (fun W hg => ?_) (fun a c ok W hg hac => ?_) (fun a W hmem hB => ?_) hall (ra,rb) (fun h => ?_) (fun i hi hj hti => ?_))).mono ?_
 ·have ha := zq688 (k := .pfx) W (fun _ => Go.undef) p (pfV p) 0 (fun _ => rfl)
  refine (zq674 hg zq1331 (x := (p,())) hl1 rfl rfl ha).mono ?_
  rintro e w' ⟨⟨ρ',rfl⟩,hb'⟩
  exact ⟨rfl,hb'⟩
 ·have ha := zq688 (k := .addr) W (fun _ => Go.undef) a (adV a) 0 (fun _ => rfl)
  refine (zq675 hg zq244 (x := (a,())) (y := (c,ok,())) hac rfl rfl ha).mono ?_
  rintro e w' ⟨⟨ρ',n,rfl⟩,hb'⟩
  exact ⟨rfl,hb'⟩
 ·have ha := (zq303 hu hB).app (zq688 (k := .addr) W ρ a (adV a) 3 (fun _ => rfl))
  refine (zq674 (hG.mono hB) zq183 (x := ((p,kp,ls,()),a,())) (f1 a hmem) rfl rfl ha).mono ?_
  rintro e w' ⟨⟨ρ',rfl⟩,hb'⟩
  exact ⟨rfl,hb'⟩
 ·have := f2 h
  cases this
  rfl
 ·have := f3 i hi hj hti
  cases this
  rfl
 ·rintro e w' ⟨rfl,hb⟩
  refine ⟨fun _ => Go.undef,.tup [.agg [.b ra.v6,.i .u64 ra.hi,.i .u64 ra.lo],.b rb],[],rfl,?_,rfl⟩
  exact ⟨hb,fun j o h => by simp at h,fun i j o o' _ h => by simp at h,fun j o h => by simp at h⟩
theorem zq173 : TrOk Tryz.prog 128 zq172 := zq493 _ _ _ fun x y hx ρ us vals w hG hu => zq667 x.1.1 x.1.2.1 x.1.2.2.1 y hx ρ us vals w hG hu
end Go.Proofs.YtjolfddpghkabaaGreat
namespace Go.Proofs.YtjolfddpghkabaaGreat
open Go Go.Ma Go.RowKit Go.Lib Go.Proofs
theorem zq754 : (Tryz.prog.info? 32).map (fun i => (i.zero.map (·.cells.size),i.size,i.bytes)) = some (some 3,3,24) := by kernel_rfl
theorem zq1578 (w : World) : (Go.sizeOf 32).run Tryz.prog w = .ok 3 w := by kernel_rfl
set_option maxHeartbeats 4000000 in
set_option maxRecDepth 100000 in
/-- There is room, i < len(s): in place. -/
theorem zq767 (b off n c i vb voff m vc : Nat) (cs vs : List Value) (w : World) (hi : i < n) (hm : 0 < m) (hroom : n + m ≤ c) (hc63 : c ≤ 9223372036854775807) (hvb : vb ≠ b)
  (hcl : cs.length = n * 3) (hvl : vs.length = m * 3)
  (hcs : ∀ j v,cs[j]? = some v → w.cell? ⟨b,off + j,none⟩ = some v) (hsp : ∀ j,j < (n + m) * 3 → (w.cell? ⟨b,off + j,none⟩).isSome = true) (hfz : ∀ j,j < (n + m) * 3 → w.frozen? ⟨b,off + j,none⟩ = false)
  (hvs : ∀ j v,vs[j]? = some v → w.cell? ⟨vb,voff + j,none⟩ = some v) (h1c : ∀ v ∈ cs,v.oneCell' = true) (h1v : ∀ v ∈ vs,v.oneCell' = true)
  (tA tB : TypeId) (kA kB : Nat) (hsa : w.shape? vb = some (tA,kA)) (hsb : w.shape? b = some (tB,kB)) (hkB : kB ≠ 0) (hfa : w.frozen? ⟨vb,voff,none⟩ = false) (hfe : w.frozen? ⟨vb,kA,none⟩ = false) :
  Calls Tryz.prog 108 #[.slice (some ⟨b,off,none⟩) n c,.int .i64 i,.slice (some ⟨vb,voff,none⟩) m vc] w fun e w' =>
   e = .returned (.slice (some ⟨b,off,none⟩) (n + m) c) ∧ w' = (w.drew.setCells b (off + (i + m) * 3) (cs.drop (i * 3))).setCells b (off + i * 3) vs := by
 have u30 := run_underlying Tryz.underlying62
 have z49 := zq1578
 have hz1 : ¬ ((m : Int) = 0) := by omega
 have hz2 : ¬ ((i : Int) = (n : Int)) := by omega
 have hsz : (Tryz.prog.info? 32).map (·.size) = some 3 := by
  obtain ⟨i0,hi0,hz⟩ := zc7.1 zq754
  simp only [zc11] at hz
  rw [hi0]; simp [hz.2.1]
 have hov : ∀ lb cb,(callFunc 123 #[.slice (some ⟨vb,voff,none⟩) m vc,.slice (some ⟨b,off + (i + m) * 3,none⟩) lb cb]).run Tryz.prog w = .ok (.value (.bool false)) w := fun lb cb => by
  rw [run_callFunc_extern Tryz.func123 (by kernel_rfl) (by kernel_rfl) (by kernel_rfl) (e := Extern.SlicesOverlaps.overlaps #[62,62] #[4]) (by kernel_rfl),
   Lib.run_overlaps_apart w 62 4 32 Tryz.underlying62 3 zq1578 ⟨vb,voff,none⟩ ⟨b,off + (i + m) * 3,none⟩ m vc lb cb hvb tA tB kA kB hsa hsb hkB hfa hfe]
  rfl
 have hdl : (cs.drop (i * 3)).length = (n - i) * 3 := by rw [zc40,hcl]; omega
 have mixed := zq1121
 have hw1 : IntKind.i64.wrap ((i : Int) + (m : Int)) = (i : Int) + (m : Int) := by rw [IntKind.wrap_i64]; omega
 have hb1 : (0 : Int) ≤ (i : Int) + (m : Int) := by omega
 have hin : i ≤ n := by omega
 have htn : ((i : Int) + (m : Int)).toNat = i + m := by omega
 have hb2 : ¬ (c = i + m) := by omega
 have hb3 : (i : Int) ≤ (n : Int) + (m : Int) := by omega
 have hb4 : ¬ (c = i) := by omega
 have hcp1 : ∀ ty dc sc,(Builtin.copy_ #[62,62] ty #[.slice (some ⟨b,off + (i + m) * 3,none⟩) (n + m - (i + m)) dc,.slice (some ⟨b,off + i * 3,none⟩) (n + m - i) sc]).run Tryz.prog w.drew = .ok (goInt ((n - i : Nat) : Int)) (w.drew.setCells b (off + (i + m) * 3) (cs.drop (i * 3))) := fun ty dc sc =>
  zq1503 w.drew _ _ ty 32 3 b (off + (i + m) * 3) (n + m - (i + m)) dc ⟨b,off + i * 3,none⟩ (n + m - i) sc (n - i) (cs.drop (i * 3)) Tryz.underlying62 hsz (by simp only [Nat.min_def]; split <;> omega) hdl
   (fun j v hj => by rw [Addr.add_lit,Nat.add_assoc]; exact hcs (i * 3 + j) v (by rwa [zc39] at hj))
   (fun j hj => by rw [Nat.add_assoc]; exact hsp _ (by omega)) (fun j hj => by rw [Nat.add_assoc]; exact hfz _ (by omega)) (fun v hv => h1c v (List.mem_of_mem_drop hv))
 obtain ⟨W1,hW1⟩ : ∃ W1,W1 = w.drew.setCells b (off + (i + m) * 3) (cs.drop (i * 3)) := ⟨_,rfl⟩
 have hsp1 : ∀ k,k < (n + m) * 3 → (W1.cell? ⟨b,off + k,none⟩).isSome = true := fun k hk => by
  rw [hW1]
  exact isSome_setCells b _ _ _ (fun j hj => by rw [Nat.add_assoc]; exact hsp _ (by omega)) _ (hsp k hk)
 have hcp2 : ∀ (W : World),(∀ x,W.cell? x = W1.cell? x) → (∀ x,W.frozen? x = W1.frozen? x) → ∀ ty dc,(Builtin.copy_ #[62,62] ty #[.slice (some ⟨b,off + i * 3,none⟩) (n + m - i) dc,.slice (some ⟨vb,voff,none⟩) m vc]).run Tryz.prog W = .ok (goInt m) (W.setCells b (off + i * 3) vs) := fun W hWc hWf ty dc =>
  zq1503 W _ _ ty 32 3 b (off + i * 3) (n + m - i) dc ⟨vb,voff,none⟩ m vc m vs Tryz.underlying62 hsz (by simp only [Nat.min_def]; split <;> omega) hvl
   (fun j v hj => by
    rw [Addr.add_lit,hWc,hW1,World.cell?_setCells_out b _ _ _ _ (fun h _ => absurd h hvb)]
    exact hvs j v hj)
   (fun j hj => by rw [hWc,Nat.add_assoc]; exact hsp1 _ (by omega)) (fun j hj => by rw [hWf,hW1,World.frozen?_setCells,Nat.add_assoc]; exact hfz _ (by omega)) h1v
 rw [← hW1] at hcp1
 go_enter Tryz.func108,Tryz.ntmps108
 go_wp2_with (simp only [hov])
 go_region_law_o (refine step_copy_runI rfl _ _ 62 62 rfl _ _ (by simp [Act.eval,Act.put]) (by simp [Act.eval,Act.put]) (hcp1 _ _ _) ?_)
 go_wp2_with (at_builtin; refine wpList_copy_runI _ rfl _ _ 62 62 rfl _ _ rfl rfl (hcp2 _ (fun _ => rfl) (fun _ => rfl) _ _) ?_)
 go_ret
 first | exact ⟨rfl,rfl⟩ | exact ⟨rfl,by rw [hW1]⟩
set_option maxHeartbeats 4000000 in
set_option maxRecDepth 100000 in
/-- i < len(s), no room: a new row. -/
theorem zq765 (b off n c i vb voff m vc : Nat) (cs vs : List Value) (z : Value) (hz0 : (Tryz.prog.info? 32).map (·.zero) = some (some z)) (w : World) (hi : i < n) (hm : 0 < m) (hnc : n ≤ c) (hroom : c < n + m) (hbig : (n + m) * 24 ≤ 140737488355328)
  (hcl : cs.length = n * 3) (hvl : vs.length = m * 3)
  (hcs : ∀ j v,cs[j]? = some v → w.cell? ⟨b,off + j,none⟩ = some v)
  (hvs : ∀ j v,vs[j]? = some v → w.cell? ⟨vb,voff + j,none⟩ = some v) (h1c : ∀ v ∈ cs,v.oneCell' = true) (h1v : ∀ v ∈ vs,v.oneCell' = true) :
  Calls Tryz.prog 108 #[.slice (some ⟨b,off,none⟩) n c,.int .i64 i,.slice (some ⟨vb,voff,none⟩) m vc] w fun e w' =>
   e = .returned (.slice (some ⟨w.heap.size,0,none⟩) (n + m) (grownCap w (n + m) c 32)) ∧
   w' = (((w.alloc (.cells ((cs.take (i * 3)).toArray ++ Builtin.zeroCells z.cells (n + m - i) ++ Builtin.zeroCells z.cells (grownCap w (n + m) c 32 - (n + m))) 32)).drew.setCells w.heap.size (i * 3) vs).drew).setCells w.heap.size ((i + m) * 3) (cs.drop (i * 3)) := by
 have u30 := run_underlying Tryz.underlying62
 have z49 := zq1578
 have mixed := zq1121
 obtain ⟨i0,hi0,hz⟩ := zc7.1 zq754
 simp only [zc11] at hz
 obtain ⟨hzc,hzs,hzb⟩ := hz
 have hz0 : i0.zero = some z := by rw [hi0] at hz0; simpa using hz0
 have hzc : z.cells.size = 3 := by rw [hz0] at hzc; simpa using hzc
 have hz1 : ¬ ((m : Int) = 0) := by omega
 have hz2 : ¬ ((i : Int) = (n : Int)) := by omega
 have hz3 : (c : Int) < (n : Int) + (m : Int) := by omega
 have hsz : (Tryz.prog.info? 32).map (·.size) = some 3 := by rw [hi0]; simp [hzs]
 have hbw : b < w.heap.size := block_lt_of_cell (hcs 0 _ (zc0 (by omega)))
 have hvw : vb < w.heap.size := block_lt_of_cell (hvs 0 _ (zc0 (by omega)))
 have hkk : (n : Int) + (m : Int) - (i : Int) = ((n + m - i : Nat) : Int) := by omega
 have hik : i + (n + m - i) = n + m := by omega
 have hold : (Builtin.firstCells i0.size i (.slice (some ⟨b,off,none⟩) i c)).run Tryz.prog w.drew = .ok (cs.take (i * 3)).toArray w.drew := by
  rw [hzs]
  exact run_firstCells_some w.drew 3 i ⟨b,off,none⟩ i c (cs.take (i * 3)) (by rw [zc20]; omega) (fun j v hj => by
   rw [Addr.add_lit]
   rw [zc14] at hj
   split at hj
   ·exact hcs j v hj
   ·cases hj)
 have hrz : ∀ ty,(Builtin.append_ #[62,3] ty #[.slice (some ⟨b,off,none⟩) i c,.int .i64 ((n : Int) + (m : Int) - (i : Int))]).run Tryz.prog w =
   .ok (.slice (some ⟨w.heap.size,0,none⟩) (n + m) (grownCap w (n + m) c 32)) (w.drew.alloc (.cells ((cs.take (i * 3)).toArray ++ Builtin.zeroCells z.cells (n + m - i) ++ Builtin.zeroCells z.cells (grownCap w (n + m) c 32 - (n + m))) 32)) := fun ty => by
  have h := Lib.run_append_grow_zeros w 62 3 ty 32 i0 z .i64 .i64 Tryz.underlying62 Tryz.underlying3 hi0 hz0 (some ⟨b,off,none⟩) i c (cs.take (i * 3)) hold (n + m - i) (by omega) (by omega) (by omega) (by omega) (by rw [hzb]; omega) (by rw [hzb,hik]; exact growslice_fits hroom hbig)
  rw [hik] at h
  rw [hkk]
  exact h
 obtain ⟨G,hG⟩ : ∃ G,G = grownCap w (n + m) c 32 := ⟨_,rfl⟩
 obtain ⟨ROW,hROW⟩ : ∃ ROW : Array Value,ROW = (cs.take (i * 3)).toArray ++ Builtin.zeroCells z.cells (n + m - i) ++ Builtin.zeroCells z.cells (G - (n + m)) := ⟨_,rfl⟩
 rw [← hG] at hrz ⊢
 rw [← hROW] at hrz ⊢
 have hRl : (n + m) * 3 ≤ ROW.size := by
  rw [hROW]
  simp [Builtin.zeroCells,hzc]
  omega
 obtain ⟨W1,hW1⟩ : ∃ W1,W1 = w.drew.alloc (.cells ROW 32) := ⟨_,rfl⟩
 rw [← hW1] at hrz
 have hN : ∀ j,j < (n + m) * 3 → (W1.cell? ⟨w.heap.size,j,none⟩).isSome = true := fun j hj => by
  rw [hW1,World.cell?_alloc_at (w := w.drew) ROW _ w.heap.size j rfl,zc44 (by omega)]; rfl
 have hNf : ∀ j,W1.frozen? ⟨w.heap.size,j,none⟩ = false := fun j => by rw [hW1]; exact World.frozen?_alloc_at (w := w.drew) ROW _ w.heap.size j rfl
 have hOb : ∀ j v,w.cell? ⟨b,j,none⟩ = some v → W1.cell? ⟨b,j,none⟩ = some v := fun j v h => by rw [hW1,World.cell?_alloc_past (w := w.drew) _ b j hbw]; exact h
 have hOv : ∀ j v,w.cell? ⟨vb,j,none⟩ = some v → W1.cell? ⟨vb,j,none⟩ = some v := fun j v h => by rw [hW1,World.cell?_alloc_past (w := w.drew) _ vb j hvw]; exact h
 have hcpA : ∀ (W : World),(∀ x,W.cell? x = W1.cell? x) → (∀ x,W.frozen? x = W1.frozen? x) → ∀ ty dc,(Builtin.copy_ #[62,62] ty #[.slice (some ⟨w.heap.size,i * 3,none⟩) (n + m - i) dc,.slice (some ⟨vb,voff,none⟩) m vc]).run Tryz.prog W = .ok (goInt (m : Int)) (W.setCells w.heap.size (i * 3) vs) := fun W hWc hWf ty dc =>
  zq1503 W _ _ ty 32 3 w.heap.size (i * 3) (n + m - i) dc ⟨vb,voff,none⟩ m vc m vs Tryz.underlying62 hsz (by simp only [Nat.min_def]; split <;> omega) hvl
   (fun j v hj => by rw [Addr.add_lit,hWc]; exact hOv _ v (hvs j v hj))
   (fun j hj => by rw [hWc]; exact hN _ (by omega)) (fun j hj => by rw [hWf]; exact hNf _) h1v
 have hGn : n + m ≤ G := by rw [hG]; exact grownCap_ge w _ _ _
 have hG63 : G ≤ 9223372036854775807 := by
  have := grownCap_le_maxLen w (n + m) c 32 (by unfold maxLen; omega)
  rw [← hG] at this
  unfold maxLen at this
  omega
 have hGi : ¬ (G = i) := by omega
 have hGim : ¬ (G = i + m) := by omega
 have hci : ¬ (c = i) := by omega
 have hbN : b ≠ w.heap.size := by omega
 have hdl : (cs.drop (i * 3)).length = (n - i) * 3 := by rw [zc40,hcl]; omega
 have hcpB : ∀ (W : World),(∀ x,W.cell? x = (W1.setCells w.heap.size (i * 3) vs).cell? x) → (∀ x,W.frozen? x = (W1.setCells w.heap.size (i * 3) vs).frozen? x) → ∀ ty dc sc,(Builtin.copy_ #[62,62] ty #[.slice (some ⟨w.heap.size,(i + m) * 3,none⟩) (n + m - (i + m)) dc,.slice (some ⟨b,off + i * 3,none⟩) (n - i) sc]).run Tryz.prog W = .ok (goInt ((n - i : Nat) : Int)) (W.setCells w.heap.size ((i + m) * 3) (cs.drop (i * 3))) := fun W hWc hWf ty dc sc =>
  zq1503 W _ _ ty 32 3 w.heap.size ((i + m) * 3) (n + m - (i + m)) dc ⟨b,off + i * 3,none⟩ (n - i) sc (n - i) (cs.drop (i * 3)) Tryz.underlying62 hsz (by simp only [Nat.min_def]; split <;> omega) hdl
   (fun j v hj => by
    rw [Addr.add_lit,hWc,World.cell?_setCells_out _ _ _ _ _ (fun h _ => absurd h hbN),Nat.add_assoc]
    exact hOb _ v (hcs (i * 3 + j) v (by rwa [zc39] at hj)))
   (fun j hj => by rw [hWc]; exact isSome_setCells _ _ _ _ (fun t ht => hN _ (by omega)) _ (hN _ (by omega)))
   (fun j hj => by rw [hWf,World.frozen?_setCells]; exact hNf _) (fun v hv => h1c v (List.mem_of_mem_drop hv))
 subst hW1
 have hE1 : ∀ x,((w.alloc (.cells ROW 32)).drew).cell? x = (w.drew.alloc (.cells ROW 32)).cell? x := fun x => rfl
 have hE2 : ∀ x,((w.alloc (.cells ROW 32)).drew).frozen? x = (w.drew.alloc (.cells ROW 32)).frozen? x := fun x => rfl
 have hF1 : ∀ x,(((w.alloc (.cells ROW 32)).drew.setCells w.heap.size (i * 3) vs).drew).cell? x = ((w.drew.alloc (.cells ROW 32)).setCells w.heap.size (i * 3) vs).cell? x := fun x => rfl
 have hF2 : ∀ x,(((w.alloc (.cells ROW 32)).drew.setCells w.heap.size (i * 3) vs).drew).frozen? x = ((w.drew.alloc (.cells ROW 32)).setCells w.heap.size (i * 3) vs).frozen? x := fun x => rfl
 have hw1 : IntKind.i64.wrap ((i : Int) + (m : Int)) = (i : Int) + (m : Int) := by rw [IntKind.wrap_i64]; omega
 have hb1 : (0 : Int) ≤ (i : Int) + (m : Int) := by omega
 have hin : i ≤ n := by omega
 have htn : ((i : Int) + (m : Int)).toNat = i + m := by omega
 have hb3 : (i : Int) ≤ (n : Int) := by omega
 clear hkk hik hold hROW hG hRl
 go_enter Tryz.func108,Tryz.ntmps108
 go_wp2_with (first
  | (at_builtin; refine Lib.wpList_append_run _ rfl _ _ _ _ rfl _ _ rfl rfl _ _ (hrz _) ?_)
  | (at_builtin; refine wpList_copy_runI _ rfl _ _ 62 62 rfl _ _ rfl rfl (hcpA _ hE1 hE2 _ _) ?_)
  | (at_builtin; refine wpList_copy_runI _ rfl _ _ 62 62 rfl _ _ rfl rfl (hcpB _ (fun _ => rfl) (fun _ => rfl) _ _ _) ?_))
 go_region_law_o (refine step_copy_runI rfl _ _ 62 62 rfl (.slice (some ⟨w.heap.size,(i + m) * 3,none⟩) (n + m - (i + m)) (G - (i + m))) (.slice (some ⟨b,off + i * 3,none⟩) (n - i) (c - i)) (by simp [Act.eval,Act.put]) (by simp [Act.eval,Act.put]) (hcpB _ hF1 hF2 3 (G - (i + m)) (c - i)) ?_)
 go_wp2
 go_ret
 exact ⟨rfl,rfl⟩
set_option maxHeartbeats 4000000 in
set_option maxRecDepth 100000 in
/-- At the end: whatever append does. -/
theorem zq764 (v : Value) (base : Option Addr) (n c : Nat) (vb vc m : Nat) (v' : Value) (w w' : World) (hm : 0 < m) (hnc : n ≤ c)
  (hrun : ∀ ty,(Builtin.append_ #[62,62] ty #[.slice base n c,.slice (some ⟨vb,0,none⟩) m vc]).run Tryz.prog w = .ok v' w') (hsl : ∃ A N C,v' = .slice A N C) (hnil : base = none → n = 0) :
  Calls Tryz.prog 108 #[.slice base n c,.int .i64 n,.slice (some ⟨vb,0,none⟩) m vc] w fun e w2 => e = .returned v' ∧ w2 = w' := by
 have u30 := run_underlying Tryz.underlying62
 have z49 := zq1578
 have mixed := zq1121
 have hz1 : ¬ ((m : Int) = 0) := by omega
 obtain ⟨A,N,C,rfl⟩ := hsl
 go_enter Tryz.func108,Tryz.ntmps108
 cases base with
 | none =>
  have h0 := hnil rfl
  subst h0
  go_wp2_with (at_builtin; refine Lib.wpList_append_run _ rfl _ _ _ _ rfl _ _ rfl rfl _ _ (hrun _) ?_)
  all_goals (go_ret; exact ⟨rfl,rfl⟩)
 | some a =>
  obtain ⟨ab,ao,asp⟩ := a
  go_wp2_with (at_builtin; refine Lib.wpList_append_run _ rfl _ _ _ _ rfl _ _ rfl rfl _ _ (hrun _) ?_)
  all_goals (go_ret; exact ⟨rfl,rfl⟩)
theorem zq763 {arr : Array Value} {n i : Nat} {cs xs : List Value} (hi : i < n) (hcl : cs.length = n * 3) (hxl : xs.length = 3) (hsz : (n + 1) * 3 ≤ arr.size) (h0 : ∀ q,q < i * 3 → arr[q]? = cs[q]?) :
  (zq1526 (zq1526 arr ((i + 1) * 3) (cs.drop (i * 3))) (i * 3) xs).toList.take ((n + 1) * 3) = cs.take (i * 3) ++ xs ++ cs.drop (i * 3) ∧
  (zq1526 (zq1526 arr (i * 3) xs) ((i + 1) * 3) (cs.drop (i * 3))).toList.take ((n + 1) * 3) = cs.take (i * 3) ++ xs ++ cs.drop (i * 3) := by
 have hdl : (cs.drop (i * 3)).length = (n - i) * 3 := by rw [zc40,hcl]; omega
 have hrhs : ∀ q : Nat,(cs.take (i * 3) ++ xs ++ cs.drop (i * 3))[q]? = if q < i * 3 then cs[q]? else if q < (i + 1) * 3 then xs[q - i * 3]? else (cs.drop (i * 3))[q - (i + 1) * 3]? := by
  intro q
  rw [zc46,zc29,zc20,Nat.min_eq_left (by omega)]
  split
  ·rw [zc14,if_pos (by assumption)]
  ·rw [zc29,hxl]
   by_cases hq : q < (i + 1) * 3
   ·rw [if_pos (by omega),if_pos hq]
   ·rw [if_neg (by omega),if_neg hq]
    congr 1
    omega
 constructor
 ·apply List.ext_getElem?
  intro q
  rw [hrhs,zc14]
  by_cases hq : q < (n + 1) * 3
  ·rw [if_pos hq,zc25,zq1527 _ _ _ _ (by rw [zq1528]; omega)]
   by_cases h1 : q < i * 3
   ·rw [if_neg (by omega),if_pos h1,zq1527 _ _ _ _ (by omega),if_neg (by omega),h0 q h1]
   ·rw [if_neg h1]
    by_cases h2 : q < (i + 1) * 3
    ·rw [if_pos (by omega),if_pos h2]
    ·rw [if_neg (by omega),if_neg h2,zq1527 _ _ _ _ (by omega),if_pos (by omega)]
  ·rw [if_neg hq,if_neg (by omega),if_neg (by omega),zc22 (by omega)]
 ·apply List.ext_getElem?
  intro q
  rw [hrhs,zc14]
  by_cases hq : q < (n + 1) * 3
  ·rw [if_pos hq,zc25,zq1527 _ _ _ _ (by rw [zq1528]; omega)]
   by_cases h1 : q < i * 3
   ·rw [if_neg (by omega),if_pos h1,zq1527 _ _ _ _ (by omega),if_neg (by omega),h0 q h1]
   ·rw [if_neg h1]
    by_cases h2 : q < (i + 1) * 3
    ·rw [if_neg (by omega),if_pos h2,zq1527 _ _ _ _ (by omega),if_pos (by omega)]
    ·rw [if_pos (by omega),if_neg h2]
  ·rw [if_neg hq,if_neg (by omega),if_neg (by omega),zc22 (by omega)]
theorem zq766 (base : Nat) (w : World) (v u : Value) (n i : Nat) (cs xs : List Value) (h1 : w.ownsRow base 32 3 v n cs) (h2 : w.ownsRow base 32 3 u 1 xs) (hap : ∀ b,v.ownBlock = some b → u.ownBlock ≠ some b) (hc1 : ∀ x ∈ cs,oneC x = true) (hc2 : ∀ x ∈ xs,oneC x = true)
  (hbase : base ≤ w.heap.size) (hin : i ≤ n) (hbig : n + 1 ≤ 274877906944) :
  Calls Tryz.prog 108 #[v,.int .i64 (i : Int),u] w fun r w' => ∃ v',r = .returned v' ∧ w'.ownsRow base 32 3 v' (n + 1) (cs.take (i * 3) ++ xs ++ cs.drop (i * 3)) ∧ w.grownBy w' v.ownBlock ∧ (∀ b,v'.ownBlock = some b → v.ownBlock = some b ∨ w.heap.size ≤ b) := by
 obtain ⟨i0,hi0,hz⟩ := zc7.1 zq754
 simp only [zc11] at hz
 obtain ⟨hzc,hzs,hzb⟩ := hz
 obtain ⟨z,hz0,hzc⟩ := zc7.1 hzc
 have hcl := h1.1
 have hxl : xs.length = 3 := by have := h2.1; omega
 rcases h2.2 with ⟨_,h0⟩ | ⟨vb,vc,curv,rfl,hvbase,hvheap,hvc,hvcm,hvsz,hvtake⟩
 ·cases h0
 have hvs : ∀ j x,xs[j]? = some x → w.cell? ⟨vb,0 + j,none⟩ = some x := by
  intro j x hj
  rw [Nat.zero_add,zq378 hvheap,← zc25]
  rw [← hvtake,zc14] at hj
  split at hj
  ·exact hj
  ·cases hj
 have h1v : ∀ x ∈ xs,x.oneCell' = true := fun x hx => zq1178 (hc2 x hx)
 have h1c : ∀ x ∈ cs,x.oneCell' = true := fun x hx => zq1178 (hc1 x hx)
 by_cases hine : i = n
 ·subst hine
  have htd : cs.take (i * 3) ++ xs ++ cs.drop (i * 3) = cs ++ xs := by rw [List.take_of_length_le (by omega),zc18 (by omega),List.append_nil]
  rw [htd]
  have hown5 : w.ownsRow base 32 i0.size v i cs := by rw [hzs]; exact h1
  obtain ⟨v',w',hrun,hown',hgb,hblk⟩ := zq302 (P := Tryz.prog) w base 62 0 32 i0 z Tryz.underlying62 hi0 hz0 (by rw [hzs]; exact hzc) (by omega) v i cs hown5 (some ⟨vb,0,none⟩) 1 vc xs (by rw [hzs]; omega) (by simp)
   (fun ad had j x hj => by
    cases had
    rw [zq237]
    exact hvs j x hj) h1v (by unfold maxLen; omega) (by rw [hzb]; omega) hbase
  have hrun' : ∀ ty,(Builtin.append_ #[62,62] ty #[v,.slice (some ⟨vb,0,none⟩) 1 vc]).run Tryz.prog w = .ok v' w' := fun ty => by
   rw [← hrun]
   rfl
  rw [hzs] at hown'
  have hsl : ∃ A N C,v' = .slice A N C := by
   rcases hown'.2 with ⟨h,_⟩ | ⟨g,cp,cur,h,_⟩
   ·exact ⟨_,_,_,h⟩
   ·exact ⟨_,_,_,h⟩
  have hv : ∃ A c,v = .slice A i c ∧ i ≤ c ∧ (A = none → i = 0) := by
   rcases h1.2 with ⟨h,h0⟩ | ⟨g,cp,cur,h,_,_,hc,_⟩
   ·exact ⟨none,0,by rw [h,h0],by omega,fun _ => h0⟩
   ·exact ⟨_,cp,h,hc,fun h => by cases h⟩
  obtain ⟨A,c,rfl,hc,hnil⟩ := hv
  refine (zq764 (.slice A i c) A i c vb vc 1 v' w w' (by omega) hc hrun' hsl hnil).mono ?_
  rintro e w2 ⟨rfl,rfl⟩
  exact ⟨v',rfl,hown',hgb,hblk⟩
 ·have hi : i < n := by omega
  rcases h1.2 with ⟨_,h0⟩ | ⟨g,cap,cur,rfl,hgbase,hgheap,hnc,hcm,hgsz,hgtake⟩
  ·omega
  have hvbg : vb ≠ g := fun e => hap g rfl (by rw [e]; rfl)
  have hcs : ∀ j x,cs[j]? = some x → w.cell? ⟨g,0 + j,none⟩ = some x := by
   intro j x hj
   rw [Nat.zero_add,zq378 hgheap,← zc25]
   rw [← hgtake,zc14] at hj
   split at hj
   ·exact hj
   ·cases hj
  by_cases hroom : n + 1 ≤ cap
  ·refine (zq767 g 0 n cap i vb 0 1 vc cs xs w hi (by omega) hroom (by unfold maxLen at hcm; omega) hvbg hcl (by omega) hcs
    (fun j hj => by rw [Nat.zero_add,zq378 hgheap,zc44 (by omega)]; rfl) (fun j hj => by simp [World.frozen?,hgheap]) hvs h1c h1v 32 32 curv.size cur.size
    (by simp [World.shape?,hvheap]) (by simp [World.shape?,hgheap]) (by omega) (by simp [World.frozen?,hvheap]) (by simp [World.frozen?,hvheap])).mono ?_
   rintro e w' ⟨rfl,rfl⟩
   have hg0 : w.drew.heap[g]? = some (.cells cur 32 (0,0)) := hgheap
   obtain ⟨a1,a2,a3,a4,a5,a6⟩ := zq1530 w.drew g (0 + (i + 1) * 3) (cs.drop (i * 3)) cur 32 (0,0) hg0
   obtain ⟨b1,b2,b3,b4,b5,b6⟩ := zq1530 _ g (0 + i * 3) xs _ 32 (0,0) a1
   have hdl : (cs.drop (i * 3)).length = (n - i) * 3 := by rw [zc40,hcl]; omega
   refine ⟨_,rfl,⟨?_,.inr ⟨g,cap,_,rfl,hgbase,b1,hroom,hcm,by rw [zq1528,zq1528]; exact hgsz,?_⟩⟩,⟨b4.trans a4,b5.trans a5,b6.trans a6,by rw [b3,a3]; exact zc47 _,fun k hk hne => ?_⟩,fun b hb => .inl hb⟩
   ·simp only [zc24,zc20,hdl,hxl]; omega
   ·rw [Nat.zero_add,Nat.zero_add]
    refine (zq763 hi hcl hxl (by omega) fun q hq => ?_).1
    rw [← hgtake,zc14,if_pos (by omega),zc25]
   ·have hkg : k ≠ g := fun e => hne (by rw [e]; rfl)
    exact (b2 k hkg).trans (a2 k hkg)
  ·refine (zq765 g 0 n cap i vb 0 1 vc cs xs z (by rw [hi0]; simp [hz0]) w hi (by omega) hnc (by omega) (by omega) hcl (by omega) hcs hvs h1c h1v).mono ?_
   rintro e w' ⟨rfl,rfl⟩
   obtain ⟨G,hG⟩ : ∃ G,G = grownCap w (n + 1) cap 32 := ⟨_,rfl⟩
   have hGn : n + 1 ≤ G := by rw [hG]; exact grownCap_ge w _ _ _
   have hG63 : G ≤ maxLen := by rw [hG]; exact grownCap_le_maxLen w (n + 1) cap 32 (by unfold maxLen; omega)
   rw [← hG]
   obtain ⟨ROW,hROW⟩ : ∃ ROW : Array Value,ROW = (cs.take (i * 3)).toArray ++ Builtin.zeroCells z.cells (n + 1 - i) ++ Builtin.zeroCells z.cells (G - (n + 1)) := ⟨_,rfl⟩
   rw [← hROW]
   have hRs : ROW.size = G * 3 := by
    rw [hROW]
    simp [Builtin.zeroCells,hzc]
    omega
   have hR0 : ∀ q,q < i * 3 → ROW[q]? = cs[q]? := fun q hq => by
    rw [hROW,Array.append_assoc,Array.getElem?_append_left (by simp; omega)]
    simp only [List.getElem?_toArray,zc14,if_pos hq]
   have hh : ((w.alloc (.cells ROW 32)).drew).heap[w.heap.size]? = some (.cells ROW 32 (0,0)) := by
    show (w.heap.push _)[w.heap.size]? = _
    exact Array.getElem?_push_size
   obtain ⟨a1,a2,a3,a4,a5,a6⟩ := zq1530 _ w.heap.size (i * 3) xs ROW 32 (0,0) hh
   have a1' : (((w.alloc (.cells ROW 32)).drew.setCells w.heap.size (i * 3) xs).drew).heap[w.heap.size]? = _ := a1
   obtain ⟨b1,b2,b3,b4,b5,b6⟩ := zq1530 _ w.heap.size ((i + 1) * 3) (cs.drop (i * 3)) _ 32 (0,0) a1'
   have hdl : (cs.drop (i * 3)).length = (n - i) * 3 := by rw [zc40,hcl]; omega
   have hold : ∀ k,k < w.heap.size → ((w.alloc (.cells ROW 32)).drew).heap[k]? = w.heap[k]? := fun k hk => by
    show (w.heap.push _)[k]? = _
    rw [Array.getElem?_push,if_neg (by omega)]
   refine ⟨_,rfl,⟨?_,.inr ⟨w.heap.size,G,_,rfl,hbase,b1,hGn,hG63,by rw [zq1528,zq1528]; exact hRs,?_⟩⟩,⟨b4.trans a4,b5.trans a5,b6.trans a6,?_,fun k hk hne => ?_⟩,fun b hb => .inr ?_⟩
   ·simp only [zc24,zc20,hdl,hxl]; omega
   ·exact (zq763 hi hcl hxl (by omega) hR0).2
   ·rw [b3]
    show w.heap.size ≤ ((w.alloc (.cells ROW 32)).drew.setCells w.heap.size (i * 3) xs).heap.size
    rw [a3]
    show w.heap.size ≤ (w.heap.push _).size
    simp
   ·exact ((b2 k (by omega)).trans (a2 k (by omega))).trans (hold k hk)
   ·cases hb
    exact zc47 _
theorem zq756 : (Tryz.prog.info? 103).map (fun i => (i.zero.map (·.cells.size),i.size,i.bytes)) = some (some 5,5,56) := by kernel_rfl
theorem zq1580 (w : World) : (Go.sizeOf 103).run Tryz.prog w = .ok 5 w := by kernel_rfl
set_option maxHeartbeats 4000000 in
set_option maxRecDepth 100000 in
/-- There is room, i < len(s): in place. -/
theorem zq778 (b off n c i vb voff m vc : Nat) (cs vs : List Value) (w : World) (hi : i < n) (hm : 0 < m) (hroom : n + m ≤ c) (hc63 : c ≤ 9223372036854775807) (hvb : vb ≠ b)
  (hcl : cs.length = n * 5) (hvl : vs.length = m * 5)
  (hcs : ∀ j v,cs[j]? = some v → w.cell? ⟨b,off + j,none⟩ = some v) (hsp : ∀ j,j < (n + m) * 5 → (w.cell? ⟨b,off + j,none⟩).isSome = true) (hfz : ∀ j,j < (n + m) * 5 → w.frozen? ⟨b,off + j,none⟩ = false)
  (hvs : ∀ j v,vs[j]? = some v → w.cell? ⟨vb,voff + j,none⟩ = some v) (h1c : ∀ v ∈ cs,v.oneCell' = true) (h1v : ∀ v ∈ vs,v.oneCell' = true)
  (tA tB : TypeId) (kA kB : Nat) (hsa : w.shape? vb = some (tA,kA)) (hsb : w.shape? b = some (tB,kB)) (hkB : kB ≠ 0) (hfa : w.frozen? ⟨vb,voff,none⟩ = false) (hfe : w.frozen? ⟨vb,kA,none⟩ = false) :
  Calls Tryz.prog 104 #[.slice (some ⟨b,off,none⟩) n c,.int .i64 i,.slice (some ⟨vb,voff,none⟩) m vc] w fun e w' =>
   e = .returned (.slice (some ⟨b,off,none⟩) (n + m) c) ∧ w' = (w.drew.setCells b (off + (i + m) * 5) (cs.drop (i * 5))).setCells b (off + i * 5) vs := by
 have u30 := run_underlying Tryz.underlying58
 have z49 := zq1580
 have hz1 : ¬ ((m : Int) = 0) := by omega
 have hz2 : ¬ ((i : Int) = (n : Int)) := by omega
 have hsz : (Tryz.prog.info? 103).map (·.size) = some 5 := by
  obtain ⟨i0,hi0,hz⟩ := zc7.1 zq756
  simp only [zc11] at hz
  rw [hi0]; simp [hz.2.1]
 have hov : ∀ lb cb,(callFunc 119 #[.slice (some ⟨vb,voff,none⟩) m vc,.slice (some ⟨b,off + (i + m) * 5,none⟩) lb cb]).run Tryz.prog w = .ok (.value (.bool false)) w := fun lb cb => by
  rw [run_callFunc_extern Tryz.func119 (by kernel_rfl) (by kernel_rfl) (by kernel_rfl) (e := Extern.SlicesOverlaps.overlaps #[58,58] #[4]) (by kernel_rfl),
   Lib.run_overlaps_apart w 58 4 103 Tryz.underlying58 5 zq1580 ⟨vb,voff,none⟩ ⟨b,off + (i + m) * 5,none⟩ m vc lb cb hvb tA tB kA kB hsa hsb hkB hfa hfe]
  rfl
 have hdl : (cs.drop (i * 5)).length = (n - i) * 5 := by rw [zc40,hcl]; omega
 have mixed := zq1121
 have hw1 : IntKind.i64.wrap ((i : Int) + (m : Int)) = (i : Int) + (m : Int) := by rw [IntKind.wrap_i64]; omega
 have hb1 : (0 : Int) ≤ (i : Int) + (m : Int) := by omega
 have hin : i ≤ n := by omega
 have htn : ((i : Int) + (m : Int)).toNat = i + m := by omega
 have hb2 : ¬ (c = i + m) := by omega
 have hb3 : (i : Int) ≤ (n : Int) + (m : Int) := by omega
 have hb4 : ¬ (c = i) := by omega
 have hcp1 : ∀ ty dc sc,(Builtin.copy_ #[58,58] ty #[.slice (some ⟨b,off + (i + m) * 5,none⟩) (n + m - (i + m)) dc,.slice (some ⟨b,off + i * 5,none⟩) (n + m - i) sc]).run Tryz.prog w.drew = .ok (goInt ((n - i : Nat) : Int)) (w.drew.setCells b (off + (i + m) * 5) (cs.drop (i * 5))) := fun ty dc sc =>
  zq1503 w.drew _ _ ty 103 5 b (off + (i + m) * 5) (n + m - (i + m)) dc ⟨b,off + i * 5,none⟩ (n + m - i) sc (n - i) (cs.drop (i * 5)) Tryz.underlying58 hsz (by simp only [Nat.min_def]; split <;> omega) hdl
   (fun j v hj => by rw [Addr.add_lit,Nat.add_assoc]; exact hcs (i * 5 + j) v (by rwa [zc39] at hj))
   (fun j hj => by rw [Nat.add_assoc]; exact hsp _ (by omega)) (fun j hj => by rw [Nat.add_assoc]; exact hfz _ (by omega)) (fun v hv => h1c v (List.mem_of_mem_drop hv))
 obtain ⟨W1,hW1⟩ : ∃ W1,W1 = w.drew.setCells b (off + (i + m) * 5) (cs.drop (i * 5)) := ⟨_,rfl⟩
 have hsp1 : ∀ k,k < (n + m) * 5 → (W1.cell? ⟨b,off + k,none⟩).isSome = true := fun k hk => by
  rw [hW1]
  exact isSome_setCells b _ _ _ (fun j hj => by rw [Nat.add_assoc]; exact hsp _ (by omega)) _ (hsp k hk)
 have hcp2 : ∀ (W : World),(∀ x,W.cell? x = W1.cell? x) → (∀ x,W.frozen? x = W1.frozen? x) → ∀ ty dc,(Builtin.copy_ #[58,58] ty #[.slice (some ⟨b,off + i * 5,none⟩) (n + m - i) dc,.slice (some ⟨vb,voff,none⟩) m vc]).run Tryz.prog W = .ok (goInt m) (W.setCells b (off + i * 5) vs) := fun W hWc hWf ty dc =>
  zq1503 W _ _ ty 103 5 b (off + i * 5) (n + m - i) dc ⟨vb,voff,none⟩ m vc m vs Tryz.underlying58 hsz (by simp only [Nat.min_def]; split <;> omega) hvl
   (fun j v hj => by
    rw [Addr.add_lit,hWc,hW1,World.cell?_setCells_out b _ _ _ _ (fun h _ => absurd h hvb)]
    exact hvs j v hj)
   (fun j hj => by rw [hWc,Nat.add_assoc]; exact hsp1 _ (by omega)) (fun j hj => by rw [hWf,hW1,World.frozen?_setCells,Nat.add_assoc]; exact hfz _ (by omega)) h1v
 rw [← hW1] at hcp1
 go_enter Tryz.func104,Tryz.ntmps104
 go_wp2_with (simp only [hov])
 go_region_law_o (refine step_copy_runI rfl _ _ 58 58 rfl _ _ (by simp [Act.eval,Act.put]) (by simp [Act.eval,Act.put]) (hcp1 _ _ _) ?_)
 go_wp2_with (at_builtin; refine wpList_copy_runI _ rfl _ _ 58 58 rfl _ _ rfl rfl (hcp2 _ (fun _ => rfl) (fun _ => rfl) _ _) ?_)
 go_ret
 first | exact ⟨rfl,rfl⟩ | exact ⟨rfl,by rw [hW1]⟩
set_option maxHeartbeats 4000000 in
set_option maxRecDepth 100000 in
/-- i < len(s), no room: a new row. -/
theorem zq776 (b off n c i vb voff m vc : Nat) (cs vs : List Value) (z : Value) (hz0 : (Tryz.prog.info? 103).map (·.zero) = some (some z)) (w : World) (hi : i < n) (hm : 0 < m) (hnc : n ≤ c) (hroom : c < n + m) (hbig : (n + m) * 56 ≤ 140737488355328)
  (hcl : cs.length = n * 5) (hvl : vs.length = m * 5)
  (hcs : ∀ j v,cs[j]? = some v → w.cell? ⟨b,off + j,none⟩ = some v)
  (hvs : ∀ j v,vs[j]? = some v → w.cell? ⟨vb,voff + j,none⟩ = some v) (h1c : ∀ v ∈ cs,v.oneCell' = true) (h1v : ∀ v ∈ vs,v.oneCell' = true) :
  Calls Tryz.prog 104 #[.slice (some ⟨b,off,none⟩) n c,.int .i64 i,.slice (some ⟨vb,voff,none⟩) m vc] w fun e w' =>
   e = .returned (.slice (some ⟨w.heap.size,0,none⟩) (n + m) (grownCap w (n + m) c 103)) ∧
   w' = (((w.alloc (.cells ((cs.take (i * 5)).toArray ++ Builtin.zeroCells z.cells (n + m - i) ++ Builtin.zeroCells z.cells (grownCap w (n + m) c 103 - (n + m))) 103)).drew.setCells w.heap.size (i * 5) vs).drew).setCells w.heap.size ((i + m) * 5) (cs.drop (i * 5)) := by
 have u30 := run_underlying Tryz.underlying58
 have z49 := zq1580
 have mixed := zq1121
 obtain ⟨i0,hi0,hz⟩ := zc7.1 zq756
 simp only [zc11] at hz
 obtain ⟨hzc,hzs,hzb⟩ := hz
 have hz0 : i0.zero = some z := by rw [hi0] at hz0; simpa using hz0
 have hzc : z.cells.size = 5 := by rw [hz0] at hzc; simpa using hzc
 have hz1 : ¬ ((m : Int) = 0) := by omega
 have hz2 : ¬ ((i : Int) = (n : Int)) := by omega
 have hz3 : (c : Int) < (n : Int) + (m : Int) := by omega
 have hsz : (Tryz.prog.info? 103).map (·.size) = some 5 := by rw [hi0]; simp [hzs]
 have hbw : b < w.heap.size := block_lt_of_cell (hcs 0 _ (zc0 (by omega)))
 have hvw : vb < w.heap.size := block_lt_of_cell (hvs 0 _ (zc0 (by omega)))
 have hkk : (n : Int) + (m : Int) - (i : Int) = ((n + m - i : Nat) : Int) := by omega
 have hik : i + (n + m - i) = n + m := by omega
 have hold : (Builtin.firstCells i0.size i (.slice (some ⟨b,off,none⟩) i c)).run Tryz.prog w.drew = .ok (cs.take (i * 5)).toArray w.drew := by
  rw [hzs]
  exact run_firstCells_some w.drew 5 i ⟨b,off,none⟩ i c (cs.take (i * 5)) (by rw [zc20]; omega) (fun j v hj => by
   rw [Addr.add_lit]
   rw [zc14] at hj
   split at hj
   ·exact hcs j v hj
   ·cases hj)
 have hrz : ∀ ty,(Builtin.append_ #[58,3] ty #[.slice (some ⟨b,off,none⟩) i c,.int .i64 ((n : Int) + (m : Int) - (i : Int))]).run Tryz.prog w =
   .ok (.slice (some ⟨w.heap.size,0,none⟩) (n + m) (grownCap w (n + m) c 103)) (w.drew.alloc (.cells ((cs.take (i * 5)).toArray ++ Builtin.zeroCells z.cells (n + m - i) ++ Builtin.zeroCells z.cells (grownCap w (n + m) c 103 - (n + m))) 103)) := fun ty => by
  have h := Lib.run_append_grow_zeros w 58 3 ty 103 i0 z .i64 .i64 Tryz.underlying58 Tryz.underlying3 hi0 hz0 (some ⟨b,off,none⟩) i c (cs.take (i * 5)) hold (n + m - i) (by omega) (by omega) (by omega) (by omega) (by rw [hzb]; omega) (by rw [hzb,hik]; exact growslice_fits hroom hbig)
  rw [hik] at h
  rw [hkk]
  exact h
 obtain ⟨G,hG⟩ : ∃ G,G = grownCap w (n + m) c 103 := ⟨_,rfl⟩
 obtain ⟨ROW,hROW⟩ : ∃ ROW : Array Value,ROW = (cs.take (i * 5)).toArray ++ Builtin.zeroCells z.cells (n + m - i) ++ Builtin.zeroCells z.cells (G - (n + m)) := ⟨_,rfl⟩
 rw [← hG] at hrz ⊢
 rw [← hROW] at hrz ⊢
 have hRl : (n + m) * 5 ≤ ROW.size := by
  rw [hROW]
  simp [Builtin.zeroCells,hzc]
  omega
 obtain ⟨W1,hW1⟩ : ∃ W1,W1 = w.drew.alloc (.cells ROW 103) := ⟨_,rfl⟩
 rw [← hW1] at hrz
 have hN : ∀ j,j < (n + m) * 5 → (W1.cell? ⟨w.heap.size,j,none⟩).isSome = true := fun j hj => by
  rw [hW1,World.cell?_alloc_at (w := w.drew) ROW _ w.heap.size j rfl,zc44 (by omega)]; rfl
 have hNf : ∀ j,W1.frozen? ⟨w.heap.size,j,none⟩ = false := fun j => by rw [hW1]; exact World.frozen?_alloc_at (w := w.drew) ROW _ w.heap.size j rfl
 have hOb : ∀ j v,w.cell? ⟨b,j,none⟩ = some v → W1.cell? ⟨b,j,none⟩ = some v := fun j v h => by rw [hW1,World.cell?_alloc_past (w := w.drew) _ b j hbw]; exact h
 have hOv : ∀ j v,w.cell? ⟨vb,j,none⟩ = some v → W1.cell? ⟨vb,j,none⟩ = some v := fun j v h => by rw [hW1,World.cell?_alloc_past (w := w.drew) _ vb j hvw]; exact h
 have hcpA : ∀ (W : World),(∀ x,W.cell? x = W1.cell? x) → (∀ x,W.frozen? x = W1.frozen? x) → ∀ ty dc,(Builtin.copy_ #[58,58] ty #[.slice (some ⟨w.heap.size,i * 5,none⟩) (n + m - i) dc,.slice (some ⟨vb,voff,none⟩) m vc]).run Tryz.prog W = .ok (goInt (m : Int)) (W.setCells w.heap.size (i * 5) vs) := fun W hWc hWf ty dc =>
  zq1503 W _ _ ty 103 5 w.heap.size (i * 5) (n + m - i) dc ⟨vb,voff,none⟩ m vc m vs Tryz.underlying58 hsz (by simp only [Nat.min_def]; split <;> omega) hvl
   (fun j v hj => by rw [Addr.add_lit,hWc]; exact hOv _ v (hvs j v hj))
   (fun j hj => by rw [hWc]; exact hN _ (by omega)) (fun j hj => by rw [hWf]; exact hNf _) h1v
 have hGn : n + m ≤ G := by rw [hG]; exact grownCap_ge w _ _ _
 have hG63 : G ≤ 9223372036854775807 := by
  have := grownCap_le_maxLen w (n + m) c 103 (by unfold maxLen; omega)
  rw [← hG] at this
  unfold maxLen at this
  omega
 have hGi : ¬ (G = i) := by omega
 have hGim : ¬ (G = i + m) := by omega
 have hci : ¬ (c = i) := by omega
 have hbN : b ≠ w.heap.size := by omega
 have hdl : (cs.drop (i * 5)).length = (n - i) * 5 := by rw [zc40,hcl]; omega
 have hcpB : ∀ (W : World),(∀ x,W.cell? x = (W1.setCells w.heap.size (i * 5) vs).cell? x) → (∀ x,W.frozen? x = (W1.setCells w.heap.size (i * 5) vs).frozen? x) → ∀ ty dc sc,(Builtin.copy_ #[58,58] ty #[.slice (some ⟨w.heap.size,(i + m) * 5,none⟩) (n + m - (i + m)) dc,.slice (some ⟨b,off + i * 5,none⟩) (n - i) sc]).run Tryz.prog W = .ok (goInt ((n - i : Nat) : Int)) (W.setCells w.heap.size ((i + m) * 5) (cs.drop (i * 5))) := fun W hWc hWf ty dc sc =>
  zq1503 W _ _ ty 103 5 w.heap.size ((i + m) * 5) (n + m - (i + m)) dc ⟨b,off + i * 5,none⟩ (n - i) sc (n - i) (cs.drop (i * 5)) Tryz.underlying58 hsz (by simp only [Nat.min_def]; split <;> omega) hdl
   (fun j v hj => by
    rw [Addr.add_lit,hWc,World.cell?_setCells_out _ _ _ _ _ (fun h _ => absurd h hbN),Nat.add_assoc]
    exact hOb _ v (hcs (i * 5 + j) v (by rwa [zc39] at hj)))
   (fun j hj => by rw [hWc]; exact isSome_setCells _ _ _ _ (fun t ht => hN _ (by omega)) _ (hN _ (by omega)))
   (fun j hj => by rw [hWf,World.frozen?_setCells]; exact hNf _) (fun v hv => h1c v (List.mem_of_mem_drop hv))
 subst hW1
 have hE1 : ∀ x,((w.alloc (.cells ROW 103)).drew).cell? x = (w.drew.alloc (.cells ROW 103)).cell? x := fun x => rfl
 have hE2 : ∀ x,((w.alloc (.cells ROW 103)).drew).frozen? x = (w.drew.alloc (.cells ROW 103)).frozen? x := fun x => rfl
 have hF1 : ∀ x,(((w.alloc (.cells ROW 103)).drew.setCells w.heap.size (i * 5) vs).drew).cell? x = ((w.drew.alloc (.cells ROW 103)).setCells w.heap.size (i * 5) vs).cell? x := fun x => rfl
 have hF2 : ∀ x,(((w.alloc (.cells ROW 103)).drew.setCells w.heap.size (i * 5) vs).drew).frozen? x = ((w.drew.alloc (.cells ROW 103)).setCells w.heap.size (i * 5) vs).frozen? x := fun x => rfl
 have hw1 : IntKind.i64.wrap ((i : Int) + (m : Int)) = (i : Int) + (m : Int) := by rw [IntKind.wrap_i64]; omega
 have hb1 : (0 : Int) ≤ (i : Int) + (m : Int) := by omega
 have hin : i ≤ n := by omega
 have htn : ((i : Int) + (m : Int)).toNat = i + m := by omega
 have hb3 : (i : Int) ≤ (n : Int) := by omega
 clear hkk hik hold hROW hG hRl
 go_enter Tryz.func104,Tryz.ntmps104
 go_wp2_with (first
  | (at_builtin; refine Lib.wpList_append_run _ rfl _ _ _ _ rfl _ _ rfl rfl _ _ (hrz _) ?_)
  | (at_builtin; refine wpList_copy_runI _ rfl _ _ 58 58 rfl _ _ rfl rfl (hcpA _ hE1 hE2 _ _) ?_)
  | (at_builtin; refine wpList_copy_runI _ rfl _ _ 58 58 rfl _ _ rfl rfl (hcpB _ (fun _ => rfl) (fun _ => rfl) _ _ _) ?_))
 go_region_law_o (refine step_copy_runI rfl _ _ 58 58 rfl (.slice (some ⟨w.heap.size,(i + m) * 5,none⟩) (n + m - (i + m)) (G - (i + m))) (.slice (some ⟨b,off + i * 5,none⟩) (n - i) (c - i)) (by simp [Act.eval,Act.put]) (by simp [Act.eval,Act.put]) (hcpB _ hF1 hF2 3 (G - (i + m)) (c - i)) ?_)
 go_wp2
 go_ret
 exact ⟨rfl,rfl⟩
set_option maxHeartbeats 4000000 in
set_option maxRecDepth 100000 in
/-- At the end: whatever append does. -/
theorem zq775 (v : Value) (base : Option Addr) (n c : Nat) (vb vc m : Nat) (v' : Value) (w w' : World) (hm : 0 < m) (hnc : n ≤ c)
  (hrun : ∀ ty,(Builtin.append_ #[58,58] ty #[.slice base n c,.slice (some ⟨vb,0,none⟩) m vc]).run Tryz.prog w = .ok v' w') (hsl : ∃ A N C,v' = .slice A N C) (hnil : base = none → n = 0) :
  Calls Tryz.prog 104 #[.slice base n c,.int .i64 n,.slice (some ⟨vb,0,none⟩) m vc] w fun e w2 => e = .returned v' ∧ w2 = w' := by
 have u30 := run_underlying Tryz.underlying58
 have z49 := zq1580
 have mixed := zq1121
 have hz1 : ¬ ((m : Int) = 0) := by omega
 obtain ⟨A,N,C,rfl⟩ := hsl
 go_enter Tryz.func104,Tryz.ntmps104
 cases base with
 | none =>
  have h0 := hnil rfl
  subst h0
  go_wp2_with (at_builtin; refine Lib.wpList_append_run _ rfl _ _ _ _ rfl _ _ rfl rfl _ _ (hrun _) ?_)
  all_goals (go_ret; exact ⟨rfl,rfl⟩)
 | some a =>
  obtain ⟨ab,ao,asp⟩ := a
  go_wp2_with (at_builtin; refine Lib.wpList_append_run _ rfl _ _ _ _ rfl _ _ rfl rfl _ _ (hrun _) ?_)
  all_goals (go_ret; exact ⟨rfl,rfl⟩)
theorem zq774 {arr : Array Value} {n i : Nat} {cs xs : List Value} (hi : i < n) (hcl : cs.length = n * 5) (hxl : xs.length = 5) (hsz : (n + 1) * 5 ≤ arr.size) (h0 : ∀ q,q < i * 5 → arr[q]? = cs[q]?) :
  (zq1526 (zq1526 arr ((i + 1) * 5) (cs.drop (i * 5))) (i * 5) xs).toList.take ((n + 1) * 5) = cs.take (i * 5) ++ xs ++ cs.drop (i * 5) ∧
  (zq1526 (zq1526 arr (i * 5) xs) ((i + 1) * 5) (cs.drop (i * 5))).toList.take ((n + 1) * 5) = cs.take (i * 5) ++ xs ++ cs.drop (i * 5) := by
 have hdl : (cs.drop (i * 5)).length = (n - i) * 5 := by rw [zc40,hcl]; omega
 have hrhs : ∀ q : Nat,(cs.take (i * 5) ++ xs ++ cs.drop (i * 5))[q]? = if q < i * 5 then cs[q]? else if q < (i + 1) * 5 then xs[q - i * 5]? else (cs.drop (i * 5))[q - (i + 1) * 5]? := by
  intro q
  rw [zc46,zc29,zc20,Nat.min_eq_left (by omega)]
  split
  ·rw [zc14,if_pos (by assumption)]
  ·rw [zc29,hxl]
   by_cases hq : q < (i + 1) * 5
   ·rw [if_pos (by omega),if_pos hq]
   ·rw [if_neg (by omega),if_neg hq]
    congr 1
    omega
 constructor
 ·apply List.ext_getElem?
  intro q
  rw [hrhs,zc14]
  by_cases hq : q < (n + 1) * 5
  ·rw [if_pos hq,zc25,zq1527 _ _ _ _ (by rw [zq1528]; omega)]
   by_cases h1 : q < i * 5
   ·rw [if_neg (by omega),if_pos h1,zq1527 _ _ _ _ (by omega),if_neg (by omega),h0 q h1]
   ·rw [if_neg h1]
    by_cases h2 : q < (i + 1) * 5
    ·rw [if_pos (by omega),if_pos h2]
    ·rw [if_neg (by omega),if_neg h2,zq1527 _ _ _ _ (by omega),if_pos (by omega)]
  ·rw [if_neg hq,if_neg (by omega),if_neg (by omega),zc22 (by omega)]
 ·apply List.ext_getElem?
  intro q
  rw [hrhs,zc14]
  by_cases hq : q < (n + 1) * 5
  ·rw [if_pos hq,zc25,zq1527 _ _ _ _ (by rw [zq1528]; omega)]
   by_cases h1 : q < i * 5
   ·rw [if_neg (by omega),if_pos h1,zq1527 _ _ _ _ (by omega),if_neg (by omega),h0 q h1]
   ·rw [if_neg h1]
    by_cases h2 : q < (i + 1) * 5
    ·rw [if_neg (by omega),if_pos h2,zq1527 _ _ _ _ (by omega),if_pos (by omega)]
    ·rw [if_pos (by omega),if_neg h2]
  ·rw [if_neg hq,if_neg (by omega),if_neg (by omega),zc22 (by omega)]
theorem zq777 (base : Nat) (w : World) (v u : Value) (n i : Nat) (cs xs : List Value) (h1 : w.ownsRow base 103 5 v n cs) (h2 : w.ownsRow base 103 5 u 1 xs) (hap : ∀ b,v.ownBlock = some b → u.ownBlock ≠ some b) (hc1 : ∀ x ∈ cs,oneC x = true) (hc2 : ∀ x ∈ xs,oneC x = true)
  (hbase : base ≤ w.heap.size) (hin : i ≤ n) (hbig : n + 1 ≤ 274877906944) :
  Calls Tryz.prog 104 #[v,.int .i64 (i : Int),u] w fun r w' => ∃ v',r = .returned v' ∧ w'.ownsRow base 103 5 v' (n + 1) (cs.take (i * 5) ++ xs ++ cs.drop (i * 5)) ∧ w.grownBy w' v.ownBlock ∧ (∀ b,v'.ownBlock = some b → v.ownBlock = some b ∨ w.heap.size ≤ b) := by
 obtain ⟨i0,hi0,hz⟩ := zc7.1 zq756
 simp only [zc11] at hz
 obtain ⟨hzc,hzs,hzb⟩ := hz
 obtain ⟨z,hz0,hzc⟩ := zc7.1 hzc
 have hcl := h1.1
 have hxl : xs.length = 5 := by have := h2.1; omega
 rcases h2.2 with ⟨_,h0⟩ | ⟨vb,vc,curv,rfl,hvbase,hvheap,hvc,hvcm,hvsz,hvtake⟩
 ·cases h0
 have hvs : ∀ j x,xs[j]? = some x → w.cell? ⟨vb,0 + j,none⟩ = some x := by
  intro j x hj
  rw [Nat.zero_add,zq378 hvheap,← zc25]
  rw [← hvtake,zc14] at hj
  split at hj
  ·exact hj
  ·cases hj
 have h1v : ∀ x ∈ xs,x.oneCell' = true := fun x hx => zq1178 (hc2 x hx)
 have h1c : ∀ x ∈ cs,x.oneCell' = true := fun x hx => zq1178 (hc1 x hx)
 by_cases hine : i = n
 ·subst hine
  have htd : cs.take (i * 5) ++ xs ++ cs.drop (i * 5) = cs ++ xs := by rw [List.take_of_length_le (by omega),zc18 (by omega),List.append_nil]
  rw [htd]
  have hown5 : w.ownsRow base 103 i0.size v i cs := by rw [hzs]; exact h1
  obtain ⟨v',w',hrun,hown',hgb,hblk⟩ := zq302 (P := Tryz.prog) w base 58 0 103 i0 z Tryz.underlying58 hi0 hz0 (by rw [hzs]; exact hzc) (by omega) v i cs hown5 (some ⟨vb,0,none⟩) 1 vc xs (by rw [hzs]; omega) (by simp)
   (fun ad had j x hj => by
    cases had
    rw [zq237]
    exact hvs j x hj) h1v (by unfold maxLen; omega) (by rw [hzb]; omega) hbase
  have hrun' : ∀ ty,(Builtin.append_ #[58,58] ty #[v,.slice (some ⟨vb,0,none⟩) 1 vc]).run Tryz.prog w = .ok v' w' := fun ty => by
   rw [← hrun]
   rfl
  rw [hzs] at hown'
  have hsl : ∃ A N C,v' = .slice A N C := by
   rcases hown'.2 with ⟨h,_⟩ | ⟨g,cp,cur,h,_⟩
   ·exact ⟨_,_,_,h⟩
   ·exact ⟨_,_,_,h⟩
  have hv : ∃ A c,v = .slice A i c ∧ i ≤ c ∧ (A = none → i = 0) := by
   rcases h1.2 with ⟨h,h0⟩ | ⟨g,cp,cur,h,_,_,hc,_⟩
   ·exact ⟨none,0,by rw [h,h0],by omega,fun _ => h0⟩
   ·exact ⟨_,cp,h,hc,fun h => by cases h⟩
  obtain ⟨A,c,rfl,hc,hnil⟩ := hv
  refine (zq775 (.slice A i c) A i c vb vc 1 v' w w' (by omega) hc hrun' hsl hnil).mono ?_
  rintro e w2 ⟨rfl,rfl⟩
  exact ⟨v',rfl,hown',hgb,hblk⟩
 ·have hi : i < n := by omega
  rcases h1.2 with ⟨_,h0⟩ | ⟨g,cap,cur,rfl,hgbase,hgheap,hnc,hcm,hgsz,hgtake⟩
  ·omega
  have hvbg : vb ≠ g := fun e => hap g rfl (by rw [e]; rfl)
  have hcs : ∀ j x,cs[j]? = some x → w.cell? ⟨g,0 + j,none⟩ = some x := by
   intro j x hj
   rw [Nat.zero_add,zq378 hgheap,← zc25]
   rw [← hgtake,zc14] at hj
   split at hj
   ·exact hj
   ·cases hj
  by_cases hroom : n + 1 ≤ cap
  ·refine (zq778 g 0 n cap i vb 0 1 vc cs xs w hi (by omega) hroom (by unfold maxLen at hcm; omega) hvbg hcl (by omega) hcs
    (fun j hj => by rw [Nat.zero_add,zq378 hgheap,zc44 (by omega)]; rfl) (fun j hj => by simp [World.frozen?,hgheap]) hvs h1c h1v 103 103 curv.size cur.size
    (by simp [World.shape?,hvheap]) (by simp [World.shape?,hgheap]) (by omega) (by simp [World.frozen?,hvheap]) (by simp [World.frozen?,hvheap])).mono ?_
   rintro e w' ⟨rfl,rfl⟩
   have hg0 : w.drew.heap[g]? = some (.cells cur 103 (0,0)) := hgheap
   obtain ⟨a1,a2,a3,a4,a5,a6⟩ := zq1530 w.drew g (0 + (i + 1) * 5) (cs.drop (i * 5)) cur 103 (0,0) hg0
   obtain ⟨b1,b2,b3,b4,b5,b6⟩ := zq1530 _ g (0 + i * 5) xs _ 103 (0,0) a1
   have hdl : (cs.drop (i * 5)).length = (n - i) * 5 := by rw [zc40,hcl]; omega
   refine ⟨_,rfl,⟨?_,.inr ⟨g,cap,_,rfl,hgbase,b1,hroom,hcm,by rw [zq1528,zq1528]; exact hgsz,?_⟩⟩,⟨b4.trans a4,b5.trans a5,b6.trans a6,by rw [b3,a3]; exact zc47 _,fun k hk hne => ?_⟩,fun b hb => .inl hb⟩
   ·simp only [zc24,zc20,hdl,hxl]; omega
   ·rw [Nat.zero_add,Nat.zero_add]
    refine (zq774 hi hcl hxl (by omega) fun q hq => ?_).1
    rw [← hgtake,zc14,if_pos (by omega),zc25]
   ·have hkg : k ≠ g := fun e => hne (by rw [e]; rfl)
    exact (b2 k hkg).trans (a2 k hkg)
  ·refine (zq776 g 0 n cap i vb 0 1 vc cs xs z (by rw [hi0]; simp [hz0]) w hi (by omega) hnc (by omega) (by omega) hcl (by omega) hcs hvs h1c h1v).mono ?_
   rintro e w' ⟨rfl,rfl⟩
   obtain ⟨G,hG⟩ : ∃ G,G = grownCap w (n + 1) cap 103 := ⟨_,rfl⟩
   have hGn : n + 1 ≤ G := by rw [hG]; exact grownCap_ge w _ _ _
   have hG63 : G ≤ maxLen := by rw [hG]; exact grownCap_le_maxLen w (n + 1) cap 103 (by unfold maxLen; omega)
   rw [← hG]
   obtain ⟨ROW,hROW⟩ : ∃ ROW : Array Value,ROW = (cs.take (i * 5)).toArray ++ Builtin.zeroCells z.cells (n + 1 - i) ++ Builtin.zeroCells z.cells (G - (n + 1)) := ⟨_,rfl⟩
   rw [← hROW]
   have hRs : ROW.size = G * 5 := by
    rw [hROW]
    simp [Builtin.zeroCells,hzc]
    omega
   have hR0 : ∀ q,q < i * 5 → ROW[q]? = cs[q]? := fun q hq => by
    rw [hROW,Array.append_assoc,Array.getElem?_append_left (by simp; omega)]
    simp only [List.getElem?_toArray,zc14,if_pos hq]
   have hh : ((w.alloc (.cells ROW 103)).drew).heap[w.heap.size]? = some (.cells ROW 103 (0,0)) := by
    show (w.heap.push _)[w.heap.size]? = _
    exact Array.getElem?_push_size
   obtain ⟨a1,a2,a3,a4,a5,a6⟩ := zq1530 _ w.heap.size (i * 5) xs ROW 103 (0,0) hh
   have a1' : (((w.alloc (.cells ROW 103)).drew.setCells w.heap.size (i * 5) xs).drew).heap[w.heap.size]? = _ := a1
   obtain ⟨b1,b2,b3,b4,b5,b6⟩ := zq1530 _ w.heap.size ((i + 1) * 5) (cs.drop (i * 5)) _ 103 (0,0) a1'
   have hdl : (cs.drop (i * 5)).length = (n - i) * 5 := by rw [zc40,hcl]; omega
   have hold : ∀ k,k < w.heap.size → ((w.alloc (.cells ROW 103)).drew).heap[k]? = w.heap[k]? := fun k hk => by
    show (w.heap.push _)[k]? = _
    rw [Array.getElem?_push,if_neg (by omega)]
   refine ⟨_,rfl,⟨?_,.inr ⟨w.heap.size,G,_,rfl,hbase,b1,hGn,hG63,by rw [zq1528,zq1528]; exact hRs,?_⟩⟩,⟨b4.trans a4,b5.trans a5,b6.trans a6,?_,fun k hk hne => ?_⟩,fun b hb => .inr ?_⟩
   ·simp only [zc24,zc20,hdl,hxl]; omega
   ·exact (zq774 hi hcl hxl (by omega) hR0).2
   ·rw [b3]
    show w.heap.size ≤ ((w.alloc (.cells ROW 103)).drew.setCells w.heap.size (i * 5) xs).heap.size
    rw [a3]
    show w.heap.size ≤ (w.heap.push _).size
    simp
   ·exact ((b2 k (by omega)).trans (a2 k (by omega))).trans (hold k hk)
   ·cases hb
    exact zc47 _
def zq1618 : Con := zq1769 (zq769 .addr 32)
theorem zq1619 : TrOk Tryz.prog 108 zq1618 := zq1770 (zq786 .addr 32 zq766)
def zq1622 : Con := zq771 .pfx .addr 103 32
theorem zq1623 : TrOk Tryz.prog 104 zq1622 := zq773 .pfx .addr 103 32 zq777
end Go.Proofs.YtjolfddpghkabaaGreat
namespace Go.Proofs.YtjolfddpghkabaaGreat
open Go Go.Ma Go.RowKit Go.Lib Go.Proofs
theorem zq1502 {P : Program} (w : World) (t e : TypeId) (z : Value) (s : Nat) (ht : P.underlying t = some (.slice e)) (hv : ∀ w,(zeroValue e).run P w = .ok z w) (hz : z.cells.size = s) (h1 : ∀ v ∈ z.cells.toList,v.oneCell' = true) (b o n : Nat) (hn : 0 < n)
  (hc : ∀ j,j < n * s → (w.cell? ⟨b,o + j,none⟩).isSome = true) (hf : ∀ j,j < n * s → w.frozen? ⟨b,o + j,none⟩ = false) :
  ∃ Z : List Value,Z.length = n * s ∧ ∀ ty c,(Builtin.clear_ #[t] ty #[.slice (some ⟨b,o,none⟩) n c]).run P w = .ok (.tuple #[]) (w.setCells b o Z) := by
 have hlen : (Builtin.zeroCells z.cells n).toList.length = n * s := by simp [Builtin.zeroCells,hz]
 have hst := run_storeCells_cells (P := P) b o (Builtin.zeroCells z.cells n).toList 0 w (fun j hj => by rw [hlen] at hj; first | exact hc j (by simpa using hj) | simpa using hc j (by simpa using hj)) (fun j hj => by rw [hlen] at hj; first | exact hf j (by simpa using hj) | simpa using hf j (by simpa using hj)) (fun v hv' => by
  simp only [Builtin.zeroCells,Array.toList_map,List.mem_map] at hv'
  obtain ⟨q,hq,rfl⟩ := hv'
  have hs : 0 < z.cells.size := by
   rcases Nat.eq_zero_or_pos z.cells.size with h0 | h0
   ·simp [h0] at hq
   ·exact h0
  refine h1 _ ?_
  rw [getElem!_pos z.cells _ (Nat.mod_lt _ hs)]
  simp)
 simp only [Nat.add_zero] at hst
 obtain ⟨m,rfl⟩ : ∃ m,n = m + 1 := ⟨n - 1,by omega⟩
 exact ⟨_,hlen,fun ty c => by simp [Builtin.clear_,run_underlying ht,hv,hst]⟩
theorem zq1829 : ∃ z,(∀ w,(zeroValue 105).run Tryz.prog w = .ok z w) ∧ z.cells.size = 5 ∧ ∀ v ∈ z.cells.toList,v.oneCell' = true := by
 obtain ⟨i,d,z,hi,hd,hz,h1,h2,_⟩ := (tyOk.ty 105 rfl).ex
 have h2 : z.cells.toList = [.bool false,.int .u64 0,.int .u64 0,.string .empty,.int .i64 0] := h2.symm
 refine ⟨z,fun w => by simp [zeroValue,typeInfo,hi,hz],by rw [← Array.length_toList,h2]; rfl,fun v hv => ?_⟩
 rw [h2] at hv
 simp only [zc28,List.not_mem_nil,or_false] at hv
 rcases hv with rfl | rfl | rfl | rfl | rfl <;> rfl
set_option maxHeartbeats 4000000 in
set_option maxRecDepth 100000 in
theorem zq529 (A : Option Addr) (n c i : Nat) (w : World) (hin : i ≤ n) (hnc : n ≤ c) (hA : A = none → n = 0 ∧ c = 0) :
  Calls Tryz.prog 114 #[.slice A n c,.int .i64 i,.int .i64 i] w fun e w' => e = .returned (.slice A n c) ∧ w' = w := by
 have u30 := run_underlying Tryz.underlying59
 have z49 := zq1579
 have mixed := zq1121
 cases A with
 | none =>
  obtain ⟨rfl,rfl⟩ := hA rfl
  have h0 : i = 0 := by omega
  subst h0
  go_enter Tryz.func114,Tryz.ntmps114
  go_wp2
  all_goals (go_ret; exact ⟨rfl,rfl⟩)
 | some a =>
  obtain ⟨ab,ao,asp⟩ := a
  go_enter Tryz.func114,Tryz.ntmps114
  go_wp2
  all_goals (go_ret; exact ⟨rfl,rfl⟩)
set_option maxHeartbeats 4000000 in
set_option maxRecDepth 100000 in
theorem zq530 (b n c i j : Nat) (cs : List Value) (w : World) (hij : i < j) (hjn : j ≤ n) (hnc : n ≤ c) (hc63 : c ≤ 9223372036854775807) (hcl : cs.length = n * 5)
  (hcs : ∀ q v,cs[q]? = some v → w.cell? ⟨b,q,none⟩ = some v) (hfz : ∀ q,q < n * 5 → w.frozen? ⟨b,q,none⟩ = false) (h1c : ∀ v ∈ cs,v.oneCell' = true) :
  Calls Tryz.prog 114 #[.slice (some ⟨b,0,none⟩) n c,.int .i64 i,.int .i64 j] w fun e w' =>
   e = .returned (.slice (some ⟨b,0,none⟩) (i + (n - j)) c) ∧ ∃ Z : List Value,Z.length = (j - i) * 5 ∧ w' = (w.drew.setCells b (0 + i * 5) (cs.drop (j * 5))).setCells b ((i + (n - j)) * 5) Z := by
 have u30 := run_underlying Tryz.underlying59
 have z49 := zq1579
 have mixed := zq1121
 obtain ⟨i0,hi0,hz⟩ := zc7.1 zq755
 simp only [zc11] at hz
 obtain ⟨hzc,hzs,hzb⟩ := hz
 obtain ⟨news,hnews⟩ : ∃ news,news = cs.drop (j * 5) := ⟨_,rfl⟩
 have hlen : news.length = (n - j) * 5 := by rw [hnews,zc40,hcl]; omega
 obtain ⟨A,hA,hsrc⟩ : ∃ A : Addr,(if c = j then (some (⟨b,0,none⟩ : Addr)) else some ⟨b,j * 5,none⟩) = some A ∧ Hid (∀ t u,news[t]? = some u → w.drew.cell? (A.add t) = some u) := by
  by_cases h : c = j
  ·refine ⟨⟨b,0,none⟩,by simp [h],fun t u hu => ?_⟩
   have h0 : news.length = 0 := by rw [hlen]; omega
   rw [List.length_eq_zero_iff.1 h0] at hu
   simp at hu
  ·refine ⟨⟨b,j * 5,none⟩,by simp [h],fun t u hu => ?_⟩
   rw [hnews,zc39] at hu
   rw [Addr.add_lit]
   exact hcs _ u hu
 have s1 : Hid (news.length = (n - j) * 5) := hlen
 have s2 : Hid (∀ u ∈ news,u.oneCell' = true) := fun u hu => h1c u (List.mem_of_mem_drop (by rw [← hnews]; exact hu))
 have hsome : ∀ q,q < n * 5 → (w.cell? ⟨b,q,none⟩).isSome = true := fun q hq => by
  rw [hcs q _ (zc0 (by omega))]; rfl
 have s3 : Hid (∀ t,t < news.length → (w.drew.cell? ⟨b,0 + i * 5 + t,none⟩).isSome = true ∧ w.drew.frozen? ⟨b,0 + i * 5 + t,none⟩ = false) := fun t ht => by
  rw [hlen] at ht
  exact ⟨hsome _ (by omega),hfz _ (by omega)⟩
 obtain ⟨W1,hW1⟩ : ∃ W1,W1 = w.drew.setCells b (0 + i * 5) news := ⟨_,rfl⟩
 obtain ⟨z,zv,zs,zo⟩ := zq1829
 have hsome1 : ∀ q,q < n * 5 → (W1.cell? ⟨b,q,none⟩).isSome = true := fun q hq => by
  rw [hW1]
  exact isSome_setCells b _ _ _ (fun t ht => by rw [hlen] at ht; exact hsome _ (by omega)) _ (hsome q hq)
 have hfz1 : ∀ q,q < n * 5 → W1.frozen? ⟨b,q,none⟩ = false := fun q hq => by
  rw [hW1,World.frozen?_setCells]; exact hfz q hq
 obtain ⟨Z,hZl,hcl'⟩ : ∃ Z : List Value,Z.length = (j - i) * 5 ∧ ∀ ty cc,(Builtin.clear_ #[59] ty #[.slice (some ⟨b,(i + (n - j)) * 5,none⟩) (n - (i + (n - j))) cc]).run Tryz.prog W1 = .ok (.tuple #[]) (W1.setCells b ((i + (n - j)) * 5) Z) := by
  obtain ⟨Z,h1,h2⟩ := zq1502 W1 _ _ z 5 Tryz.underlying59 zv zs zo b ((i + (n - j)) * 5) (n - (i + (n - j))) (by omega) (fun q hq => hsome1 _ (by omega)) (fun q hq => hfz1 _ (by omega))
  exact ⟨Z,by rw [h1]; congr 1; omega,h2⟩
 have hW : Hid (W1 = w.drew.setCells b (0 + i * 5) news) := hW1
 have X : Hid (Z.length = (j - i) * 5) := hZl
 have hic : i ≤ c := by omega
 have hjc : j ≤ c := by omega
 have hne : ¬ ((i : Int) = (j : Int)) := by omega
 have hin : i ≤ n := by omega
 have hij' : i ≤ j := by omega
 subst hnews
 clear hZl hW1 hsome1 hfz1 hsome hcs hfz hlen zo zs zv hcl
 go_enter Tryz.func114,Tryz.ntmps114
 go_wp2_with fail
 go_region_law_o (refine step_append_room rfl (.tmp 22) (.tmp 25) 59 rfl 105 i0 5 Tryz.underlying59 hi0 hzs b 0 i c (by simp [Act.eval,Act.put]) A (n - j) (c - j) (cs.drop (j * 5)) (by simp [Act.eval,Act.put]) s1.out hsrc.out s2.out (by omega) s3.out ?_; rw [← hW.out])
 go_wp2
 go_ret
 exact ⟨rfl,Z,X.out,by rw [← hW.out]⟩
theorem zq527 {arr : Array Value} {n i j : Nat} {cs Z : List Value} (hij : i < j) (hjn : j ≤ n) (hcl : cs.length = n * 5) (hZ : Z.length = (j - i) * 5) (hsz : n * 5 ≤ arr.size) (h0 : ∀ q,q < i * 5 → arr[q]? = cs[q]?) :
  (zq1526 (zq1526 arr (i * 5) (cs.drop (j * 5))) ((i + (n - j)) * 5) Z).toList.take ((i + (n - j)) * 5) = cs.take (i * 5) ++ cs.drop (j * 5) := by
 have hdl : (cs.drop (j * 5)).length = (n - j) * 5 := by rw [zc40,hcl]; omega
 apply List.ext_getElem?
 intro q
 rw [zc14,zc29,zc20,Nat.min_eq_left (by omega)]
 by_cases hq : q < (i + (n - j)) * 5
 ·rw [if_pos hq,zc25,zq1527 _ _ _ _ (by rw [zq1528]; omega),if_neg (by omega),zq1527 _ _ _ _ (by omega)]
  by_cases h1 : q < i * 5
  ·rw [if_neg (by omega),if_pos h1,zc14,if_pos h1,h0 q h1]
  ·rw [if_pos (by omega),if_neg h1]
 ·rw [if_neg hq,if_neg (by omega),zc22 (by omega)]
theorem zq528 (base : Nat) (w : World) (v : Value) (n i j : Nat) (cs : List Value) (h1 : w.ownsRow base 105 5 v n cs) (hc1 : ∀ x ∈ cs,oneC x = true) (_ : base ≤ w.heap.size) (hij : i ≤ j) (hjn : j ≤ n) :
  Calls Tryz.prog 114 #[v,.int .i64 (i : Int),.int .i64 (j : Int)] w fun r w' => ∃ v',r = .returned v' ∧ w'.ownsRow base 105 5 v' (n - (j - i)) (cs.take (i * 5) ++ cs.drop (j * 5)) ∧ w.grownBy w' v.ownBlock ∧ (∀ b,v'.ownBlock = some b → v.ownBlock = some b ∨ w.heap.size ≤ b) := by
 have hcl := h1.1
 by_cases hije : i = j
 ·subst hije
  have hv : ∃ A c,v = .slice A n c ∧ n ≤ c ∧ (A = none → n = 0 ∧ c = 0) := by
   rcases h1.2 with ⟨h,h0⟩ | ⟨g,cp,cur,h,_,_,hc,_⟩
   ·exact ⟨none,0,by rw [h,h0],by omega,fun _ => ⟨h0,rfl⟩⟩
   ·exact ⟨_,cp,h,hc,fun h => by cases h⟩
  obtain ⟨A,c,rfl,hc,hnil⟩ := hv
  refine (zq529 A n c i w hjn hc hnil).mono ?_
  rintro e w' ⟨rfl,rfl⟩
  exact ⟨_,rfl,by rw [Nat.sub_self,Nat.sub_zero,List.take_append_drop]; exact h1,⟨rfl,rfl,rfl,zc47 _,fun _ _ _ => rfl⟩,fun b hb => .inl hb⟩
 ·have hlt : i < j := by omega
  rcases h1.2 with ⟨_,h0⟩ | ⟨g,cap,cur,rfl,hgbase,hgheap,hnc,hcm,hgsz,hgtake⟩
  ·omega
  have hcs : ∀ q x,cs[q]? = some x → w.cell? ⟨g,q,none⟩ = some x := by
   intro q x hq
   rw [zq378 hgheap,← zc25]
   rw [← hgtake,zc14] at hq
   split at hq
   ·exact hq
   ·cases hq
  refine (zq530 g n cap i j cs w hlt hjn hnc (by unfold maxLen at hcm; omega) hcl hcs (fun q hq => by simp [World.frozen?,hgheap]) (fun x hx => zq1178 (hc1 x hx))).mono ?_
  rintro e w' ⟨rfl,Z,hZ,rfl⟩
  have hg0 : w.drew.heap[g]? = some (.cells cur 105 (0,0)) := hgheap
  obtain ⟨a1,a2,a3,a4,a5,a6⟩ := zq1530 w.drew g (0 + i * 5) (cs.drop (j * 5)) cur 105 (0,0) hg0
  obtain ⟨b1,b2,b3,b4,b5,b6⟩ := zq1530 _ g ((i + (n - j)) * 5) Z _ 105 (0,0) a1
  have hdl : (cs.drop (j * 5)).length = (n - j) * 5 := by rw [zc40,hcl]; omega
  have hn' : n - (j - i) = i + (n - j) := by omega
  rw [hn']
  refine ⟨_,rfl,⟨?_,.inr ⟨g,cap,_,rfl,hgbase,b1,by omega,hcm,by rw [zq1528,zq1528]; exact hgsz,?_⟩⟩,⟨b4.trans a4,b5.trans a5,b6.trans a6,by rw [b3,a3]; exact zc47 _,fun k hk hne => ?_⟩,fun b hb => .inl hb⟩
  ·simp only [zc24,zc20,hdl]; omega
  ·rw [Nat.zero_add]
   have : n * 5 ≤ cap * 5 := Nat.mul_le_mul_right _ hnc
   exact zq527 hlt hjn hcl hZ (by omega) fun q hq => by
    rw [← hgtake,zc14,if_pos (by omega),zc25]
  ·have hkg : k ≠ g := fun e => hne (by rw [e]; rfl)
   exact (b2 k hkg).trans (a2 k hkg)
def zq1606 : Con := zq526 .lease 105
theorem zq1607 : TrOk Tryz.prog 114 zq1606 := del_ok .lease 105 zq528
end Go.Proofs.YtjolfddpghkabaaGreat
namespace Go.Proofs
open Go.Shelf
def Tryz.sortLs_ren : Go.Shelf.Ren := ⟨fun | 6 => 112 | 15 => 133 | 14 => 132 | 28 => 148 | 29 => 149 | 20 => 140 | 21 => 141 | 22 => 142 | 23 => 143 | 24 => 144 | 25 => 145 | 26 => 146 | 27 => 147 | 46 => 159 | 47 => 160 | 48 => 161 | 49 => 162 | 50 => 163 | 57 => 166 | n => n,fun | 22 => 59 | 24 => 105 | 25 => 168 | 3 => 3 | 39 => 173 | 0 => 0 | 53 => 202 | 55 => 30 | 4 => 4 | 46 => 196 | 45 => 195 | 50 => 153 | 5 => 5 | 9 => 9 | 66 => 210 | 70 => 214 | 76 => 218 | 77 => 219 | n => n,fun | n => n⟩
theorem Tryz.sortLs : Go.Proofs.SlLaysF0.n6 Tryz.prog Tryz.sortLs_ren := {
 mixed := by kernel_rfl
 f6 := ⟨Tryz.f112.name,by decide,Tryz.func112.trans (congrArg some (by kernel_rfl))⟩
 f14 := ⟨Tryz.f132.name,by decide,Tryz.func132.trans (congrArg some (by kernel_rfl))⟩
 f15 := Tryz.func133.trans (congrArg some (by kernel_rfl))
 f20 := ⟨Tryz.f140.name,by decide,Tryz.func140.trans (congrArg some (by kernel_rfl))⟩
 f21 := ⟨Tryz.f141.name,by decide,Tryz.func141.trans (congrArg some (by kernel_rfl))⟩
 f22 := ⟨Tryz.f142.name,by decide,Tryz.func142.trans (congrArg some (by kernel_rfl))⟩
 f23 := ⟨Tryz.f143.name,by decide,Tryz.func143.trans (congrArg some (by kernel_rfl))⟩
 f24 := ⟨Tryz.f144.name,by decide,Tryz.func144.trans (congrArg some (by kernel_rfl))⟩
 f25 := ⟨Tryz.f145.name,by decide,Tryz.func145.trans (congrArg some (by kernel_rfl))⟩
 f26 := ⟨Tryz.f146.name,by decide,Tryz.func146.trans (congrArg some (by kernel_rfl))⟩
 f27 := ⟨Tryz.f147.name,by decide,Tryz.func147.trans (congrArg some (by kernel_rfl))⟩
 f28 := Tryz.func148.trans (congrArg some (by kernel_rfl))
 f29 := Tryz.func149.trans (congrArg some (by kernel_rfl))
 f46 := ⟨Tryz.f159.name,by decide,Tryz.func159.trans (congrArg some (by kernel_rfl))⟩
 f47 := Tryz.func160.trans (congrArg some (by kernel_rfl))
 f48 := Tryz.func161.trans (congrArg some (by kernel_rfl))
 f49 := ⟨Tryz.f162.name,by decide,Tryz.func162.trans (congrArg some (by kernel_rfl))⟩
 f50 := ⟨Tryz.f163.name,by decide,Tryz.func163.trans (congrArg some (by kernel_rfl))⟩
 f57 := ⟨Tryz.f166.name,by decide,Tryz.func166.trans (congrArg some (by kernel_rfl))⟩
 t0 := Tryz.underlying0
 a0 := Tryz.isAgg0
 z0 := Tryz.sizeOf0
 v0 := Tryz.zeroValue0
 t3 := Tryz.underlying3
 a3 := Tryz.isAgg3
 z3 := Tryz.sizeOf3
 v3 := Tryz.zeroValue3
 t4 := Tryz.underlying4
 a4 := Tryz.isAgg4
 z4 := Tryz.sizeOf4
 v4 := Tryz.zeroValue4
 t5 := Tryz.underlying5
 a5 := Tryz.isAgg5
 z5 := Tryz.sizeOf5
 v5 := Tryz.zeroValue5
 t9 := Tryz.underlying9
 a9 := Tryz.isAgg9
 z9 := Tryz.sizeOf9
 v9 := Tryz.zeroValue9
 t22 := Tryz.underlying59
 a22 := Tryz.isAgg59
 z22 := Tryz.sizeOf59
 v22 := Tryz.zeroValue59
 t25 := Tryz.underlying168
 a25 := Tryz.isAgg168
 z25 := Tryz.sizeOf168
 v25 := Tryz.zeroValue168
 t39 := Tryz.underlying173
 a39 := Tryz.isAgg173
 z39 := Tryz.sizeOf173
 v39 := Tryz.zeroValue173
 t45 := Tryz.underlying195
 a45 := Tryz.isAgg195
 z45 := Tryz.sizeOf195
 v45 := Tryz.zeroValue195
 t46 := Tryz.underlying196
 a46 := Tryz.isAgg196
 z46 := Tryz.sizeOf196
 v46 := Tryz.zeroValue196
 t50 := Tryz.underlying153
 a50 := Tryz.isAgg153
 z50 := Tryz.sizeOf153
 v50 := Tryz.zeroValue153
 t53 := Tryz.underlying202
 a53 := Tryz.isAgg202
 z53 := Tryz.sizeOf202
 v53 := Tryz.zeroValue202
 t55 := Tryz.underlying30
 a55 := Tryz.isAgg30
 z55 := Tryz.sizeOf30
 v55 := Tryz.zeroValue30
 t66 := Tryz.underlying210
 a66 := Tryz.isAgg210
 z66 := Tryz.sizeOf210
 v66 := Tryz.zeroValue210
 t70 := Tryz.underlying214
 a70 := Tryz.isAgg214
 z70 := Tryz.sizeOf214
 v70 := Tryz.zeroValue214
 t76 := Tryz.underlying218
 a76 := Tryz.isAgg218
 z76 := Tryz.sizeOf218
 v76 := Tryz.zeroValue218
 t77 := Tryz.underlying219
 a77 := Tryz.isAgg219
 z77 := Tryz.sizeOf219
 v77 := Tryz.zeroValue219 }
end Go.Proofs
namespace Go.Proofs.YtjolfddpghkabaaGreat
open Go Go.Ma Go.RowKit Go.Lib Go.Proofs Go.Sort
def cmpN (x y : Int) : Int := if x < y then -1 else if y < x then 1 else 0
def cmpA (a b : Ad) : Int := if a.v6 != b.v6 then (if b.v6 then -1 else 1) else if a.hi = b.hi then cmpN a.lo b.lo else cmpN a.hi b.hi
def encLs (x : Ls) : List Value := [.bool x.ad.v6,.int .u64 x.ad.hi,.int .u64 x.ad.lo,.string x.who,.int .i64 x.upto]
set_option maxHeartbeats 1000000 in
theorem zq491 (x y : Int) (W : World) : Calls Tryz.prog 122 #[.int .u64 x,.int .u64 y] W fun e w' => e = .returned (.int .i64 (cmpN x y)) ∧ w' = W := by
 unfold cmpN
 by_cases h1 : x < y
 ·rw [if_pos h1]
  go_enter Tryz.func122,Tryz.ntmps122
  go_wp2
  all_goals (go_ret; exact ⟨rfl,rfl⟩)
 ·rw [if_neg h1]
  by_cases h2 : y < x
  ·rw [if_pos h2]
   go_enter Tryz.func122,Tryz.ntmps122
   go_wp2
   all_goals (go_ret; exact ⟨rfl,rfl⟩)
  ·rw [if_neg h2]
   go_enter Tryz.func122,Tryz.ntmps122
   go_wp2
   all_goals (go_ret; exact ⟨rfl,rfl⟩)
set_option maxHeartbeats 2000000 in
set_option maxRecDepth 100000 in
theorem zq1247 (a b : Ad) (W : World) : Calls Tryz.prog 107 #[.agg #[.bool a.v6,.int .u64 a.hi,.int .u64 a.lo],.agg #[.bool b.v6,.int .u64 b.hi,.int .u64 b.lo]] W fun e w' => e = .returned (.int .i64 (cmpA a b)) ∧ ∃ q os',w' = grow (W.drewN q) os' := by
 obtain ⟨av,ah,al⟩ := a
 obtain ⟨bv,bh,bl⟩ := b
 have hx : ∀ x y : Int,∃ r,cmpN x y = r ∧ Hid (∀ W',Calls Tryz.prog 122 #[.int .u64 x,.int .u64 y] W' fun e w' => e = .returned (.int .i64 r) ∧ w' = W') := fun x y => ⟨_,rfl,zq491 x y⟩
 cases av <;> cases bv
 ·by_cases h : ah = bh
  ·subst h
   obtain ⟨r,hr,hcon⟩ := hx al bl
   rw [show cmpA ⟨false,ah,al⟩ ⟨false,ah,bl⟩ = r by simp [cmpA,hr]]
   go_enter Tryz.func107,Tryz.ntmps107
   go_wp2_with (go_at_call 122; refine (hcon.out _).mono ?_; rintro e w' ⟨rfl,rfl⟩)
   all_goals (go_ret; exact ⟨rfl,0,_,by rw [alloc_eq_grow,alloc_eq_grow,grow_grow]; rfl⟩)
  ·obtain ⟨r,hr,hcon⟩ := hx ah bh
   rw [show cmpA ⟨false,ah,al⟩ ⟨false,bh,bl⟩ = r by simp [cmpA,hr,h]]
   go_enter Tryz.func107,Tryz.ntmps107
   go_wp2_with (go_at_call 122; refine (hcon.out _).mono ?_; rintro e w' ⟨rfl,rfl⟩)
   all_goals (go_ret; exact ⟨rfl,0,_,by rw [alloc_eq_grow,alloc_eq_grow,grow_grow]; rfl⟩)
 ·go_enter Tryz.func107,Tryz.ntmps107
  go_wp2
  all_goals (go_ret; exact ⟨rfl,0,_,by rw [alloc_eq_grow,alloc_eq_grow,grow_grow]; rfl⟩)
 ·go_enter Tryz.func107,Tryz.ntmps107
  go_wp2
  all_goals (go_ret; exact ⟨rfl,0,_,by rw [alloc_eq_grow,alloc_eq_grow,grow_grow]; rfl⟩)
 ·by_cases h : ah = bh
  ·subst h
   obtain ⟨r,hr,hcon⟩ := hx al bl
   rw [show cmpA ⟨true,ah,al⟩ ⟨true,ah,bl⟩ = r by simp [cmpA,hr]]
   go_enter Tryz.func107,Tryz.ntmps107
   go_wp2_with (go_at_call 122; refine (hcon.out _).mono ?_; rintro e w' ⟨rfl,rfl⟩)
   all_goals (go_ret; exact ⟨rfl,0,_,by rw [alloc_eq_grow,alloc_eq_grow,grow_grow]; rfl⟩)
  ·obtain ⟨r,hr,hcon⟩ := hx ah bh
   rw [show cmpA ⟨true,ah,al⟩ ⟨true,bh,bl⟩ = r by simp [cmpA,hr,h]]
   go_enter Tryz.func107,Tryz.ntmps107
   go_wp2_with (go_at_call 122; refine (hcon.out _).mono ?_; rintro e w' ⟨rfl,rfl⟩)
   all_goals (go_ret; exact ⟨rfl,0,_,by rw [alloc_eq_grow,alloc_eq_grow,grow_grow]; rfl⟩)
set_option maxHeartbeats 2000000 in
set_option maxRecDepth 100000 in
theorem zq1093 (x y : Ls) (W : World) : Calls Tryz.prog 113 #[.agg (encLs x).toArray,.agg (encLs y).toArray] W fun e w' => e = .returned (.int .i64 (cmpA x.ad y.ad)) ∧ ∃ q os',w' = grow (W.drewN q) os' := by
 obtain ⟨⟨av,ah,al⟩,aw,au⟩ := x
 obtain ⟨⟨bv,bh,bl⟩,bw,bu⟩ := y
 obtain ⟨r,hr,hcon⟩ : ∃ r,cmpA ⟨av,ah,al⟩ ⟨bv,bh,bl⟩ = r ∧ Hid (∀ W',Calls Tryz.prog 107 #[.agg #[.bool av,.int .u64 ah,.int .u64 al],.agg #[.bool bv,.int .u64 bh,.int .u64 bl]] W' fun e w' => e = .returned (.int .i64 r) ∧ ∃ q os',w' = grow (W'.drewN q) os') := ⟨_,rfl,fun W' => zq1247 ⟨av,ah,al⟩ ⟨bv,bh,bl⟩ W'⟩
 show Calls _ _ _ _ fun e w' => e = .returned (.int .i64 (cmpA ⟨av,ah,al⟩ ⟨bv,bh,bl⟩)) ∧ _
 rw [hr]
 show Calls _ _ #[.agg #[.bool av,.int .u64 ah,.int .u64 al,.string aw,.int .i64 au],.agg #[.bool bv,.int .u64 bh,.int .u64 bl,.string bw,.int .i64 bu]] _ _
 go_enter Tryz.func113,Tryz.ntmps113
 go_wp2_with (go_at_call 107; refine (hcon.out _).mono ?_; rintro e w' ⟨rfl,q,os',rfl⟩)
 all_goals (go_ret; refine ⟨rfl,q,?_⟩)
 rw [alloc_eq_grow,alloc_eq_grow,grow_grow]
 exact ⟨_,grow_grow (W.drewN q) _ os'⟩
end Go.Proofs.YtjolfddpghkabaaGreat
namespace Go.Ma
open Go Go.Shelf Go.RowKit Go.Lib Go.Proofs Go.Sort
theorem zq673 {α : Type} (enc : α → List Value) (k : Nat) (hk : ∀ x,(enc x).length = k) : ∀ (l : List α) (j : Nat),j < l.length * k → (l.flatMap enc)[j]? = (l[j / k]?).bind fun a => (enc a)[j % k]?
 | [],j,h => by simp at h
 | x :: r,j,h => by
  have k0 : 0 < k := by
   rcases Nat.eq_zero_or_pos k with h0 | h0
   ·subst h0; simp at h
   ·exact h0
  rw [List.flatMap_cons]
  by_cases hj : j < k
  ·rw [zc6 (by rw [hk]; exact hj),Nat.div_eq_of_lt hj,Nat.mod_eq_of_lt hj]
   rfl
  ·rw [List.getElem?_append_right (by rw [hk]; omega),hk,zq673 enc k hk r (j - k) (by simp [Nat.add_mul] at h; omega)]
   have e1 : j / k = (j - k) / k + 1 := by
    have := Nat.add_div_right (j - k) k0
    rwa [Nat.sub_add_cancel (by omega)] at this
   have e2 : (j - k) % k = j % k := by
    have := Nat.add_mod_right (j - k) k
    rwa [Nat.sub_add_cancel (by omega),eq_comm] at this
   rw [e1,e2,List.getElem?_cons_succ]
theorem zq672 {α : Type} [Inhabited α] (enc : α → List Value) (k : Nat) (hk : ∀ x,(enc x).length = k) (d : Array α) : (flatK enc k d).toList = d.toList.flatMap enc := by
 have hlen' : ∀ l : List α,(l.flatMap enc).length = l.length * k := by
  intro l
  induction l with
  | nil => simp
  | cons x r ih => rw [List.flatMap_cons,zc24,hk,ih,zc21,Nat.add_mul]; omega
 have hlen : (d.toList.flatMap enc).length = d.size * k := by rw [hlen']; simp
 refine List.ext_getElem? fun j => ?_
 by_cases hj : j < d.size * k
 ·have k0 : 0 < k := by
   rcases Nat.eq_zero_or_pos k with h0 | h0
   ·subst h0; simp at hj
   ·exact h0
  rw [zq673 enc k hk d.toList j (by simpa using hj)]
  have hd : j / k < d.size := Nat.div_lt_of_lt_mul (by rw [Nat.mul_comm]; exact hj)
  have hm : j % k < (enc (d[j / k]'hd)).length := by rw [hk]; exact Nat.mod_lt _ k0
  have h1 : (flatK enc k d).toList[j]? = some (flatK enc k d)[j]! := by
   rw [zc25,zc44 (by simpa using hj),getElem!_pos _ j (by simpa using hj)]
  rw [h1,get_flatK _ _ _ _ hj,getElem!_pos d _ hd,zc25,zc44 hd,zc48,zc0 hm,getElem!_pos (enc (d[j / k]'hd)) (j % k) hm]
 ·rw [zc22 (by simpa using hj),zc22 (by omega)]
theorem zq1370 (F : Array Value) (c : Array Value) (h : F.size ≤ c.size) : (putCells id 0 F c).toList.take F.size = F.toList := by
 refine List.ext_getElem? fun j => ?_
 rw [zc14]
 by_cases hj : j < F.size
 ·rw [if_pos hj]
  unfold putCells
  rw [zc25,Array.getElem?_mapIdx,zc44 (show j < c.size by omega),Option.map_some,if_pos (by omega),zc25,zc44 hj]
  simp [getElem!_pos F j hj]
 ·rw [if_neg hj,zc22 (by simpa using hj)]
theorem zq1635 {P : Program} {ρ : Ren} {α : Type} [Inhabited α] (L : SlLaysF0.n6 P ρ) (k : Nat) (aE : ∀ w,(isAgg (ρ.t 24)).run P w = .ok true w) (zE : ∀ w,(Go.sizeOf (ρ.t 24)).run P w = .ok k w) (enc : α → List Value) (hk : ∀ x,(enc x).length = k) (h1 : ∀ x,∀ v ∈ enc x,v.oneCell' = true) (cf : α → α → Int) (hO : SWO (ltOf cf)) (g : Nat) (cb : Array Value)
  (eg : ∀ args w,(callFunc g args).run P w = .ok (.enter g args) w)
  (hcmp : ∀ (w : World) (x y : α),Calls P g (#[.agg (enc x).toArray,.agg (enc y).toArray] ++ cb) w fun e w' => e = .returned (.int .i64 (cf x y)) ∧ ∃ q os',w' = grow (w.drewN q) os')
  (base : Nat) (e : TypeId) (w : World) (v : Value) (l : List α) (hown : w.ownsRow base e k v l.length (l.flatMap enc)) (hl : l ≠ []) (hsz : l.length < 4611686018427387904) :
  Calls P (ρ.f 6) #[v,.func (.func g) #[] cb] w fun r w' => r = .returned (.tuple #[]) ∧ ∃ l' : List α,l'.Perm l ∧ l'.Pairwise (fun a b => ltOf cf b a = false) ∧ w'.ownsRow base e k v l'.length (l'.flatMap enc) ∧ w.grownBy w' v.ownBlock := by
 obtain ⟨hlen,⟨_,h0⟩ | ⟨b,cap,cur,rfl,hb,hg,hnc,hcm,hcs,htake⟩⟩ := hown
 ·exact absurd (List.eq_nil_of_length_eq_zero h0) hl
 have hblk : b < w.heap.size := (zc27.1 hg).1
 have hkc : l.length * k ≤ cur.size := by rw [hcs]; exact Nat.mul_le_mul_right k hnc
 have hflat : (flatK enc k l.toArray).toList = l.flatMap enc := by rw [zq672 enc k hk]
 have hH : HoldsK enc k w b 0 l.toArray := by
  intro j hj
  have hj : j < l.length * k := by simpa using hj
  refine ⟨?_,?_⟩
  ·have hc : w.cell? ⟨b,0 + j,none⟩ = cur[j]? := by simp [World.cell?,hg]
   rw [hc]
   have e1 : cur[j]? = (flatK enc k l.toArray)[j]? := by
    rw [← zc25,← zc25,hflat,← htake,zc14,if_pos hj]
   rw [e1,zc44 (by simpa using hj),getElem!_pos _ j (by simpa using hj)]
   rfl
  ·simp [World.frozen?,hg]
 refine (AnyQ.slices_SortFunc L k aE zE enc hk h1 cf hO g cb b 0 cap l.toArray w eg (fun m os dk _ x y => hcmp _ x y) hH hblk (by simpa using hsz)).mono ?_
 rintro r w' ⟨rfl,d',n,os,hp,hs,rfl⟩
 obtain ⟨hsize,_,hperm⟩ := hp
 have hsize : d'.size = l.length := by simpa using hsize
 have hperm : d'.toList.Perm l := by
  have e1 : d'.extract 0 l.length = d' := by rw [← hsize]; simp
  have e2 : l.toArray.extract 0 l.length = l.toArray := by simp
  have : l.toArray.size = l.length := by simp
  rw [this,e1,e2] at hperm
  simpa using hperm
 have hheap : (sortWorldK enc k w b 0 n d' os).heap[b]? = some (.cells (putCells id 0 (flatK enc k d') cur) e (0,0)) := by
  simp only [sortWorldK,grow,putRowK,putRow,mapBlock,Sort.ahead]
  rw [Array.getElem?_append_left (by simpa using hblk),Array.getElem?_modify,if_pos rfl,hg]
  rfl
 refine ⟨rfl,d'.toList,hperm,?_,⟨?_,.inr ⟨b,cap,_,?_,hb,hheap,?_,hcm,?_,?_⟩⟩,⟨rfl,rfl,rfl,?_,?_⟩⟩
 ·rw [List.pairwise_iff_getElem]
  intro i j hi hj hij
  have hj' : j < d'.size := by simpa using hj
  have := hs i j (Nat.zero_le _) hij (by simp; omega)
  rw [getElem!_pos d' j hj',getElem!_pos d' i (by omega)] at this
  simpa using this
 ·rw [← zq672 enc k hk]; simp
 ·simp [hsize]
 ·simp [hsize]; omega
 ·simp [putCells,hcs]
 ·have hf : (flatK enc k d').size = d'.toList.length * k := by simp
  rw [← zq672 enc k hk,← hf,zq1370]
  simp only [size_flatK,hsize]
  exact hkc
 ·simp [sortWorldK,grow,putRowK,putRow,mapBlock,Sort.ahead]
 ·intro q hq hne
  have hne : b ≠ q := fun e => hne (by simp [Value.ownBlock,e])
  simp only [sortWorldK,grow,putRowK,putRow,mapBlock,Sort.ahead]
  rw [Array.getElem?_append_left (by simpa using hq),Array.getElem?_modify,if_neg hne]
end Go.Ma
namespace Go.Proofs.YtjolfddpghkabaaGreat
open Go Go.Ma Go.RowKit Go.Lib Go.Proofs Go.Sort
theorem zq490 (a b : Ad) : decide (cmpA a b < 0) = adLt a b := by
 unfold cmpA cmpN adLt
 obtain ⟨av,ah,al⟩ := a
 obtain ⟨bv,bh,bl⟩ := b
 cases av <;> cases bv <;> simp
 all_goals
  by_cases h : ah = bh
  ·subst h
   by_cases h1 : al < bl
   ·simp [h1]
   ·by_cases h2 : bl < al <;> simp [h1,h2]
  ·by_cases h1 : ah < bh
   ·simp [h,h1]
   ·by_cases h2 : bh < ah <;> simp [h,h1,h2]
theorem zq1099 (x y : Ls) : ltOf (fun x y : Ls => cmpA x.ad y.ad) x y = adLt x.ad y.ad := zq490 _ _
theorem swo_ls : SWO (ltOf fun x y : Ls => cmpA x.ad y.ad) where
 irrefl x := by rw [zq1099]; exact zq227 _
 trans x y z h1 h2 := by rw [zq1099] at *; exact zq231 h1 h2
 ntrans x y z h1 h2 := by rw [zq1099] at *; exact zq229 h1 h2
theorem zq566 (ρ : Nat → Value) (x : Ls) : denL ρ (K.enc .lease x) = encLs x := rfl
def zq1624 : Con := zq1631 .lease zq1634 sortL 105 113
theorem zq1625 : TrOk Tryz.prog 112 zq1624 := by
 refine zq1636 .lease zq1634 sortL _ _ (fun W hG base w v l ρ hb hown hbase hok => ?_)
 simp only [zq1634,Bool.and_eq_true,Bool.not_eq_true'] at hok
 obtain ⟨h1,h2,h3⟩ := hok
 have h1 : l ≠ [] := fun e => by rw [e] at h1; cases h1
 have hsz : l.length < 4611686018427387904 := by
  have := Nat.le_of_ble_eq_true (show Nat.ble ((l.length : Int).toNat + (0 : Int).toNat) 274877906944 = true from h2)
  have e : (0 : Int).toNat = 0 := rfl
  omega
 have e0 : (fun a : Ls => denL ρ (K.enc .lease a)) = encLs := funext fun x => zq566 ρ x
 have hown' : w.ownsRow base 105 5 v l.length (l.flatMap encLs) := by rw [← e0]; exact hown
 have hm := zq1635 Tryz.sortLs 5 (fun w => Tryz.isAgg105 w) (fun w => Tryz.sizeOf105 w) encLs (fun _ => rfl) (fun x v hv => by
   simp only [encLs,zc28,List.not_mem_nil,or_false] at hv
   rcases hv with rfl | rfl | rfl | rfl | rfl <;> rfl) (fun x y : Ls => cmpA x.ad y.ad) swo_ls 113 #[] (enters_of Tryz.func113 (by kernel_rfl) rfl)
  (fun w x y => zq1093 x y w) base 105 w v l hown' h1 hsz
 refine hm.mono ?_
 rintro r w' ⟨rfl,l',hp,hpw,hown2,hgb⟩
 have hl' : l' = sortL l := zq1637 hp (hpw.imp fun {a b} h => by
  rw [zq1099] at h
  exact h) h3
 subst hl'
 refine ⟨rfl,?_,hgb⟩
 show w'.ownsRow base 105 5 v (sortL l).length ((sortL l).flatMap fun a : Ls => denL ρ (K.enc .lease a))
 rw [e0]
 exact hown2
end Go.Proofs.YtjolfddpghkabaaGreat
namespace Go.Proofs.YtjolfddpghkabaaGreat
open Go Go.Ma Go.RowKit Go.Lib
theorem Tryz.infoEn : (Tryz.prog.info? 100).map (fun i => (i.zero.map (·.cells.size),i.size,i.bytes)) = some (some 13,13,112) := by kernel_rfl
theorem zq736 (w : World) : Calls Tryz.prog 68 #[.slice none 0 0,.int .i64 0] w fun e w' => e = .returned (.slice none 0 0) ∧ w' = w := by
 go_enter Tryz.func68,Tryz.ntmps68
 go_wp2
 go_ret
 exact ⟨rfl,rfl⟩
set_option maxRecDepth 100000 in
theorem zq733 (n : Nat) (w : World) (hn : 0 < n) (hbig : n * 112 ≤ 140737488355328) :
  Calls Tryz.prog 68 #[.slice none 0 0,.int .i64 (n : Int)] w fun e w' => ∃ v,e = .returned v ∧ w'.ownsRow w.heap.size 100 13 v 0 [] ∧ Below w.heap.size w w' := by
 obtain ⟨i0,hi0,hz⟩ := zc7.1 Tryz.infoEn
 simp only [zc11] at hz
 obtain ⟨hz0,hz1,hz2⟩ := hz
 obtain ⟨z,hz0,hzc⟩ := zc7.1 hz0
 have h1 : ¬ ((n : Int) < 0) := by omega
 have h3 : wrap64 (n : Int) = (n : Int) := by unfold wrap64; omega
 have h4 : (n : Int) > 0 := by omega
 have zEn : ∀ w,(Go.sizeOf 100).run Tryz.prog w = .ok i0.size w := fun w => by simp [Go.sizeOf,typeInfo,hi0]
 have hrz : ∀ ty,(Builtin.append_ #[24,3] ty #[.slice none 0 0,.int .i64 (n : Int)]).run Tryz.prog w =
   .ok (.slice (some ⟨w.heap.size,0,none⟩) n (grownCap w n 0 100)) (w.drew.alloc (.cells ((#[] : Array Value) ++ Builtin.zeroCells z.cells n ++ Builtin.zeroCells z.cells (grownCap w n 0 100 - n)) 100)) := fun ty => by
  have h := Lib.run_append_grow_zeros w 24 3 ty 100 i0 z .i64 .i64 Tryz.underlying24 Tryz.underlying3 hi0 hz0 none 0 0 [] (run_firstCells_none w.drew i0.size 0 0 0) n hn (by omega) (by omega) (by omega) (by rw [hz2]; omega)
   (by rw [hz2,Nat.zero_add]; exact growslice_fits hn hbig)
  rw [Nat.zero_add] at h
  exact h
 have hG := grownCap_ge w n 0 100
 have hGm := grownCap_le_maxLen w n 0 100 (by unfold maxLen; omega)
 obtain ⟨G,hGe⟩ : ∃ G,G = grownCap w n 0 100 := ⟨_,rfl⟩
 rw [← hGe] at hrz hG hGm
 obtain ⟨ROW,hROW⟩ : ∃ ROW : Array Value,ROW = ((#[] : Array Value) ++ Builtin.zeroCells z.cells n ++ Builtin.zeroCells z.cells (G - n)) := ⟨_,rfl⟩
 rw [← hROW] at hrz
 have hRs : ROW.size = G * 13 := by
  rw [hROW]
  simp [Builtin.zeroCells,hzc]
  have : n * 13 + (G - n) * 13 = G * 13 := by rw [← Nat.add_mul]; congr 1; omega
  omega
 have hfin : (w.drew.alloc (.cells ROW 100)).ownsRow w.heap.size 100 13 (.slice (some ⟨w.heap.size,0,none⟩) 0 G) 0 [] ∧ Below w.heap.size w (w.drew.alloc (.cells ROW 100)) :=
  ⟨⟨rfl,.inr ⟨w.heap.size,G,ROW,rfl,zc47 _,by show (w.drew.heap.push (Obj.cells ROW 100))[w.drew.heap.size]? = _; exact Array.getElem?_push_size,Nat.zero_le _,hGm,hRs,by simp⟩⟩,((Below.refl w.heap.size w).drew).alloc (zc47 _) _⟩
 clear hROW hRs hzc hGe hG
 go_enter Tryz.func68,Tryz.ntmps68
 go_wp2_with (at_builtin; refine Lib.wpList_append_run _ rfl _ _ _ _ rfl _ _ rfl rfl _ _ (hrz _) ?_)
 all_goals (go_ret; exact ⟨_,rfl,hfin.1,hfin.2⟩)
def zq1608 : Con := zq731 .entry 100 1099511627776
theorem zq1609 : TrOk Tryz.prog 68 zq1608 := by
 refine zq734 .entry 100 1099511627776 fun n w hn => ?_
 by_cases h0 : n = 0
 ·subst h0
  refine (zq736 w).mono ?_
  rintro e w' ⟨rfl,rfl⟩
  exact ⟨_,rfl,World.ownsRow_nil _ _ _ _,Below.refl _ _⟩
 ·exact zq733 n w (by omega) (by omega)
end Go.Proofs.YtjolfddpghkabaaGreat
namespace Go.Proofs.YtjolfddpghkabaaGreat
open Go Go.Ma Go.RowKit Go.Proofs
def encE (ρ : Nat → Value) (a : En) : List Value := denL ρ (K.enc .entry a)
theorem zq559 (ρ : Nat → Value) (x : En) : encE ρ x = .int .i64 x.num :: (encE ρ x).tail := rfl
theorem zq561 (ρ : Nat → Value) (x : En) (q : Int) : encE ρ { x with num := q } = .int .i64 q :: (encE ρ x).tail := rfl
theorem zq560 (ρ : Nat → Value) (x : En) : (encE ρ x).length = 13 := rfl
theorem zq562 (ρ : Nat → Value) : ∀ l : List En,(l.flatMap (encE ρ)).length = l.length * 13
 | [] => rfl
 | x :: r => by
  rw [List.flatMap_cons,zc24,zq560,zq562 ρ r,zc21]
  omega
def zq1645 (l : List En) (k : Nat) : List En := zq898 (l.take k) ++ l.drop k
theorem zq1646 (l : List En) (k : Nat) : (zq1645 l k).length = l.length := by simp [zq1645,zq898]; omega
theorem zq1647 (ρ : Nat → Value) (l : List En) (k : Nat) (hk : k < l.length) :
  ((zq1645 l k).flatMap (encE ρ)).set (k * 13) (.int .i64 (-7)) = (zq1645 l (k + 1)).flatMap (encE ρ) := by
 have hl : ((zq898 (l.take k)).flatMap (encE ρ)).length = k * 13 := by
  rw [zq562]; simp [zq898]; omega
 have e2 : zq898 (l.take (k + 1)) = zq898 (l.take k) ++ [{ l[k] with num := -7 }] := by
  rw [List.take_succ_eq_append_getElem hk]; exact List.map_append
 unfold zq1645
 rw [e2,List.drop_eq_getElem_cons hk,zc46,List.flatMap_append,List.flatMap_append,List.set_append_right _ _ (by omega),hl,Nat.sub_self,List.singleton_append,List.flatMap_cons,List.flatMap_cons,zq561,zq559 ρ l[k]]
 rfl
set_option maxRecDepth 100000 in
set_option maxHeartbeats 4000000 in
theorem zq1648 (base : Nat) (w : World) (v : Value) (l : List En) (ρ : Nat → Value) (hown : w.ownsRow base 100 13 v l.length (l.flatMap (encE ρ))) (hbase : base ≤ w.heap.size) :
  Calls Tryz.prog 22 #[v] w fun r w' => r = .returned (.tuple #[]) ∧ w'.ownsRow base 100 13 v (zq898 l).length ((zq898 l).flatMap (encE ρ)) ∧ w.grownBy w' v.ownBlock := by
 have hpl : (zq898 l).length = l.length := by simp [zq898]
 obtain ⟨hlen,⟨rfl,hn⟩ | ⟨b,cap,cur,rfl,hb,hg,hnc,hcm,hcs,htake⟩⟩ := hown
 ·obtain rfl := List.eq_nil_of_length_eq_zero hn
  have HF : Hid (w.ownsRow base 100 13 (.slice none 0 0) (zq898 []).length ((zq898 []).flatMap (encE ρ)) ∧ w.grownBy w (Value.slice none 0 0).ownBlock) := ⟨⟨rfl,.inl ⟨rfl,rfl⟩⟩,⟨rfl,rfl,rfl,zc47 _,fun _ _ _ => rfl⟩⟩
  clear hlen hpl hbase hn
  go_enter Tryz.func22,Tryz.ntmps22
  go_wp2
  go_loopw [2] (fun i wr => i = .int .i64 0 ∧ wr = w) (fun i _ => 0)
  case atStart => exact ⟨rfl,rfl⟩
  case round =>
   obtain ⟨rfl,rfl⟩ := hrel
   go_wp2
   refine bodyPost_end (v := .tuple #[]) ?_ rfl ⟨rfl,HF.out.1,HF.out.2⟩
   simp [results,Tryz.f22,go_sem]
 ·obtain ⟨n,hn⟩ : ∃ n,n = l.length := ⟨_,rfl⟩
  have HS : Hid (∀ k,k < n → ((zq1645 l k).flatMap (encE ρ)).set (k * 13) (.int .i64 (-7)) = (zq1645 l (k + 1)).flatMap (encE ρ)) := fun k hk => zq1647 ρ l k (by omega)
  have HL : Hid (∀ k,((zq1645 l k).flatMap (encE ρ)).length = n * 13) := fun k => by rw [zq562,zq1646,hn]
  have HE : Hid (zq1645 l n = zq898 l ∧ (zq898 l).length = n) := by
   refine ⟨?_,by omega⟩
   rw [hn]; simp [zq1645]
  have H0 : Hid (cur.toList.take (n * 13) = (zq1645 l 0).flatMap (encE ρ)) := by
   have : cur.toList.take (l.length * 13) = (zq1645 l 0).flatMap (encE ρ) := by simpa [zq1645,zq898] using htake
   rw [hn]; exact this
  have HN : Hid (n ≤ cap ∧ cap ≤ maxLen ∧ base ≤ b) := by rw [hn]; exact ⟨hnc,hcm,hb⟩
  have hncur : n * 13 ≤ cur.size := by rw [hcs,hn]; exact Nat.mul_le_mul_right 13 hnc
  rw [← hn]
  clear htake hnc hcm hb hlen hpl hn
  go_enter Tryz.func22,Tryz.ntmps22
  go_wp2
  go_loopw [2] (fun i wr => ∃ (k : Nat) (C : Array Value),k ≤ n ∧ i = .int .i64 k ∧ wr.heap[b]? = some (.cells C 100 (0,0)) ∧ C.size = cap * 13 ∧ Hid (C.toList.take (n * 13) = (zq1645 l k).flatMap (encE ρ)) ∧ w.grownBy wr (some b)) (fun i _ => n - (intOf i).toNat)
  case atStart => exact ⟨0,cur,Nat.zero_le _,rfl,hg,hcs,H0,⟨rfl,rfl,rfl,zc47 _,fun _ _ _ => rfl⟩⟩
  case round =>
   obtain ⟨k,C,hk,rfl,hC,hCs,HT,hgb⟩ := hrel
   by_cases hlt : k < n
   ·have hkI : (k : Int) < (n : Int) := by omega
    have hM : n ≤ 9223372036854775807 := by have := HN.out; simp only [maxLen] at this; omega
    have HW : Hid (wrap64 ((k : Int) + 1) = ((k + 1 : Nat) : Int)) := by show wrap64 ((k : Int) + 1) = ((k + 1 : Nat) : Int); unfold wrap64; omega
    have hin : k * 13 < C.size := by rw [hCs]; have := HN.out.1; omega
    have cB : wr.cell? ⟨b,k * 13,none⟩ = some C[k * 13] := by simp [World.cell?,hC,hin]
    have fB : wr.frozen? ⟨b,k * 13,none⟩ = false := by simp [World.frozen?,hC]
    have hset := zq1529 wr b (k * 13) (.int .i64 (-7)) C 100 (0,0) hC
    have HP : Hid ((wr.setCell ⟨b,k * 13,none⟩ (.int .i64 (-7))).heap[b]? = some (.cells (C.setIfInBounds (k * 13) (.int .i64 (-7))) 100 (0,0)) ∧ w.grownBy (wr.setCell ⟨b,k * 13,none⟩ (.int .i64 (-7))) (some b) ∧ (C.setIfInBounds (k * 13) (.int .i64 (-7))).toList.take (n * 13) = (zq1645 l (k + 1)).flatMap (encE ρ)) := by
     refine ⟨hset,⟨hgb.os,hgb.tape,hgb.output,by simpa [World.setCell] using hgb.size,fun j hj hne => ?_⟩,?_⟩
     ·exact (Below.heap_setCell wr ⟨b,k * 13,none⟩ _ j (fun e => hne (by simpa using e))).trans (hgb.block j hj hne)
     ·rw [Array.toList_setIfInBounds,List.take_set,HT.out,HS.out k hlt]
    clear hset hC hgb HT
    go_wp2
    go_roundw
    case rel =>
     obtain ⟨h1,h2,h3⟩ := HP.out
     exact ⟨k + 1,_,by omega,congrArg (Value.int .i64) (by omega),h1,by simpa using hCs,h3,h2⟩
    case measure => first | (simp only [HW.out,intOf]; omega) | (simp only [intOf]; omega)
   ·obtain rfl : k = n := by omega
    have HP : Hid (wr.ownsRow base 100 13 (.slice (some ⟨b,0,none⟩) k cap) (zq898 l).length ((zq898 l).flatMap (encE ρ)) ∧ w.grownBy wr (Value.slice (some ⟨b,0,none⟩) k cap).ownBlock) := by
     obtain ⟨h1,h2,h3⟩ := HN.out
     have hT := HT.out
     rw [HE.out.1] at hT
     refine ⟨⟨by rw [zq562],.inr ⟨b,cap,C,by rw [HE.out.2],h3,hC,by rw [HE.out.2]; exact h1,h2,hCs,by rw [HE.out.2]; exact hT⟩⟩,hgb⟩
    clear hC hgb HT
    go_wp2
    refine bodyPost_end (v := .tuple #[]) ?_ rfl ⟨rfl,HP.out.1,HP.out.2⟩
    simp [results,Tryz.f22,go_sem]
theorem zq899 {c : Con} (hc : TrOk Tryz.prog 22 c) : TrOk Tryz.prog 22 (zq1287 .entry zq898 100 c) :=
 zq1288 .entry zq898 100 (fun _ _ base w v l ρ _ hown hbase => zq1648 base w v l ρ hown hbase) hc
end Go.Proofs.YtjolfddpghkabaaGreat
