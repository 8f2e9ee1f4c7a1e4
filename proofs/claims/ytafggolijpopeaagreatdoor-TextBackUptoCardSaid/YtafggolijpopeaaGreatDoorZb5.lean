/-
  Parts: Wk Hf Hg Ia Ib Ir Ic MaU Id Gf Qs Qb Qt.
-/
import Derived.RangeFuncNested
import Derived.RangeFuncBound
import Derived.RangeFuncCalls
import Derived.RangeFuncLeaves
import Derived.RangeFuncBox
import Derived.Shelf.Abstract
import Derived.Shelf.RegionOpen
import Derived.WalkKit
import Derived.OwnWalkIn
import Derived.TacticsInMore
import Derived.LoopNIn
import Derived.LoopIn
import Derived.ProofKit
import Derived.Maps.Own
import Derived.StringKeys
import Derived.Maps.OwnOps
import Derived.Maps.Views
import Derived.Shelf.SlicesQ.Load
import Derived.Lib.Walk
import Derived.Lib.SliceRun
import Derived.Lib.JoinLaws
import Derived.Lib.AppendZeros
import Derived.Lib.AppendZerosOnto
import Derived.Lib.Overlaps
import Derived.Laws.Externs
import Derived.Laws.IdiomCopy
import Derived.Laws.AppendOwn
import Derived.Shelf.Spec.SlicesInsertGrow
import Derived.Deep.RegionLaw
import Derived.Shelf.SlSortCmp.WholeK
import Derived.Test.YtafggolijpopeaaGreatDoorProg
import Derived.Laws.IdiomStrings
import Derived.Deep.Cut
import Derived.Shelf.Strings.Builder1
import Derived.Shelf.Strings.Builder2
import Derived.Shelf.Strings.OnBuilder
import Derived.Shelf.Small.Bits
import Derived.Shelf.Utf8.RuneCount
import Derived.Shelf.Strconv.Atoi
import Derived.Shelf.Strconv.Itoa0
import Derived.Shelf.Strconv.Itoa1
import Derived.Shelf.LaysM
import Derived.Shelf.Strconv.Itoa2
import Derived.Shelf.Strconv.Itoa3
import Derived.Shelf.Strconv.AtoiErrFast
import Derived.Shelf.Strconv.ParseIntEmpty
import Derived.Shelf.Strconv.AtoiFail
import Derived.Shelf.Strconv.Clone
import Derived.Shelf.Strconv.SyntaxError
import Derived.Shelf.LaysC
import Derived.Shelf.Strconv.ToError
import Derived.Shelf.Strconv.Lower
import Derived.Shelf.Strconv.ParseUint10
import Derived.Shelf.Strconv.ParseUint10Empty
import Derived.Shelf.Strconv.ParseUint10Any
import Derived.Shelf.Strconv.ParseInt10
import Derived.Shelf.Strconv.AtoiLong
import Derived.Shelf.Strconv.AtoiInnerAll
import Derived.Shelf.Strconv.RangeError
import Derived.Shelf.Strconv.ToErrorRange
import Derived.Shelf.Strconv.AtoiAll
import Derived.Ground.MpProg
import Derived.Shelf.Pu.ParseUintPublic10
import Derived.Shelf.Pu.ErrVarParseUint
import Derived.Shelf.Strings.Search1
import Derived.Shelf.Strings.Search2
import Derived.Shelf.Strings.Search3
import Derived.Shelf.Strings.Cut
import Derived.Shelf.Strings.Count
import Derived.Shelf.Strings.Shaped
import Derived.Shelf.Strings.Split
import Derived.Shelf.Strings.SplitShaped
import Derived.Shelf.Unicode.Decode
import Derived.Shelf.Strings.RuneCount
import Derived.Shelf.Strings.Explode
import Derived.Shelf.Unicode.DecodeSlow
import Derived.Shelf.Unicode.DecodeAny
import Derived.Lib.AppendIntMem
import Derived.Test.YtafggolijpopeaaGreatDoorZb4
set_option linter.unusedVariables false
set_option linter.unusedSimpArgs false
open List renaming getElem?_eq_getElem → zc0, getElem?_eq_some_iff → zc1, getD_eq_getElem?_getD → zc3, mem_of_getElem? → zc5, getElem?_append_left → zc6, getElem?_cons_zero → zc13, getElem?_take → zc14, drop_of_length_le → zc18, length_take → zc20, length_cons → zc21, getElem?_eq_none → zc22, length_append → zc24, mem_cons → zc28, getElem?_append → zc29, length_nil → zc32, getElem?_drop → zc40, length_drop → zc41, cons_append → zc43, nil_append → zc44, append_assoc → zc48
open Option.some renaming injEq → zc2
open Bool renaming and_eq_true → zc4
open Option renaming map_eq_some_iff → zc7, bind_eq_some_iff → zc8, bind_some → zc50
open Prod.mk renaming injEq → zc11
open Array renaming getElem?_toList → zc25, getElem?_eq_some_iff → zc27, getElem?_eq_getElem → zc46
open Nat renaming le_refl → zc49
noncomputable section
namespace Go.Proofs.YtafggolijpopeaaGreatDoor
open Go Go.Ma
def zq92 : Env := mkEnv ty fnB [] []
theorem zq93 : EnvOk Tryz.prog zq92 := envOk tyOk fn_ok zq252 _
def zq91 : Con := con [.one (.fl .addr)] [.one (.fl .int)] (fun x => zq96 x.1)
theorem zq95 : TrOk Tryz.prog 52 zq91 := by
 have h : zq794 (zq292 Tryz.f52) = [] := by kernel_rfl
 refine zq297 zq93 Tryz.func52 (zq229 h lsNil) _ _ _ (fun x => ?_)
 kernel_rfl
def zq1095 : Env := mkEnv ty fnB [] []
theorem zq1096 : EnvOk Tryz.prog zq1095 := envOk tyOk fn_ok zq252 _
def zq1094 : Con := con [.one (.fl .addr)] [.one (.fl .int)] (fun x => zq1099 x.1)
theorem zq1098 : TrOk Tryz.prog 37 zq1094 := by
 have h : zq794 (zq292 Tryz.f37) = [] := by kernel_rfl
 refine zq297 zq1096 Tryz.func37 (zq229 h lsNil) _ _ _ (fun x => ?_)
 kernel_rfl
def zq1102 : Env := mkEnv ty fnB [(37,zq1094)] []
theorem zq1103 : EnvOk Tryz.prog zq1102 := envOk tyOk fn_ok (zq251 zq1098 zq252) _
def zq1101 : Con := con [.one (.fl .addr),.one (.fl .int)] [.one (.fl .addr)] (fun x => zq1106 x.1 x.2.1)
theorem zq1105 : TrOk Tryz.prog 74 zq1101 := by
 have h : zq794 (zq292 Tryz.f74) = [] := by kernel_rfl
 refine zq297 zq1103 Tryz.func74 (zq229 h lsNil) _ _ _ (fun x => ?_)
 kernel_rfl
def zq1044 : Env := mkEnv ty fnB [(74,zq1101)] []
theorem zq1045 : EnvOk Tryz.prog zq1044 := envOk tyOk fn_ok (zq251 zq1105 zq252) _
def zq1043 : Con := con [.one (.fl .addr),.one (.fl .int)] [.one (.fl .addr)] (fun x => zq1048 x.1 x.2.1)
theorem zq1047 : TrOk Tryz.prog 53 zq1043 := by
 have h : zq794 (zq292 Tryz.f53) = [] := by kernel_rfl
 refine zq297 zq1045 Tryz.func53 (zq229 h lsNil) _ _ _ (fun x => ?_)
 kernel_rfl
def zq1038 : Env := mkEnv ty fnB [(52,zq91),(37,zq1094),(53,zq1043)] []
theorem zq1039 : EnvOk Tryz.prog zq1038 := envOk tyOk fn_ok (zq251 zq95 (zq251 zq1098 (zq251 zq1047 zq252))) _
def zq1037 : Con := con [.one (.fl .pfx)] [.one (.fl .int)] (fun x => zq1042 x.1)
theorem zq1041 : TrOk Tryz.prog 20 zq1037 := by
 have h : zq794 (zq292 Tryz.f20) = [] := by kernel_rfl
 refine zq297 zq1039 Tryz.func20 (zq229 h lsNil) _ _ _ (fun x => ?_)
 kernel_rfl
def zq124 : Env := mkEnv ty fnB [] []
theorem zq125 : EnvOk Tryz.prog zq124 := envOk tyOk fn_ok zq252 _
def zq123 : Con := con [.one (.fl .addr),.one (.fl .int)] [.one (.fl .u64)] (fun x => zq128 x.1 x.2.1)
theorem zq127 : TrOk Tryz.prog 121 zq123 := by
 have h : zq794 (zq292 Tryz.f121) = [] := by kernel_rfl
 refine zq297 zq125 Tryz.func121 (zq229 h lsNil) _ _ _ (fun x => ?_)
 kernel_rfl
def zq146 : LoopS := { n := 21,base := 0,head := { keep := [1,2,5],vals := [.one (.fl .int),.one (.cst (.ptr 0 0)),.one (.fl .int)],objs := [.blk [.fl .addr] 24 true] },exits := [⟨some 0,{ keep := [5],vals := [.one (.fl .int)],objs := [] }⟩] }
def zq149 : Env := mkEnv ty fnB [(121,zq123)] [(2,(zq790 zq146 (loopN zq145 FUEL)))]
theorem zq150 : EnvOk Tryz.prog zq149 := envOk tyOk fn_ok (zq251 zq127 zq252) _
theorem zq147 : LOk Tryz.prog (zq859 (zq292 Tryz.f120) 0) (zq790 zq146 (loopN zq145 FUEL)) := by
 have h : zq794 (zq859 (zq292 Tryz.f120) 0) = [] := by kernel_rfl
 refine zq791 zq150 (zq795 h lsNil) zq146 zq145 FUEL (fun rec x => ?_)
 kernel_rfl
def zq148 : Con := con [.one (.fl .addr),.one (.fl .int)] [.one (.fl .int)] (fun x => zq152 x.1 x.2.1)
theorem zq151 : TrOk Tryz.prog 120 zq148 := by
 have h : zq794 (zq292 Tryz.f120) = [(zq859 (zq292 Tryz.f120) 0)] := by kernel_rfl
 refine zq297 zq150 Tryz.func120 (zq229 h (zq801 (zq890 (t := (zq790 zq146 (loopN zq145 FUEL))) (by kernel_rfl) zq147) lsNil)) _ _ _ (fun x => ?_)
 kernel_rfl
def zq138 : LoopS := { n := 24,base := 0,head := { keep := [1,4,5,8],vals := [.one (.cst (.ptr 0 0)),.one (.fl .int),.one (.fl .int),.one (.fl .int)],objs := [.blk [.fl .addr] 24 true] },exits := [⟨some 0,{ keep := [4,5],vals := [.one (.fl .int),.one (.fl .int)],objs := [] }⟩] }
def zq141 : Env := mkEnv ty fnB [(120,zq148)] [(3,(zq790 zq138 (loopN zq137 FUEL)))]
theorem zq142 : EnvOk Tryz.prog zq141 := envOk tyOk fn_ok (zq251 zq151 zq252) _
theorem zq139 : LOk Tryz.prog (zq859 (zq292 Tryz.f93) 0) (zq790 zq138 (loopN zq137 FUEL)) := by
 have h : zq794 (zq859 (zq292 Tryz.f93) 0) = [] := by kernel_rfl
 refine zq791 zq142 (zq795 h lsNil) zq138 zq137 FUEL (fun rec x => ?_)
 kernel_rfl
def zq140 : Con := con [.one (.fl .addr)] [.one (.fl .int),.one (.fl .int)] (fun x => zq144 x.1)
theorem zq143 : TrOk Tryz.prog 93 zq140 := by
 have h : zq794 (zq292 Tryz.f93) = [(zq859 (zq292 Tryz.f93) 0)] := by kernel_rfl
 refine zq297 zq142 Tryz.func93 (zq229 h (zq801 (zq890 (t := (zq790 zq138 (loopN zq137 FUEL))) (by kernel_rfl) zq139) lsNil)) _ _ _ (fun x => ?_)
 kernel_rfl
def zq1053 : Env := mkEnv ty fnB [(53,zq1043)] []
theorem zq1054 : EnvOk Tryz.prog zq1053 := envOk tyOk fn_ok (zq251 zq1047 zq252) _
def zq1052 : Con := con [.one (.fl .pfx),.one (.fl .addr)] [.one (.fl .bool)] (fun x => zq1057 x.1 x.2.1)
theorem zq1056 : TrOk Tryz.prog 73 zq1052 := by
 have h : zq794 (zq292 Tryz.f73) = [] := by kernel_rfl
 refine zq297 zq1054 Tryz.func73 (zq229 h lsNil) _ _ _ (fun x => ?_)
 kernel_rfl
def zq1077 : Env := mkEnv ty fnB [(73,zq1052)] []
theorem zq1078 : EnvOk Tryz.prog zq1077 := envOk tyOk fn_ok (zq251 zq1056 zq252) _
def zq1076 : Con := con [.one (.fl .pfx),.one (.fl .pfx)] [.one (.fl .bool)] (fun x => zq1081 x.1 x.2.1)
theorem zq1080 : TrOk Tryz.prog 35 zq1076 := by
 have h : zq794 (zq292 Tryz.f35) = [] := by kernel_rfl
 refine zq297 zq1078 Tryz.func35 (zq229 h lsNil) _ _ _ (fun x => ?_)
 kernel_rfl
def zq1059 : Env := mkEnv ty fnB [(74,zq1101)] []
theorem zq1060 : EnvOk Tryz.prog zq1059 := envOk tyOk fn_ok (zq251 zq1105 zq252) _
def zq1058 : Con := con [.one (.fl .pfx)] [.one (.fl .addr)] (fun x => zq1063 x.1)
theorem zq1062 : TrOk Tryz.prog 36 zq1058 := by
 have h : zq794 (zq292 Tryz.f36) = [] := by kernel_rfl
 refine zq297 zq1060 Tryz.func36 (zq229 h lsNil) _ _ _ (fun x => ?_)
 kernel_rfl
def zq86 : Env := mkEnv ty fnB [] []
theorem zq87 : EnvOk Tryz.prog zq86 := envOk tyOk fn_ok zq252 _
def zq85 : Con := con [.one (.fl .addr)] [.one (.fl .addr),.one (.fl .bool)] (fun x => zq90 x.1)
theorem zq89 : TrOk Tryz.prog 75 zq85 := by
 have h : zq794 (zq292 Tryz.f75) = [] := by kernel_rfl
 refine zq297 zq87 Tryz.func75 (zq229 h lsNil) _ _ _ (fun x => ?_)
 kernel_rfl
def zq654 : Env := mkEnv ty fnB [] []
theorem zq655 : EnvOk Tryz.prog zq654 := envOk tyOk fn_ok zq252 _
def zq653 : Con := con [.one (.fl .u64)] [.one (.fl .addr)] (fun x => zq657 x.1)
theorem zq656 : TrOk Tryz.prog 51 zq653 := by
 have h : zq794 (zq292 Tryz.f51) = [] := by kernel_rfl
 refine zq297 zq655 Tryz.func51 (zq229 h lsNil) _ _ _ (fun x => ?_)
 kernel_rfl
def zq633 : Env := mkEnv ty fnB [(51,zq653)] []
theorem zq634 : EnvOk Tryz.prog zq633 := envOk tyOk fn_ok (zq251 zq656 zq252) _
def zq632 : Con := con [.one (.fl .u64),.one (.fl .int)] [.one (.fl .pfx)] (fun x => zq636 x.1 x.2.1)
theorem zq635 : TrOk Tryz.prog 50 zq632 := by
 have h : zq794 (zq292 Tryz.f50) = [] := by kernel_rfl
 refine zq297 zq634 Tryz.func50 (zq229 h lsNil) _ _ _ (fun x => ?_)
 kernel_rfl
def zq1461 : Env := mkEnv ty fnB [] []
theorem zq1462 : EnvOk Tryz.prog zq1461 := envOk tyOk fn_ok zq252 _
def zq1460 : Con := con [.one (.fl .int),.one (.fl .int),.one (.fl .int)] [.one (.fl .bool)] (fun x => zq1465 x.1 x.2.1 x.2.2.1)
theorem zq1464 : TrOk Tryz.prog 64 zq1460 := by
 have h : zq794 (zq292 Tryz.f64) = [] := by kernel_rfl
 refine zq297 zq1462 Tryz.func64 (zq229 h lsNil) _ _ _ (fun x => ?_)
 kernel_rfl
def zq1437 : Env := mkEnv ty fnB [] []
theorem zq1438 : EnvOk Tryz.prog zq1437 := envOk tyOk fn_ok zq252 _
def zq1436 : Con := con [.one (.fl .op)] [.one (.fl .bool)] (fun x => zq1441 x.1)
theorem zq1440 : TrOk Tryz.prog 65 zq1436 := by
 have h : zq794 (zq292 Tryz.f65) = [] := by kernel_rfl
 refine zq297 zq1438 Tryz.func65 (zq229 h lsNil) _ _ _ (fun x => ?_)
 kernel_rfl
def zq697 : Env := mkEnv ty fnB [(37,zq1094)] []
theorem zq698 : EnvOk Tryz.prog zq697 := envOk tyOk fn_ok (zq251 zq1098 zq252) _
def zq696 : Con := con [.one (.fl .pfx)] [.one (.fl .bool)] (fun x => zq701 x.1)
theorem zq700 : TrOk Tryz.prog 66 zq696 := by
 have h : zq794 (zq292 Tryz.f66) = [] := by kernel_rfl
 refine zq297 zq698 Tryz.func66 (zq229 h lsNil) _ _ _ (fun x => ?_)
 kernel_rfl
def zq759 : Env := mkEnv ty fnB [] []
theorem zq760 : EnvOk Tryz.prog zq759 := envOk tyOk fn_ok zq252 _
def zq758 : Con := con [.one (.fl .int),.one (.fl .int),.one (.fl .int)] [.one (.fl .bool)] (fun x => zq763 x.1 x.2.1 x.2.2.1)
theorem zq762 : TrOk Tryz.prog 91 zq758 := by
 have h : zq794 (zq292 Tryz.f91) = [] := by kernel_rfl
 refine zq297 zq760 Tryz.func91 (zq229 h lsNil) _ _ _ (fun x => ?_)
 kernel_rfl
def zq744 : LoopS := { n := 33,base := 0,head := { keep := [0,6,7],vals := [.one (.fl .str),.one (.fl .int),.one (.fl .int)],objs := [] },exits := [⟨none,{ keep := [2],vals := [.one (.fl .bool)],objs := [] }⟩,⟨some 0,{ keep := [0],vals := [.one (.fl .str)],objs := [] }⟩] }
def zq747 : Env := mkEnv ty fnB [(91,zq758)] [(2,(zq790 zq744 (loopN zq743 FUEL)))]
theorem zq748 : EnvOk Tryz.prog zq747 := envOk tyOk fn_ok (zq251 zq762 zq252) _
theorem zq745 : LOk Tryz.prog (zq859 (zq292 Tryz.f67) 0) (zq790 zq744 (loopN zq743 FUEL)) := by
 have h : zq794 (zq859 (zq292 Tryz.f67) 0) = [] := by kernel_rfl
 refine zq791 zq748 (zq795 h lsNil) zq744 zq743 FUEL (fun rec x => ?_)
 kernel_rfl
def zq746 : Con := con [.one (.fl .str)] [.one (.fl .bool)] (fun x => zq751 x.1)
theorem zq750 : TrOk Tryz.prog 67 zq746 := by
 have h : zq794 (zq292 Tryz.f67) = [(zq859 (zq292 Tryz.f67) 0)] := by kernel_rfl
 refine zq297 zq748 Tryz.func67 (zq229 h (zq801 (zq890 (t := (zq790 zq744 (loopN zq743 FUEL))) (by kernel_rfl) zq745) lsNil)) _ _ _ (fun x => ?_)
 kernel_rfl
def zq1376 : Env := mkEnv ty fnB [(64,zq1460),(65,zq1436),(20,zq1037),(66,zq696),(52,zq91),(67,zq746)] []
theorem zq1377 : EnvOk Tryz.prog zq1376 := envOk tyOk fn_ok (zq251 zq1464 (zq251 zq1440 (zq251 zq1041 (zq251 zq700 (zq251 zq95 (zq251 zq750 zq252)))))) _
def zq1375 : Con := con [.one (.fl .op)] [.one (.fl .int)] (fun x => zq1380 x.1)
theorem zq1379 : TrOk Tryz.prog 29 zq1375 := by
 have h : zq794 (zq292 Tryz.f29) = [] := by kernel_rfl
 refine zq297 zq1377 Tryz.func29 (zq229 h lsNil) _ _ _ (fun x => ?_)
 kernel_rfl
def zq1550 : Env := mkEnv ty fnB [] []
theorem zq1551 : EnvOk Tryz.prog zq1550 := envOk tyOk fn_ok zq252 _
def zq1549 : Con := con [.one (.fl .int),.ref [.row .str 9] 74] [.one (.fl .str)] (fun x => zq1553 x.1 x.2.1.1)
theorem zq1552 : TrOk Tryz.prog 81 zq1549 := by
 have h : zq794 (zq292 Tryz.f81) = [] := by kernel_rfl
 refine zq297 zq1551 Tryz.func81 (zq229 h lsNil) _ _ _ (fun x => ?_)
 kernel_rfl
def zq638 : Env := mkEnv ty fnB [(50,zq632),(51,zq653)] []
theorem zq639 : EnvOk Tryz.prog zq638 := envOk tyOk fn_ok (zq251 zq635 (zq251 zq656 zq252)) _
def zq637 : Con := con [] [.one (.row .op 51)] (fun x => zq642)
theorem zq641 : TrOk Tryz.prog 60 zq637 := by
 have h : zq794 (zq292 Tryz.f60) = [] := by kernel_rfl
 refine zq297 zq639 Tryz.func60 (zq229 h lsNil) _ _ _ (fun x => ?_)
 kernel_rfl
def zq98 : Env := mkEnv ty fnB [] []
theorem zq99 : EnvOk Tryz.prog zq98 := envOk tyOk fn_ok zq252 _
def zq97 : Con := con [.one (.fl .u64),.one (.fl .u64)] [.one (.fl .int)] (fun x => zq101 x.1 x.2.1)
theorem zq100 : TrOk Tryz.prog 146 zq97 := by
 have h : zq794 (zq292 Tryz.f146) = [] := by kernel_rfl
 refine zq297 zq99 Tryz.func146 (zq229 h lsNil) _ _ _ (fun x => ?_)
 kernel_rfl
def zq103 : Env := mkEnv ty fnB [(146,zq97)] []
theorem zq104 : EnvOk Tryz.prog zq103 := envOk tyOk fn_ok (zq251 zq100 zq252) _
def zq102 : Con := con [.one (.fl .addr),.one (.fl .addr)] [.one (.fl .int)] (fun x => zq107 x.1 x.2.1)
theorem zq106 : TrOk Tryz.prog 113 zq102 := by
 have h : zq794 (zq292 Tryz.f113) = [] := by kernel_rfl
 refine zq297 zq104 Tryz.func113 (zq229 h lsNil) _ _ _ (fun x => ?_)
 kernel_rfl
def zq703 : LoopS := { n := 57,base := 1,head := { keep := [1,24,25,26],vals := [.one (.cst (.ptr 1 0)),.one (.cst (.row 0)),.one (.fl .int),.one (.fl .int)],objs := [.row .addr 24 false,.blk [.fl .bool,.fl .u64,.fl .u64,.fl .int,.cst (.row 0)] 116 true] },exits := [⟨none,{ keep := [2],vals := [.one (.fl .int)],objs := [.row .addr 24 false] }⟩,⟨some 0,{ keep := [],vals := [],objs := [.row .addr 24 false] }⟩] }
def zq706 : Env := mkEnv ty fnB [(20,zq1037),(66,zq696),(52,zq91),(73,zq1052),(113,zq102)] [(7,(zq790 zq703 (loopN zq702 FUEL)))]
theorem zq707 : EnvOk Tryz.prog zq706 := envOk tyOk fn_ok (zq251 zq1041 (zq251 zq700 (zq251 zq95 (zq251 zq1056 (zq251 zq106 zq252))))) _
theorem zq704 : LOk Tryz.prog (zq859 (zq292 Tryz.f85) 0) (zq790 zq703 (loopN zq702 FUEL)) := by
 have h : zq794 (zq859 (zq292 Tryz.f85) 0) = [] := by kernel_rfl
 refine zq791 zq707 (zq795 h lsNil) zq703 zq702 FUEL (fun rec x => ?_)
 kernel_rfl
def zq705 : Con := con [.agg [.fl .pfx,.row .addr 24]] [.one (.fl .int)] (fun x => zq710 x.1.1 x.1.2.1)
theorem zq709 : TrOk Tryz.prog 85 zq705 := by
 have h : zq794 (zq292 Tryz.f85) = [(zq859 (zq292 Tryz.f85) 0)] := by kernel_rfl
 refine zq297 zq707 Tryz.func85 (zq229 h (zq801 (zq890 (t := (zq790 zq703 (loopN zq702 FUEL))) (by kernel_rfl) zq704) lsNil)) _ _ _ (fun x => ?_)
 kernel_rfl
def zq1071 : Env := mkEnv ty fnB [(113,zq102)] []
theorem zq1072 : EnvOk Tryz.prog zq1071 := envOk tyOk fn_ok (zq251 zq106 zq252) _
def zq1070 : Con := con [.one (.fl .pfx),.one (.fl .pfx)] [.one (.fl .int)] (fun x => zq1075 x.1 x.2.1)
theorem zq1074 : TrOk Tryz.prog 86 zq1070 := by
 have h : zq794 (zq292 Tryz.f86) = [] := by kernel_rfl
 refine zq297 zq1072 Tryz.func86 (zq229 h lsNil) _ _ _ (fun x => ?_)
 kernel_rfl
def zq1065 : Env := mkEnv ty fnB [(35,zq1076)] []
theorem zq1066 : EnvOk Tryz.prog zq1065 := envOk tyOk fn_ok (zq251 zq1080 zq252) _
def zq1064 : Con := con [.one (.fl .pfx),.one (.fl .pfx)] [.one (.fl .bool)] (fun x => zq1069 x.1 x.2.1)
theorem zq1068 : TrOk Tryz.prog 87 zq1064 := by
 have h : zq794 (zq292 Tryz.f87) = [] := by kernel_rfl
 refine zq297 zq1066 Tryz.func87 (zq229 h lsNil) _ _ _ (fun x => ?_)
 kernel_rfl
def zq753 : Env := mkEnv ty fnB [(52,zq91),(67,zq746),(91,zq758)] []
theorem zq754 : EnvOk Tryz.prog zq753 := envOk tyOk fn_ok (zq251 zq95 (zq251 zq750 (zq251 zq762 zq252))) _
def zq752 : Con := con [.one (.fl .lease)] [.one (.fl .int)] (fun x => zq757 x.1)
theorem zq756 : TrOk Tryz.prog 114 zq752 := by
 have h : zq794 (zq292 Tryz.f114) = [] := by kernel_rfl
 refine zq297 zq754 Tryz.func114 (zq229 h lsNil) _ _ _ (fun x => ?_)
 kernel_rfl
def zq665 : LoopS := { n := 46,base := 1,head := { keep := [0,1,12,13,14],vals := [.one (.cst (.row 0)),.one (.fl .int),.one (.cst (.row 0)),.one (.fl .int),.one (.fl .int)],objs := [.row .lease 121 false] },exits := [⟨none,{ keep := [4],vals := [.one (.fl .int)],objs := [.row .lease 121 false] }⟩,⟨some 0,{ keep := [0,1],vals := [.one (.cst (.row 0)),.one (.fl .int)],objs := [.row .lease 121 false] }⟩] }
def zq662 : LoopS := { n := 46,base := 1,head := { keep := [0,1,8],vals := [.one (.cst (.row 0)),.one (.fl .int),.one (.fl .int)],objs := [.row .lease 121 false] },exits := [⟨none,{ keep := [4],vals := [.one (.fl .int)],objs := [.row .lease 121 false] }⟩,⟨some 2,{ keep := [1],vals := [.one (.fl .int)],objs := [.row .lease 121 false] }⟩] }
def zq668 : Env := mkEnv ty fnB [(114,zq752),(113,zq102),(91,zq758)] [(4,(zq790 zq665 (loopN zq664 FUEL))),(11,(zq790 zq662 (loopN zq661 FUEL)))]
theorem zq669 : EnvOk Tryz.prog zq668 := envOk tyOk fn_ok (zq251 zq756 (zq251 zq106 (zq251 zq762 zq252))) _
theorem zq663 : LOk Tryz.prog (zq859 (zq292 Tryz.f88) 1) (zq790 zq662 (loopN zq661 FUEL)) := by
 have h : zq794 (zq859 (zq292 Tryz.f88) 1) = [] := by kernel_rfl
 refine zq791 zq669 (zq795 h lsNil) zq662 zq661 FUEL (fun rec x => ?_)
 kernel_rfl
theorem zq666 : LOk Tryz.prog (zq859 (zq292 Tryz.f88) 0) (zq790 zq665 (loopN zq664 FUEL)) := by
 have h : zq794 (zq859 (zq292 Tryz.f88) 0) = [] := by kernel_rfl
 refine zq791 zq669 (zq795 h lsNil) zq665 zq664 FUEL (fun rec x => ?_)
 kernel_rfl
def zq667 : Con := con [.one (.row .lease 121),.one (.fl .int)] [.one (.fl .int)] (fun x => zq672 x.1 x.2.1)
theorem zq671 : TrOk Tryz.prog 88 zq667 := by
 have h : zq794 (zq292 Tryz.f88) = [(zq859 (zq292 Tryz.f88) 0),(zq859 (zq292 Tryz.f88) 1)] := by kernel_rfl
 refine zq297 zq669 Tryz.func88 (zq229 h (zq801 (zq890 (t := (zq790 zq665 (loopN zq664 FUEL))) (by kernel_rfl) zq666) (zq801 (zq890 (t := (zq790 zq662 (loopN zq661 FUEL))) (by kernel_rfl) zq663) lsNil))) _ _ _ (fun x => ?_)
 kernel_rfl
def zq1444 : Env := mkEnv ty fnB [(73,zq1052)] []
theorem zq1445 : EnvOk Tryz.prog zq1444 := envOk tyOk fn_ok (zq251 zq1056 zq252) _
def zq1443 : Con := con [.agg [.fl .pfx,.row .addr 24],.ref [.fl .addr] 24] [.one (.fl .bool)] (fun x => zq1447 x.1.1 x.1.2.1 x.2.1.1)
theorem zq1446 : TrOk Tryz.prog 116 zq1443 := by
 have h : zq794 (zq292 Tryz.f116) = [] := by kernel_rfl
 refine zq297 zq1445 Tryz.func116 (zq229 h lsNil) _ _ _ (fun x => ?_)
 kernel_rfl
def zq1454 : LoopS := { n := 19,base := 5,head := { keep := [0,1,7,8],vals := [.one (.cst (.row 1)),.one (.cst (.fn 116 [.ptr 4 0])),.one (.fl .int),.one (.fl .int)],objs := [.bag .addr 24 false false,.nest .pfx 0 116 false,.row .lease 121 false,.blk [.cst (.row 1),.cst (.row 2),.fl .int] 91 true,.blk [.fl .addr] 24 true] },exits := [⟨none,{ keep := [4],vals := [.one (.fl .int)],objs := [.bag .addr 24 false false,.nest .pfx 0 116 false,.row .lease 121 false,.blk [.cst (.row 1),.cst (.row 2),.fl .int] 91 true,.blk [.fl .addr] 24 true] }⟩,⟨some 0,{ keep := [],vals := [],objs := [.bag .addr 24 false false,.nest .pfx 0 116 false,.row .lease 121 false,.blk [.cst (.row 1),.cst (.row 2),.fl .int] 91 true,.blk [.fl .addr] 24 true] }⟩] }
def zq1456 : Env := mkEnv ty fnB [(116,zq1443)] [(2,(zq790 zq1454 (loopN zq1453 FUEL)))]
theorem zq1457 : EnvOk Tryz.prog zq1456 := envOk tyOk fn_ok (zq251 zq1446 zq252) _
theorem zq1455 : LOk Tryz.prog (zq859 (zq292 Tryz.f115) 0) (zq790 zq1454 (loopN zq1453 FUEL)) := by
 have h : zq794 (zq859 (zq292 Tryz.f115) 0) = [] := by kernel_rfl
 refine zq791 zq1457 (zq795 h lsNil) zq1454 zq1453 FUEL (fun rec x => ?_)
 kernel_rfl
theorem zq1458 : TrOk Tryz.prog 115 (zq534 zq1456 Tryz.f115) := by
 have h : zq794 (zq292 Tryz.f115) = [(zq859 (zq292 Tryz.f115) 0)] := by kernel_rfl
 exact zq535 zq1457 Tryz.func115 (zq229 h (zq801 (zq890 (t := (zq790 zq1454 (loopN zq1453 FUEL))) (by kernel_rfl) zq1455) lsNil))
def zq1449 : Env := mkEnv ty fnB [(115,(zq534 zq1456 Tryz.f115))] []
theorem zq1450 : EnvOk Tryz.prog zq1449 := envOk tyOk fn_ok (zq251 zq1458 zq252) _
def zq1448 : Con := con [.agg [.nest .pfx .addr 116 24 true,.row .lease 121,.fl .int],.one (.fl .addr)] [.one (.fl .int)] (fun x => zq1459 x.1.1 x.1.2.1 x.1.2.2.1 x.2.1)
theorem zq1452 : TrOk Tryz.prog 89 zq1448 := by
 have h : zq794 (zq292 Tryz.f89) = [] := by kernel_rfl
 refine zq297 zq1450 Tryz.func89 (zq229 h lsNil) _ _ _ (fun x => ?_)
 kernel_rfl
def zq1271 : Env := mkEnv ty fnB [] []
theorem zq1272 : EnvOk Tryz.prog zq1271 := envOk tyOk fn_ok zq252 _
def zq1270 : Con := con [.one (.row .lease 121)] [.one (.row .lease 121)] (fun x => zq1274 x.1)
theorem zq1273 : TrOk Tryz.prog 139 zq1270 := by
 have h : zq794 (zq292 Tryz.f139) = [] := by kernel_rfl
 refine zq297 zq1272 Tryz.func139 (zq229 h lsNil) _ _ _ (fun x => ?_)
 kernel_rfl
def zq1266 : Env := mkEnv ty fnB [] []
theorem zq1267 : EnvOk Tryz.prog zq1266 := envOk tyOk fn_ok zq252 _
def zq1265 : Con := con [.one (.row .addr 24)] [.one (.row .addr 24)] (fun x => zq1269 x.1)
theorem zq1268 : TrOk Tryz.prog 140 zq1265 := by
 have h : zq794 (zq292 Tryz.f140) = [] := by kernel_rfl
 refine zq297 zq1267 Tryz.func140 (zq229 h lsNil) _ _ _ (fun x => ?_)
 kernel_rfl
def zq1382 : LoopS := { n := 32,base := 3,head := { keep := [2,3,13,14,15],vals := [.one (.cst (.ptr 3 0)),.one (.cst (.ptr 4 0)),.one (.cst (.row 1)),.one (.fl .int),.one (.fl .int)],objs := [.bag .addr 24 false false,.nest .pfx 0 116 false,.row .lease 121 false,.blk [.cst (.row 5),.cst (.row 6),.fl .int] 91 true,.blk [.cst (.row 7),.cst (.row 8),.fl .int] 91 true,.nest .pfx 9 116 true,.row .lease 121 true,.nest .pfx 10 116 true,.row .lease 121 true,.bag .addr 24 true true,.bag .addr 24 true true] },exits := [⟨some 0,{ keep := [2,3],vals := [.one (.cst (.ptr 3 0)),.one (.cst (.ptr 4 0))],objs := [.bag .addr 24 false false,.nest .pfx 0 116 false,.row .lease 121 false,.blk [.cst (.row 5),.cst (.row 6),.fl .int] 91 true,.blk [.cst (.row 7),.cst (.row 8),.fl .int] 91 true,.nest .pfx 9 116 true,.row .lease 121 true,.nest .pfx 10 116 true,.row .lease 121 true,.bag .addr 24 true true,.bag .addr 24 true true] }⟩] }
def zq1385 : Env := mkEnv ty fnB [(139,zq1270),(140,zq1265)] [(3,(zq790 zq1382 (loopN zq1381 FUEL)))]
theorem zq1386 : EnvOk Tryz.prog zq1385 := envOk tyOk fn_ok (zq251 zq1273 (zq251 zq1268 zq252)) _
theorem zq1383 : LOk Tryz.prog (zq859 (zq292 Tryz.f111) 0) (zq790 zq1382 (loopN zq1381 FUEL)) := by
 have h : zq794 (zq859 (zq292 Tryz.f111) 0) = [] := by kernel_rfl
 refine zq791 zq1386 (zq795 h lsNil) zq1382 zq1381 FUEL (fun rec x => ?_)
 kernel_rfl
def zq1384 : Con := con [.agg [.nest .pfx .addr 116 24 true,.row .lease 121,.fl .int]] [.agg [.nest .pfx .addr 116 24 true,.row .lease 121,.fl .int]] (fun x => zq1389 x.1.1 x.1.2.1 x.1.2.2.1)
theorem zq1388 : TrOk Tryz.prog 111 zq1384 := by
 have h : zq794 (zq292 Tryz.f111) = [(zq859 (zq292 Tryz.f111) 0)] := by kernel_rfl
 refine zq297 zq1386 Tryz.func111 (zq229 h (zq801 (zq890 (t := (zq790 zq1382 (loopN zq1381 FUEL))) (by kernel_rfl) zq1383) lsNil)) _ _ _ (fun x => ?_)
 kernel_rfl
def zq60 : Env := mkEnv ty fnB [(87,zq1064)] []
theorem zq61 : EnvOk Tryz.prog zq60 := envOk tyOk fn_ok (zq251 zq1068 zq252) _
def zq59 : Con := con [.agg [.fl .pfx,.row .addr 24],.ref [.fl .pfx] 26] [.one (.fl .bool)] (fun x => zq63 x.1.1 x.1.2.1 x.2.1.1)
theorem zq62 : TrOk Tryz.prog 162 zq59 := by
 have h : zq794 (zq292 Tryz.f162) = [] := by kernel_rfl
 refine zq297 zq61 Tryz.func162 (zq229 h lsNil) _ _ _ (fun x => ?_)
 kernel_rfl
def zq65 : Env := mkEnv ty fnB [(86,zq1070)] []
theorem zq66 : EnvOk Tryz.prog zq65 := envOk tyOk fn_ok (zq251 zq1074 zq252) _
def zq64 : Con := con [.agg [.fl .pfx,.row .addr 24],.one (.fl .pfx)] [.one (.fl .int)] (fun x => zq68 x.1.1 x.1.2.1 x.2.1)
theorem zq67 : TrOk Tryz.prog 164 zq64 := by
 have h : zq794 (zq292 Tryz.f164) = [] := by kernel_rfl
 refine zq297 zq66 Tryz.func164 (zq229 h lsNil) _ _ _ (fun x => ?_)
 kernel_rfl
def zq44 : Env := mkEnv ty fnB [] []
theorem zq45 : EnvOk Tryz.prog zq44 := envOk tyOk fn_ok zq252 _
def zq43 : Con := con [.one (.fl .lease),.ref [.fl .str] 9] [.one (.fl .bool)] (fun x => zq47 x.1 x.2.1.1)
theorem zq46 : TrOk Tryz.prog 186 zq43 := by
 have h : zq794 (zq292 Tryz.f186) = [] := by kernel_rfl
 refine zq297 zq45 Tryz.func186 (zq229 h lsNil) _ _ _ (fun x => ?_)
 kernel_rfl
def zq53 : LoopS := { n := 19,base := 5,head := { keep := [0,1,7,8],vals := [.one (.cst (.row 3)),.one (.cst (.fn 186 [.ptr 4 0])),.one (.fl .int),.one (.fl .int)],objs := [.blk [.cst (.row 2),.cst (.row 3),.fl .int] 144 false,.bag .addr 24 false false,.nest .pfx 1 116 false,.row .lease 121 false,.blk [.fl .str] 9 true] },exits := [⟨none,{ keep := [4],vals := [.one (.fl .int)],objs := [.blk [.cst (.row 2),.cst (.row 3),.fl .int] 144 false,.bag .addr 24 false false,.nest .pfx 1 116 false,.row .lease 121 false,.blk [.fl .str] 9 true] }⟩,⟨some 0,{ keep := [],vals := [],objs := [.blk [.cst (.row 2),.cst (.row 3),.fl .int] 144 false,.bag .addr 24 false false,.nest .pfx 1 116 false,.row .lease 121 false,.blk [.fl .str] 9 true] }⟩] }
def zq55 : Env := mkEnv ty fnB [(186,zq43)] [(2,(zq790 zq53 (loopN zq52 FUEL)))]
theorem zq56 : EnvOk Tryz.prog zq55 := envOk tyOk fn_ok (zq251 zq46 zq252) _
theorem zq54 : LOk Tryz.prog (zq859 (zq292 Tryz.f147) 0) (zq790 zq53 (loopN zq52 FUEL)) := by
 have h : zq794 (zq859 (zq292 Tryz.f147) 0) = [] := by kernel_rfl
 refine zq791 zq56 (zq795 h lsNil) zq53 zq52 FUEL (fun rec x => ?_)
 kernel_rfl
theorem zq57 : TrOk Tryz.prog 147 (zq534 zq55 Tryz.f147) := by
 have h : zq794 (zq292 Tryz.f147) = [(zq859 (zq292 Tryz.f147) 0)] := by kernel_rfl
 exact zq535 zq56 Tryz.func147 (zq229 h (zq801 (zq890 (t := (zq790 zq53 (loopN zq52 FUEL))) (by kernel_rfl) zq54) lsNil))
def zq49 : Env := mkEnv ty fnB [(147,(zq534 zq55 Tryz.f147))] []
theorem zq50 : EnvOk Tryz.prog zq49 := envOk tyOk fn_ok (zq251 zq57 zq252) _
def zq48 : Con := con [.ref [.nest .pfx .addr 116 24 true,.row .lease 121,.fl .int] 144,.one (.fl .str)] [.one (.fl .int)] (fun x => zq58 x.1.1 x.1.2.1 x.1.2.2.1 x.2.1)
theorem zq51 : TrOk Tryz.prog 168 zq48 := by
 have h : zq794 (zq292 Tryz.f168) = [] := by kernel_rfl
 refine zq297 zq50 Tryz.func168 (zq229 h lsNil) _ _ _ (fun x => ?_)
 kernel_rfl
def zq674 : Env := mkEnv ty fnB [] []
theorem zq675 : EnvOk Tryz.prog zq674 := envOk tyOk fn_ok zq252 _
def zq673 : Con := con [.one (.fl .lease),.ref [.fl .int] 3] [.one (.fl .bool)] (fun x => zq677 x.1 x.2.1.1)
theorem zq676 : TrOk Tryz.prog 174 zq673 := by
 have h : zq794 (zq292 Tryz.f174) = [] := by kernel_rfl
 refine zq297 zq675 Tryz.func174 (zq229 h lsNil) _ _ _ (fun x => ?_)
 kernel_rfl
def zq690 : LoopS := { n := 19,base := 5,head := { keep := [0,1,7,8],vals := [.one (.cst (.row 3)),.one (.cst (.fn 174 [.ptr 1 0])),.one (.fl .int),.one (.fl .int)],objs := [.row .lease 121 false,.blk [.fl .int] 3 true,.row .lease 121 true,.row .lease 121 true,.row .lease 121 true] },exits := [⟨none,{ keep := [4],vals := [.one (.fl .int)],objs := [.row .lease 121 false,.blk [.fl .int] 3 true,.row .lease 121 true,.row .lease 121 true,.row .lease 121 true] }⟩,⟨some 0,{ keep := [],vals := [],objs := [.row .lease 121 false,.blk [.fl .int] 3 true,.row .lease 121 true,.row .lease 121 true,.row .lease 121 true] }⟩] }
def zq692 : Env := mkEnv ty fnB [(174,zq673)] [(2,(zq790 zq690 (loopN zq689 FUEL)))]
theorem zq693 : EnvOk Tryz.prog zq692 := envOk tyOk fn_ok (zq251 zq676 zq252) _
theorem zq691 : LOk Tryz.prog (zq859 (zq292 Tryz.f147) 0) (zq790 zq690 (loopN zq689 FUEL)) := by
 have h : zq794 (zq859 (zq292 Tryz.f147) 0) = [] := by kernel_rfl
 refine zq791 zq693 (zq795 h lsNil) zq690 zq689 FUEL (fun rec x => ?_)
 kernel_rfl
theorem zq694 : TrOk Tryz.prog 147 (zq534 zq692 Tryz.f147) := by
 have h : zq794 (zq292 Tryz.f147) = [(zq859 (zq292 Tryz.f147) 0)] := by kernel_rfl
 exact zq535 zq693 Tryz.func147 (zq229 h (zq801 (zq890 (t := (zq790 zq690 (loopN zq689 FUEL))) (by kernel_rfl) zq691) lsNil))
def zq684 : LoopS := { n := 42,base := 4,head := { keep := [0,1,5,6],vals := [.one (.cst (.row 3)),.one (.cst (.fn 174 [.ptr 1 0])),.one (.fl .int),.one (.fl .int)],objs := [.row .lease 121 false,.blk [.fl .int] 3 true,.row .lease 121 true,.row .lease 121 true] },exits := [⟨some 0,{ keep := [0,5],vals := [.one (.cst (.row 3)),.one (.fl .int)],objs := [.row .lease 121 false,.blk [.fl .int] 3 true,.row .lease 121 true,.row .lease 121 true] }⟩] }
def zq686 : Env := mkEnv ty fnB [(174,zq673),(147,(zq534 zq692 Tryz.f147))] [(5,(zq790 zq684 (loopN zq683 FUEL)))]
theorem zq687 : EnvOk Tryz.prog zq686 := envOk tyOk fn_ok (zq251 zq676 (zq251 zq694 zq252)) _
theorem zq685 : LOk Tryz.prog (zq859 (zq292 Tryz.f173) 0) (zq790 zq684 (loopN zq683 FUEL)) := by
 have h : zq794 (zq859 (zq292 Tryz.f173) 0) = [] := by kernel_rfl
 refine zq791 zq687 (zq795 h lsNil) zq684 zq683 FUEL (fun rec x => ?_)
 kernel_rfl
theorem zq688 : TrOk Tryz.prog 173 (zq534 zq686 Tryz.f173) := by
 have h : zq794 (zq292 Tryz.f173) = [(zq859 (zq292 Tryz.f173) 0)] := by kernel_rfl
 exact zq535 zq687 Tryz.func173 (zq229 h (zq801 (zq890 (t := (zq790 zq684 (loopN zq683 FUEL))) (by kernel_rfl) zq685) lsNil))
def zq679 : Env := mkEnv ty fnB [(139,zq1270),(173,(zq534 zq686 Tryz.f173))] []
theorem zq680 : EnvOk Tryz.prog zq679 := envOk tyOk fn_ok (zq251 zq1273 (zq251 zq688 zq252)) _
def zq678 : Con := con [.one (.row .lease 121),.one (.fl .int)] [.one (.row .lease 121)] (fun x => zq695 x.1 x.2.1)
theorem zq682 : TrOk Tryz.prog 145 zq678 := by
 have h : zq794 (zq292 Tryz.f145) = [] := by kernel_rfl
 refine zq297 zq680 Tryz.func145 (zq229 h lsNil) _ _ _ (fun x => ?_)
 kernel_rfl
def zq712 : Env := mkEnv ty fnB [] []
theorem zq713 : EnvOk Tryz.prog zq712 := envOk tyOk fn_ok zq252 _
def zq711 : Con := con [.one (.fl .lease),.ref [.fl .str] 9] [.one (.fl .bool)] (fun x => zq715 x.1 x.2.1.1)
theorem zq714 : TrOk Tryz.prog 187 zq711 := by
 have h : zq794 (zq292 Tryz.f187) = [] := by kernel_rfl
 refine zq297 zq713 Tryz.func187 (zq229 h lsNil) _ _ _ (fun x => ?_)
 kernel_rfl
def zq1284 : LoopS := { n := 19,base := 1,head := { keep := [0,3,7,8],vals := [.one (.cst (.row 0)),.one (.cst (.ptr 1 0)),.one (.fl .int),.one (.fl .int)],objs := [.row .addr 24 false,.blk [.fl .addr] 24 true] },exits := [⟨none,{ keep := [4],vals := [.one (.fl .int)],objs := [.row .addr 24 false] }⟩,⟨some 0,{ keep := [],vals := [],objs := [.row .addr 24 false] }⟩] }
def zq1287 : Env := mkEnv ty fnB [] [(2,(zq790 zq1284 (loopN zq1283 FUEL)))]
theorem zq1288 : EnvOk Tryz.prog zq1287 := envOk tyOk fn_ok zq252 _
theorem zq1285 : LOk Tryz.prog (zq859 (zq292 Tryz.f222) 0) (zq790 zq1284 (loopN zq1283 FUEL)) := by
 have h : zq794 (zq859 (zq292 Tryz.f222) 0) = [] := by kernel_rfl
 refine zq791 zq1288 (zq795 h lsNil) zq1284 zq1283 FUEL (fun rec x => ?_)
 kernel_rfl
def zq1286 : Con := con [.one (.row .addr 24),.one (.fl .addr)] [.one (.fl .int)] (fun x => zq1290 x.1 x.2.1)
theorem zq1289 : TrOk Tryz.prog 222 zq1286 := by
 have h : zq794 (zq292 Tryz.f222) = [(zq859 (zq292 Tryz.f222) 0)] := by kernel_rfl
 refine zq297 zq1288 Tryz.func222 (zq229 h (zq801 (zq890 (t := (zq790 zq1284 (loopN zq1283 FUEL))) (by kernel_rfl) zq1285) lsNil)) _ _ _ (fun x => ?_)
 kernel_rfl
def zq1276 : Env := mkEnv ty fnB [(222,zq1286)] []
theorem zq1277 : EnvOk Tryz.prog zq1276 := envOk tyOk fn_ok (zq251 zq1289 zq252) _
def zq1275 : Con := con [.one (.row .addr 24),.one (.fl .addr)] [.one (.fl .bool)] (fun x => zq1279 x.1 x.2.1)
theorem zq1278 : TrOk Tryz.prog 214 zq1275 := by
 have h : zq794 (zq292 Tryz.f214) = [] := by kernel_rfl
 refine zq297 zq1277 Tryz.func214 (zq229 h lsNil) _ _ _ (fun x => ?_)
 kernel_rfl
def zq25 : Env := mkEnv ty fnB [] []
theorem zq26 : EnvOk Tryz.prog zq25 := envOk tyOk fn_ok zq252 _
def zq24 : Con := con [.one (.fl .lease),.ref [.fl .addr] 24] [.one (.fl .bool)] (fun x => zq28 x.1 x.2.1.1)
theorem zq27 : TrOk Tryz.prog 215 zq24 := by
 have h : zq794 (zq292 Tryz.f215) = [] := by kernel_rfl
 refine zq297 zq26 Tryz.func215 (zq229 h lsNil) _ _ _ (fun x => ?_)
 kernel_rfl
def zq37 : LoopS := { n := 19,base := 4,head := { keep := [0,1,7,8],vals := [.one (.cst (.row 2)),.one (.cst (.fn 215 [.ptr 3 0])),.one (.fl .int),.one (.fl .int)],objs := [.blk [.fl .bool,.fl .u64,.fl .u64,.fl .int,.cst (.row 1),.cst (.row 2)] 225 false,.row .addr 24 false,.row .lease 121 false,.blk [.fl .addr] 24 false] },exits := [⟨none,{ keep := [4],vals := [.one (.fl .int)],objs := [.blk [.fl .bool,.fl .u64,.fl .u64,.fl .int,.cst (.row 1),.cst (.row 2)] 225 false,.row .addr 24 false,.row .lease 121 false,.blk [.fl .addr] 24 false] }⟩,⟨some 0,{ keep := [],vals := [],objs := [.blk [.fl .bool,.fl .u64,.fl .u64,.fl .int,.cst (.row 1),.cst (.row 2)] 225 false,.row .addr 24 false,.row .lease 121 false,.blk [.fl .addr] 24 false] }⟩] }
def zq39 : Env := mkEnv ty fnB [(215,zq24)] [(2,(zq790 zq37 (loopN zq36 FUEL)))]
theorem zq40 : EnvOk Tryz.prog zq39 := envOk tyOk fn_ok (zq251 zq27 zq252) _
theorem zq38 : LOk Tryz.prog (zq859 (zq292 Tryz.f147) 0) (zq790 zq37 (loopN zq36 FUEL)) := by
 have h : zq794 (zq859 (zq292 Tryz.f147) 0) = [] := by kernel_rfl
 refine zq791 zq40 (zq795 h lsNil) zq37 zq36 FUEL (fun rec x => ?_)
 kernel_rfl
theorem zq41 : TrOk Tryz.prog 147 (zq534 zq39 Tryz.f147) := by
 have h : zq794 (zq292 Tryz.f147) = [(zq859 (zq292 Tryz.f147) 0)] := by kernel_rfl
 exact zq535 zq40 Tryz.func147 (zq229 h (zq801 (zq890 (t := (zq790 zq37 (loopN zq36 FUEL))) (by kernel_rfl) zq38) lsNil))
def zq33 : Env := mkEnv ty fnB [(147,(zq534 zq39 Tryz.f147))] []
theorem zq34 : EnvOk Tryz.prog zq33 := envOk tyOk fn_ok (zq251 zq41 zq252) _
theorem zq35 : TrOk Tryz.prog 117 (flCon zq33 Tryz.f117 [.one (.fl .bool)]) := by
 have h : zq794 (zq292 Tryz.f117) = [] := by kernel_rfl
 exact zq425 zq34 Tryz.func117 (zq229 h lsNil) [.one (.fl .bool)] rfl
def zq30 : Env := mkEnv ty fnB [(214,zq1275),(117,(flCon zq33 Tryz.f117 [.one (.fl .bool)]))] []
theorem zq31 : EnvOk Tryz.prog zq30 := envOk tyOk fn_ok (zq251 zq1278 (zq251 zq35 zq252)) _
def zq29 : Con := con [.ref [.fl .pfx,.row .addr 24,.row .lease 121] 225,.one (.fl .addr)] [.one (.fl .bool)] (fun x => zq42 x.1.1 x.1.2.1 x.1.2.2.1 x.2.1)
theorem zq32 : TrOk Tryz.prog 199 zq29 := by
 have h : zq794 (zq292 Tryz.f199) = [] := by kernel_rfl
 refine zq297 zq31 Tryz.func199 (zq229 h lsNil) _ _ _ (fun x => ?_)
 kernel_rfl
def zq717 : Env := mkEnv ty fnB [(113,zq102)] []
theorem zq718 : EnvOk Tryz.prog zq717 := envOk tyOk fn_ok (zq251 zq106 zq252) _
def zq716 : Con := con [.one (.fl .lease),.one (.fl .lease)] [.one (.fl .int)] (fun x => zq720 x.1 x.2.1)
theorem zq719 : TrOk Tryz.prog 190 zq716 := by
 have h : zq794 (zq292 Tryz.f190) = [] := by kernel_rfl
 refine zq297 zq718 Tryz.func190 (zq229 h lsNil) _ _ _ (fun x => ?_)
 kernel_rfl
end Go.Proofs.YtafggolijpopeaaGreatDoor
namespace Go.Proofs.YtafggolijpopeaaGreatDoor
open Go Go.Ma Go.RowKit Go.Shelf Go.Proofs
attribute [local go_sem] Oper.semAt_some
def adV (a : Ad) : Value := .agg #[.bool a.v6,.int .u64 a.hi,.int .u64 a.lo]
def pfV (p : Pf) : Value := .agg #[.bool p.ad.v6,.int .u64 p.ad.hi,.int .u64 p.ad.lo,.int .i64 p.bits]
def CKept (A B : World) : Prop := ∀ (b : Nat) (c : Array Value) (t : TypeId) (z : Nat × Nat),A.heap[b]? = some (Go.Obj.cells c t z) → B.heap[b]? = some (Go.Obj.cells c t z)
theorem zq480 {P : Program} {A B : World} (h : Glob P A) (k : CKept A B) : Glob P B := by
 have key : ∀ (g : Nat) (v : Value),A.cell? ⟨g,0,none⟩ = some v → B.cell? ⟨g,0,none⟩ = some v := fun g v hv => by
  cases ho : A.heap[g]? with
  | none => unfold World.cell? at hv; rw [ho] at hv; cases hv
  | some o =>
   cases o with
   | cells c t z =>
    have hb := k g c t z ho
    unfold World.cell? at hv ⊢
    rw [ho] at hv
    rw [hb]
    exact hv
   | _ => unfold World.cell? at hv; rw [ho] at hv; simp at hv
 exact ⟨fun g hg => by obtain ⟨m,hm⟩ := h.num g hg; exact ⟨m,key g _ hm⟩,fun n g hn hg => by obtain ⟨ev,he,h2⟩ := h.err n g hn hg; exact ⟨ev,key g _ he,h2⟩,fun g hg => by obtain ⟨t,z,h1⟩ := h.pow g hg; exact ⟨t,z,k g _ t z h1⟩,fun g hg => by obtain ⟨t,z,h1⟩ := h.ctz g hg; exact ⟨t,z,k g _ t z h1⟩,fun g hg => by obtain ⟨t,z,h1⟩ := h.txt g hg; exact ⟨t,z,k g _ t z h1⟩⟩
theorem CKept.trans {A B C : World} (h : CKept A B) (k : CKept B C) : CKept A C := fun b c t z hb => k b c t z (h b c t z hb)
theorem CKept.below {A B : World} (h : Below A.heap.size A B) : CKept A B := fun b c t z hb => (h.block b (zc27.1 hb).1).trans hb
theorem CKept.put {W : World} {l : Nat} {o : Go.Obj} (o' : Go.Obj) (h : W.heap[l]? = some o) (hc : o.isCells = false) : CKept W (W.putObj l o') := fun b c t z hb => by
 have hne : b ≠ l := by rintro rfl; rw [h] at hb; cases hb; cases hc
 exact (World.putObj_heap_other hne).trans hb
def adC (a : Ad) : Array Value := #[.bool a.v6,.int .u64 a.hi,.int .u64 a.lo]
def adAt (w : World) (v : Value) : Ad :=
 match v with
 | .pointer (some p) => (match w.heap[p.block]? with
  | some (Go.Obj.cells c _ _) => (match c.toList with | [.bool b,.int _ h,.int _ l] => ⟨b,h,l⟩ | _ => default)
  | _ => default)
 | _ => default
theorem zq69 {w : World} {D : Nat} {a : Ad} (h : w.heap[D]? = some (Go.Obj.cells (adC a) 24 (0,0))) : adAt w (.pointer (some ⟨D,0,none⟩)) = a := by
 simp [adAt,h,adC]
def leftA (last : Ad) (w : World) (v4 v5 : Value) : Nat :=
 match v5 with
 | .bool true => ((allA last 64 (adAt w v4)).getD []).length
 | _ => 0
theorem zq163 {last : Ad} : ∀ {k : Nat} {a : Ad} {r : List Ad},allA last k a = some r → ∀ {k' : Nat},k ≤ k' → allA last k' a = some r
 | 0,_,_,h,_,_ => by simp [allA] at h
 | k + 1,a,r,h,k',hk => by
  obtain ⟨q,rfl⟩ : ∃ q,k' = q + 1 := ⟨k' - 1,by omega⟩
  simp only [allA] at h ⊢
  rcases zq234 h with ⟨hc,h⟩ | ⟨hc,h⟩
  ·rw [hc]; exact h
  ·rw [hc]
   obtain ⟨y,hy,h⟩ := zc8.1 h
   simp only [br,hy,zc50]
   rcases zq234 h with ⟨hc2,h⟩ | ⟨hc2,h⟩
   ·rw [hc2]
    obtain ⟨r',hr',h⟩ := zc7.1 h
    simp only [zq163 hr' (show k ≤ q by omega),Option.map_some,h]
   ·rw [hc2]; exact h
theorem zq162 {last : Ad} : ∀ {k : Nat} {a : Ad} {r : List Ad},allA last k a = some r → ∃ r',r = a :: r'
 | 0,_,_,h => by simp [allA] at h
 | k + 1,a,r,h => by
  simp only [allA] at h
  rcases zq234 h with ⟨hc,h⟩ | ⟨hc,h⟩
  ·cases h; exact ⟨_,rfl⟩
  ·obtain ⟨y,hy,h⟩ := zc8.1 h
   rcases zq234 h with ⟨hc2,h⟩ | ⟨hc2,h⟩
   ·obtain ⟨r',hr',h⟩ := zc7.1 h
    exact ⟨r',h.symm⟩
   ·cases h; exact ⟨_,rfl⟩
theorem zq77 {W : World} {D : Nat} {a : Ad} (h : W.heap[D]? = some (Go.Obj.cells (adC a) 24 (0,0))) : W.cell? ⟨D,0,none⟩ = some (.bool a.v6) ∧ W.cell? ⟨D,1,none⟩ = some (.int .u64 a.hi) ∧ W.cell? ⟨D,2,none⟩ = some (.int .u64 a.lo) := by
 refine ⟨?_,?_,?_⟩ <;> simp [World.cell?,h,adC]
theorem zq847 {W w : World} {a b c : Value} {t : TypeId} (h : Below (W.alloc (Go.Obj.cells #[a,b,c] t)).heap.size (W.alloc (Go.Obj.cells #[a,b,c] t)) w) :
  w.cell? ⟨W.heap.size,0,none⟩ = some a ∧ w.cell? ⟨W.heap.size,1,none⟩ = some b ∧ w.cell? ⟨W.heap.size,2,none⟩ = some c ∧ w.frozen? ⟨W.heap.size,0,none⟩ = false ∧ w.frozen? ⟨W.heap.size,1,none⟩ = false ∧ w.frozen? ⟨W.heap.size,2,none⟩ = false := by
 have : w.heap[W.heap.size]? = some (Go.Obj.cells #[a,b,c] t (0,0)) := (h.block _ (by simp)).trans (World.alloc_heap_new W _)
 refine ⟨?_,?_,?_,?_,?_,?_⟩ <;> simp [World.cell?,World.frozen?,this]
theorem zq848 {W w : World} {a b c : Value} {t : TypeId} (h : Below (W.alloc (Go.Obj.cells #[a,b,c] t)).heap.size (W.alloc (Go.Obj.cells #[a,b,c] t)) w) : w.heap[W.heap.size]? = some (Go.Obj.cells #[a,b,c] t (0,0)) :=
 (h.block _ (by simp)).trans (World.alloc_heap_new W _)
theorem set3 {w : World} {N : Nat} {x y z a b c : Value} {t : TypeId} (h : w.heap[N]? = some (Go.Obj.cells #[x,y,z] t (0,0))) :
  (((w.setCell ⟨N,0,none⟩ a).setCell ⟨N,1,none⟩ b).setCell ⟨N,2,none⟩ c).heap[N]? = some (Go.Obj.cells #[a,b,c] t (0,0)) ∧
  (∀ k,k ≠ N → (((w.setCell ⟨N,0,none⟩ a).setCell ⟨N,1,none⟩ b).setCell ⟨N,2,none⟩ c).heap[k]? = w.heap[k]?) ∧
  Below N w (((w.setCell ⟨N,0,none⟩ a).setCell ⟨N,1,none⟩ b).setCell ⟨N,2,none⟩ c) := by
 obtain ⟨h1,h2,_⟩ := zq1232 w N 0 [a,b,c] #[x,y,z] t (0,0) h
 refine ⟨h1,h2,?_⟩
 exact (((Below.refl N w).setCell (p := ⟨N,0,none⟩) (zc49 _) _).setCell (p := ⟨N,1,none⟩) (zc49 _) _).setCell (p := ⟨N,2,none⟩) (zc49 _) _
theorem zq502 {X Y : World} {row : Option Nat} {b : Nat} {c : Array Value} {t : TypeId} (h : X.heap[b]? = some (Go.Obj.cells c t (0,0))) (hg : X.grownBy Y row) (hr : ∀ r,row = some r → ∃ o : Go.Obj,X.heap[r]? = some o ∧ o.isCells = false) : Y.heap[b]? = some (Go.Obj.cells c t (0,0)) :=
 (hg.block b (zc27.1 h).1 (fun e => by
  obtain ⟨o,ho,hc⟩ := hr b e.symm
  rw [h] at ho
  cases ho
  cases hc)).trans h
theorem zq1566 {w : World} {N : Nat} {a b c : Value} {t : TypeId} (this : w.heap[N]? = some (Go.Obj.cells #[a,b,c] t (0,0))) :
  w.cell? ⟨N,0,none⟩ = some a ∧ w.cell? ⟨N,1,none⟩ = some b ∧ w.cell? ⟨N,2,none⟩ = some c ∧ w.frozen? ⟨N,0,none⟩ = false ∧ w.frozen? ⟨N,1,none⟩ = false ∧ w.frozen? ⟨N,2,none⟩ = false := by
 refine ⟨?_,?_,?_,?_,?_,?_⟩ <;> simp [World.cell?,World.frozen?,this]
theorem zq503 (w : World) (o : Go.Obj) (k : Nat) : (w.alloc o).heap[k]? = if k = w.heap.size then some o else w.heap[k]? := by
 show (w.heap.push o)[k]? = _
 exact Array.getElem?_push
theorem get4 (w : World) (a b c d : Go.Obj) : ((((w.alloc a).alloc b).alloc c).alloc d).heap[w.heap.size]? = some a ∧ ((((w.alloc a).alloc b).alloc c).alloc d).heap[w.heap.size + 1]? = some b ∧ ((((w.alloc a).alloc b).alloc c).alloc d).heap[w.heap.size + 1 + 1]? = some c ∧ ((((w.alloc a).alloc b).alloc c).alloc d).heap[w.heap.size + 1 + 1 + 1]? = some d := by
 refine ⟨?_,?_,?_,?_⟩
 ·rw [zq503,if_neg (by simp only [World.size_alloc]; omega),zq503,if_neg (by simp only [World.size_alloc]; omega),zq503,if_neg (by simp only [World.size_alloc]; omega),zq503,if_pos rfl]
 ·rw [zq503,if_neg (by simp only [World.size_alloc]; omega),zq503,if_neg (by simp only [World.size_alloc]; omega),zq503,if_pos (by simp)]
 ·rw [zq503,if_neg (by simp only [World.size_alloc]; omega),zq503,if_pos (by simp)]
 ·rw [zq503,if_pos (by simp)]
theorem zq213 {A C : World} (hb : Below A.heap.size A C) : A.grownBy C none := ⟨hb.os,hb.tape,hb.output,hb.size,fun k hk _ => hb.block k hk⟩
theorem zq500 {A C : World} (hb : Below A.heap.size A C) {b : Nat} {o : Go.Obj} (h : A.heap[b]? = some o) : C.heap[b]? = some o := (hb.block b (zc27.1 h).1).trans h
theorem zq258 {W : World} {B : Nat} {v : Value} {t : TypeId} (h : W.heap[B]? = some (Go.Obj.cells #[v] t (0,0))) : W.cell? ⟨B,0,none⟩ = some v ∧ W.frozen? ⟨B,0,none⟩ = false := by
 constructor <;> simp [World.cell?,World.frozen?,h]
theorem zq230 {W : World} {B : Nat} {a b c d va vl : Value} {t : TypeId} (h : W.heap[B]? = some (Go.Obj.cells #[a,b,c,d,va,vl] t (0,0))) : W.cell? ⟨B,0,none⟩ = some a ∧ W.cell? ⟨B,1,none⟩ = some b ∧ W.cell? ⟨B,2,none⟩ = some c ∧ W.cell? ⟨B,3,none⟩ = some d := by
 refine ⟨?_,?_,?_,?_⟩ <;> simp [World.cell?,h]
set_option maxRecDepth 100000 in
set_option maxHeartbeats 2000000 in
theorem zq157 (n : Nat) (hn : 1 ≤ n) (l Bx B : Nat) (p : Pf) (va vl : Value) (last : Ad) (xs : List Ad) (J Jx : List Ad → World → Prop)
  (hJ : ∀ pre A C,J pre A → Below A.heap.size A C → J pre C)
  (hY : ∀ pre x W,J pre W → (pre ++ [x]) <+: xs → YieldAt Fence.wide (n - 1) Tryz.prog l #[adV x] W fun e W' => (e = .returned (.bool true) ∧ J (pre ++ [x]) W' ∧ CKept W W') ∨ (e = .returned (.bool false) ∧ Jx (pre ++ [x]) W'))
  (W : World) (hbox : W.heap[Bx]? = some (.cells #[.pointer (some ⟨B,0,none⟩)] 223 (0,0))) (hbook : W.heap[B]? = some (.cells #[.bool p.ad.v6,.int .u64 p.ad.hi,.int .u64 p.ad.lo,.int .i64 p.bits,va,vl] 225 (0,0))) (h0 : J [] W)
  (hlast : ∀ W,Glob Tryz.prog W → Calls Tryz.prog 36 #[pfV p] W fun e W' => e = .returned (adV last) ∧ Below W.heap.size W W')
  (hafter : ∀ a b ok W,Glob Tryz.prog W → zq90 a = some (b,ok,()) → Calls Tryz.prog 75 #[adV a] W fun e W' => e = .returned (.tuple #[adV b,.bool ok]) ∧ Below W.heap.size W W')
  (hall : allA last 64 p.ad = some xs) (hGW : Glob Tryz.prog W) :
  CallsIn Fence.wide n Tryz.prog 213 #[.func (.yield l) #[] #[],.pointer (some ⟨Bx,0,none⟩)] W fun e W' => (∃ v,e = .returned v) ∧ ((∃ ys,ys = xs ∧ J ys W') ∨ (∃ pre,pre <+: xs ∧ Jx pre W')) := by
 have cb : W.cell? ⟨Bx,0,none⟩ = some (.pointer (some ⟨B,0,none⟩)) := by simp [World.cell?,hbox]
 have c0 : W.cell? ⟨B,0,none⟩ = some (.bool p.ad.v6) := by simp [World.cell?,hbook]
 have c1 : W.cell? ⟨B,1,none⟩ = some (.int .u64 p.ad.hi) := by simp [World.cell?,hbook]
 have c2 : W.cell? ⟨B,2,none⟩ = some (.int .u64 p.ad.lo) := by simp [World.cell?,hbook]
 have c3 : W.cell? ⟨B,3,none⟩ = some (.int .i64 p.bits) := by simp [World.cell?,hbook]
 refine callsIn_of_wp Tryz.func213 rfl trivial ?_ rfl
 simp only [Tryz.ntmps213,List.size_toArray,zc21,zc32,Nat.reduceAdd,Nat.reduceSub,Array.replicate_succ,Array.replicate_zero,List.push_toArray,List.append_toArray,zc44,zc43]
 have hlast' := hlast
 simp only [pfV,adV] at hlast'
 gi_wp2_with (refine ⟨trivial,?_⟩; gi_at_call 36; refine (callsIn_wide.2 (hlast' _ hGW)).mono ?_; rintro e w1 ⟨rfl,hb1⟩; have k1 := CKept.below hb1; have hbox1 := k1 _ _ _ _ hbox; have hbook1 := k1 _ _ _ _ hbook; have hB1 : B < w1.heap.size := (zc27.1 hbook1).1; have hX1 : Bx < w1.heap.size := (zc27.1 hbox1).1; have cb1 := (zq258 hbox1).1; obtain ⟨d0,d1,d2,d3⟩ := zq230 hbook1)
 have k0 := CKept.below ((((Below.refl w1.heap.size w1).alloc (zc49 _) (.cells (adC last) 24)).alloc (by simp) (.cells (adC p.ad) 24)))
 gi_loopw [4,5] (fun v4 v5 wr => ∃ (pre rest : List Ad) (D k : Nat) (a : Ad) (ok : Bool),v4 = .pointer (some ⟨D,0,none⟩) ∧ v5 = .bool ok ∧ xs = pre ++ rest ∧ wr.heap[D]? = some (Go.Obj.cells (adC a) 24 (0,0)) ∧ wr.heap[w1.heap.size]? = some (Go.Obj.cells (adC last) 24 (0,0)) ∧ k ≤ 64 ∧ (if ok then allA last k a = some rest else rest = []) ∧ J pre wr ∧ Glob Tryz.prog wr)
  (fun v4 v5 wr => leftA last wr v4 v5)
 case atStart =>
  refine ⟨[],xs,w1.heap.size + 1,64,p.ad,true,rfl,rfl,rfl,?_,?_,zc49 _,hall,?_,zq480 (hGW.mono hb1) k0⟩
  ·have := World.alloc_heap_new (w1.alloc (Go.Obj.cells (adC last) 24)) (Go.Obj.cells (adC p.ad) 24)
   simpa [adC] using this
  ·exact (Below.heap_alloc _ _ _ (by simp)).trans (World.alloc_heap_new w1 (Go.Obj.cells (adC last) 24))
  ·exact hJ _ _ _ h0 ((hb1.alloc hb1.size _).alloc (by have := hb1.size; simp; omega) _)
 case round =>
  obtain ⟨pre,rest,D,k,a,ok,rfl,rfl,hx,hD,hL,hk,hr,hJs,hGr⟩ := hrel
  cases ok with
  | false =>
   have hr : rest = [] := hr
   gi_wp2
   go_end0
   exact ⟨⟨_,rfl⟩,.inl ⟨pre,by simp [hx,hr],hJs⟩⟩
  | true =>
   have hr : allA last k a = some rest := hr
   have hfull := zq163 hr hk
   obtain ⟨e0,e1,e2⟩ := zq77 hD
   obtain ⟨f0,f1,f2⟩ := zq77 hL
   obtain ⟨r1,hr1⟩ := zq162 hr
   obtain ⟨fn,tmps,assign,body,hy,hR⟩ := hY pre a wr hJs (by rw [hx,hr1]; exact ⟨r1,by simp⟩)
   simp only [adV] at hy
   by_cases hal : a = last
   ·subst hal
    have hrest : rest = [a] := by
     cases k with
     | zero => simp [allA] at hr
     | succ k => simp only [allA,decide_true,br] at hr; cases hr; rfl
    gi_wp2
    refine hR.mono ?_
    rintro e W3 (⟨rfl,hJ3,hk3⟩ | ⟨rfl,hJx3⟩)
    ·have hD3 := hk3 _ _ _ _ hD
     have hL3 := hk3 _ _ _ _ hL
     obtain ⟨g0,g1,g2⟩ := zq77 hD3
     obtain ⟨i0,i1,i2⟩ := zq77 hL3
     gi_wp2
     refine bodyPost_ret (results_none rfl _ _ _) rfl ?_
     exact ⟨⟨_,rfl⟩,.inl ⟨_,by rw [hx,hrest],hJ3⟩⟩
    ·gi_wp2
     refine bodyPost_ret (results_none rfl _ _ _) rfl ?_
     exact ⟨⟨_,rfl⟩,.inr ⟨pre ++ [a],by rw [hx,hrest]; exact List.prefix_refl _,hJx3⟩⟩
   ·obtain ⟨b,ok',k',rest',hk',hrest,hb,hcall⟩ : ∃ (b : Ad) (ok' : Bool) (k' : Nat) (rest' : List Ad),k' ≤ 64 ∧ rest = a :: rest' ∧ (if ok' then allA last k' b = some rest' else rest' = []) ∧ zq90 a = some (b,ok',()) := by
     cases k with
     | zero => simp [allA] at hr
     | succ k =>
      simp only [allA,decide_eq_false hal,br] at hr
      obtain ⟨y,hy,hr⟩ := zc8.1 hr
      obtain ⟨b,ok',u⟩ := y
      cases ok' with
      | true =>
       obtain ⟨r',hr',hr⟩ := zc7.1 hr
       exact ⟨b,true,k,r',by omega,hr.symm,by simpa using hr',hy⟩
      | false =>
       cases hr
       exact ⟨b,false,k,[],by omega,rfl,by simp,hy⟩
    have HC : Hid (∀ v6 hi lo W,Glob Tryz.prog W → v6 = a.v6 → hi = a.hi → lo = a.lo → Calls Tryz.prog 75 #[.agg #[.bool v6,.int .u64 hi,.int .u64 lo]] W fun e W' => e = .returned (.tuple #[.agg #[.bool b.v6,.int .u64 b.hi,.int .u64 b.lo],.bool ok']) ∧ Below W.heap.size W W') := by
     rintro _ _ _ W hg rfl rfl rfl
     exact hafter a b ok' W hg hcall
    gi_wp2
    refine hR.mono ?_
    rintro e W3 (⟨rfl,hJ3,hk3⟩ | ⟨rfl,hJx3⟩)
    ·have hD3 := hk3 _ _ _ _ hD
     have hL3 := hk3 _ _ _ _ hL
     obtain ⟨g0,g1,g2⟩ := zq77 hD3
     obtain ⟨i0,i1,i2⟩ := zq77 hL3
     have hG3 := zq480 hGr hk3
     have hlt3 : w1.heap.size < W3.heap.size := (zc27.1 hL3).1
     clear hr hcall hafter hlast hlast' hY hy hR
     gi_wp2_with (refine ⟨trivial,?_⟩; gi_at_call 75; refine (callsIn_wide.2 (HC.out _ _ _ _ (hG3.mono ((Below.refl _ W3).alloc (zc49 _) _)) (by first | rfl | (symm; assumption)) (by first | rfl | (symm; assumption)) (by first | rfl | (symm; assumption)))).mono ?_; rintro e w4 ⟨rfl,hb4⟩; obtain ⟨n0,n1,n2,n3,n4,n5⟩ := zq847 hb4)
     ·exact absurd (by cases a; cases last; simp_all) hal
     all_goals
      obtain ⟨s1,s2,s3⟩ := set3 (a := .bool b.v6) (b := .int .u64 b.hi) (c := .int .u64 b.lo) (zq848 hb4)
      refine ⟨⟨pre ++ [a],rest',W3.heap.size,k',b,ok',rfl,rfl,by rw [hx,hrest]; simp,s1,?_,hk',hb,?_⟩,?_⟩
      ·rw [s2 _ (by omega),hb4.block _ (by simp; omega),Below.heap_alloc _ _ _ hlt3]
       exact hL3
      ·have hbb := (((Below.refl W3.heap.size W3).alloc (zc49 _) _).trans (hb4.mono (by simp))).trans s3
       exact ⟨hJ _ _ _ hJ3 hbb,hG3.mono hbb⟩
      ·have hl1 : leftA last wr (.pointer (some ⟨D,0,none⟩)) (.bool true) = rest.length := by
        simp only [leftA,zq69 hD,hfull,Option.getD_some]
       rw [hl1,hrest]
       cases ok' with
       | false => simp [leftA]
       | true =>
        simp only [leftA,zq69 s1,zq163 (by simpa using hb) hk',Option.getD_some,zc21]
        omega
    ·gi_wp2
     refine bodyPost_ret (results_none rfl _ _ _) rfl ?_
     exact ⟨⟨_,rfl⟩,.inr ⟨pre ++ [a],⟨rest',by rw [hx,hrest]; simp⟩,hJx3⟩⟩
set_option maxHeartbeats 1000000 in
/-- b.addresses(): the receiver is boxed; the function value captures the box. -/
theorem zq156 (n : Nat) (p0 : Option Addr) (w : World) :
  CallsIn Fence.wide n Tryz.prog 198 #[.pointer p0] w fun e w' => e = .returned (.func (.func 213) #[] #[.pointer (some ⟨w.heap.size,0,none⟩)]) ∧ w' = w.alloc (.cells #[.pointer p0] 223) := by
 refine callsIn_of_wp Tryz.func198 rfl trivial ?_ rfl
 simp only [Tryz.ntmps198,List.size_toArray,zc21,zc32,Nat.reduceAdd,Nat.reduceSub,Array.replicate_succ,Array.replicate_zero,List.push_toArray,List.append_toArray,zc44,zc43]
 gi_wp2
 go_ret
 exact ⟨rfl,rfl⟩
def elA (xs : List Ad) (i : Nat) : Ad := xs.getD i (xs.headD default)
theorem zq373 {xs : List Ad} (h : xs ≠ []) (i : Nat) : elA xs i ∈ xs := by
 cases xs with
 | nil => exact absurd rfl h
 | cons a r =>
  unfold elA
  rw [zc3]
  cases hx : (a :: r)[i]? with
  | none => simp
  | some y => simpa using zc5 hx
theorem zq158 (n : Nat) (hn : 1 ≤ n) (Bx B : Nat) (p : Pf) (va vl : Value) (last : Ad) (xs : List Ad) (w : World)
  (hbox : w.heap[Bx]? = some (.cells #[.pointer (some ⟨B,0,none⟩)] 223 (0,0))) (hbook : w.heap[B]? = some (.cells #[.bool p.ad.v6,.int .u64 p.ad.hi,.int .u64 p.ad.lo,.int .i64 p.bits,va,vl] 225 (0,0)))
  (hlast : ∀ W,Glob Tryz.prog W → Calls Tryz.prog 36 #[pfV p] W fun e W' => e = .returned (adV last) ∧ Below W.heap.size W W')
  (hafter : ∀ a b ok W,Glob Tryz.prog W → zq90 a = some (b,ok,()) → Calls Tryz.prog 75 #[adV a] W fun e W' => e = .returned (.tuple #[adV b,.bool ok]) ∧ Below W.heap.size W W')
  (hall : allA last 64 p.ad = some xs) (hGw : Glob Tryz.prog w) :
  SeqStopsK Fence.wide n Tryz.prog 213 #[.pointer (some ⟨Bx,0,none⟩)] (fun i : Nat => #[adV (elA xs i)]) CKept (fun ys => ys = List.range xs.length) (fun pre => pre <+: List.range xs.length) xs.length w := by
 intro l J Jx W hW hJ hJx hY h0
 have hk := CKept.below hW
 refine (zq157 n hn l Bx B p va vl last xs (fun pre W => J (List.range pre.length) W) (fun pre W => Jx (List.range pre.length) W) (fun pre A C h hb => hJ _ A C none h ⟨hb.os,hb.tape,hb.output,hb.size,fun k hk _ => hb.block k hk⟩ (fun r e => by cases e)) ?_ W (hk _ _ _ _ hbox) (hk _ _ _ _ hbook) h0 hlast hafter hall (hGw.mono hW)).mono ?_
 ·intro pre x W1 hj hpre
  obtain ⟨t,ht⟩ := hpre
  have hlen : pre.length < xs.length := by rw [← ht]; simp
  have hel : elA xs pre.length = x := by
   unfold elA
   rw [zc3,← ht]
   simp
  have := hY (List.range pre.length) pre.length W1 hj (by simpa using hlen)
  simp only [hel] at this
  refine this.mono ?_
  rintro e W' (⟨h1,h2,h3⟩ | ⟨h1,h2⟩)
  ·exact .inl ⟨h1,by simpa [List.range_succ] using h2,h3⟩
  ·exact .inr ⟨h1,by simpa [List.range_succ] using h2⟩
 ·rintro e W' ⟨h1,h2⟩
  refine ⟨h1,h2.imp ?_ ?_⟩
  ·rintro ⟨ys,rfl,h⟩
   exact ⟨_,rfl,h⟩
  ·rintro ⟨pre,⟨t,ht⟩,h⟩
   refine ⟨_,?_,h⟩
   rw [← ht,zc24,List.range_add]
   exact List.prefix_append _ _
set_option maxRecDepth 100000 in
set_option maxHeartbeats 4000000 in
theorem zq424 (B : Nat) (p : Pf) (va vl : Value) (last : Ad) (xs : List Ad) (tk : Ad → Bool) (w : World) (hG : Glob Tryz.prog w) (hxs : xs ≠ [])
  (hbook : w.heap[B]? = some (.cells #[.bool p.ad.v6,.int .u64 p.ad.hi,.int .u64 p.ad.lo,.int .i64 p.bits,va,vl] 225 (0,0)))
  (hlast : ∀ W,Glob Tryz.prog W → Calls Tryz.prog 36 #[pfV p] W fun e W' => e = .returned (adV last) ∧ Below W.heap.size W W')
  (hafter : ∀ a b ok W,Glob Tryz.prog W → zq90 a = some (b,ok,()) → Calls Tryz.prog 75 #[adV a] W fun e W' => e = .returned (.tuple #[adV b,.bool ok]) ∧ Below W.heap.size W W')
  (htaken : ∀ a W,a ∈ xs → Below w.heap.size w W → Calls Tryz.prog 199 #[.pointer (some ⟨B,0,none⟩),adV a] W fun e W' => e = .returned (.bool (tk a)) ∧ Below W.heap.size W W')
  (hall : allA last 64 p.ad = some xs) (res : Ad × Bool) (hnone : Hid ((∀ i,i < xs.length → tk (elA xs i) = true) → res = (⟨false,0,0⟩,false))) (hsome : Hid (∀ i,i < xs.length → (∀ j,j < i → tk (elA xs j) = true) → tk (elA xs i) = false → res = (elA xs i,true))) :
  CallsIn Fence.wide 9 Tryz.prog 188 #[.pointer (some ⟨B,0,none⟩)] w fun e W' => e = .returned (.tuple #[adV res.1,.bool res.2]) ∧ Below w.heap.size w W' := by
 refine callsIn_of_wp_marks Tryz.func188 rfl trivial ?_ rfl
 simp only [Tryz.ntmps188,List.size_toArray,zc21,zc32,Nat.reduceAdd,Nat.reduceSub,Array.replicate_succ,Array.replicate_zero,List.push_toArray,List.append_toArray,zc44,zc43]
 gi_wp2_with (refine ⟨trivial,?_⟩; gi_at_call 198; refine (zq156 _ _ _).mono ?_; rintro e w' ⟨rfl,rfl⟩)
 have hB0 : Below w.heap.size w ((((w.alloc (Go.Obj.cells #[.pointer (some ⟨B,0,none⟩)] 223)).alloc (Go.Obj.cells #[.bool false,.int .u64 0,.int .u64 0] 24)).alloc (Go.Obj.cells #[.bool false] 4)).alloc (Go.Obj.cells #[.pointer (some ⟨B,0,none⟩)] 223)) :=
  ((((Below.refl _ w).alloc (zc49 _) _).alloc (by simp) _).alloc (by simp; omega) _).alloc (by simp; omega) _
 have hsz : ((((w.alloc (Go.Obj.cells #[.pointer (some ⟨B,0,none⟩)] 223)).alloc (Go.Obj.cells #[.bool false,.int .u64 0,.int .u64 0] 24)).alloc (Go.Obj.cells #[.bool false] 4)).alloc (Go.Obj.cells #[.pointer (some ⟨B,0,none⟩)] 223)).heap.size = w.heap.size + 4 := by simp
 obtain ⟨b1,b2,b3,b4⟩ := get4 w (Go.Obj.cells #[.pointer (some ⟨B,0,none⟩)] 223) (Go.Obj.cells #[.bool false,.int .u64 0,.int .u64 0] 24) (Go.Obj.cells #[.bool false] 4) (Go.Obj.cells #[.pointer (some ⟨B,0,none⟩)] 223)
 obtain ⟨W0,hW0⟩ : ∃ W0,(((w.alloc (Go.Obj.cells #[.pointer (some ⟨B,0,none⟩)] 223)).alloc (Go.Obj.cells #[.bool false,.int .u64 0,.int .u64 0] 24)).alloc (Go.Obj.cells #[.bool false] 4)).alloc (Go.Obj.cells #[.pointer (some ⟨B,0,none⟩)] 223) = W0 := ⟨_,rfl⟩
 rw [hW0] at hB0 hsz b1 b2 b3 b4 ⊢
 have hbook0 := CKept.below hB0 _ _ _ _ hbook
 clear hW0
 refine wpIn_rangeFunc_ownH (F := Fence.wide) (n := 9) rfl (by omega) (gf := 213) (lb := #[.pointer (some ⟨w.heap.size + 1 + 1 + 1,0,none⟩)]) rfl trivial (enters_of Tryz.func213 (by kernel_rfl) rfl)
  (zq158 8 (by omega) (w.heap.size + 1 + 1 + 1) B p va vl last xs W0 b4 hbook0 hlast hafter hall (hG.mono hB0)) (fun h k => h.trans k) (fun W l o o' _ hl hc _ => CKept.put o' hl hc) (Below.refl _ _) (fun _ => rfl)
  (fun pre W => ((∀ i ∈ pre,tk (elA xs i) = true) ∧ W.heap[w.heap.size]? = some (Go.Obj.cells #[.pointer (some ⟨B,0,none⟩)] 223 (0,0)) ∧ W.heap[w.heap.size + 1]? = some (Go.Obj.cells #[.bool false,.int .u64 0,.int .u64 0] 24 (0,0)) ∧ W.heap[w.heap.size + 1 + 1]? = some (Go.Obj.cells #[.bool false] 4 (0,0))) ∧ Below w.heap.size w W)
  (fun c pre W => (∃ pre0 i,c = .ret ∧ pre = pre0 ++ [i] ∧ (∀ j ∈ pre0,tk (elA xs j) = true) ∧ tk (elA xs i) = false ∧ W.heap[w.heap.size + 1]? = some (Go.Obj.cells (adC (elA xs i)) 24 (0,0)) ∧ W.heap[w.heap.size + 1 + 1]? = some (Go.Obj.cells #[.bool true] 4 (0,0))) ∧ Below w.heap.size w W)
  (OwnFrom.and (fun s A C row hs hg hr => ⟨hs.1,zq502 hs.2.1 hg (fun r e => (hr r e).2),zq502 hs.2.2.1 hg (fun r e => (hr r e).2),zq502 hs.2.2.2 hg (fun r e => (hr r e).2)⟩) (ownFrom_below (by omega) (by omega)))
  (fun c => OwnFrom.and (fun s A C row hs hg hr => by
   obtain ⟨pre0,i,h1,h2,h3,h4,h5,h6⟩ := hs
   exact ⟨pre0,i,h1,h2,h3,h4,zq502 h5 hg (fun r e => (hr r e).2),zq502 h6 hg (fun r e => (hr r e).2)⟩) (ownFrom_below (by omega) (by omega)))
  ⟨⟨by simp,b1,b2,b3⟩,hB0⟩
  (fun x a' W => ∃ Bx,w.heap.size + 1 + 1 < Bx ∧ W.heap[Bx]? = some (Go.Obj.cells (adC (elA xs x)) 24 (0,0)) ∧ a' = { tmps := #[.pointer (some ⟨B,0,none⟩),.pointer (some ⟨w.heap.size,0,none⟩),.pointer (some ⟨w.heap.size + 1,0,none⟩),.pointer (some ⟨w.heap.size + 1 + 1,0,none⟩),.pointer (some ⟨Bx,0,none⟩),.pointer (some ⟨B,0,none⟩),.func (.func 213) #[] #[.pointer (some ⟨w.heap.size + 1 + 1 + 1,0,none⟩)],adV (elA xs x),undef,undef,undef,undef,undef,undef],defers := [] })
  (fun x a' _ X Y row hs hg hr => by obtain ⟨Bx,h1,h2,h3⟩ := hs; exact ⟨Bx,h1,zq502 h2 hg (fun r e => (hr r e).2),h3⟩)
  ?assign ?body ?done ?stop
 case assign =>
  rintro l pre x W K ⟨⟨i1,i2,i3,i4⟩,hB1⟩ hK
  have hlt : w.heap.size + 1 + 1 < W.heap.size := (zc27.1 i4).1
  simp only [adV] at hK ⊢
  gi_wp2
  refine hK _ _ ((KeepsOthers.alloc _ _).from _) (CKept.below ((Below.refl _ W).alloc (zc49 _) _)) ⟨⟨i1,(Below.heap_alloc _ _ _ (by omega)).trans i2,(Below.heap_alloc _ _ _ (by omega)).trans i3,(Below.heap_alloc _ _ _ (by omega)).trans i4⟩,hB1.alloc (by omega) _⟩ ⟨W.heap.size,hlt,World.alloc_heap_new W _,rfl⟩
 case body =>
  rintro l pre x a' W hl ⟨r,hr⟩ ⟨⟨i1,i2,i3,i4⟩,hB1⟩ ⟨Bx,hBx,bX,rfl⟩ hlt
  have h1' : 1 ≤ 9 - 1 - 1 := by omega
  have cB := (zq258 i2).1
  obtain ⟨x0,x1,x2⟩ := zq77 bX
  have htk' := htaken (elA xs x) W (zq373 hxs x) hB1
  simp only [adV] at htk' ⊢
  cases htk : tk (elA xs x)
  ·rw [htk] at htk'
   gi_wp2_with (refine ⟨trivial,?_⟩; gi_at_call 199; refine (CallsIn.inRound l (callsIn_wide.2 htk')).mono ?_; rintro e w2 ⟨rfl,hb2⟩; have hk2 := CKept.below hb2; obtain ⟨x0,x1,x2⟩ := zq77 (hk2 _ _ _ _ bX); have j3 := hk2 _ _ _ _ i3; have j4 := hk2 _ _ _ _ i4; obtain ⟨n0,n1,n2,n3,n4,n5⟩ := zq1566 j3; obtain ⟨n6,n7⟩ := zq258 j4)
   obtain ⟨s1,s2,s3⟩ := set3 (a := .bool (elA xs x).v6) (b := .int .u64 (elA xs x).hi) (c := .int .u64 (elA xs x).lo) j3
   have j4' : (((w2.setCell ⟨w.heap.size + 1,0,none⟩ (.bool (elA xs x).v6)).setCell ⟨w.heap.size + 1,1,none⟩ (.int .u64 (elA xs x).hi)).setCell ⟨w.heap.size + 1,2,none⟩ (.int .u64 (elA xs x).lo)).heap[w.heap.size + 1 + 1]? = some (Go.Obj.cells #[.bool false] 4 (0,0)) := (s2 _ (by omega)).trans j4
   refine ⟨((KeepsFrom.of_grownBy (zq213 hb2) (fun j e => by cases e)).trans (((KeepsOthers.setCell _ _ _).from _).trans (((KeepsOthers.setCell _ _ _).from _).trans ((KeepsOthers.setCell _ _ _).from _)))).trans ((KeepsOthers.setCell _ _ _).from _),⟨pre,x,rfl,rfl,i1,htk,?_,?_⟩,?_⟩
   ·exact (Below.heap_setCell _ ⟨w.heap.size + 1 + 1,0,none⟩ _ _ (by show w.heap.size + 1 ≠ w.heap.size + 1 + 1; omega)).trans s1
   ·have := zq1231 _ (w.heap.size + 1 + 1) 0 (.bool true) #[.bool false] 4 (0,0) j4'
    exact this
   ·exact ((hB1.trans (hb2.mono hB1.size)).trans (s3.mono (by omega))).setCell (p := ⟨w.heap.size + 1 + 1,0,none⟩) (by show w.heap.size ≤ w.heap.size + 1 + 1; omega) _
  ·rw [htk] at htk'
   gi_wp2_with (refine ⟨trivial,?_⟩; gi_at_call 199; refine (CallsIn.inRound l (callsIn_wide.2 htk')).mono ?_; rintro e w2 ⟨rfl,hb2⟩; have hk2 := CKept.below hb2)
   have j : ∀ (b : Nat) (o : Go.Obj),W.heap[b]? = some o → w2.heap[b]? = some o := fun b o h => zq500 hb2 h
   refine ⟨KeepsFrom.of_grownBy (zq213 hb2) (fun j e => by cases e),CKept.below hb2,⟨fun i hi => ?_,j _ _ i2,j _ _ i3,j _ _ i4⟩,hB1.trans (hb2.mono hB1.size)⟩
   rcases List.mem_append.1 hi with hi | hi
   ·exact i1 i hi
   ·simp only [List.mem_singleton] at hi
    subst hi
    exact htk
 case done =>
  rintro D ys W hD rfl ⟨⟨i1,i2,i3,i4⟩,hB1⟩ hK
  obtain ⟨n0,n1,n2,n3,n4,n5⟩ := zq1566 i3
  obtain ⟨n6,n7⟩ := zq258 i4
  have hrs := hnone.out (fun i hi => i1 i (by simpa using hi))
  gi_wp2
  obtain ⟨s1,s2,s3⟩ := set3 (a := .bool false) (b := .int .u64 0) (c := .int .u64 0) i3
  have i4' : (((W.setCell ⟨w.heap.size + 1,0,none⟩ (.bool false)).setCell ⟨w.heap.size + 1,1,none⟩ (.int .u64 0)).setCell ⟨w.heap.size + 1,2,none⟩ (.int .u64 0)).heap[w.heap.size + 1 + 1]? = some (Go.Obj.cells #[.bool false] 4 (0,0)) := (s2 _ (by omega)).trans i4
  have t1 := zq1231 _ (w.heap.size + 1 + 1) 0 (.bool false) #[.bool false] 4 (0,0) i4'
  have t2 := (Below.heap_setCell _ ⟨w.heap.size + 1 + 1,0,none⟩ (.bool false) _ (by show w.heap.size + 1 ≠ w.heap.size + 1 + 1; omega)).trans s1
  have hK' := (Below.heap_setCell _ ⟨w.heap.size + 1 + 1,0,none⟩ (.bool false) D (by show D ≠ w.heap.size + 1 + 1; omega)).trans ((s2 D (by omega)).trans hK)
  refine ⟨by simp,.inl ⟨_,_,rfl,run_takeDeferred hK',?_⟩⟩
  have t1' := (World.putObj_heap_other (r := D) (o := .deferred none) (show w.heap.size + 1 + 1 ≠ D by omega)).trans t1
  have t2' := (World.putObj_heap_other (r := D) (o := .deferred none) (show w.heap.size + 1 ≠ D by omega)).trans t2
  obtain ⟨m0,m1,m2,_⟩ := zq1566 t2'
  obtain ⟨m6,_⟩ := zq258 t1'
  refine ⟨.tuple #[.agg #[.bool false,.int .u64 0,.int .u64 0],.bool false],?_,by rw [hrs]; rfl,((hB1.trans (s3.mono (by omega))).setCell (p := ⟨w.heap.size + 1 + 1,0,none⟩) (by show w.heap.size ≤ w.heap.size + 1 + 1; omega) _).trans (belowK_b (w := w) (zc49 _) _ D _ _ (by omega) hK' rfl rfl)⟩
  simp [results,Tryz.f188,go_sem,m0,m1,m2,m6]
 case stop =>
  rintro D c pre W hD hpre ⟨⟨pre0,i,rfl,hp,h3,h4,h5,h6⟩,hB1⟩ hK
  have hrs : res = (elA xs i,true) := by
   obtain ⟨t,ht⟩ := hpre
   rw [hp] at ht
   have hl0 : pre0.length < xs.length := by
    have := congrArg List.length ht
    simp at this
    omega
   have hi : i = pre0.length := by
    have := congrArg (fun l => l[pre0.length]?) ht
    simp [hl0] at this
    exact this
   subst hi
   refine hsome.out _ hl0 (fun j hj => h3 j ?_) h4
   have h0 : (List.range xs.length)[j]? = some j := by rw [zc1]; exact ⟨by simp; omega,by simp⟩
   rw [← ht,zc48,zc6 hj] at h0
   exact zc5 h0
  gi_wp2
  refine ⟨by simp,.inl ⟨_,_,rfl,run_takeDeferred hK,?_⟩⟩
  have t1' := (World.putObj_heap_other (r := D) (o := .deferred none) (show w.heap.size + 1 + 1 ≠ D by omega)).trans h6
  have t2' := (World.putObj_heap_other (r := D) (o := .deferred none) (show w.heap.size + 1 ≠ D by omega)).trans h5
  obtain ⟨m0,m1,m2⟩ := zq77 t2'
  obtain ⟨m6,_⟩ := zq258 t1'
  refine ⟨.tuple #[adV (elA xs i),.bool true],?_,by rw [hrs],hB1.trans (belowK_b (w := w) (zc49 _) W D _ _ (by omega) hK rfl rfl)⟩
  simp [results,Tryz.f188,go_sem,m0,m1,m2,m6,adV]
theorem zq431 {P : Program} {W : World} (hG : Glob P W) {f : FuncId} {ps rs : List PS} {t : PsT ps → Option (PsT rs)} (ht : TrOk P f (con ps rs t)) {x : PsT ps} {y : PsT rs} (hx : t x = some y)
  (hdec : decA (encA false ps x 0).2 ps (encA false ps x 0).1 = some x) (hany : (encA false ps x 0).1.all (fun v => !v.isAny) = true) {ρ : Nat → Value} {vals us : List Value}
  (hu : zq0 W ρ 0 vals (encA false ps x 0).1 (encA false ps x 0).2 us) :
  Calls P f vals.toArray W fun e W' => (∃ ρ' n,e = .returned (den ρ' (encR rs y n))) ∧ Below W.heap.size W W' := by
 have hrel := hu.rel
 have hden := hu.den _ (zq476 us)
 have hk : conTr ps rs t (SV × Mem) (encA false ps x 0).1 (encA false ps x 0).2 (fun r m => some (r,m)) = some (encR rs y (encA false ps x 0).2.length,(encA false ps x 0).2 ++ (encA true rs y (encA false ps x 0).2.length).2) := by
  simp only [conTr,hdec,hx,zc50]
 have hc := ht.1 W hG (SV × Mem) (encA false ps x 0).1 (encA false ps x 0).2 (fun r m => some (r,m)) _ hk hany
 have := hc.call (by have := hu.lt.1; simpa using this) _ W hrel
 rw [hden] at this
 refine this.mono ?_
 rintro e w' ⟨ρ',r',m',rfl,hm',_,_,_,hres⟩
 have hres : (some (r',m') : Option (SV × Mem)) = some (encR rs y (encA false ps x 0).2.length,(encA false ps x 0).2 ++ (encA true rs y (encA false ps x 0).2.length).2) := hres
 injection hres with hres
 injection hres with h1 h2
 exact ⟨⟨ρ',_,by rw [h1]⟩,hm'.below⟩
theorem zq444 {k : K} (w : World) (ρ : Nat → Value) (a : k.T) (v : Value) (n : Nat) (h : ∀ ρ,v = den ρ (flV k a)) : zq0 w ρ n [v] [flV k a] [] [] :=
 ⟨rfl,fun ρ' _ => by simp only [denL,h ρ'],fun _ _ _ i o v h => by simp at h,by simp only [ltL,zq426,Bool.and_self],fun o h => by cases h⟩
theorem zq197 {w w' : World} {ρ : Nat → Value} {n : Nat} {vals : List Value} {svs : List SV} {os : Mem} {us : List Value} (h : zq0 w ρ n vals svs os us) (hb : Below w.heap.size w w') : zq0 w' ρ n vals svs os us :=
 ⟨h.len,h.den,fun W ρ' hg i o v hi hv => ⟨(h.obj W ρ' hg i o v hi hv).1.keep (fun b _ hlt => hb.block b hlt) hb.size,(h.obj W ρ' hg i o v hi hv).2⟩,h.lt⟩
def tkOf (p : Pf) (kp : List Ad) (ls : List Ls) (a : Ad) : Bool := match zq42 p kp ls a with | some (t,_) => t | none => false
theorem zq372 {xs : List Ad} {i : Nat} (h : i < xs.length) : elA xs i = xs[i] := by
 unfold elA
 rw [zc3,zc0 h]
 rfl
theorem zq371 {a : Ad} {r : List Ad} {i : Nat} (h : i < r.length) : elA (a :: r) (i + 1) = elA r i := by
 rw [zq372 h,zq372 (by simpa using h)]
 rfl
theorem zq421 {p : Pf} {kp : List Ad} {ls : List Ls} : ∀ {xs : List Ad} {y : Ad × Bool × Unit},zq419 p kp ls xs = some y →
  (∀ a ∈ xs,zq42 p kp ls a = some (tkOf p kp ls a,())) ∧ ((∀ i,i < xs.length → tkOf p kp ls (elA xs i) = true) → y = (⟨false,0,0⟩,false,())) ∧
   (∀ i,i < xs.length → (∀ j,j < i → tkOf p kp ls (elA xs j) = true) → tkOf p kp ls (elA xs i) = false → y = (elA xs i,true,()))
 | [],y,h => by
  cases h
  exact ⟨fun a h => by (cases h),fun _ => rfl,fun i h => by simp at h⟩
 | a :: r,y,h => by
  simp only [zq419] at h
  obtain ⟨t,ht,h⟩ := zc8.1 h
  obtain ⟨y',hy',h⟩ := zc8.1 h
  obtain ⟨h1,h2,h3⟩ := zq421 hy'
  have htk : tkOf p kp ls a = t.1 := by unfold tkOf; rw [ht]
  have hy : (bif t.1 then y' else (a,true,())) = y := by injection h
  refine ⟨fun b hb => ?_,fun hall => ?_,fun i hi hj hti => ?_⟩
  ·rcases zc28.1 hb with rfl | hb
   ·rw [ht,htk]
   ·exact h1 b hb
  ·have h0 := hall 0 (by simp)
   rw [zq372 (by simp),List.getElem_cons_zero,htk] at h0
   rw [h0] at hy
   rw [← hy]
   exact h2 fun i hi => by
    have := hall (i + 1) (by simpa using hi)
    rwa [zq371 hi] at this
  ·cases i with
   | zero =>
    rw [zq372 hi,List.getElem_cons_zero] at hti ⊢
    rw [htk] at hti
    rw [hti] at hy
    exact hy.symm
   | succ i =>
    have h0 := hj 0 (by omega)
    rw [zq372 (by simp),List.getElem_cons_zero,htk] at h0
    rw [h0] at hy
    have hi' : i < r.length := by simpa using hi
    rw [zq371 hi'] at hti ⊢
    rw [← hy]
    exact h3 i hi' (fun j hj' => by
     have := hj (j + 1) (by omega)
     rwa [zq371 (by omega)] at this) hti
def zq21 : Con := con [.ref [.fl .pfx,.row .addr 24,.row .lease 121] 225] [.one (.fl .addr),.one (.fl .bool)] (fun x => zq23 x.1.1 x.1.2.1 x.1.2.2.1)
theorem zq423 (p : Pf) (kp : List Ad) (ls : List Ls) (y : Ad × Bool × Unit) (hx : zq23 p kp ls = some y) (ρ : Nat → Value) (us vals : List Value) (w : World) (hG : Glob Tryz.prog w)
  (hu : zq0 w ρ 0 vals (encA false [.ref [.fl .pfx,.row .addr 24,.row .lease 121] 225] ((p,kp,ls,()),()) 0).1 (encA false [.ref [.fl .pfx,.row .addr 24,.row .lease 121] 225] ((p,kp,ls,()),()) 0).2 us) :
  Calls Tryz.prog 188 vals.toArray w fun e w' => ∃ ρc r m',e = .returned (den ρc r) ∧ RelM w ρc m' w' ∧ resR [.one (.fl .addr),.one (.fl .bool)] r m' = some y := by
 have hg := zq476 us
 have hlen := hu.len
 have hdenv := hu.den _ hg
 obtain ⟨vb,va,vl,rfl⟩ : ∃ vb va vl,us = [vb,va,vl] := by
  have hl1 : us.length = 3 := hlen
  match us,hl1 with
  | [a,b,c],_ => exact ⟨a,b,c,rfl⟩
 obtain ⟨hob,_⟩ := hu.obj w _ hg 0 _ vb rfl rfl
 obtain ⟨b,arr,rfl,_,hheap,harr,hcells⟩ := hob
 have harr : arr.size = 6 := harr
 have hg0 := hcells 0 (.b p.ad.v6) rfl rfl
 have hg1 := hcells 1 (.i .u64 p.ad.hi) rfl rfl
 have hg2 := hcells 2 (.i .u64 p.ad.lo) rfl rfl
 have hg3 := hcells 3 (.i .i64 p.bits) rfl rfl
 have hg4 := hcells 4 (.row 1) rfl rfl
 have hg5 := hcells 5 (.row 2) rfl rfl
 have hA : arr = #[.bool p.ad.v6,.int .u64 p.ad.hi,.int .u64 p.ad.lo,.int .i64 p.bits,zq1263 va,zq1263 vl] := by
  apply Array.ext_getElem?
  intro i
  match i with
  | 0 => rw [hg0]; rfl
  | 1 => rw [hg1]; rfl
  | 2 => rw [hg2]; rfl
  | 3 => rw [hg3]; rfl
  | 4 => rw [hg4]; rfl
  | 5 => rw [hg5]; rfl
  | i + 6 => rw [Array.getElem?_eq_none (by omega),Array.getElem?_eq_none (by simp)]
 subst hA
 have hvals : vals = [.pointer (some ⟨b,0,none⟩)] := by
  rw [← hdenv]
  show [zq1107 (.pointer (some ⟨b,0,none⟩)) 0] = _
  simp only [zq1107,zq82,Nat.add_zero]
 subst hvals
 unfold zq23 at hx
 obtain ⟨y1,hl1,hx⟩ := zc8.1 hx
 obtain ⟨last,u1⟩ := y1
 obtain ⟨xs,hall,hx⟩ := zc8.1 hx
 obtain ⟨f1,f2,f3⟩ := zq421 hx
 obtain ⟨r1,hr1⟩ := zq162 hall
 obtain ⟨ra,rb,ru⟩ := y
 refine (callsIn_wide.1 (zq424 b p _ _ last xs (tkOf p kp ls) w hG (by rw [hr1]; simp) hheap (fun W hg => ?_) (fun a c ok W hg hac => ?_) (fun a W hmem hB => ?_) hall (ra,rb) (fun h => ?_) (fun i hi hj hti => ?_))).mono ?_
 ·have ha := zq444 (k := .pfx) W (fun _ => Go.undef) p (pfV p) 0 (fun _ => rfl)
  refine (zq430 hg zq1062 (x := (p,())) hl1 rfl rfl ha).mono ?_
  rintro e w' ⟨⟨ρ',rfl⟩,hb'⟩
  exact ⟨rfl,hb'⟩
 ·have ha := zq444 (k := .addr) W (fun _ => Go.undef) a (adV a) 0 (fun _ => rfl)
  refine (zq431 hg zq89 (x := (a,())) (y := (c,ok,())) hac rfl rfl ha).mono ?_
  rintro e w' ⟨⟨ρ',n,rfl⟩,hb'⟩
  exact ⟨rfl,hb'⟩
 ·have ha := (zq197 hu hB).app (zq444 (k := .addr) W ρ a (adV a) 3 (fun _ => rfl))
  refine (zq430 (hG.mono hB) zq32 (x := ((p,kp,ls,()),a,())) (f1 a hmem) rfl rfl ha).mono ?_
  rintro e w' ⟨⟨ρ',rfl⟩,hb'⟩
  exact ⟨rfl,hb'⟩
 ·have := f2 h
  cases this
  rfl
 ·have := f3 i hi hj hti
  cases this
  rfl
 ·rintro e w' ⟨rfl,hb⟩
  refine ⟨fun _ => Go.undef,.tup [.agg [.b ra.v6,.i .u64 ra.hi,.i .u64 ra.lo],.b rb],[],rfl,?_,rfl⟩
  exact ⟨hb,fun j o h => by simp at h,fun i j o o' _ h => by simp at h,fun j o h => by simp at h⟩
theorem zq22 : TrOk Tryz.prog 188 zq21 := zq296 _ _ _ fun x y hx ρ us vals w hG hu => zq423 x.1.1 x.1.2.1 x.1.2.2.1 y hx ρ us vals w hG hu
end Go.Proofs.YtafggolijpopeaaGreatDoor
namespace Go.Proofs.YtafggolijpopeaaGreatDoor
open Go Go.Ma Go.RowKit Go.Maps Go.Proofs
def lsV (x : Ls) : Value := .agg #[.bool x.ad.v6,.int .u64 x.ad.hi,.int .u64 x.ad.lo,.string x.who,.int .i64 x.upto]
def lsC (x : Ls) : List Value := [.bool x.ad.v6,.int .u64 x.ad.hi,.int .u64 x.ad.lo,.string x.who,.int .i64 x.upto]
def skey (s : ByteArray) : Lit := .string s.data.toList
theorem zero3 (w : World) : (zeroValue 3).run Tryz.prog w = .ok (.int .i64 0) w := by kernel_rfl
theorem zq160 {w w1 : World} {Bx b : Nat} {u0 u1 u2 u3 u4 : Value} (hbx : w.heap[Bx]? = some (Go.Obj.cells #[.map (some b)] 150 (0,0))) (hbne : Bx ≠ b) (hb : b < w.heap.size) (hg : (w.alloc (Go.Obj.cells #[u0,u1,u2,u3,u4] 121)).grownBy w1 (some b)) :
  w1.cell? ⟨Bx,0,none⟩ = some (.map (some b)) ∧ w1.cell? ⟨w.heap.size,3,none⟩ = some u3 := by
 have hBx : Bx < w.heap.size := (zc27.1 hbx).1
 have e1 := hg.block Bx (by simp; omega) (by simpa using hbne)
 have e2 : w1.heap[Bx]? = _ := e1.trans ((Below.heap_alloc w (Go.Obj.cells #[u0,u1,u2,u3,u4] 121) Bx hBx).trans hbx)
 have e3 : w1.heap[w.heap.size]? = _ := (hg.block w.heap.size (by simp) (by simp; omega)).trans (heap_alloc_new w (Go.Obj.cells #[u0,u1,u2,u3,u4] 121))
 constructor
 ·simp [World.cell?,e2]
 ·simp [World.cell?,e3]
set_option maxRecDepth 100000 in
/-- The closure: one more for somebody; is it more than one? -/
theorem zq1583 {H : Type} (x : Ls) (Bx b k : Nat) (D : DataW H) (c : Int) (w : World) (hbne : Bx ≠ b) (hbx : w.heap[Bx]? = some (.cells #[.map (some b)] 150 (0,0)))
  (hown : w.ownsMap Tryz.prog 9 (plainElem Tryz.prog 3) b k D) (hmap : IsMap D) (hk : k < 2048) (hs : x.who.size ≤ 1024) (hc : D.atKey (skey x.who) (.lit (.int .i64 0)) = .lit (.int .i64 c)) (h0 : 0 ≤ c) (h1 : c ≤ 1) :
  Calls Tryz.prog 118 #[lsV x,.pointer (some ⟨Bx,0,none⟩)] w fun e w' => e = .returned (.bool (decide (1 < c + 1))) ∧ w'.ownsMap Tryz.prog 9 (plainElem Tryz.prog 3) b (k + 1) (D.put (skey x.who) (.lit (.int .i64 (c + 1)))) ∧
   (∃ w1,Below w.heap.size w w1 ∧ w1.grownBy w' (some b)) := by
 have hkey : keyOf Tryz.prog 9 (.string x.who) = some (skey x.who) := Go.WideMaps.keyOf_string_mk Tryz.underlying9 (by unfold maxLen; omega)
 have cb : w.cell? ⟨Bx,0,none⟩ = some (.map (some b)) := by simp [World.cell?,hbx]
 have hwf : (Lit.int .i64 (c + 1)).wf = true := WalkArith.wf_i64 (by omega)
 have hblt := hown.lt
 have hBx : Bx < w.heap.size := (zc27.1 hbx).1
 have hput : (D.put (skey x.who) (.lit (.int .i64 (c + 1)))).atKey (skey x.who) (.lit (.int .i64 0)) = .lit (.int .i64 (c + 1)) := atKey_put_same hmap (by trivial) _ _
 have litI : ∀ {a b : Int},(DataW.lit (H := H) (.int .i64 a)) = .lit (.int .i64 b) → a = b := fun h => by cases h; rfl
 simp only [lsV]
 go_enter Tryz.func118,Tryz.ntmps118
 go_wp2_with (first
  | (at_lookup; refine wpList_lookup_own_int _ rfl _ _ 150 rfl 9 3 .i64 (string_keyed Tryz.underlying9) Tryz.underlying150 Tryz.underlying3 (zero3 _) b (k + 1) (D.put (skey x.who) (.lit (.int .i64 (c1 + 1)))) rfl hown1 _ _ rfl hkey ?_; intro c2 hat2 hwc2; obtain rfl := litI (hat2.symm.trans hput))
  | (at_lookup; refine wpList_lookup_own_int _ rfl _ _ 150 rfl 9 3 .i64 (string_keyed Tryz.underlying9) Tryz.underlying150 Tryz.underlying3 (zero3 _) b k D rfl (hown.alloc _) _ _ rfl hkey ?_; intro c1 hat1 hwc1; obtain rfl := litI (hat1.symm.trans hc))
  | (at_mapUpdate; refine wpList_mapUpdate_own _ rfl _ _ _ 150 rfl 9 3 (string_keyed Tryz.underlying9) Tryz.underlying150 _ b k D rfl (hown.alloc _) (by unfold maxLen; omega) _ _ (skey x.who) rfl rfl hkey (.lit (.int .i64 (c1 + 1))) [] (plainElem_int Tryz.underlying3 hwf) ?_; intro w1 hown1 hgrow1; obtain ⟨cb1,cw1⟩ := zq160 hbx hbne hblt hgrow1))
 go_ret
 exact ⟨rfl,hown1,_,(Below.refl _ w).alloc (zc49 _) _,hgrow1⟩
def seenL (l : List Ls) (k : Nat) : List ByteArray := ((l.take k).map Ls.who).reverse
theorem zq1223 {l : List Ls} {k : Nat} (h : k < l.length) : seenL l (k + 1) = (l[k]).who :: seenL l k := by
 unfold seenL
 rw [List.take_succ_eq_append_getElem h,List.map_append,List.reverse_append]
 rfl
def met (l : List Ls) (k : Nat) (s : ByteArray) : Int := bif (seenL l k).any (fun t => decide (t = s)) then 1 else 0
theorem zq1261 {a b : ByteArray} (h : skey a = skey b) : a = b := by
 have h1 : a.data.toList = b.data.toList := by unfold skey at h; injection h
 have h2 : a.data = b.data := Array.toList_inj.1 h1
 cases a; cases b; cases h2; rfl
theorem zq827 {l : List Ls} {k : Nat} (h : k < l.length) (s : ByteArray) (h0 : met l k (l[k]).who = 0) : met l (k + 1) s = if (l[k]).who = s then 1 else met l k s := by
 unfold met
 rw [zq1223 h,List.any_cons]
 by_cases he : (l[k]).who = s
 ·rw [if_pos he,decide_eq_true he]
  rfl
 ·rw [if_neg he]
  have : decide ((l[k]).who = s) = false := decide_eq_false he
  rw [this,Bool.false_or]
theorem zq826 (l : List Ls) (k : Nat) (s : ByteArray) : 0 ≤ met l k s ∧ met l k s ≤ 1 := by
 unfold met
 cases (seenL l k).any (fun t => decide (t = s)) <;> decide
theorem zq1587 {l : List Ls} {k : Nat} (h : k < l.length) : zq1585 (seenL l k) (l.drop k) = bif decide (1 < met l k (l[k]).who + 1) then true else zq1585 (seenL l (k + 1)) (l.drop (k + 1)) := by
 rw [List.drop_eq_getElem_cons h,zq1223 h]
 show (bif (seenL l k).any (fun s => decide (s = (l[k]).who)) then true else _) = _
 unfold met
 cases (seenL l k).any (fun t => decide (t = (l[k]).who)) <;> rfl
set_option maxRecDepth 100000 in
/-- slices.IndexFunc with the closure. -/
theorem zq1584 {H : Type} (A : Option Addr) (l : List Ls) (cap : Nat) (w0 w : World) (Bx b : Nat) (hbne : Bx ≠ b) (hlen : l.length ≤ 1024) (hwho : ∀ x ∈ l,x.who.size ≤ 1024)
  (hcells : ∀ W,Below w0.heap.size w0 W → ∀ k (h : k < l.length),∃ a,A = some a ∧ ∀ i v,(lsC (l[k]))[i]? = some v → W.cell? ((a.add (k * 5)).add i) = some v)
  (hA : 0 < l.length → A ≠ none) (hb0 : w0.heap.size ≤ b) (hB0 : w0.heap.size ≤ Bx) (hbw : Below w0.heap.size w0 w) (hbx : w.heap[Bx]? = some (.cells #[.map (some b)] 150 (0,0)))
  (hown : w.ownsMap (H := H) Tryz.prog 9 (plainElem Tryz.prog 3) b 0 (.map [])) :
  Calls Tryz.prog 147 #[.slice A l.length cap,.func (.func 118) #[] #[.pointer (some ⟨Bx,0,none⟩)]] w fun e w' => ∃ i : Int,e = .returned (.int .i64 i) ∧ decide (0 ≤ i) = zq1585 [] l ∧ Below w0.heap.size w0 w' := by
 have HC : Hid (∀ W,Below w0.heap.size w0 W → ∀ k (h : k < l.length),∃ a,A = some a ∧ ∀ i v,(lsC (l[k]))[i]? = some v → W.cell? ((a.add (k * 5)).add i) = some v) := hcells
 clear hcells
 obtain ⟨nn,hnn⟩ : ∃ nn : Nat,nn = l.length := ⟨_,rfl⟩
 have HN : Hid (nn = l.length) := hnn
 rw [← hnn] at hlen hA ⊢
 clear hnn
 go_enter Tryz.func147,Tryz.ntmps147
 go_wp2
 go_loopw [8] (fun i wr => ∃ (k : Nat) (D : DataW H),k ≤ nn ∧ i = .int .i64 k ∧ wr.ownsMap Tryz.prog 9 (plainElem Tryz.prog 3) b k D ∧ IsMap D ∧ (∀ s : ByteArray,D.atKey (skey s) (.lit (.int .i64 0)) = .lit (.int .i64 (met l k s))) ∧ zq1585 (seenL l k) (l.drop k) = zq1585 [] l ∧
   wr.heap[Bx]? = some (.cells #[.map (some b)] 150 (0,0)) ∧ Below w0.heap.size w0 wr)
  (fun i _ => nn - (intOf i).toNat)
 case atStart => exact ⟨0,.map [],Nat.zero_le _,rfl,hown,isMap_empty,fun s => rfl,rfl,hbx,hbw⟩
 case round =>
  obtain ⟨k,D,hk,rfl,hown,hmap,hspec,htw,hbx,hbw⟩ := hrel
  by_cases hlt : k < nn
  ·have hkl : k < l.length := by rw [← HN.out]; exact hlt
   obtain ⟨a,rfl,hl⟩ := HC.out wr hbw k hkl
   have q0 : wr.cell? (a.add (k * 5)) = some (.bool (l[k]).ad.v6) := hl 0 _ rfl
   have q1 : wr.cell? ⟨(a.add (k * 5)).block,(a.add (k * 5)).off + 1,none⟩ = some (.int .u64 (l[k]).ad.hi) := hl 1 _ rfl
   have q2 : wr.cell? ⟨(a.add (k * 5)).block,(a.add (k * 5)).off + 2,none⟩ = some (.int .u64 (l[k]).ad.lo) := hl 2 _ rfl
   have q3 : wr.cell? ⟨(a.add (k * 5)).block,(a.add (k * 5)).off + 3,none⟩ = some (.string (l[k]).who) := hl 3 _ rfl
   have q4 : wr.cell? ⟨(a.add (k * 5)).block,(a.add (k * 5)).off + 4,none⟩ = some (.int .i64 (l[k]).upto) := hl 4 _ rfl
   clear hl
   have hmem : l[k] ∈ l := List.getElem_mem _
   have hcall := zq1583 (l[k]) Bx b k D (met l k (l[k]).who) wr hbne hbx hown hmap (by omega) (hwho _ hmem) (hspec _) (zq826 _ _ _).1 (zq826 _ _ _).2
   have hst := zq1587 hkl
   have HM : Hid (∀ s : ByteArray,D.atKey (skey s) (.lit (.int .i64 0)) = .lit (.int .i64 (met l k s))) := hspec
   have HT : Hid (zq1585 (seenL l k) (l.drop k) = zq1585 [] l) := htw
   have HS : Hid (zq1585 (seenL l k) (l.drop k) = bif decide (1 < met l k (l[k]).who + 1) then true else zq1585 (seenL l (k + 1)) (l.drop (k + 1))) := hst
   have HI : Hid (IsMap D) := hmap
   have hle := zq826 l k (l[k]).who
   clear hspec htw hst hmap
   have hltI : (k : Int) < (nn : Int) := by omega
   simp only [lsV] at hcall
   have hblt : b < wr.heap.size := hown.lt
   by_cases hmm : 1 < met l k (l[k]).who + 1
   ·rw [decide_eq_true hmm] at hcall
    go_wp2_with (go_at_call 118; refine hcall.mono ?_; rintro e w' ⟨rfl,hown',w1,hb1,hg1⟩)
    go_ret
    refine ⟨_,rfl,?_,?_⟩
    ·rw [← HT.out,HS.out,decide_eq_true hmm]
     simp
    ·exact (hbw.trans (hb1.mono hbw.size)).grown hg1 (Nat.le_trans hbw.size hb1.size) (fun j hj => by cases hj; exact hb0)
   ·rw [decide_eq_false hmm] at hcall
    go_wp2_with (go_at_call 118; refine hcall.mono ?_; rintro e w' ⟨rfl,hown',w1,hb1,hg1⟩)
    go_roundw
    case rel =>
     refine ⟨k + 1,_,by omega,by go_num,hown',HI.out.put _ _,fun s => ?_,?_,?_,?_⟩
     ·have h0 : met l k (l[k]).who = 0 := by omega
      rw [zq827 hkl s h0]
      by_cases hs : (l[k]).who = s
      ·rw [if_pos hs,← hs,atKey_put_same HI.out (by trivial),h0]
       rfl
      ·rw [if_neg hs,atKey_put_other (fun e => hs (zq1261 e).symm),HM.out s]
     ·rw [← HT.out,HS.out,decide_eq_false (show ¬ (1 < met l k (l[k]).who + 1) by omega)]
      rfl
     ·have h1 := (zc27.1 hbx).1
      have e1 := hg1.block Bx (Nat.lt_of_lt_of_le h1 hb1.size) (by simpa using hbne)
      exact e1.trans ((hb1.block Bx h1).trans hbx)
     ·exact (hbw.trans (hb1.mono hbw.size)).grown hg1 (Nat.le_trans hbw.size hb1.size) (fun j hj => by cases hj; exact hb0)
    case measure => simp [intOf]; omega
  ·have hkn : k = nn := by omega
   subst hkn
   go_wp2
   go_ret
   refine ⟨-1,rfl,?_,hbw⟩
   rw [← htw]
   rw [HN.out,List.drop_length]
   rfl
set_option maxRecDepth 100000 in
theorem zq1589 {H : Type} (A : Option Addr) (l : List Ls) (cap : Nat) (w : World) (hlen : l.length ≤ 1024) (hwho : ∀ x ∈ l,x.who.size ≤ 1024)
  (hcells : ∀ W,Below w.heap.size w W → ∀ k (h : k < l.length),∃ a,A = some a ∧ ∀ i v,(lsC (l[k]))[i]? = some v → W.cell? ((a.add (k * 5)).add i) = some v) (hA : 0 < l.length → A ≠ none) :
  Calls Tryz.prog 90 #[.slice A l.length cap] w fun e w' => e = .returned (.bool (zq1585 [] l)) ∧ Below w.heap.size w w' := by
 have hmm := @run_makeMap Tryz.prog
 have HI : Hid (∀ W Bx b,Bx ≠ b → w.heap.size ≤ b → w.heap.size ≤ Bx → Below w.heap.size w W → W.heap[Bx]? = some (.cells #[.map (some b)] 150 (0,0)) → W.ownsMap (H := H) Tryz.prog 9 (plainElem Tryz.prog 3) b 0 (.map []) →
   Calls Tryz.prog 117 #[.slice A l.length cap,.func (.func 118) #[] #[.pointer (some ⟨Bx,0,none⟩)]] W fun e w' => e = .returned (.bool (zq1585 [] l)) ∧ Below w.heap.size w w') := by
  intro W Bx b h1 h2 h3 h4 h5 h6
  have hc := zq1584 (H := H) A l cap w W Bx b h1 hlen hwho hcells hA h2 h3 h4 h5 h6
  clear hcells hmm
  go_enter Tryz.func117,Tryz.ntmps117
  go_wp2_with (go_at_call 147; refine hc.mono ?_; rintro e w' ⟨i,rfl,hi,hb⟩)
  go_ret
  exact ⟨rfl,hb⟩
 clear hcells
 go_enter Tryz.func90,Tryz.ntmps90
 go_wp2_with (go_at_call 117; refine (HI.out _ (w.heap.size + 1) w.heap.size (by omega) (by omega) (by omega) ?_ ?_ ?_).mono ?_)
 ·exact ((Below.refl _ w).alloc (zc49 _) _).alloc (by simp) _
 ·have := heap_alloc_new (w.alloc (Go.Obj.map #[] 0)) (Go.Obj.cells #[.map (some w.heap.size)] 150)
  simpa using this
 ·exact (World.ownsMap_made w _ _ _).alloc _
 ·rintro e w' ⟨rfl,hb⟩
  go_wp2
  go_ret
  exact ⟨rfl,hb⟩
def zq740 : Con := con [.one (.row .lease 121)] [.one (.fl .bool)] (fun x => zq742 x.1)
theorem zq1588 (l : List Ls) (y : Bool × Unit) (hx : zq742 l = some y) (ρ : Nat → Value) (us vals : List Value) (w : World)
  (hu : zq0 w ρ 0 vals (encA false [.one (.row .lease 121)] (l,()) 0).1 (encA false [.one (.row .lease 121)] (l,()) 0).2 us) :
  Calls Tryz.prog 90 vals.toArray w fun e w' => ∃ ρc r m',e = .returned (den ρc r) ∧ RelM w ρc m' w' ∧ resR [.one (.fl .bool)] r m' = some y := by
 have hg := zq476 us
 have hlen := hu.len
 have hdenv := hu.den _ hg
 obtain ⟨v,rfl⟩ : ∃ v,us = [v] := by
  have hl1 : us.length = 1 := hlen
  match us,hl1 with
  | [v],_ => exact ⟨v,rfl⟩
 obtain ⟨hob,_⟩ := hu.obj w _ hg 0 (.row (.ty .lease l) 121 false) v rfl rfl
 obtain ⟨_,_,hrow0⟩ := hob
 rw [if_neg (by simp)] at hrow0
 have hrow : RowIs w v l.length 5 (l.flatMap fun a => denL (zq831 [v]) (K.enc .lease a)) := hrow0
 obtain ⟨hq,hx⟩ := zq1188 hx
 simp only [zc4,List.all_eq_true] at hq
 have hq1 : l.length ≤ 1024 := Nat.le_of_ble_eq_true hq.1
 have hq2 : ∀ x ∈ l,x.who.size ≤ 1024 := fun x hx => Nat.le_of_ble_eq_true (hq.2 x hx)
 injection hx with hx
 subst hx
 have hrowW : ∀ W,Below w.heap.size w W → RowIs W v l.length 5 (l.flatMap fun a => denL (zq831 [v]) (K.enc .lease a)) := fun W hW => zq1203 hrow hW
 obtain ⟨_,A,cap,hv,hn,hc,hA,_⟩ := hrow
 have hvals : vals = [.slice A l.length cap] := hdenv.symm.trans (by rw [hv]; rfl)
 subst hvals
 refine (zq1589 (H := Unit) A l cap w hq1 hq2 (fun W hW k hk => ?_) (fun h e => by have := hA e; omega)).mono ?_
 ·obtain ⟨_,A',cap',hv',_,_,hA',hcells⟩ := hrowW W hW
  rw [hv] at hv'
  injection hv' with h1 h2 h3
  subst h1
  cases A with
  | none => have := hA rfl; omega
  | some a =>
   obtain ⟨hlt,hcl⟩ := hcells a rfl
   refine ⟨a,rfl,fun i u hi => ?_⟩
   rw [add_add']
   exact hcl _ _ (zq434 (zq831 [v]) .lease l k (l[k]) (zc0 hk) i u hi)
 ·rintro e w' ⟨rfl,hb⟩
  refine ⟨fun _ => Go.undef,.b (zq1585 [] l),[],rfl,?_,rfl⟩
  exact ⟨hb,fun j o h => by simp at h,fun i j o o' _ h => by simp at h,fun j o h => by simp at h⟩
theorem zq741 : TrOk Tryz.prog 90 zq740 := zq296 _ _ _ fun x y hx ρ us vals w _ hu => zq1588 x.1 y hx ρ us vals w hu
end Go.Proofs.YtafggolijpopeaaGreatDoor
namespace Go.Proofs.YtafggolijpopeaaGreatDoor
open Go Go.Ma Go.RowKit Go.Lib Go.Proofs
theorem zq530 : (Tryz.prog.info? 24).map (fun i => (i.zero.map (·.cells.size),i.size,i.bytes)) = some (some 3,3,24) := by kernel_rfl
theorem zq1258 (w : World) : (Go.sizeOf 24).run Tryz.prog w = .ok 3 w := by kernel_rfl
set_option maxHeartbeats 4000000 in
set_option maxRecDepth 100000 in
/-- There is room, i < len(s): in place. -/
theorem zq544 (b off n c i vb voff m vc : Nat) (cs vs : List Value) (w : World) (hi : i < n) (hm : 0 < m) (hroom : n + m ≤ c) (hc63 : c ≤ 9223372036854775807) (hvb : vb ≠ b)
  (hcl : cs.length = n * 3) (hvl : vs.length = m * 3)
  (hcs : ∀ j v,cs[j]? = some v → w.cell? ⟨b,off + j,none⟩ = some v) (hsp : ∀ j,j < (n + m) * 3 → (w.cell? ⟨b,off + j,none⟩).isSome = true) (hfz : ∀ j,j < (n + m) * 3 → w.frozen? ⟨b,off + j,none⟩ = false)
  (hvs : ∀ j v,vs[j]? = some v → w.cell? ⟨vb,voff + j,none⟩ = some v) (h1c : ∀ v ∈ cs,v.oneCell' = true) (h1v : ∀ v ∈ vs,v.oneCell' = true)
  (tA tB : TypeId) (kA kB : Nat) (hsa : w.shape? vb = some (tA,kA)) (hsb : w.shape? b = some (tB,kB)) (hkB : kB ≠ 0) (hfa : w.frozen? ⟨vb,voff,none⟩ = false) (hfe : w.frozen? ⟨vb,kA,none⟩ = false) :
  Calls Tryz.prog 167 #[.slice (some ⟨b,off,none⟩) n c,.int .i64 i,.slice (some ⟨vb,voff,none⟩) m vc] w fun e w' =>
   e = .returned (.slice (some ⟨b,off,none⟩) (n + m) c) ∧ w' = (w.drew.setCells b (off + (i + m) * 3) (cs.drop (i * 3))).setCells b (off + i * 3) vs := by
 have u30 := run_underlying Tryz.underlying114
 have z49 := zq1258
 have hz1 : ¬ ((m : Int) = 0) := by omega
 have hz2 : ¬ ((i : Int) = (n : Int)) := by omega
 have hsz : (Tryz.prog.info? 24).map (·.size) = some 3 := by
  obtain ⟨i0,hi0,hz⟩ := zc7.1 zq530
  simp only [zc11] at hz
  rw [hi0]; simp [hz.2.1]
 have hov : ∀ lb cb,(callFunc 184 #[.slice (some ⟨vb,voff,none⟩) m vc,.slice (some ⟨b,off + (i + m) * 3,none⟩) lb cb]).run Tryz.prog w = .ok (.value (.bool false)) w := fun lb cb => by
  rw [run_callFunc_extern Tryz.func184 (by kernel_rfl) (by kernel_rfl) (by kernel_rfl) (e := Extern.SlicesOverlaps.overlaps #[114,114] #[4]) (by kernel_rfl),
   Lib.run_overlaps_apart w 114 4 24 Tryz.underlying114 3 zq1258 ⟨vb,voff,none⟩ ⟨b,off + (i + m) * 3,none⟩ m vc lb cb hvb tA tB kA kB hsa hsb hkB hfa hfe]
  rfl
 have hdl : (cs.drop (i * 3)).length = (n - i) * 3 := by rw [zc41,hcl]; omega
 have mixed := zq828
 have hw1 : IntKind.i64.wrap ((i : Int) + (m : Int)) = (i : Int) + (m : Int) := by rw [IntKind.wrap_i64]; omega
 have hb1 : (0 : Int) ≤ (i : Int) + (m : Int) := by omega
 have hin : i ≤ n := by omega
 have htn : ((i : Int) + (m : Int)).toNat = i + m := by omega
 have hb2 : ¬ (c = i + m) := by omega
 have hb3 : (i : Int) ≤ (n : Int) + (m : Int) := by omega
 have hb4 : ¬ (c = i) := by omega
 have hcp1 : ∀ ty dc sc,(Builtin.copy_ #[114,114] ty #[.slice (some ⟨b,off + (i + m) * 3,none⟩) (n + m - (i + m)) dc,.slice (some ⟨b,off + i * 3,none⟩) (n + m - i) sc]).run Tryz.prog w.drew = .ok (goInt ((n - i : Nat) : Int)) (w.drew.setCells b (off + (i + m) * 3) (cs.drop (i * 3))) := fun ty dc sc =>
  zq1217 w.drew _ _ ty 24 3 b (off + (i + m) * 3) (n + m - (i + m)) dc ⟨b,off + i * 3,none⟩ (n + m - i) sc (n - i) (cs.drop (i * 3)) Tryz.underlying114 hsz (by simp only [Nat.min_def]; split <;> omega) hdl
   (fun j v hj => by rw [Addr.add_lit,Nat.add_assoc]; exact hcs (i * 3 + j) v (by rwa [zc40] at hj))
   (fun j hj => by rw [Nat.add_assoc]; exact hsp _ (by omega)) (fun j hj => by rw [Nat.add_assoc]; exact hfz _ (by omega)) (fun v hv => h1c v (List.mem_of_mem_drop hv))
 obtain ⟨W1,hW1⟩ : ∃ W1,W1 = w.drew.setCells b (off + (i + m) * 3) (cs.drop (i * 3)) := ⟨_,rfl⟩
 have hsp1 : ∀ k,k < (n + m) * 3 → (W1.cell? ⟨b,off + k,none⟩).isSome = true := fun k hk => by
  rw [hW1]
  exact isSome_setCells b _ _ _ (fun j hj => by rw [Nat.add_assoc]; exact hsp _ (by omega)) _ (hsp k hk)
 have hcp2 : ∀ (W : World),(∀ x,W.cell? x = W1.cell? x) → (∀ x,W.frozen? x = W1.frozen? x) → ∀ ty dc,(Builtin.copy_ #[114,114] ty #[.slice (some ⟨b,off + i * 3,none⟩) (n + m - i) dc,.slice (some ⟨vb,voff,none⟩) m vc]).run Tryz.prog W = .ok (goInt m) (W.setCells b (off + i * 3) vs) := fun W hWc hWf ty dc =>
  zq1217 W _ _ ty 24 3 b (off + i * 3) (n + m - i) dc ⟨vb,voff,none⟩ m vc m vs Tryz.underlying114 hsz (by simp only [Nat.min_def]; split <;> omega) hvl
   (fun j v hj => by
    rw [Addr.add_lit,hWc,hW1,World.cell?_setCells_out b _ _ _ _ (fun h _ => absurd h hvb)]
    exact hvs j v hj)
   (fun j hj => by rw [hWc,Nat.add_assoc]; exact hsp1 _ (by omega)) (fun j hj => by rw [hWf,hW1,World.frozen?_setCells,Nat.add_assoc]; exact hfz _ (by omega)) h1v
 rw [← hW1] at hcp1
 go_enter Tryz.func167,Tryz.ntmps167
 go_wp2_with (simp only [hov])
 go_region_law_o (refine step_copy_runI rfl _ _ 114 114 rfl _ _ (by simp [Act.eval,Act.put]) (by simp [Act.eval,Act.put]) (hcp1 _ _ _) ?_)
 go_wp2_with (at_builtin; refine wpList_copy_runI _ rfl _ _ 114 114 rfl _ _ rfl rfl (hcp2 _ (fun _ => rfl) (fun _ => rfl) _ _) ?_)
 go_ret
 first | exact ⟨rfl,rfl⟩ | exact ⟨rfl,by rw [hW1]⟩
set_option maxHeartbeats 4000000 in
set_option maxRecDepth 100000 in
/-- i < len(s), no room: a new row. -/
theorem zq542 (b off n c i vb voff m vc : Nat) (cs vs : List Value) (z : Value) (hz0 : (Tryz.prog.info? 24).map (·.zero) = some (some z)) (w : World) (hi : i < n) (hm : 0 < m) (hnc : n ≤ c) (hroom : c < n + m) (hbig : (n + m) * 24 ≤ 140737488355328)
  (hcl : cs.length = n * 3) (hvl : vs.length = m * 3)
  (hcs : ∀ j v,cs[j]? = some v → w.cell? ⟨b,off + j,none⟩ = some v)
  (hvs : ∀ j v,vs[j]? = some v → w.cell? ⟨vb,voff + j,none⟩ = some v) (h1c : ∀ v ∈ cs,v.oneCell' = true) (h1v : ∀ v ∈ vs,v.oneCell' = true) :
  Calls Tryz.prog 167 #[.slice (some ⟨b,off,none⟩) n c,.int .i64 i,.slice (some ⟨vb,voff,none⟩) m vc] w fun e w' =>
   e = .returned (.slice (some ⟨w.heap.size,0,none⟩) (n + m) (grownCap w (n + m) c 24)) ∧
   w' = (((w.alloc (.cells ((cs.take (i * 3)).toArray ++ Builtin.zeroCells z.cells (n + m - i) ++ Builtin.zeroCells z.cells (grownCap w (n + m) c 24 - (n + m))) 24)).drew.setCells w.heap.size (i * 3) vs).drew).setCells w.heap.size ((i + m) * 3) (cs.drop (i * 3)) := by
 have u30 := run_underlying Tryz.underlying114
 have z49 := zq1258
 have mixed := zq828
 obtain ⟨i0,hi0,hz⟩ := zc7.1 zq530
 simp only [zc11] at hz
 obtain ⟨hzc,hzs,hzb⟩ := hz
 have hz0 : i0.zero = some z := by rw [hi0] at hz0; simpa using hz0
 have hzc : z.cells.size = 3 := by rw [hz0] at hzc; simpa using hzc
 have hz1 : ¬ ((m : Int) = 0) := by omega
 have hz2 : ¬ ((i : Int) = (n : Int)) := by omega
 have hz3 : (c : Int) < (n : Int) + (m : Int) := by omega
 have hsz : (Tryz.prog.info? 24).map (·.size) = some 3 := by rw [hi0]; simp [hzs]
 have hbw : b < w.heap.size := block_lt_of_cell (hcs 0 _ (zc0 (by omega)))
 have hvw : vb < w.heap.size := block_lt_of_cell (hvs 0 _ (zc0 (by omega)))
 have hkk : (n : Int) + (m : Int) - (i : Int) = ((n + m - i : Nat) : Int) := by omega
 have hik : i + (n + m - i) = n + m := by omega
 have hold : (Builtin.firstCells i0.size i (.slice (some ⟨b,off,none⟩) i c)).run Tryz.prog w.drew = .ok (cs.take (i * 3)).toArray w.drew := by
  rw [hzs]
  exact run_firstCells_some w.drew 3 i ⟨b,off,none⟩ i c (cs.take (i * 3)) (by rw [zc20]; omega) (fun j v hj => by
   rw [Addr.add_lit]
   rw [zc14] at hj
   split at hj
   ·exact hcs j v hj
   ·cases hj)
 have hrz : ∀ ty,(Builtin.append_ #[114,3] ty #[.slice (some ⟨b,off,none⟩) i c,.int .i64 ((n : Int) + (m : Int) - (i : Int))]).run Tryz.prog w =
   .ok (.slice (some ⟨w.heap.size,0,none⟩) (n + m) (grownCap w (n + m) c 24)) (w.drew.alloc (.cells ((cs.take (i * 3)).toArray ++ Builtin.zeroCells z.cells (n + m - i) ++ Builtin.zeroCells z.cells (grownCap w (n + m) c 24 - (n + m))) 24)) := fun ty => by
  have h := Lib.run_append_grow_zeros w 114 3 ty 24 i0 z .i64 .i64 Tryz.underlying114 Tryz.underlying3 hi0 hz0 (some ⟨b,off,none⟩) i c (cs.take (i * 3)) hold (n + m - i) (by omega) (by omega) (by omega) (by omega) (by rw [hzb]; omega) (by rw [hzb,hik]; exact growslice_fits hroom hbig)
  rw [hik] at h
  rw [hkk]
  exact h
 obtain ⟨G,hG⟩ : ∃ G,G = grownCap w (n + m) c 24 := ⟨_,rfl⟩
 obtain ⟨ROW,hROW⟩ : ∃ ROW : Array Value,ROW = (cs.take (i * 3)).toArray ++ Builtin.zeroCells z.cells (n + m - i) ++ Builtin.zeroCells z.cells (G - (n + m)) := ⟨_,rfl⟩
 rw [← hG] at hrz ⊢
 rw [← hROW] at hrz ⊢
 have hRl : (n + m) * 3 ≤ ROW.size := by
  rw [hROW]
  simp [Builtin.zeroCells,hzc]
  omega
 obtain ⟨W1,hW1⟩ : ∃ W1,W1 = w.drew.alloc (.cells ROW 24) := ⟨_,rfl⟩
 rw [← hW1] at hrz
 have hN : ∀ j,j < (n + m) * 3 → (W1.cell? ⟨w.heap.size,j,none⟩).isSome = true := fun j hj => by
  rw [hW1,World.cell?_alloc_at (w := w.drew) ROW _ w.heap.size j rfl,zc46 (by omega)]; rfl
 have hNf : ∀ j,W1.frozen? ⟨w.heap.size,j,none⟩ = false := fun j => by rw [hW1]; exact World.frozen?_alloc_at (w := w.drew) ROW _ w.heap.size j rfl
 have hOb : ∀ j v,w.cell? ⟨b,j,none⟩ = some v → W1.cell? ⟨b,j,none⟩ = some v := fun j v h => by rw [hW1,World.cell?_alloc_past (w := w.drew) _ b j hbw]; exact h
 have hOv : ∀ j v,w.cell? ⟨vb,j,none⟩ = some v → W1.cell? ⟨vb,j,none⟩ = some v := fun j v h => by rw [hW1,World.cell?_alloc_past (w := w.drew) _ vb j hvw]; exact h
 have hcpA : ∀ (W : World),(∀ x,W.cell? x = W1.cell? x) → (∀ x,W.frozen? x = W1.frozen? x) → ∀ ty dc,(Builtin.copy_ #[114,114] ty #[.slice (some ⟨w.heap.size,i * 3,none⟩) (n + m - i) dc,.slice (some ⟨vb,voff,none⟩) m vc]).run Tryz.prog W = .ok (goInt (m : Int)) (W.setCells w.heap.size (i * 3) vs) := fun W hWc hWf ty dc =>
  zq1217 W _ _ ty 24 3 w.heap.size (i * 3) (n + m - i) dc ⟨vb,voff,none⟩ m vc m vs Tryz.underlying114 hsz (by simp only [Nat.min_def]; split <;> omega) hvl
   (fun j v hj => by rw [Addr.add_lit,hWc]; exact hOv _ v (hvs j v hj))
   (fun j hj => by rw [hWc]; exact hN _ (by omega)) (fun j hj => by rw [hWf]; exact hNf _) h1v
 have hGn : n + m ≤ G := by rw [hG]; exact grownCap_ge w _ _ _
 have hG63 : G ≤ 9223372036854775807 := by
  have := grownCap_le_maxLen w (n + m) c 24 (by unfold maxLen; omega)
  rw [← hG] at this
  unfold maxLen at this
  omega
 have hGi : ¬ (G = i) := by omega
 have hGim : ¬ (G = i + m) := by omega
 have hci : ¬ (c = i) := by omega
 have hbN : b ≠ w.heap.size := by omega
 have hdl : (cs.drop (i * 3)).length = (n - i) * 3 := by rw [zc41,hcl]; omega
 have hcpB : ∀ (W : World),(∀ x,W.cell? x = (W1.setCells w.heap.size (i * 3) vs).cell? x) → (∀ x,W.frozen? x = (W1.setCells w.heap.size (i * 3) vs).frozen? x) → ∀ ty dc sc,(Builtin.copy_ #[114,114] ty #[.slice (some ⟨w.heap.size,(i + m) * 3,none⟩) (n + m - (i + m)) dc,.slice (some ⟨b,off + i * 3,none⟩) (n - i) sc]).run Tryz.prog W = .ok (goInt ((n - i : Nat) : Int)) (W.setCells w.heap.size ((i + m) * 3) (cs.drop (i * 3))) := fun W hWc hWf ty dc sc =>
  zq1217 W _ _ ty 24 3 w.heap.size ((i + m) * 3) (n + m - (i + m)) dc ⟨b,off + i * 3,none⟩ (n - i) sc (n - i) (cs.drop (i * 3)) Tryz.underlying114 hsz (by simp only [Nat.min_def]; split <;> omega) hdl
   (fun j v hj => by
    rw [Addr.add_lit,hWc,World.cell?_setCells_out _ _ _ _ _ (fun h _ => absurd h hbN),Nat.add_assoc]
    exact hOb _ v (hcs (i * 3 + j) v (by rwa [zc40] at hj)))
   (fun j hj => by rw [hWc]; exact isSome_setCells _ _ _ _ (fun t ht => hN _ (by omega)) _ (hN _ (by omega)))
   (fun j hj => by rw [hWf,World.frozen?_setCells]; exact hNf _) (fun v hv => h1c v (List.mem_of_mem_drop hv))
 subst hW1
 have hE1 : ∀ x,((w.alloc (.cells ROW 24)).drew).cell? x = (w.drew.alloc (.cells ROW 24)).cell? x := fun x => rfl
 have hE2 : ∀ x,((w.alloc (.cells ROW 24)).drew).frozen? x = (w.drew.alloc (.cells ROW 24)).frozen? x := fun x => rfl
 have hF1 : ∀ x,(((w.alloc (.cells ROW 24)).drew.setCells w.heap.size (i * 3) vs).drew).cell? x = ((w.drew.alloc (.cells ROW 24)).setCells w.heap.size (i * 3) vs).cell? x := fun x => rfl
 have hF2 : ∀ x,(((w.alloc (.cells ROW 24)).drew.setCells w.heap.size (i * 3) vs).drew).frozen? x = ((w.drew.alloc (.cells ROW 24)).setCells w.heap.size (i * 3) vs).frozen? x := fun x => rfl
 have hw1 : IntKind.i64.wrap ((i : Int) + (m : Int)) = (i : Int) + (m : Int) := by rw [IntKind.wrap_i64]; omega
 have hb1 : (0 : Int) ≤ (i : Int) + (m : Int) := by omega
 have hin : i ≤ n := by omega
 have htn : ((i : Int) + (m : Int)).toNat = i + m := by omega
 have hb3 : (i : Int) ≤ (n : Int) := by omega
 clear hkk hik hold hROW hG hRl
 go_enter Tryz.func167,Tryz.ntmps167
 go_wp2_with (first
  | (at_builtin; refine Lib.wpList_append_run _ rfl _ _ _ _ rfl _ _ rfl rfl _ _ (hrz _) ?_)
  | (at_builtin; refine wpList_copy_runI _ rfl _ _ 114 114 rfl _ _ rfl rfl (hcpA _ hE1 hE2 _ _) ?_)
  | (at_builtin; refine wpList_copy_runI _ rfl _ _ 114 114 rfl _ _ rfl rfl (hcpB _ (fun _ => rfl) (fun _ => rfl) _ _ _) ?_))
 go_region_law_o (refine step_copy_runI rfl _ _ 114 114 rfl (.slice (some ⟨w.heap.size,(i + m) * 3,none⟩) (n + m - (i + m)) (G - (i + m))) (.slice (some ⟨b,off + i * 3,none⟩) (n - i) (c - i)) (by simp [Act.eval,Act.put]) (by simp [Act.eval,Act.put]) (hcpB _ hF1 hF2 3 (G - (i + m)) (c - i)) ?_)
 go_wp2
 go_ret
 exact ⟨rfl,rfl⟩
set_option maxHeartbeats 4000000 in
set_option maxRecDepth 100000 in
/-- At the end: whatever append does. -/
theorem zq541 (v : Value) (base : Option Addr) (n c : Nat) (vb vc m : Nat) (v' : Value) (w w' : World) (hm : 0 < m) (hnc : n ≤ c)
  (hrun : ∀ ty,(Builtin.append_ #[114,114] ty #[.slice base n c,.slice (some ⟨vb,0,none⟩) m vc]).run Tryz.prog w = .ok v' w') (hsl : ∃ A N C,v' = .slice A N C) (hnil : base = none → n = 0) :
  Calls Tryz.prog 167 #[.slice base n c,.int .i64 n,.slice (some ⟨vb,0,none⟩) m vc] w fun e w2 => e = .returned v' ∧ w2 = w' := by
 have u30 := run_underlying Tryz.underlying114
 have z49 := zq1258
 have mixed := zq828
 have hz1 : ¬ ((m : Int) = 0) := by omega
 obtain ⟨A,N,C,rfl⟩ := hsl
 go_enter Tryz.func167,Tryz.ntmps167
 cases base with
 | none =>
  have h0 := hnil rfl
  subst h0
  go_wp2_with (at_builtin; refine Lib.wpList_append_run _ rfl _ _ _ _ rfl _ _ rfl rfl _ _ (hrun _) ?_)
  all_goals (go_ret; exact ⟨rfl,rfl⟩)
 | some a =>
  obtain ⟨ab,ao,asp⟩ := a
  go_wp2_with (at_builtin; refine Lib.wpList_append_run _ rfl _ _ _ _ rfl _ _ rfl rfl _ _ (hrun _) ?_)
  all_goals (go_ret; exact ⟨rfl,rfl⟩)
theorem zq540 {arr : Array Value} {n i : Nat} {cs xs : List Value} (hi : i < n) (hcl : cs.length = n * 3) (hxl : xs.length = 3) (hsz : (n + 1) * 3 ≤ arr.size) (h0 : ∀ q,q < i * 3 → arr[q]? = cs[q]?) :
  (zq1228 (zq1228 arr ((i + 1) * 3) (cs.drop (i * 3))) (i * 3) xs).toList.take ((n + 1) * 3) = cs.take (i * 3) ++ xs ++ cs.drop (i * 3) ∧
  (zq1228 (zq1228 arr (i * 3) xs) ((i + 1) * 3) (cs.drop (i * 3))).toList.take ((n + 1) * 3) = cs.take (i * 3) ++ xs ++ cs.drop (i * 3) := by
 have hdl : (cs.drop (i * 3)).length = (n - i) * 3 := by rw [zc41,hcl]; omega
 have hrhs : ∀ q : Nat,(cs.take (i * 3) ++ xs ++ cs.drop (i * 3))[q]? = if q < i * 3 then cs[q]? else if q < (i + 1) * 3 then xs[q - i * 3]? else (cs.drop (i * 3))[q - (i + 1) * 3]? := by
  intro q
  rw [zc48,zc29,zc20,Nat.min_eq_left (by omega)]
  split
  ·rw [zc14,if_pos (by assumption)]
  ·rw [zc29,hxl]
   by_cases hq : q < (i + 1) * 3
   ·rw [if_pos (by omega),if_pos hq]
   ·rw [if_neg (by omega),if_neg hq]
    congr 1
    omega
 constructor
 ·apply List.ext_getElem?
  intro q
  rw [hrhs,zc14]
  by_cases hq : q < (n + 1) * 3
  ·rw [if_pos hq,zc25,zq1229 _ _ _ _ (by rw [zq1230]; omega)]
   by_cases h1 : q < i * 3
   ·rw [if_neg (by omega),if_pos h1,zq1229 _ _ _ _ (by omega),if_neg (by omega),h0 q h1]
   ·rw [if_neg h1]
    by_cases h2 : q < (i + 1) * 3
    ·rw [if_pos (by omega),if_pos h2]
    ·rw [if_neg (by omega),if_neg h2,zq1229 _ _ _ _ (by omega),if_pos (by omega)]
  ·rw [if_neg hq,if_neg (by omega),if_neg (by omega),zc22 (by omega)]
 ·apply List.ext_getElem?
  intro q
  rw [hrhs,zc14]
  by_cases hq : q < (n + 1) * 3
  ·rw [if_pos hq,zc25,zq1229 _ _ _ _ (by rw [zq1230]; omega)]
   by_cases h1 : q < i * 3
   ·rw [if_neg (by omega),if_pos h1,zq1229 _ _ _ _ (by omega),if_neg (by omega),h0 q h1]
   ·rw [if_neg h1]
    by_cases h2 : q < (i + 1) * 3
    ·rw [if_neg (by omega),if_pos h2,zq1229 _ _ _ _ (by omega),if_pos (by omega)]
    ·rw [if_pos (by omega),if_neg h2]
  ·rw [if_neg hq,if_neg (by omega),if_neg (by omega),zc22 (by omega)]
theorem zq543 (base : Nat) (w : World) (v u : Value) (n i : Nat) (cs xs : List Value) (h1 : w.ownsRow base 24 3 v n cs) (h2 : w.ownsRow base 24 3 u 1 xs) (hap : ∀ b,v.ownBlock = some b → u.ownBlock ≠ some b) (hc1 : ∀ x ∈ cs,oneC x = true) (hc2 : ∀ x ∈ xs,oneC x = true)
  (hbase : base ≤ w.heap.size) (hin : i ≤ n) (hbig : n + 1 ≤ 274877906944) :
  Calls Tryz.prog 167 #[v,.int .i64 (i : Int),u] w fun r w' => ∃ v',r = .returned v' ∧ w'.ownsRow base 24 3 v' (n + 1) (cs.take (i * 3) ++ xs ++ cs.drop (i * 3)) ∧ w.grownBy w' v.ownBlock ∧ (∀ b,v'.ownBlock = some b → v.ownBlock = some b ∨ w.heap.size ≤ b) := by
 obtain ⟨i0,hi0,hz⟩ := zc7.1 zq530
 simp only [zc11] at hz
 obtain ⟨hzc,hzs,hzb⟩ := hz
 obtain ⟨z,hz0,hzc⟩ := zc7.1 hzc
 have hcl := h1.1
 have hxl : xs.length = 3 := by have := h2.1; omega
 rcases h2.2 with ⟨_,h0⟩ | ⟨vb,vc,curv,rfl,hvbase,hvheap,hvc,hvcm,hvsz,hvtake⟩
 ·cases h0
 have hvs : ∀ j x,xs[j]? = some x → w.cell? ⟨vb,0 + j,none⟩ = some x := by
  intro j x hj
  rw [Nat.zero_add,zq262 hvheap,← zc25]
  rw [← hvtake,zc14] at hj
  split at hj
  ·exact hj
  ·cases hj
 have h1v : ∀ x ∈ xs,x.oneCell' = true := fun x hx => zq885 (hc2 x hx)
 have h1c : ∀ x ∈ cs,x.oneCell' = true := fun x hx => zq885 (hc1 x hx)
 by_cases hine : i = n
 ·subst hine
  have htd : cs.take (i * 3) ++ xs ++ cs.drop (i * 3) = cs ++ xs := by rw [List.take_of_length_le (by omega),zc18 (by omega),List.append_nil]
  rw [htd]
  have hown5 : w.ownsRow base 24 i0.size v i cs := by rw [hzs]; exact h1
  obtain ⟨v',w',hrun,hown',hgb,hblk⟩ := zq195 (P := Tryz.prog) w base 114 0 24 i0 z Tryz.underlying114 hi0 hz0 (by rw [hzs]; exact hzc) (by omega) v i cs hown5 (some ⟨vb,0,none⟩) 1 vc xs (by rw [hzs]; omega) (by simp)
   (fun ad had j x hj => by
    cases had
    rw [zq82]
    exact hvs j x hj) h1v (by unfold maxLen; omega) (by rw [hzb]; omega) hbase
  have hrun' : ∀ ty,(Builtin.append_ #[114,114] ty #[v,.slice (some ⟨vb,0,none⟩) 1 vc]).run Tryz.prog w = .ok v' w' := fun ty => by
   rw [← hrun]
   rfl
  rw [hzs] at hown'
  have hsl : ∃ A N C,v' = .slice A N C := by
   rcases hown'.2 with ⟨h,_⟩ | ⟨g,cp,cur,h,_⟩
   ·exact ⟨_,_,_,h⟩
   ·exact ⟨_,_,_,h⟩
  have hv : ∃ A c,v = .slice A i c ∧ i ≤ c ∧ (A = none → i = 0) := by
   rcases h1.2 with ⟨h,h0⟩ | ⟨g,cp,cur,h,_,_,hc,_⟩
   ·exact ⟨none,0,by rw [h,h0],by omega,fun _ => h0⟩
   ·exact ⟨_,cp,h,hc,fun h => by cases h⟩
  obtain ⟨A,c,rfl,hc,hnil⟩ := hv
  refine (zq541 (.slice A i c) A i c vb vc 1 v' w w' (by omega) hc hrun' hsl hnil).mono ?_
  rintro e w2 ⟨rfl,rfl⟩
  exact ⟨v',rfl,hown',hgb,hblk⟩
 ·have hi : i < n := by omega
  rcases h1.2 with ⟨_,h0⟩ | ⟨g,cap,cur,rfl,hgbase,hgheap,hnc,hcm,hgsz,hgtake⟩
  ·omega
  have hvbg : vb ≠ g := fun e => hap g rfl (by rw [e]; rfl)
  have hcs : ∀ j x,cs[j]? = some x → w.cell? ⟨g,0 + j,none⟩ = some x := by
   intro j x hj
   rw [Nat.zero_add,zq262 hgheap,← zc25]
   rw [← hgtake,zc14] at hj
   split at hj
   ·exact hj
   ·cases hj
  by_cases hroom : n + 1 ≤ cap
  ·refine (zq544 g 0 n cap i vb 0 1 vc cs xs w hi (by omega) hroom (by unfold maxLen at hcm; omega) hvbg hcl (by omega) hcs
    (fun j hj => by rw [Nat.zero_add,zq262 hgheap,zc46 (by omega)]; rfl) (fun j hj => by simp [World.frozen?,hgheap]) hvs h1c h1v 24 24 curv.size cur.size
    (by simp [World.shape?,hvheap]) (by simp [World.shape?,hgheap]) (by omega) (by simp [World.frozen?,hvheap]) (by simp [World.frozen?,hvheap])).mono ?_
   rintro e w' ⟨rfl,rfl⟩
   have hg0 : w.drew.heap[g]? = some (.cells cur 24 (0,0)) := hgheap
   obtain ⟨a1,a2,a3,a4,a5,a6⟩ := zq1232 w.drew g (0 + (i + 1) * 3) (cs.drop (i * 3)) cur 24 (0,0) hg0
   obtain ⟨b1,b2,b3,b4,b5,b6⟩ := zq1232 _ g (0 + i * 3) xs _ 24 (0,0) a1
   have hdl : (cs.drop (i * 3)).length = (n - i) * 3 := by rw [zc41,hcl]; omega
   refine ⟨_,rfl,⟨?_,.inr ⟨g,cap,_,rfl,hgbase,b1,hroom,hcm,by rw [zq1230,zq1230]; exact hgsz,?_⟩⟩,⟨b4.trans a4,b5.trans a5,b6.trans a6,by rw [b3,a3]; exact zc49 _,fun k hk hne => ?_⟩,fun b hb => .inl hb⟩
   ·simp only [zc24,zc20,hdl,hxl]; omega
   ·rw [Nat.zero_add,Nat.zero_add]
    refine (zq540 hi hcl hxl (by omega) fun q hq => ?_).1
    rw [← hgtake,zc14,if_pos (by omega),zc25]
   ·have hkg : k ≠ g := fun e => hne (by rw [e]; rfl)
    exact (b2 k hkg).trans (a2 k hkg)
  ·refine (zq542 g 0 n cap i vb 0 1 vc cs xs z (by rw [hi0]; simp [hz0]) w hi (by omega) hnc (by omega) (by omega) hcl (by omega) hcs hvs h1c h1v).mono ?_
   rintro e w' ⟨rfl,rfl⟩
   obtain ⟨G,hG⟩ : ∃ G,G = grownCap w (n + 1) cap 24 := ⟨_,rfl⟩
   have hGn : n + 1 ≤ G := by rw [hG]; exact grownCap_ge w _ _ _
   have hG63 : G ≤ maxLen := by rw [hG]; exact grownCap_le_maxLen w (n + 1) cap 24 (by unfold maxLen; omega)
   rw [← hG]
   obtain ⟨ROW,hROW⟩ : ∃ ROW : Array Value,ROW = (cs.take (i * 3)).toArray ++ Builtin.zeroCells z.cells (n + 1 - i) ++ Builtin.zeroCells z.cells (G - (n + 1)) := ⟨_,rfl⟩
   rw [← hROW]
   have hRs : ROW.size = G * 3 := by
    rw [hROW]
    simp [Builtin.zeroCells,hzc]
    omega
   have hR0 : ∀ q,q < i * 3 → ROW[q]? = cs[q]? := fun q hq => by
    rw [hROW,Array.append_assoc,Array.getElem?_append_left (by simp; omega)]
    simp only [List.getElem?_toArray,zc14,if_pos hq]
   have hh : ((w.alloc (.cells ROW 24)).drew).heap[w.heap.size]? = some (.cells ROW 24 (0,0)) := by
    show (w.heap.push _)[w.heap.size]? = _
    exact Array.getElem?_push_size
   obtain ⟨a1,a2,a3,a4,a5,a6⟩ := zq1232 _ w.heap.size (i * 3) xs ROW 24 (0,0) hh
   have a1' : (((w.alloc (.cells ROW 24)).drew.setCells w.heap.size (i * 3) xs).drew).heap[w.heap.size]? = _ := a1
   obtain ⟨b1,b2,b3,b4,b5,b6⟩ := zq1232 _ w.heap.size ((i + 1) * 3) (cs.drop (i * 3)) _ 24 (0,0) a1'
   have hdl : (cs.drop (i * 3)).length = (n - i) * 3 := by rw [zc41,hcl]; omega
   have hold : ∀ k,k < w.heap.size → ((w.alloc (.cells ROW 24)).drew).heap[k]? = w.heap[k]? := fun k hk => by
    show (w.heap.push _)[k]? = _
    rw [Array.getElem?_push,if_neg (by omega)]
   refine ⟨_,rfl,⟨?_,.inr ⟨w.heap.size,G,_,rfl,hbase,b1,hGn,hG63,by rw [zq1230,zq1230]; exact hRs,?_⟩⟩,⟨b4.trans a4,b5.trans a5,b6.trans a6,?_,fun k hk hne => ?_⟩,fun b hb => .inr ?_⟩
   ·simp only [zc24,zc20,hdl,hxl]; omega
   ·exact (zq540 hi hcl hxl (by omega) hR0).2
   ·rw [b3]
    show w.heap.size ≤ ((w.alloc (.cells ROW 24)).drew.setCells w.heap.size (i * 3) xs).heap.size
    rw [a3]
    show w.heap.size ≤ (w.heap.push _).size
    simp
   ·exact ((b2 k (by omega)).trans (a2 k (by omega))).trans (hold k hk)
   ·cases hb
    exact zc49 _
theorem zq532 : (Tryz.prog.info? 116).map (fun i => (i.zero.map (·.cells.size),i.size,i.bytes)) = some (some 5,5,56) := by kernel_rfl
theorem zq1260 (w : World) : (Go.sizeOf 116).run Tryz.prog w = .ok 5 w := by kernel_rfl
set_option maxHeartbeats 4000000 in
set_option maxRecDepth 100000 in
/-- There is room, i < len(s): in place. -/
theorem zq555 (b off n c i vb voff m vc : Nat) (cs vs : List Value) (w : World) (hi : i < n) (hm : 0 < m) (hroom : n + m ≤ c) (hc63 : c ≤ 9223372036854775807) (hvb : vb ≠ b)
  (hcl : cs.length = n * 5) (hvl : vs.length = m * 5)
  (hcs : ∀ j v,cs[j]? = some v → w.cell? ⟨b,off + j,none⟩ = some v) (hsp : ∀ j,j < (n + m) * 5 → (w.cell? ⟨b,off + j,none⟩).isSome = true) (hfz : ∀ j,j < (n + m) * 5 → w.frozen? ⟨b,off + j,none⟩ = false)
  (hvs : ∀ j v,vs[j]? = some v → w.cell? ⟨vb,voff + j,none⟩ = some v) (h1c : ∀ v ∈ cs,v.oneCell' = true) (h1v : ∀ v ∈ vs,v.oneCell' = true)
  (tA tB : TypeId) (kA kB : Nat) (hsa : w.shape? vb = some (tA,kA)) (hsb : w.shape? b = some (tB,kB)) (hkB : kB ≠ 0) (hfa : w.frozen? ⟨vb,voff,none⟩ = false) (hfe : w.frozen? ⟨vb,kA,none⟩ = false) :
  Calls Tryz.prog 165 #[.slice (some ⟨b,off,none⟩) n c,.int .i64 i,.slice (some ⟨vb,voff,none⟩) m vc] w fun e w' =>
   e = .returned (.slice (some ⟨b,off,none⟩) (n + m) c) ∧ w' = (w.drew.setCells b (off + (i + m) * 5) (cs.drop (i * 5))).setCells b (off + i * 5) vs := by
 have u30 := run_underlying Tryz.underlying88
 have z49 := zq1260
 have hz1 : ¬ ((m : Int) = 0) := by omega
 have hz2 : ¬ ((i : Int) = (n : Int)) := by omega
 have hsz : (Tryz.prog.info? 116).map (·.size) = some 5 := by
  obtain ⟨i0,hi0,hz⟩ := zc7.1 zq532
  simp only [zc11] at hz
  rw [hi0]; simp [hz.2.1]
 have hov : ∀ lb cb,(callFunc 182 #[.slice (some ⟨vb,voff,none⟩) m vc,.slice (some ⟨b,off + (i + m) * 5,none⟩) lb cb]).run Tryz.prog w = .ok (.value (.bool false)) w := fun lb cb => by
  rw [run_callFunc_extern Tryz.func182 (by kernel_rfl) (by kernel_rfl) (by kernel_rfl) (e := Extern.SlicesOverlaps.overlaps #[88,88] #[4]) (by kernel_rfl),
   Lib.run_overlaps_apart w 88 4 116 Tryz.underlying88 5 zq1260 ⟨vb,voff,none⟩ ⟨b,off + (i + m) * 5,none⟩ m vc lb cb hvb tA tB kA kB hsa hsb hkB hfa hfe]
  rfl
 have hdl : (cs.drop (i * 5)).length = (n - i) * 5 := by rw [zc41,hcl]; omega
 have mixed := zq828
 have hw1 : IntKind.i64.wrap ((i : Int) + (m : Int)) = (i : Int) + (m : Int) := by rw [IntKind.wrap_i64]; omega
 have hb1 : (0 : Int) ≤ (i : Int) + (m : Int) := by omega
 have hin : i ≤ n := by omega
 have htn : ((i : Int) + (m : Int)).toNat = i + m := by omega
 have hb2 : ¬ (c = i + m) := by omega
 have hb3 : (i : Int) ≤ (n : Int) + (m : Int) := by omega
 have hb4 : ¬ (c = i) := by omega
 have hcp1 : ∀ ty dc sc,(Builtin.copy_ #[88,88] ty #[.slice (some ⟨b,off + (i + m) * 5,none⟩) (n + m - (i + m)) dc,.slice (some ⟨b,off + i * 5,none⟩) (n + m - i) sc]).run Tryz.prog w.drew = .ok (goInt ((n - i : Nat) : Int)) (w.drew.setCells b (off + (i + m) * 5) (cs.drop (i * 5))) := fun ty dc sc =>
  zq1217 w.drew _ _ ty 116 5 b (off + (i + m) * 5) (n + m - (i + m)) dc ⟨b,off + i * 5,none⟩ (n + m - i) sc (n - i) (cs.drop (i * 5)) Tryz.underlying88 hsz (by simp only [Nat.min_def]; split <;> omega) hdl
   (fun j v hj => by rw [Addr.add_lit,Nat.add_assoc]; exact hcs (i * 5 + j) v (by rwa [zc40] at hj))
   (fun j hj => by rw [Nat.add_assoc]; exact hsp _ (by omega)) (fun j hj => by rw [Nat.add_assoc]; exact hfz _ (by omega)) (fun v hv => h1c v (List.mem_of_mem_drop hv))
 obtain ⟨W1,hW1⟩ : ∃ W1,W1 = w.drew.setCells b (off + (i + m) * 5) (cs.drop (i * 5)) := ⟨_,rfl⟩
 have hsp1 : ∀ k,k < (n + m) * 5 → (W1.cell? ⟨b,off + k,none⟩).isSome = true := fun k hk => by
  rw [hW1]
  exact isSome_setCells b _ _ _ (fun j hj => by rw [Nat.add_assoc]; exact hsp _ (by omega)) _ (hsp k hk)
 have hcp2 : ∀ (W : World),(∀ x,W.cell? x = W1.cell? x) → (∀ x,W.frozen? x = W1.frozen? x) → ∀ ty dc,(Builtin.copy_ #[88,88] ty #[.slice (some ⟨b,off + i * 5,none⟩) (n + m - i) dc,.slice (some ⟨vb,voff,none⟩) m vc]).run Tryz.prog W = .ok (goInt m) (W.setCells b (off + i * 5) vs) := fun W hWc hWf ty dc =>
  zq1217 W _ _ ty 116 5 b (off + i * 5) (n + m - i) dc ⟨vb,voff,none⟩ m vc m vs Tryz.underlying88 hsz (by simp only [Nat.min_def]; split <;> omega) hvl
   (fun j v hj => by
    rw [Addr.add_lit,hWc,hW1,World.cell?_setCells_out b _ _ _ _ (fun h _ => absurd h hvb)]
    exact hvs j v hj)
   (fun j hj => by rw [hWc,Nat.add_assoc]; exact hsp1 _ (by omega)) (fun j hj => by rw [hWf,hW1,World.frozen?_setCells,Nat.add_assoc]; exact hfz _ (by omega)) h1v
 rw [← hW1] at hcp1
 go_enter Tryz.func165,Tryz.ntmps165
 go_wp2_with (simp only [hov])
 go_region_law_o (refine step_copy_runI rfl _ _ 88 88 rfl _ _ (by simp [Act.eval,Act.put]) (by simp [Act.eval,Act.put]) (hcp1 _ _ _) ?_)
 go_wp2_with (at_builtin; refine wpList_copy_runI _ rfl _ _ 88 88 rfl _ _ rfl rfl (hcp2 _ (fun _ => rfl) (fun _ => rfl) _ _) ?_)
 go_ret
 first | exact ⟨rfl,rfl⟩ | exact ⟨rfl,by rw [hW1]⟩
set_option maxHeartbeats 4000000 in
set_option maxRecDepth 100000 in
/-- i < len(s), no room: a new row. -/
theorem zq553 (b off n c i vb voff m vc : Nat) (cs vs : List Value) (z : Value) (hz0 : (Tryz.prog.info? 116).map (·.zero) = some (some z)) (w : World) (hi : i < n) (hm : 0 < m) (hnc : n ≤ c) (hroom : c < n + m) (hbig : (n + m) * 56 ≤ 140737488355328)
  (hcl : cs.length = n * 5) (hvl : vs.length = m * 5)
  (hcs : ∀ j v,cs[j]? = some v → w.cell? ⟨b,off + j,none⟩ = some v)
  (hvs : ∀ j v,vs[j]? = some v → w.cell? ⟨vb,voff + j,none⟩ = some v) (h1c : ∀ v ∈ cs,v.oneCell' = true) (h1v : ∀ v ∈ vs,v.oneCell' = true) :
  Calls Tryz.prog 165 #[.slice (some ⟨b,off,none⟩) n c,.int .i64 i,.slice (some ⟨vb,voff,none⟩) m vc] w fun e w' =>
   e = .returned (.slice (some ⟨w.heap.size,0,none⟩) (n + m) (grownCap w (n + m) c 116)) ∧
   w' = (((w.alloc (.cells ((cs.take (i * 5)).toArray ++ Builtin.zeroCells z.cells (n + m - i) ++ Builtin.zeroCells z.cells (grownCap w (n + m) c 116 - (n + m))) 116)).drew.setCells w.heap.size (i * 5) vs).drew).setCells w.heap.size ((i + m) * 5) (cs.drop (i * 5)) := by
 have u30 := run_underlying Tryz.underlying88
 have z49 := zq1260
 have mixed := zq828
 obtain ⟨i0,hi0,hz⟩ := zc7.1 zq532
 simp only [zc11] at hz
 obtain ⟨hzc,hzs,hzb⟩ := hz
 have hz0 : i0.zero = some z := by rw [hi0] at hz0; simpa using hz0
 have hzc : z.cells.size = 5 := by rw [hz0] at hzc; simpa using hzc
 have hz1 : ¬ ((m : Int) = 0) := by omega
 have hz2 : ¬ ((i : Int) = (n : Int)) := by omega
 have hz3 : (c : Int) < (n : Int) + (m : Int) := by omega
 have hsz : (Tryz.prog.info? 116).map (·.size) = some 5 := by rw [hi0]; simp [hzs]
 have hbw : b < w.heap.size := block_lt_of_cell (hcs 0 _ (zc0 (by omega)))
 have hvw : vb < w.heap.size := block_lt_of_cell (hvs 0 _ (zc0 (by omega)))
 have hkk : (n : Int) + (m : Int) - (i : Int) = ((n + m - i : Nat) : Int) := by omega
 have hik : i + (n + m - i) = n + m := by omega
 have hold : (Builtin.firstCells i0.size i (.slice (some ⟨b,off,none⟩) i c)).run Tryz.prog w.drew = .ok (cs.take (i * 5)).toArray w.drew := by
  rw [hzs]
  exact run_firstCells_some w.drew 5 i ⟨b,off,none⟩ i c (cs.take (i * 5)) (by rw [zc20]; omega) (fun j v hj => by
   rw [Addr.add_lit]
   rw [zc14] at hj
   split at hj
   ·exact hcs j v hj
   ·cases hj)
 have hrz : ∀ ty,(Builtin.append_ #[88,3] ty #[.slice (some ⟨b,off,none⟩) i c,.int .i64 ((n : Int) + (m : Int) - (i : Int))]).run Tryz.prog w =
   .ok (.slice (some ⟨w.heap.size,0,none⟩) (n + m) (grownCap w (n + m) c 116)) (w.drew.alloc (.cells ((cs.take (i * 5)).toArray ++ Builtin.zeroCells z.cells (n + m - i) ++ Builtin.zeroCells z.cells (grownCap w (n + m) c 116 - (n + m))) 116)) := fun ty => by
  have h := Lib.run_append_grow_zeros w 88 3 ty 116 i0 z .i64 .i64 Tryz.underlying88 Tryz.underlying3 hi0 hz0 (some ⟨b,off,none⟩) i c (cs.take (i * 5)) hold (n + m - i) (by omega) (by omega) (by omega) (by omega) (by rw [hzb]; omega) (by rw [hzb,hik]; exact growslice_fits hroom hbig)
  rw [hik] at h
  rw [hkk]
  exact h
 obtain ⟨G,hG⟩ : ∃ G,G = grownCap w (n + m) c 116 := ⟨_,rfl⟩
 obtain ⟨ROW,hROW⟩ : ∃ ROW : Array Value,ROW = (cs.take (i * 5)).toArray ++ Builtin.zeroCells z.cells (n + m - i) ++ Builtin.zeroCells z.cells (G - (n + m)) := ⟨_,rfl⟩
 rw [← hG] at hrz ⊢
 rw [← hROW] at hrz ⊢
 have hRl : (n + m) * 5 ≤ ROW.size := by
  rw [hROW]
  simp [Builtin.zeroCells,hzc]
  omega
 obtain ⟨W1,hW1⟩ : ∃ W1,W1 = w.drew.alloc (.cells ROW 116) := ⟨_,rfl⟩
 rw [← hW1] at hrz
 have hN : ∀ j,j < (n + m) * 5 → (W1.cell? ⟨w.heap.size,j,none⟩).isSome = true := fun j hj => by
  rw [hW1,World.cell?_alloc_at (w := w.drew) ROW _ w.heap.size j rfl,zc46 (by omega)]; rfl
 have hNf : ∀ j,W1.frozen? ⟨w.heap.size,j,none⟩ = false := fun j => by rw [hW1]; exact World.frozen?_alloc_at (w := w.drew) ROW _ w.heap.size j rfl
 have hOb : ∀ j v,w.cell? ⟨b,j,none⟩ = some v → W1.cell? ⟨b,j,none⟩ = some v := fun j v h => by rw [hW1,World.cell?_alloc_past (w := w.drew) _ b j hbw]; exact h
 have hOv : ∀ j v,w.cell? ⟨vb,j,none⟩ = some v → W1.cell? ⟨vb,j,none⟩ = some v := fun j v h => by rw [hW1,World.cell?_alloc_past (w := w.drew) _ vb j hvw]; exact h
 have hcpA : ∀ (W : World),(∀ x,W.cell? x = W1.cell? x) → (∀ x,W.frozen? x = W1.frozen? x) → ∀ ty dc,(Builtin.copy_ #[88,88] ty #[.slice (some ⟨w.heap.size,i * 5,none⟩) (n + m - i) dc,.slice (some ⟨vb,voff,none⟩) m vc]).run Tryz.prog W = .ok (goInt (m : Int)) (W.setCells w.heap.size (i * 5) vs) := fun W hWc hWf ty dc =>
  zq1217 W _ _ ty 116 5 w.heap.size (i * 5) (n + m - i) dc ⟨vb,voff,none⟩ m vc m vs Tryz.underlying88 hsz (by simp only [Nat.min_def]; split <;> omega) hvl
   (fun j v hj => by rw [Addr.add_lit,hWc]; exact hOv _ v (hvs j v hj))
   (fun j hj => by rw [hWc]; exact hN _ (by omega)) (fun j hj => by rw [hWf]; exact hNf _) h1v
 have hGn : n + m ≤ G := by rw [hG]; exact grownCap_ge w _ _ _
 have hG63 : G ≤ 9223372036854775807 := by
  have := grownCap_le_maxLen w (n + m) c 116 (by unfold maxLen; omega)
  rw [← hG] at this
  unfold maxLen at this
  omega
 have hGi : ¬ (G = i) := by omega
 have hGim : ¬ (G = i + m) := by omega
 have hci : ¬ (c = i) := by omega
 have hbN : b ≠ w.heap.size := by omega
 have hdl : (cs.drop (i * 5)).length = (n - i) * 5 := by rw [zc41,hcl]; omega
 have hcpB : ∀ (W : World),(∀ x,W.cell? x = (W1.setCells w.heap.size (i * 5) vs).cell? x) → (∀ x,W.frozen? x = (W1.setCells w.heap.size (i * 5) vs).frozen? x) → ∀ ty dc sc,(Builtin.copy_ #[88,88] ty #[.slice (some ⟨w.heap.size,(i + m) * 5,none⟩) (n + m - (i + m)) dc,.slice (some ⟨b,off + i * 5,none⟩) (n - i) sc]).run Tryz.prog W = .ok (goInt ((n - i : Nat) : Int)) (W.setCells w.heap.size ((i + m) * 5) (cs.drop (i * 5))) := fun W hWc hWf ty dc sc =>
  zq1217 W _ _ ty 116 5 w.heap.size ((i + m) * 5) (n + m - (i + m)) dc ⟨b,off + i * 5,none⟩ (n - i) sc (n - i) (cs.drop (i * 5)) Tryz.underlying88 hsz (by simp only [Nat.min_def]; split <;> omega) hdl
   (fun j v hj => by
    rw [Addr.add_lit,hWc,World.cell?_setCells_out _ _ _ _ _ (fun h _ => absurd h hbN),Nat.add_assoc]
    exact hOb _ v (hcs (i * 5 + j) v (by rwa [zc40] at hj)))
   (fun j hj => by rw [hWc]; exact isSome_setCells _ _ _ _ (fun t ht => hN _ (by omega)) _ (hN _ (by omega)))
   (fun j hj => by rw [hWf,World.frozen?_setCells]; exact hNf _) (fun v hv => h1c v (List.mem_of_mem_drop hv))
 subst hW1
 have hE1 : ∀ x,((w.alloc (.cells ROW 116)).drew).cell? x = (w.drew.alloc (.cells ROW 116)).cell? x := fun x => rfl
 have hE2 : ∀ x,((w.alloc (.cells ROW 116)).drew).frozen? x = (w.drew.alloc (.cells ROW 116)).frozen? x := fun x => rfl
 have hF1 : ∀ x,(((w.alloc (.cells ROW 116)).drew.setCells w.heap.size (i * 5) vs).drew).cell? x = ((w.drew.alloc (.cells ROW 116)).setCells w.heap.size (i * 5) vs).cell? x := fun x => rfl
 have hF2 : ∀ x,(((w.alloc (.cells ROW 116)).drew.setCells w.heap.size (i * 5) vs).drew).frozen? x = ((w.drew.alloc (.cells ROW 116)).setCells w.heap.size (i * 5) vs).frozen? x := fun x => rfl
 have hw1 : IntKind.i64.wrap ((i : Int) + (m : Int)) = (i : Int) + (m : Int) := by rw [IntKind.wrap_i64]; omega
 have hb1 : (0 : Int) ≤ (i : Int) + (m : Int) := by omega
 have hin : i ≤ n := by omega
 have htn : ((i : Int) + (m : Int)).toNat = i + m := by omega
 have hb3 : (i : Int) ≤ (n : Int) := by omega
 clear hkk hik hold hROW hG hRl
 go_enter Tryz.func165,Tryz.ntmps165
 go_wp2_with (first
  | (at_builtin; refine Lib.wpList_append_run _ rfl _ _ _ _ rfl _ _ rfl rfl _ _ (hrz _) ?_)
  | (at_builtin; refine wpList_copy_runI _ rfl _ _ 88 88 rfl _ _ rfl rfl (hcpA _ hE1 hE2 _ _) ?_)
  | (at_builtin; refine wpList_copy_runI _ rfl _ _ 88 88 rfl _ _ rfl rfl (hcpB _ (fun _ => rfl) (fun _ => rfl) _ _ _) ?_))
 go_region_law_o (refine step_copy_runI rfl _ _ 88 88 rfl (.slice (some ⟨w.heap.size,(i + m) * 5,none⟩) (n + m - (i + m)) (G - (i + m))) (.slice (some ⟨b,off + i * 5,none⟩) (n - i) (c - i)) (by simp [Act.eval,Act.put]) (by simp [Act.eval,Act.put]) (hcpB _ hF1 hF2 3 (G - (i + m)) (c - i)) ?_)
 go_wp2
 go_ret
 exact ⟨rfl,rfl⟩
set_option maxHeartbeats 4000000 in
set_option maxRecDepth 100000 in
/-- At the end: whatever append does. -/
theorem zq552 (v : Value) (base : Option Addr) (n c : Nat) (vb vc m : Nat) (v' : Value) (w w' : World) (hm : 0 < m) (hnc : n ≤ c)
  (hrun : ∀ ty,(Builtin.append_ #[88,88] ty #[.slice base n c,.slice (some ⟨vb,0,none⟩) m vc]).run Tryz.prog w = .ok v' w') (hsl : ∃ A N C,v' = .slice A N C) (hnil : base = none → n = 0) :
  Calls Tryz.prog 165 #[.slice base n c,.int .i64 n,.slice (some ⟨vb,0,none⟩) m vc] w fun e w2 => e = .returned v' ∧ w2 = w' := by
 have u30 := run_underlying Tryz.underlying88
 have z49 := zq1260
 have mixed := zq828
 have hz1 : ¬ ((m : Int) = 0) := by omega
 obtain ⟨A,N,C,rfl⟩ := hsl
 go_enter Tryz.func165,Tryz.ntmps165
 cases base with
 | none =>
  have h0 := hnil rfl
  subst h0
  go_wp2_with (at_builtin; refine Lib.wpList_append_run _ rfl _ _ _ _ rfl _ _ rfl rfl _ _ (hrun _) ?_)
  all_goals (go_ret; exact ⟨rfl,rfl⟩)
 | some a =>
  obtain ⟨ab,ao,asp⟩ := a
  go_wp2_with (at_builtin; refine Lib.wpList_append_run _ rfl _ _ _ _ rfl _ _ rfl rfl _ _ (hrun _) ?_)
  all_goals (go_ret; exact ⟨rfl,rfl⟩)
theorem zq551 {arr : Array Value} {n i : Nat} {cs xs : List Value} (hi : i < n) (hcl : cs.length = n * 5) (hxl : xs.length = 5) (hsz : (n + 1) * 5 ≤ arr.size) (h0 : ∀ q,q < i * 5 → arr[q]? = cs[q]?) :
  (zq1228 (zq1228 arr ((i + 1) * 5) (cs.drop (i * 5))) (i * 5) xs).toList.take ((n + 1) * 5) = cs.take (i * 5) ++ xs ++ cs.drop (i * 5) ∧
  (zq1228 (zq1228 arr (i * 5) xs) ((i + 1) * 5) (cs.drop (i * 5))).toList.take ((n + 1) * 5) = cs.take (i * 5) ++ xs ++ cs.drop (i * 5) := by
 have hdl : (cs.drop (i * 5)).length = (n - i) * 5 := by rw [zc41,hcl]; omega
 have hrhs : ∀ q : Nat,(cs.take (i * 5) ++ xs ++ cs.drop (i * 5))[q]? = if q < i * 5 then cs[q]? else if q < (i + 1) * 5 then xs[q - i * 5]? else (cs.drop (i * 5))[q - (i + 1) * 5]? := by
  intro q
  rw [zc48,zc29,zc20,Nat.min_eq_left (by omega)]
  split
  ·rw [zc14,if_pos (by assumption)]
  ·rw [zc29,hxl]
   by_cases hq : q < (i + 1) * 5
   ·rw [if_pos (by omega),if_pos hq]
   ·rw [if_neg (by omega),if_neg hq]
    congr 1
    omega
 constructor
 ·apply List.ext_getElem?
  intro q
  rw [hrhs,zc14]
  by_cases hq : q < (n + 1) * 5
  ·rw [if_pos hq,zc25,zq1229 _ _ _ _ (by rw [zq1230]; omega)]
   by_cases h1 : q < i * 5
   ·rw [if_neg (by omega),if_pos h1,zq1229 _ _ _ _ (by omega),if_neg (by omega),h0 q h1]
   ·rw [if_neg h1]
    by_cases h2 : q < (i + 1) * 5
    ·rw [if_pos (by omega),if_pos h2]
    ·rw [if_neg (by omega),if_neg h2,zq1229 _ _ _ _ (by omega),if_pos (by omega)]
  ·rw [if_neg hq,if_neg (by omega),if_neg (by omega),zc22 (by omega)]
 ·apply List.ext_getElem?
  intro q
  rw [hrhs,zc14]
  by_cases hq : q < (n + 1) * 5
  ·rw [if_pos hq,zc25,zq1229 _ _ _ _ (by rw [zq1230]; omega)]
   by_cases h1 : q < i * 5
   ·rw [if_neg (by omega),if_pos h1,zq1229 _ _ _ _ (by omega),if_neg (by omega),h0 q h1]
   ·rw [if_neg h1]
    by_cases h2 : q < (i + 1) * 5
    ·rw [if_neg (by omega),if_pos h2,zq1229 _ _ _ _ (by omega),if_pos (by omega)]
    ·rw [if_pos (by omega),if_neg h2]
  ·rw [if_neg hq,if_neg (by omega),if_neg (by omega),zc22 (by omega)]
theorem zq554 (base : Nat) (w : World) (v u : Value) (n i : Nat) (cs xs : List Value) (h1 : w.ownsRow base 116 5 v n cs) (h2 : w.ownsRow base 116 5 u 1 xs) (hap : ∀ b,v.ownBlock = some b → u.ownBlock ≠ some b) (hc1 : ∀ x ∈ cs,oneC x = true) (hc2 : ∀ x ∈ xs,oneC x = true)
  (hbase : base ≤ w.heap.size) (hin : i ≤ n) (hbig : n + 1 ≤ 274877906944) :
  Calls Tryz.prog 165 #[v,.int .i64 (i : Int),u] w fun r w' => ∃ v',r = .returned v' ∧ w'.ownsRow base 116 5 v' (n + 1) (cs.take (i * 5) ++ xs ++ cs.drop (i * 5)) ∧ w.grownBy w' v.ownBlock ∧ (∀ b,v'.ownBlock = some b → v.ownBlock = some b ∨ w.heap.size ≤ b) := by
 obtain ⟨i0,hi0,hz⟩ := zc7.1 zq532
 simp only [zc11] at hz
 obtain ⟨hzc,hzs,hzb⟩ := hz
 obtain ⟨z,hz0,hzc⟩ := zc7.1 hzc
 have hcl := h1.1
 have hxl : xs.length = 5 := by have := h2.1; omega
 rcases h2.2 with ⟨_,h0⟩ | ⟨vb,vc,curv,rfl,hvbase,hvheap,hvc,hvcm,hvsz,hvtake⟩
 ·cases h0
 have hvs : ∀ j x,xs[j]? = some x → w.cell? ⟨vb,0 + j,none⟩ = some x := by
  intro j x hj
  rw [Nat.zero_add,zq262 hvheap,← zc25]
  rw [← hvtake,zc14] at hj
  split at hj
  ·exact hj
  ·cases hj
 have h1v : ∀ x ∈ xs,x.oneCell' = true := fun x hx => zq885 (hc2 x hx)
 have h1c : ∀ x ∈ cs,x.oneCell' = true := fun x hx => zq885 (hc1 x hx)
 by_cases hine : i = n
 ·subst hine
  have htd : cs.take (i * 5) ++ xs ++ cs.drop (i * 5) = cs ++ xs := by rw [List.take_of_length_le (by omega),zc18 (by omega),List.append_nil]
  rw [htd]
  have hown5 : w.ownsRow base 116 i0.size v i cs := by rw [hzs]; exact h1
  obtain ⟨v',w',hrun,hown',hgb,hblk⟩ := zq195 (P := Tryz.prog) w base 88 0 116 i0 z Tryz.underlying88 hi0 hz0 (by rw [hzs]; exact hzc) (by omega) v i cs hown5 (some ⟨vb,0,none⟩) 1 vc xs (by rw [hzs]; omega) (by simp)
   (fun ad had j x hj => by
    cases had
    rw [zq82]
    exact hvs j x hj) h1v (by unfold maxLen; omega) (by rw [hzb]; omega) hbase
  have hrun' : ∀ ty,(Builtin.append_ #[88,88] ty #[v,.slice (some ⟨vb,0,none⟩) 1 vc]).run Tryz.prog w = .ok v' w' := fun ty => by
   rw [← hrun]
   rfl
  rw [hzs] at hown'
  have hsl : ∃ A N C,v' = .slice A N C := by
   rcases hown'.2 with ⟨h,_⟩ | ⟨g,cp,cur,h,_⟩
   ·exact ⟨_,_,_,h⟩
   ·exact ⟨_,_,_,h⟩
  have hv : ∃ A c,v = .slice A i c ∧ i ≤ c ∧ (A = none → i = 0) := by
   rcases h1.2 with ⟨h,h0⟩ | ⟨g,cp,cur,h,_,_,hc,_⟩
   ·exact ⟨none,0,by rw [h,h0],by omega,fun _ => h0⟩
   ·exact ⟨_,cp,h,hc,fun h => by cases h⟩
  obtain ⟨A,c,rfl,hc,hnil⟩ := hv
  refine (zq552 (.slice A i c) A i c vb vc 1 v' w w' (by omega) hc hrun' hsl hnil).mono ?_
  rintro e w2 ⟨rfl,rfl⟩
  exact ⟨v',rfl,hown',hgb,hblk⟩
 ·have hi : i < n := by omega
  rcases h1.2 with ⟨_,h0⟩ | ⟨g,cap,cur,rfl,hgbase,hgheap,hnc,hcm,hgsz,hgtake⟩
  ·omega
  have hvbg : vb ≠ g := fun e => hap g rfl (by rw [e]; rfl)
  have hcs : ∀ j x,cs[j]? = some x → w.cell? ⟨g,0 + j,none⟩ = some x := by
   intro j x hj
   rw [Nat.zero_add,zq262 hgheap,← zc25]
   rw [← hgtake,zc14] at hj
   split at hj
   ·exact hj
   ·cases hj
  by_cases hroom : n + 1 ≤ cap
  ·refine (zq555 g 0 n cap i vb 0 1 vc cs xs w hi (by omega) hroom (by unfold maxLen at hcm; omega) hvbg hcl (by omega) hcs
    (fun j hj => by rw [Nat.zero_add,zq262 hgheap,zc46 (by omega)]; rfl) (fun j hj => by simp [World.frozen?,hgheap]) hvs h1c h1v 116 116 curv.size cur.size
    (by simp [World.shape?,hvheap]) (by simp [World.shape?,hgheap]) (by omega) (by simp [World.frozen?,hvheap]) (by simp [World.frozen?,hvheap])).mono ?_
   rintro e w' ⟨rfl,rfl⟩
   have hg0 : w.drew.heap[g]? = some (.cells cur 116 (0,0)) := hgheap
   obtain ⟨a1,a2,a3,a4,a5,a6⟩ := zq1232 w.drew g (0 + (i + 1) * 5) (cs.drop (i * 5)) cur 116 (0,0) hg0
   obtain ⟨b1,b2,b3,b4,b5,b6⟩ := zq1232 _ g (0 + i * 5) xs _ 116 (0,0) a1
   have hdl : (cs.drop (i * 5)).length = (n - i) * 5 := by rw [zc41,hcl]; omega
   refine ⟨_,rfl,⟨?_,.inr ⟨g,cap,_,rfl,hgbase,b1,hroom,hcm,by rw [zq1230,zq1230]; exact hgsz,?_⟩⟩,⟨b4.trans a4,b5.trans a5,b6.trans a6,by rw [b3,a3]; exact zc49 _,fun k hk hne => ?_⟩,fun b hb => .inl hb⟩
   ·simp only [zc24,zc20,hdl,hxl]; omega
   ·rw [Nat.zero_add,Nat.zero_add]
    refine (zq551 hi hcl hxl (by omega) fun q hq => ?_).1
    rw [← hgtake,zc14,if_pos (by omega),zc25]
   ·have hkg : k ≠ g := fun e => hne (by rw [e]; rfl)
    exact (b2 k hkg).trans (a2 k hkg)
  ·refine (zq553 g 0 n cap i vb 0 1 vc cs xs z (by rw [hi0]; simp [hz0]) w hi (by omega) hnc (by omega) (by omega) hcl (by omega) hcs hvs h1c h1v).mono ?_
   rintro e w' ⟨rfl,rfl⟩
   obtain ⟨G,hG⟩ : ∃ G,G = grownCap w (n + 1) cap 116 := ⟨_,rfl⟩
   have hGn : n + 1 ≤ G := by rw [hG]; exact grownCap_ge w _ _ _
   have hG63 : G ≤ maxLen := by rw [hG]; exact grownCap_le_maxLen w (n + 1) cap 116 (by unfold maxLen; omega)
   rw [← hG]
   obtain ⟨ROW,hROW⟩ : ∃ ROW : Array Value,ROW = (cs.take (i * 5)).toArray ++ Builtin.zeroCells z.cells (n + 1 - i) ++ Builtin.zeroCells z.cells (G - (n + 1)) := ⟨_,rfl⟩
   rw [← hROW]
   have hRs : ROW.size = G * 5 := by
    rw [hROW]
    simp [Builtin.zeroCells,hzc]
    omega
   have hR0 : ∀ q,q < i * 5 → ROW[q]? = cs[q]? := fun q hq => by
    rw [hROW,Array.append_assoc,Array.getElem?_append_left (by simp; omega)]
    simp only [List.getElem?_toArray,zc14,if_pos hq]
   have hh : ((w.alloc (.cells ROW 116)).drew).heap[w.heap.size]? = some (.cells ROW 116 (0,0)) := by
    show (w.heap.push _)[w.heap.size]? = _
    exact Array.getElem?_push_size
   obtain ⟨a1,a2,a3,a4,a5,a6⟩ := zq1232 _ w.heap.size (i * 5) xs ROW 116 (0,0) hh
   have a1' : (((w.alloc (.cells ROW 116)).drew.setCells w.heap.size (i * 5) xs).drew).heap[w.heap.size]? = _ := a1
   obtain ⟨b1,b2,b3,b4,b5,b6⟩ := zq1232 _ w.heap.size ((i + 1) * 5) (cs.drop (i * 5)) _ 116 (0,0) a1'
   have hdl : (cs.drop (i * 5)).length = (n - i) * 5 := by rw [zc41,hcl]; omega
   have hold : ∀ k,k < w.heap.size → ((w.alloc (.cells ROW 116)).drew).heap[k]? = w.heap[k]? := fun k hk => by
    show (w.heap.push _)[k]? = _
    rw [Array.getElem?_push,if_neg (by omega)]
   refine ⟨_,rfl,⟨?_,.inr ⟨w.heap.size,G,_,rfl,hbase,b1,hGn,hG63,by rw [zq1230,zq1230]; exact hRs,?_⟩⟩,⟨b4.trans a4,b5.trans a5,b6.trans a6,?_,fun k hk hne => ?_⟩,fun b hb => .inr ?_⟩
   ·simp only [zc24,zc20,hdl,hxl]; omega
   ·exact (zq551 hi hcl hxl (by omega) hR0).2
   ·rw [b3]
    show w.heap.size ≤ ((w.alloc (.cells ROW 116)).drew.setCells w.heap.size (i * 5) xs).heap.size
    rw [a3]
    show w.heap.size ≤ (w.heap.push _).size
    simp
   ·exact ((b2 k (by omega)).trans (a2 k (by omega))).trans (hold k hk)
   ·cases hb
    exact zc49 _
def zq1291 : Con := zq1509 (zq546 .addr 24)
theorem zq1292 : TrOk Tryz.prog 167 zq1291 := zq1510 (zq563 .addr 24 zq543)
def zq1295 : Con := zq548 .pfx .addr 116 24
theorem zq1296 : TrOk Tryz.prog 165 zq1295 := zq550 .pfx .addr 116 24 zq554
end Go.Proofs.YtafggolijpopeaaGreatDoor
namespace Go.Proofs.YtafggolijpopeaaGreatDoor
open Go Go.Ma Go.RowKit Go.Lib Go.Proofs
theorem zq1216 {P : Program} (w : World) (t e : TypeId) (z : Value) (s : Nat) (ht : P.underlying t = some (.slice e)) (hv : ∀ w,(zeroValue e).run P w = .ok z w) (hz : z.cells.size = s) (h1 : ∀ v ∈ z.cells.toList,v.oneCell' = true) (b o n : Nat) (hn : 0 < n)
  (hc : ∀ j,j < n * s → (w.cell? ⟨b,o + j,none⟩).isSome = true) (hf : ∀ j,j < n * s → w.frozen? ⟨b,o + j,none⟩ = false) :
  ∃ Z : List Value,Z.length = n * s ∧ ∀ ty c,(Builtin.clear_ #[t] ty #[.slice (some ⟨b,o,none⟩) n c]).run P w = .ok (.tuple #[]) (w.setCells b o Z) := by
 have hlen : (Builtin.zeroCells z.cells n).toList.length = n * s := by simp [Builtin.zeroCells,hz]
 have hst := run_storeCells_cells (P := P) b o (Builtin.zeroCells z.cells n).toList 0 w (fun j hj => by rw [hlen] at hj; first | exact hc j (by simpa using hj) | simpa using hc j (by simpa using hj)) (fun j hj => by rw [hlen] at hj; first | exact hf j (by simpa using hj) | simpa using hf j (by simpa using hj)) (fun v hv' => by
  simp only [Builtin.zeroCells,Array.toList_map,List.mem_map] at hv'
  obtain ⟨q,hq,rfl⟩ := hv'
  have hs : 0 < z.cells.size := by
   rcases Nat.eq_zero_or_pos z.cells.size with h0 | h0
   ·simp [h0] at hq
   ·exact h0
  refine h1 _ ?_
  rw [getElem!_pos z.cells _ (Nat.mod_lt _ hs)]
  simp)
 simp only [Nat.add_zero] at hst
 obtain ⟨m,rfl⟩ : ∃ m,n = m + 1 := ⟨n - 1,by omega⟩
 exact ⟨_,hlen,fun ty c => by simp [Builtin.clear_,run_underlying ht,hv,hst]⟩
theorem zq1641 : ∃ z,(∀ w,(zeroValue 121).run Tryz.prog w = .ok z w) ∧ z.cells.size = 5 ∧ ∀ v ∈ z.cells.toList,v.oneCell' = true := by
 obtain ⟨i,d,z,hi,hd,hz,h1,h2,_⟩ := (tyOk.ty 121 rfl).ex
 have h2 : z.cells.toList = [.bool false,.int .u64 0,.int .u64 0,.string .empty,.int .i64 0] := h2.symm
 refine ⟨z,fun w => by simp [zeroValue,typeInfo,hi,hz],by rw [← Array.length_toList,h2]; rfl,fun v hv => ?_⟩
 rw [h2] at hv
 simp only [zc28,List.not_mem_nil,or_false] at hv
 rcases hv with rfl | rfl | rfl | rfl | rfl <;> rfl
set_option maxHeartbeats 4000000 in
set_option maxRecDepth 100000 in
theorem zq340 (A : Option Addr) (n c i : Nat) (w : World) (hin : i ≤ n) (hnc : n ≤ c) (hA : A = none → n = 0 ∧ c = 0) :
  Calls Tryz.prog 172 #[.slice A n c,.int .i64 i,.int .i64 i] w fun e w' => e = .returned (.slice A n c) ∧ w' = w := by
 have u30 := run_underlying Tryz.underlying89
 have z49 := zq1259
 have mixed := zq828
 cases A with
 | none =>
  obtain ⟨rfl,rfl⟩ := hA rfl
  have h0 : i = 0 := by omega
  subst h0
  go_enter Tryz.func172,Tryz.ntmps172
  go_wp2
  all_goals (go_ret; exact ⟨rfl,rfl⟩)
 | some a =>
  obtain ⟨ab,ao,asp⟩ := a
  go_enter Tryz.func172,Tryz.ntmps172
  go_wp2
  all_goals (go_ret; exact ⟨rfl,rfl⟩)
set_option maxHeartbeats 4000000 in
set_option maxRecDepth 100000 in
theorem zq341 (b n c i j : Nat) (cs : List Value) (w : World) (hij : i < j) (hjn : j ≤ n) (hnc : n ≤ c) (hc63 : c ≤ 9223372036854775807) (hcl : cs.length = n * 5)
  (hcs : ∀ q v,cs[q]? = some v → w.cell? ⟨b,q,none⟩ = some v) (hfz : ∀ q,q < n * 5 → w.frozen? ⟨b,q,none⟩ = false) (h1c : ∀ v ∈ cs,v.oneCell' = true) :
  Calls Tryz.prog 172 #[.slice (some ⟨b,0,none⟩) n c,.int .i64 i,.int .i64 j] w fun e w' =>
   e = .returned (.slice (some ⟨b,0,none⟩) (i + (n - j)) c) ∧ ∃ Z : List Value,Z.length = (j - i) * 5 ∧ w' = (w.drew.setCells b (0 + i * 5) (cs.drop (j * 5))).setCells b ((i + (n - j)) * 5) Z := by
 have u30 := run_underlying Tryz.underlying89
 have z49 := zq1259
 have mixed := zq828
 obtain ⟨i0,hi0,hz⟩ := zc7.1 zq531
 simp only [zc11] at hz
 obtain ⟨hzc,hzs,hzb⟩ := hz
 obtain ⟨news,hnews⟩ : ∃ news,news = cs.drop (j * 5) := ⟨_,rfl⟩
 have hlen : news.length = (n - j) * 5 := by rw [hnews,zc41,hcl]; omega
 obtain ⟨A,hA,hsrc⟩ : ∃ A : Addr,(if c = j then (some (⟨b,0,none⟩ : Addr)) else some ⟨b,j * 5,none⟩) = some A ∧ Hid (∀ t u,news[t]? = some u → w.drew.cell? (A.add t) = some u) := by
  by_cases h : c = j
  ·refine ⟨⟨b,0,none⟩,by simp [h],fun t u hu => ?_⟩
   have h0 : news.length = 0 := by rw [hlen]; omega
   rw [List.length_eq_zero_iff.1 h0] at hu
   simp at hu
  ·refine ⟨⟨b,j * 5,none⟩,by simp [h],fun t u hu => ?_⟩
   rw [hnews,zc40] at hu
   rw [Addr.add_lit]
   exact hcs _ u hu
 have s1 : Hid (news.length = (n - j) * 5) := hlen
 have s2 : Hid (∀ u ∈ news,u.oneCell' = true) := fun u hu => h1c u (List.mem_of_mem_drop (by rw [← hnews]; exact hu))
 have hsome : ∀ q,q < n * 5 → (w.cell? ⟨b,q,none⟩).isSome = true := fun q hq => by
  rw [hcs q _ (zc0 (by omega))]; rfl
 have s3 : Hid (∀ t,t < news.length → (w.drew.cell? ⟨b,0 + i * 5 + t,none⟩).isSome = true ∧ w.drew.frozen? ⟨b,0 + i * 5 + t,none⟩ = false) := fun t ht => by
  rw [hlen] at ht
  exact ⟨hsome _ (by omega),hfz _ (by omega)⟩
 obtain ⟨W1,hW1⟩ : ∃ W1,W1 = w.drew.setCells b (0 + i * 5) news := ⟨_,rfl⟩
 obtain ⟨z,zv,zs,zo⟩ := zq1641
 have hsome1 : ∀ q,q < n * 5 → (W1.cell? ⟨b,q,none⟩).isSome = true := fun q hq => by
  rw [hW1]
  exact isSome_setCells b _ _ _ (fun t ht => by rw [hlen] at ht; exact hsome _ (by omega)) _ (hsome q hq)
 have hfz1 : ∀ q,q < n * 5 → W1.frozen? ⟨b,q,none⟩ = false := fun q hq => by
  rw [hW1,World.frozen?_setCells]; exact hfz q hq
 obtain ⟨Z,hZl,hcl'⟩ : ∃ Z : List Value,Z.length = (j - i) * 5 ∧ ∀ ty cc,(Builtin.clear_ #[89] ty #[.slice (some ⟨b,(i + (n - j)) * 5,none⟩) (n - (i + (n - j))) cc]).run Tryz.prog W1 = .ok (.tuple #[]) (W1.setCells b ((i + (n - j)) * 5) Z) := by
  obtain ⟨Z,h1,h2⟩ := zq1216 W1 _ _ z 5 Tryz.underlying89 zv zs zo b ((i + (n - j)) * 5) (n - (i + (n - j))) (by omega) (fun q hq => hsome1 _ (by omega)) (fun q hq => hfz1 _ (by omega))
  exact ⟨Z,by rw [h1]; congr 1; omega,h2⟩
 have hW : Hid (W1 = w.drew.setCells b (0 + i * 5) news) := hW1
 have X : Hid (Z.length = (j - i) * 5) := hZl
 have hic : i ≤ c := by omega
 have hjc : j ≤ c := by omega
 have hne : ¬ ((i : Int) = (j : Int)) := by omega
 have hin : i ≤ n := by omega
 have hij' : i ≤ j := by omega
 subst hnews
 clear hZl hW1 hsome1 hfz1 hsome hcs hfz hlen zo zs zv hcl
 go_enter Tryz.func172,Tryz.ntmps172
 go_wp2_with fail
 go_region_law_o (refine step_append_room rfl (.tmp 22) (.tmp 25) 89 rfl 121 i0 5 Tryz.underlying89 hi0 hzs b 0 i c (by simp [Act.eval,Act.put]) A (n - j) (c - j) (cs.drop (j * 5)) (by simp [Act.eval,Act.put]) s1.out hsrc.out s2.out (by omega) s3.out ?_; rw [← hW.out])
 go_wp2
 go_ret
 exact ⟨rfl,Z,X.out,by rw [← hW.out]⟩
theorem zq338 {arr : Array Value} {n i j : Nat} {cs Z : List Value} (hij : i < j) (hjn : j ≤ n) (hcl : cs.length = n * 5) (hZ : Z.length = (j - i) * 5) (hsz : n * 5 ≤ arr.size) (h0 : ∀ q,q < i * 5 → arr[q]? = cs[q]?) :
  (zq1228 (zq1228 arr (i * 5) (cs.drop (j * 5))) ((i + (n - j)) * 5) Z).toList.take ((i + (n - j)) * 5) = cs.take (i * 5) ++ cs.drop (j * 5) := by
 have hdl : (cs.drop (j * 5)).length = (n - j) * 5 := by rw [zc41,hcl]; omega
 apply List.ext_getElem?
 intro q
 rw [zc14,zc29,zc20,Nat.min_eq_left (by omega)]
 by_cases hq : q < (i + (n - j)) * 5
 ·rw [if_pos hq,zc25,zq1229 _ _ _ _ (by rw [zq1230]; omega),if_neg (by omega),zq1229 _ _ _ _ (by omega)]
  by_cases h1 : q < i * 5
  ·rw [if_neg (by omega),if_pos h1,zc14,if_pos h1,h0 q h1]
  ·rw [if_pos (by omega),if_neg h1]
 ·rw [if_neg hq,if_neg (by omega),zc22 (by omega)]
theorem zq339 (base : Nat) (w : World) (v : Value) (n i j : Nat) (cs : List Value) (h1 : w.ownsRow base 121 5 v n cs) (hc1 : ∀ x ∈ cs,oneC x = true) (_ : base ≤ w.heap.size) (hij : i ≤ j) (hjn : j ≤ n) :
  Calls Tryz.prog 172 #[v,.int .i64 (i : Int),.int .i64 (j : Int)] w fun r w' => ∃ v',r = .returned v' ∧ w'.ownsRow base 121 5 v' (n - (j - i)) (cs.take (i * 5) ++ cs.drop (j * 5)) ∧ w.grownBy w' v.ownBlock ∧ (∀ b,v'.ownBlock = some b → v.ownBlock = some b ∨ w.heap.size ≤ b) := by
 have hcl := h1.1
 by_cases hije : i = j
 ·subst hije
  have hv : ∃ A c,v = .slice A n c ∧ n ≤ c ∧ (A = none → n = 0 ∧ c = 0) := by
   rcases h1.2 with ⟨h,h0⟩ | ⟨g,cp,cur,h,_,_,hc,_⟩
   ·exact ⟨none,0,by rw [h,h0],by omega,fun _ => ⟨h0,rfl⟩⟩
   ·exact ⟨_,cp,h,hc,fun h => by cases h⟩
  obtain ⟨A,c,rfl,hc,hnil⟩ := hv
  refine (zq340 A n c i w hjn hc hnil).mono ?_
  rintro e w' ⟨rfl,rfl⟩
  exact ⟨_,rfl,by rw [Nat.sub_self,Nat.sub_zero,List.take_append_drop]; exact h1,⟨rfl,rfl,rfl,zc49 _,fun _ _ _ => rfl⟩,fun b hb => .inl hb⟩
 ·have hlt : i < j := by omega
  rcases h1.2 with ⟨_,h0⟩ | ⟨g,cap,cur,rfl,hgbase,hgheap,hnc,hcm,hgsz,hgtake⟩
  ·omega
  have hcs : ∀ q x,cs[q]? = some x → w.cell? ⟨g,q,none⟩ = some x := by
   intro q x hq
   rw [zq262 hgheap,← zc25]
   rw [← hgtake,zc14] at hq
   split at hq
   ·exact hq
   ·cases hq
  refine (zq341 g n cap i j cs w hlt hjn hnc (by unfold maxLen at hcm; omega) hcl hcs (fun q hq => by simp [World.frozen?,hgheap]) (fun x hx => zq885 (hc1 x hx))).mono ?_
  rintro e w' ⟨rfl,Z,hZ,rfl⟩
  have hg0 : w.drew.heap[g]? = some (.cells cur 121 (0,0)) := hgheap
  obtain ⟨a1,a2,a3,a4,a5,a6⟩ := zq1232 w.drew g (0 + i * 5) (cs.drop (j * 5)) cur 121 (0,0) hg0
  obtain ⟨b1,b2,b3,b4,b5,b6⟩ := zq1232 _ g ((i + (n - j)) * 5) Z _ 121 (0,0) a1
  have hdl : (cs.drop (j * 5)).length = (n - j) * 5 := by rw [zc41,hcl]; omega
  have hn' : n - (j - i) = i + (n - j) := by omega
  rw [hn']
  refine ⟨_,rfl,⟨?_,.inr ⟨g,cap,_,rfl,hgbase,b1,by omega,hcm,by rw [zq1230,zq1230]; exact hgsz,?_⟩⟩,⟨b4.trans a4,b5.trans a5,b6.trans a6,by rw [b3,a3]; exact zc49 _,fun k hk hne => ?_⟩,fun b hb => .inl hb⟩
  ·simp only [zc24,zc20,hdl]; omega
  ·rw [Nat.zero_add]
   have : n * 5 ≤ cap * 5 := Nat.mul_le_mul_right _ hnc
   exact zq338 hlt hjn hcl hZ (by omega) fun q hq => by
    rw [← hgtake,zc14,if_pos (by omega),zc25]
  ·have hkg : k ≠ g := fun e => hne (by rw [e]; rfl)
   exact (b2 k hkg).trans (a2 k hkg)
def zq1281 : Con := zq337 .lease 121
theorem zq1282 : TrOk Tryz.prog 172 zq1281 := del_ok .lease 121 zq339
end Go.Proofs.YtafggolijpopeaaGreatDoor
namespace Go.Proofs
open Go.Shelf
def Tryz.sortLs_ren : Go.Shelf.Ren := ⟨fun | 6 => 170 | 15 => 193 | 14 => 192 | 28 => 210 | 29 => 176 | 20 => 202 | 21 => 203 | 22 => 204 | 23 => 205 | 24 => 206 | 25 => 207 | 26 => 208 | 27 => 209 | 46 => 217 | 47 => 218 | 48 => 219 | 49 => 220 | 50 => 221 | 57 => 224 | n => n,fun | 22 => 89 | 24 => 121 | 25 => 203 | 3 => 3 | 39 => 157 | 0 => 0 | 53 => 181 | 55 => 22 | 4 => 4 | 46 => 238 | 45 => 237 | 50 => 64 | 5 => 5 | 9 => 9 | 66 => 248 | 70 => 252 | 76 => 256 | 77 => 125 | n => n,fun | n => n⟩
theorem Tryz.sortLs : Go.Proofs.SlLaysF0.n6 Tryz.prog Tryz.sortLs_ren := {
 mixed := by kernel_rfl
 f6 := ⟨Tryz.f170.name,by decide,Tryz.func170.trans (congrArg some (by kernel_rfl))⟩
 f14 := ⟨Tryz.f192.name,by decide,Tryz.func192.trans (congrArg some (by kernel_rfl))⟩
 f15 := Tryz.func193.trans (congrArg some (by kernel_rfl))
 f20 := ⟨Tryz.f202.name,by decide,Tryz.func202.trans (congrArg some (by kernel_rfl))⟩
 f21 := ⟨Tryz.f203.name,by decide,Tryz.func203.trans (congrArg some (by kernel_rfl))⟩
 f22 := ⟨Tryz.f204.name,by decide,Tryz.func204.trans (congrArg some (by kernel_rfl))⟩
 f23 := ⟨Tryz.f205.name,by decide,Tryz.func205.trans (congrArg some (by kernel_rfl))⟩
 f24 := ⟨Tryz.f206.name,by decide,Tryz.func206.trans (congrArg some (by kernel_rfl))⟩
 f25 := ⟨Tryz.f207.name,by decide,Tryz.func207.trans (congrArg some (by kernel_rfl))⟩
 f26 := ⟨Tryz.f208.name,by decide,Tryz.func208.trans (congrArg some (by kernel_rfl))⟩
 f27 := ⟨Tryz.f209.name,by decide,Tryz.func209.trans (congrArg some (by kernel_rfl))⟩
 f28 := Tryz.func210.trans (congrArg some (by kernel_rfl))
 f29 := Tryz.func176.trans (congrArg some (by kernel_rfl))
 f46 := ⟨Tryz.f217.name,by decide,Tryz.func217.trans (congrArg some (by kernel_rfl))⟩
 f47 := Tryz.func218.trans (congrArg some (by kernel_rfl))
 f48 := Tryz.func219.trans (congrArg some (by kernel_rfl))
 f49 := ⟨Tryz.f220.name,by decide,Tryz.func220.trans (congrArg some (by kernel_rfl))⟩
 f50 := ⟨Tryz.f221.name,by decide,Tryz.func221.trans (congrArg some (by kernel_rfl))⟩
 f57 := ⟨Tryz.f224.name,by decide,Tryz.func224.trans (congrArg some (by kernel_rfl))⟩
 t0 := Tryz.underlying0
 a0 := Tryz.isAgg0
 z0 := Tryz.sizeOf0
 v0 := Tryz.zeroValue0
 t3 := Tryz.underlying3
 a3 := Tryz.isAgg3
 z3 := Tryz.sizeOf3
 v3 := Tryz.zeroValue3
 t4 := Tryz.underlying4
 a4 := Tryz.isAgg4
 z4 := Tryz.sizeOf4
 v4 := Tryz.zeroValue4
 t5 := Tryz.underlying5
 a5 := Tryz.isAgg5
 z5 := Tryz.sizeOf5
 v5 := Tryz.zeroValue5
 t9 := Tryz.underlying9
 a9 := Tryz.isAgg9
 z9 := Tryz.sizeOf9
 v9 := Tryz.zeroValue9
 t22 := Tryz.underlying89
 a22 := Tryz.isAgg89
 z22 := Tryz.sizeOf89
 v22 := Tryz.zeroValue89
 t25 := Tryz.underlying203
 a25 := Tryz.isAgg203
 z25 := Tryz.sizeOf203
 v25 := Tryz.zeroValue203
 t39 := Tryz.underlying157
 a39 := Tryz.isAgg157
 z39 := Tryz.sizeOf157
 v39 := Tryz.zeroValue157
 t45 := Tryz.underlying237
 a45 := Tryz.isAgg237
 z45 := Tryz.sizeOf237
 v45 := Tryz.zeroValue237
 t46 := Tryz.underlying238
 a46 := Tryz.isAgg238
 z46 := Tryz.sizeOf238
 v46 := Tryz.zeroValue238
 t50 := Tryz.underlying64
 a50 := Tryz.isAgg64
 z50 := Tryz.sizeOf64
 v50 := Tryz.zeroValue64
 t53 := Tryz.underlying181
 a53 := Tryz.isAgg181
 z53 := Tryz.sizeOf181
 v53 := Tryz.zeroValue181
 t55 := Tryz.underlying22
 a55 := Tryz.isAgg22
 z55 := Tryz.sizeOf22
 v55 := Tryz.zeroValue22
 t66 := Tryz.underlying248
 a66 := Tryz.isAgg248
 z66 := Tryz.sizeOf248
 v66 := Tryz.zeroValue248
 t70 := Tryz.underlying252
 a70 := Tryz.isAgg252
 z70 := Tryz.sizeOf252
 v70 := Tryz.zeroValue252
 t76 := Tryz.underlying256
 a76 := Tryz.isAgg256
 z76 := Tryz.sizeOf256
 v76 := Tryz.zeroValue256
 t77 := Tryz.underlying125
 a77 := Tryz.isAgg125
 z77 := Tryz.sizeOf125
 v77 := Tryz.zeroValue125 }
end Go.Proofs
namespace Go.Proofs.YtafggolijpopeaaGreatDoor
open Go Go.Ma Go.RowKit Go.Lib Go.Proofs Go.Sort
def cmpN (x y : Int) : Int := if x < y then -1 else if y < x then 1 else 0
def cmpA (a b : Ad) : Int := if a.v6 != b.v6 then (if b.v6 then -1 else 1) else if a.hi = b.hi then cmpN a.lo b.lo else cmpN a.hi b.hi
def encLs (x : Ls) : List Value := [.bool x.ad.v6,.int .u64 x.ad.hi,.int .u64 x.ad.lo,.string x.who,.int .i64 x.upto]
set_option maxHeartbeats 1000000 in
theorem zq291 (x y : Int) (W : World) : Calls Tryz.prog 146 #[.int .u64 x,.int .u64 y] W fun e w' => e = .returned (.int .i64 (cmpN x y)) ∧ w' = W := by
 unfold cmpN
 by_cases h1 : x < y
 ·rw [if_pos h1]
  go_enter Tryz.func146,Tryz.ntmps146
  go_wp2
  all_goals (go_ret; exact ⟨rfl,rfl⟩)
 ·rw [if_neg h1]
  by_cases h2 : y < x
  ·rw [if_pos h2]
   go_enter Tryz.func146,Tryz.ntmps146
   go_wp2
   all_goals (go_ret; exact ⟨rfl,rfl⟩)
  ·rw [if_neg h2]
   go_enter Tryz.func146,Tryz.ntmps146
   go_wp2
   all_goals (go_ret; exact ⟨rfl,rfl⟩)
set_option maxHeartbeats 2000000 in
set_option maxRecDepth 100000 in
theorem zq957 (a b : Ad) (W : World) : Calls Tryz.prog 113 #[.agg #[.bool a.v6,.int .u64 a.hi,.int .u64 a.lo],.agg #[.bool b.v6,.int .u64 b.hi,.int .u64 b.lo]] W fun e w' => e = .returned (.int .i64 (cmpA a b)) ∧ ∃ q os',w' = grow (W.drewN q) os' := by
 obtain ⟨av,ah,al⟩ := a
 obtain ⟨bv,bh,bl⟩ := b
 have hx : ∀ x y : Int,∃ r,cmpN x y = r ∧ Hid (∀ W',Calls Tryz.prog 146 #[.int .u64 x,.int .u64 y] W' fun e w' => e = .returned (.int .i64 r) ∧ w' = W') := fun x y => ⟨_,rfl,zq291 x y⟩
 cases av <;> cases bv
 ·by_cases h : ah = bh
  ·subst h
   obtain ⟨r,hr,hcon⟩ := hx al bl
   rw [show cmpA ⟨false,ah,al⟩ ⟨false,ah,bl⟩ = r by simp [cmpA,hr]]
   go_enter Tryz.func113,Tryz.ntmps113
   go_wp2_with (go_at_call 146; refine (hcon.out _).mono ?_; rintro e w' ⟨rfl,rfl⟩)
   all_goals (go_ret; exact ⟨rfl,0,_,by rw [alloc_eq_grow,alloc_eq_grow,grow_grow]; rfl⟩)
  ·obtain ⟨r,hr,hcon⟩ := hx ah bh
   rw [show cmpA ⟨false,ah,al⟩ ⟨false,bh,bl⟩ = r by simp [cmpA,hr,h]]
   go_enter Tryz.func113,Tryz.ntmps113
   go_wp2_with (go_at_call 146; refine (hcon.out _).mono ?_; rintro e w' ⟨rfl,rfl⟩)
   all_goals (go_ret; exact ⟨rfl,0,_,by rw [alloc_eq_grow,alloc_eq_grow,grow_grow]; rfl⟩)
 ·go_enter Tryz.func113,Tryz.ntmps113
  go_wp2
  all_goals (go_ret; exact ⟨rfl,0,_,by rw [alloc_eq_grow,alloc_eq_grow,grow_grow]; rfl⟩)
 ·go_enter Tryz.func113,Tryz.ntmps113
  go_wp2
  all_goals (go_ret; exact ⟨rfl,0,_,by rw [alloc_eq_grow,alloc_eq_grow,grow_grow]; rfl⟩)
 ·by_cases h : ah = bh
  ·subst h
   obtain ⟨r,hr,hcon⟩ := hx al bl
   rw [show cmpA ⟨true,ah,al⟩ ⟨true,ah,bl⟩ = r by simp [cmpA,hr]]
   go_enter Tryz.func113,Tryz.ntmps113
   go_wp2_with (go_at_call 146; refine (hcon.out _).mono ?_; rintro e w' ⟨rfl,rfl⟩)
   all_goals (go_ret; exact ⟨rfl,0,_,by rw [alloc_eq_grow,alloc_eq_grow,grow_grow]; rfl⟩)
  ·obtain ⟨r,hr,hcon⟩ := hx ah bh
   rw [show cmpA ⟨true,ah,al⟩ ⟨true,bh,bl⟩ = r by simp [cmpA,hr,h]]
   go_enter Tryz.func113,Tryz.ntmps113
   go_wp2_with (go_at_call 146; refine (hcon.out _).mono ?_; rintro e w' ⟨rfl,rfl⟩)
   all_goals (go_ret; exact ⟨rfl,0,_,by rw [alloc_eq_grow,alloc_eq_grow,grow_grow]; rfl⟩)
set_option maxHeartbeats 2000000 in
set_option maxRecDepth 100000 in
theorem zq800 (x y : Ls) (W : World) : Calls Tryz.prog 171 #[.agg (encLs x).toArray,.agg (encLs y).toArray] W fun e w' => e = .returned (.int .i64 (cmpA x.ad y.ad)) ∧ ∃ q os',w' = grow (W.drewN q) os' := by
 obtain ⟨⟨av,ah,al⟩,aw,au⟩ := x
 obtain ⟨⟨bv,bh,bl⟩,bw,bu⟩ := y
 obtain ⟨r,hr,hcon⟩ : ∃ r,cmpA ⟨av,ah,al⟩ ⟨bv,bh,bl⟩ = r ∧ Hid (∀ W',Calls Tryz.prog 113 #[.agg #[.bool av,.int .u64 ah,.int .u64 al],.agg #[.bool bv,.int .u64 bh,.int .u64 bl]] W' fun e w' => e = .returned (.int .i64 r) ∧ ∃ q os',w' = grow (W'.drewN q) os') := ⟨_,rfl,fun W' => zq957 ⟨av,ah,al⟩ ⟨bv,bh,bl⟩ W'⟩
 show Calls _ _ _ _ fun e w' => e = .returned (.int .i64 (cmpA ⟨av,ah,al⟩ ⟨bv,bh,bl⟩)) ∧ _
 rw [hr]
 show Calls _ _ #[.agg #[.bool av,.int .u64 ah,.int .u64 al,.string aw,.int .i64 au],.agg #[.bool bv,.int .u64 bh,.int .u64 bl,.string bw,.int .i64 bu]] _ _
 go_enter Tryz.func171,Tryz.ntmps171
 go_wp2_with (go_at_call 113; refine (hcon.out _).mono ?_; rintro e w' ⟨rfl,q,os',rfl⟩)
 all_goals (go_ret; refine ⟨rfl,q,?_⟩)
 rw [alloc_eq_grow,alloc_eq_grow,grow_grow]
 exact ⟨_,grow_grow (W.drewN q) _ os'⟩
end Go.Proofs.YtafggolijpopeaaGreatDoor
namespace Go.Ma
open Go Go.Shelf Go.RowKit Go.Lib Go.Proofs Go.Sort
theorem zq429 {α : Type} (enc : α → List Value) (k : Nat) (hk : ∀ x,(enc x).length = k) : ∀ (l : List α) (j : Nat),j < l.length * k → (l.flatMap enc)[j]? = (l[j / k]?).bind fun a => (enc a)[j % k]?
 | [],j,h => by simp at h
 | x :: r,j,h => by
  have k0 : 0 < k := by
   rcases Nat.eq_zero_or_pos k with h0 | h0
   ·subst h0; simp at h
   ·exact h0
  rw [List.flatMap_cons]
  by_cases hj : j < k
  ·rw [zc6 (by rw [hk]; exact hj),Nat.div_eq_of_lt hj,Nat.mod_eq_of_lt hj]
   rfl
  ·rw [List.getElem?_append_right (by rw [hk]; omega),hk,zq429 enc k hk r (j - k) (by simp [Nat.add_mul] at h; omega)]
   have e1 : j / k = (j - k) / k + 1 := by
    have := Nat.add_div_right (j - k) k0
    rwa [Nat.sub_add_cancel (by omega)] at this
   have e2 : (j - k) % k = j % k := by
    have := Nat.add_mod_right (j - k) k
    rwa [Nat.sub_add_cancel (by omega),eq_comm] at this
   rw [e1,e2,List.getElem?_cons_succ]
theorem zq428 {α : Type} [Inhabited α] (enc : α → List Value) (k : Nat) (hk : ∀ x,(enc x).length = k) (d : Array α) : (flatK enc k d).toList = d.toList.flatMap enc := by
 have hlen' : ∀ l : List α,(l.flatMap enc).length = l.length * k := by
  intro l
  induction l with
  | nil => simp
  | cons x r ih => rw [List.flatMap_cons,zc24,hk,ih,zc21,Nat.add_mul]; omega
 have hlen : (d.toList.flatMap enc).length = d.size * k := by rw [hlen']; simp
 refine List.ext_getElem? fun j => ?_
 by_cases hj : j < d.size * k
 ·have k0 : 0 < k := by
   rcases Nat.eq_zero_or_pos k with h0 | h0
   ·subst h0; simp at hj
   ·exact h0
  rw [zq429 enc k hk d.toList j (by simpa using hj)]
  have hd : j / k < d.size := Nat.div_lt_of_lt_mul (by rw [Nat.mul_comm]; exact hj)
  have hm : j % k < (enc (d[j / k]'hd)).length := by rw [hk]; exact Nat.mod_lt _ k0
  have h1 : (flatK enc k d).toList[j]? = some (flatK enc k d)[j]! := by
   rw [zc25,zc46 (by simpa using hj),getElem!_pos _ j (by simpa using hj)]
  rw [h1,get_flatK _ _ _ _ hj,getElem!_pos d _ hd,zc25,zc46 hd,zc50,zc0 hm,getElem!_pos (enc (d[j / k]'hd)) (j % k) hm]
 ·rw [zc22 (by simpa using hj),zc22 (by omega)]
theorem zq1109 (F : Array Value) (c : Array Value) (h : F.size ≤ c.size) : (putCells id 0 F c).toList.take F.size = F.toList := by
 refine List.ext_getElem? fun j => ?_
 rw [zc14]
 by_cases hj : j < F.size
 ·rw [if_pos hj]
  unfold putCells
  rw [zc25,Array.getElem?_mapIdx,zc46 (show j < c.size by omega),Option.map_some,if_pos (by omega),zc25,zc46 hj]
  simp [getElem!_pos F j hj]
 ·rw [if_neg hj,zc22 (by simpa using hj)]
theorem zq1319 {P : Program} {ρ : Ren} {α : Type} [Inhabited α] (L : SlLaysF0.n6 P ρ) (k : Nat) (aE : ∀ w,(isAgg (ρ.t 24)).run P w = .ok true w) (zE : ∀ w,(Go.sizeOf (ρ.t 24)).run P w = .ok k w) (enc : α → List Value) (hk : ∀ x,(enc x).length = k) (h1 : ∀ x,∀ v ∈ enc x,v.oneCell' = true) (cf : α → α → Int) (hO : SWO (ltOf cf)) (g : Nat) (cb : Array Value)
  (eg : ∀ args w,(callFunc g args).run P w = .ok (.enter g args) w)
  (hcmp : ∀ (w : World) (x y : α),Calls P g (#[.agg (enc x).toArray,.agg (enc y).toArray] ++ cb) w fun e w' => e = .returned (.int .i64 (cf x y)) ∧ ∃ q os',w' = grow (w.drewN q) os')
  (base : Nat) (e : TypeId) (w : World) (v : Value) (l : List α) (hown : w.ownsRow base e k v l.length (l.flatMap enc)) (hl : l ≠ []) (hsz : l.length < 4611686018427387904) :
  Calls P (ρ.f 6) #[v,.func (.func g) #[] cb] w fun r w' => r = .returned (.tuple #[]) ∧ ∃ l' : List α,l'.Perm l ∧ l'.Pairwise (fun a b => ltOf cf b a = false) ∧ w'.ownsRow base e k v l'.length (l'.flatMap enc) ∧ w.grownBy w' v.ownBlock := by
 obtain ⟨hlen,⟨_,h0⟩ | ⟨b,cap,cur,rfl,hb,hg,hnc,hcm,hcs,htake⟩⟩ := hown
 ·exact absurd (List.eq_nil_of_length_eq_zero h0) hl
 have hblk : b < w.heap.size := (zc27.1 hg).1
 have hkc : l.length * k ≤ cur.size := by rw [hcs]; exact Nat.mul_le_mul_right k hnc
 have hflat : (flatK enc k l.toArray).toList = l.flatMap enc := by rw [zq428 enc k hk]
 have hH : HoldsK enc k w b 0 l.toArray := by
  intro j hj
  have hj : j < l.length * k := by simpa using hj
  refine ⟨?_,?_⟩
  ·have hc : w.cell? ⟨b,0 + j,none⟩ = cur[j]? := by simp [World.cell?,hg]
   rw [hc]
   have e1 : cur[j]? = (flatK enc k l.toArray)[j]? := by
    rw [← zc25,← zc25,hflat,← htake,zc14,if_pos hj]
   rw [e1,zc46 (by simpa using hj),getElem!_pos _ j (by simpa using hj)]
   rfl
  ·simp [World.frozen?,hg]
 refine (AnyQ.slices_SortFunc L k aE zE enc hk h1 cf hO g cb b 0 cap l.toArray w eg (fun m os dk _ x y => hcmp _ x y) hH hblk (by simpa using hsz)).mono ?_
 rintro r w' ⟨rfl,d',n,os,hp,hs,rfl⟩
 obtain ⟨hsize,_,hperm⟩ := hp
 have hsize : d'.size = l.length := by simpa using hsize
 have hperm : d'.toList.Perm l := by
  have e1 : d'.extract 0 l.length = d' := by rw [← hsize]; simp
  have e2 : l.toArray.extract 0 l.length = l.toArray := by simp
  have : l.toArray.size = l.length := by simp
  rw [this,e1,e2] at hperm
  simpa using hperm
 have hheap : (sortWorldK enc k w b 0 n d' os).heap[b]? = some (.cells (putCells id 0 (flatK enc k d') cur) e (0,0)) := by
  simp only [sortWorldK,grow,putRowK,putRow,mapBlock,Sort.ahead]
  rw [Array.getElem?_append_left (by simpa using hblk),Array.getElem?_modify,if_pos rfl,hg]
  rfl
 refine ⟨rfl,d'.toList,hperm,?_,⟨?_,.inr ⟨b,cap,_,?_,hb,hheap,?_,hcm,?_,?_⟩⟩,⟨rfl,rfl,rfl,?_,?_⟩⟩
 ·rw [List.pairwise_iff_getElem]
  intro i j hi hj hij
  have hj' : j < d'.size := by simpa using hj
  have := hs i j (Nat.zero_le _) hij (by simp; omega)
  rw [getElem!_pos d' j hj',getElem!_pos d' i (by omega)] at this
  simpa using this
 ·rw [← zq428 enc k hk]; simp
 ·simp [hsize]
 ·simp [hsize]; omega
 ·simp [putCells,hcs]
 ·have hf : (flatK enc k d').size = d'.toList.length * k := by simp
  rw [← zq428 enc k hk,← hf,zq1109]
  simp only [size_flatK,hsize]
  exact hkc
 ·simp [sortWorldK,grow,putRowK,putRow,mapBlock,Sort.ahead]
 ·intro q hq hne
  have hne : b ≠ q := fun e => hne (by simp [Value.ownBlock,e])
  simp only [sortWorldK,grow,putRowK,putRow,mapBlock,Sort.ahead]
  rw [Array.getElem?_append_left (by simpa using hq),Array.getElem?_modify,if_neg hne]
end Go.Ma
namespace Go.Proofs.YtafggolijpopeaaGreatDoor
open Go Go.Ma Go.RowKit Go.Lib Go.Proofs Go.Sort
theorem zq290 (a b : Ad) : decide (cmpA a b < 0) = adLt a b := by
 unfold cmpA cmpN adLt
 obtain ⟨av,ah,al⟩ := a
 obtain ⟨bv,bh,bl⟩ := b
 cases av <;> cases bv <;> simp
 all_goals
  by_cases h : ah = bh
  ·subst h
   by_cases h1 : al < bl
   ·simp [h1]
   ·by_cases h2 : bl < al <;> simp [h1,h2]
  ·by_cases h1 : ah < bh
   ·simp [h,h1]
   ·by_cases h2 : bh < ah <;> simp [h,h1,h2]
theorem zq807 (x y : Ls) : ltOf (fun x y : Ls => cmpA x.ad y.ad) x y = adLt x.ad y.ad := zq290 _ _
theorem swo_ls : SWO (ltOf fun x y : Ls => cmpA x.ad y.ad) where
 irrefl x := by rw [zq807]; exact zq72 _
 trans x y z h1 h2 := by rw [zq807] at *; exact zq75 h1 h2
 ntrans x y z h1 h2 := by rw [zq807] at *; exact zq74 h1 h2
theorem zq379 (ρ : Nat → Value) (x : Ls) : denL ρ (K.enc .lease x) = encLs x := rfl
def zq1297 : Con := zq1315 .lease zq1318 sortL 121 171
theorem zq1298 : TrOk Tryz.prog 170 zq1297 := by
 refine zq1320 .lease zq1318 sortL _ _ (fun W hG base w v l ρ hb hown hbase hok => ?_)
 simp only [zq1318,zc4,Bool.not_eq_true'] at hok
 obtain ⟨h1,h2,h3⟩ := hok
 have h1 : l ≠ [] := fun e => by rw [e] at h1; cases h1
 have hsz : l.length < 4611686018427387904 := by
  have := Nat.le_of_ble_eq_true (show Nat.ble ((l.length : Int).toNat + (0 : Int).toNat) 274877906944 = true from h2)
  have e : (0 : Int).toNat = 0 := rfl
  omega
 have e0 : (fun a : Ls => denL ρ (K.enc .lease a)) = encLs := funext fun x => zq379 ρ x
 have hown' : w.ownsRow base 121 5 v l.length (l.flatMap encLs) := by rw [← e0]; exact hown
 have hm := zq1319 Tryz.sortLs 5 (fun w => Tryz.isAgg121 w) (fun w => Tryz.sizeOf121 w) encLs (fun _ => rfl) (fun x v hv => by
   simp only [encLs,zc28,List.not_mem_nil,or_false] at hv
   rcases hv with rfl | rfl | rfl | rfl | rfl <;> rfl) (fun x y : Ls => cmpA x.ad y.ad) swo_ls 171 #[] (enters_of Tryz.func171 (by kernel_rfl) rfl)
  (fun w x y => zq800 x y w) base 121 w v l hown' h1 hsz
 refine hm.mono ?_
 rintro r w' ⟨rfl,l',hp,hpw,hown2,hgb⟩
 have hl' : l' = sortL l := zq1321 hp (hpw.imp fun {a b} h => by
  rw [zq807] at h
  exact h) h3
 subst hl'
 refine ⟨rfl,?_,hgb⟩
 show w'.ownsRow base 121 5 v (sortL l).length ((sortL l).flatMap fun a : Ls => denL ρ (K.enc .lease a))
 rw [e0]
 exact hown2
end Go.Proofs.YtafggolijpopeaaGreatDoor
namespace Go.Proofs.YtafggolijpopeaaGreatDoor
open Go Go.Ma Go.RowKit Go.Proofs
end Go.Proofs.YtafggolijpopeaaGreatDoor
namespace Go.Proofs
open Go.Shelf
def Tryz.lays156_ren : Go.Shelf.Ren := ⟨fun | 156 => 80 | 165 => 105 | 166 => 106 | 169 => 107 | 240 => 134 | 241 => 135 | 276 => 158 | 277 => 159 | n => n,fun | 31 => 74 | 9 => 9 | 3 => 3 | 4 => 4 | 0 => 0 | 20 => 20 | 72 => 137 | 76 => 100 | 70 => 135 | 37 => 72 | 75 => 99 | 127 => 167 | 164 => 190 | 5 => 5 | 80 => 139 | n => n,fun | n => n⟩
theorem Tryz.lays156 : Go.Proofs.Lays.n156 Tryz.prog Tryz.lays156_ren := {
 mixed := by kernel_rfl
 f156 := Tryz.func80.trans (congrArg some (by kernel_rfl))
 f165 := Tryz.func105.trans (congrArg some (by kernel_rfl))
 f166 := Tryz.func106.trans (congrArg some (by kernel_rfl))
 f169 := Tryz.func107.trans (congrArg some (by kernel_rfl))
 f240 := Tryz.func134.trans (congrArg some (by kernel_rfl))
 f241 := Tryz.func135.trans (congrArg some (by kernel_rfl))
 f276 := Tryz.func158.trans (congrArg some (by kernel_rfl))
 f277 := Tryz.func159.trans (congrArg some (by kernel_rfl))
 t0 := Tryz.underlying0
 a0 := Tryz.isAgg0
 z0 := Tryz.sizeOf0
 v0 := Tryz.zeroValue0
 t3 := Tryz.underlying3
 a3 := Tryz.isAgg3
 z3 := Tryz.sizeOf3
 v3 := Tryz.zeroValue3
 t4 := Tryz.underlying4
 a4 := Tryz.isAgg4
 z4 := Tryz.sizeOf4
 v4 := Tryz.zeroValue4
 t9 := Tryz.underlying9
 a9 := Tryz.isAgg9
 z9 := Tryz.sizeOf9
 v9 := Tryz.zeroValue9
 t20 := Tryz.underlying20
 a20 := Tryz.isAgg20
 z20 := Tryz.sizeOf20
 v20 := Tryz.zeroValue20
 t31 := Tryz.underlying74
 a31 := Tryz.isAgg74
 z31 := Tryz.sizeOf74
 v31 := Tryz.zeroValue74
 t37 := Tryz.underlying72
 a37 := Tryz.isAgg72
 z37 := Tryz.sizeOf72
 v37 := Tryz.zeroValue72
 t70 := Tryz.underlying135
 a70 := Tryz.isAgg135
 z70 := Tryz.sizeOf135
 v70 := Tryz.zeroValue135
 t72 := Tryz.underlying137
 a72 := Tryz.isAgg137
 z72 := Tryz.sizeOf137
 v72 := Tryz.zeroValue137
 t75 := Tryz.underlying99
 a75 := Tryz.isAgg99
 z75 := Tryz.sizeOf99
 v75 := Tryz.zeroValue99
 t76 := Tryz.underlying100
 a76 := Tryz.isAgg100
 z76 := Tryz.sizeOf100
 v76 := Tryz.zeroValue100
 t127 := Tryz.underlying167
 a127 := Tryz.isAgg167
 z127 := Tryz.sizeOf167
 v127 := Tryz.zeroValue167
 t164 := Tryz.underlying190
 a164 := Tryz.isAgg190
 z164 := Tryz.sizeOf190
 v164 := Tryz.zeroValue190 }
theorem Tryz.Builder_Extra_156 : Builder.Extra Tryz.prog Tryz.lays156_ren := {
 sizeBuilder := by kernel_rfl
 liesBuilder := by kernel_rfl
 t5 := Tryz.underlying5
 a5 := Tryz.isAgg5
 z5 := Tryz.sizeOf5
 v5 := Tryz.zeroValue5
 infoByte := by kernel_rfl
 cellsByte := by kernel_rfl
 sizeByte := by kernel_rfl
 neB5 := by decide }
open Go.RowKit in
theorem Tryz.strings_Join_none (a : Option Addr) (c : Nat) (sep : ByteArray) (w : World) :
  Calls Tryz.prog 80 #[.slice a 0 c,.string sep] w fun e w' => e = .returned (.string ⟨#[]⟩) ∧ w' = w := Any.strings_Join_none Tryz.lays156 Tryz.Builder_Extra_156 a c sep w
open Go.RowKit in
theorem Tryz.strings_Join (bk o c : Nat) (xs : List ByteArray) (sep : ByteArray) (w : World) (hcells : ∀ (j : Nat) x,xs[j]? = some x → w.cell? ⟨bk,o + j,none⟩ = some (.string x)) (hbk : bk < w.heap.size) (hN : xs.length ≤ 140737488355328) (hcap : xs.length ≤ c) (hlen : (Lib.join (xs.map (·.data.toList)) sep.data.toList).length ≤ 140737488355328) :
  Calls Tryz.prog 80 #[.slice (some ⟨bk,o,none⟩) xs.length c,.string sep] w fun e w' => e = .returned (.string ⟨(Lib.join (xs.map (·.data.toList)) sep.data.toList).toArray⟩) ∧ Below w.heap.size w w' := Any.strings_Join Tryz.lays156 Tryz.Builder_Extra_156 bk o c xs sep w hcells hbk hN hcap hlen
def Tryz.lays172_ren : Go.Shelf.Ren := ⟨fun | 172 => 72 | 244 => 101 | 245 => 102 | 247 => 129 | 279 => 130 | 280 => 131 | 281 => 132 | 282 => 133 | 287 => 155 | 316 => 156 | 171 => 69 | 205 => 157 | 321 => 180 | 322 => 181 | 243 => 95 | 246 => 122 | 283 => 148 | 284 => 149 | 285 => 150 | 286 => 151 | 129 => 176 | 317 => 175 | 318 => 177 | 319 => 178 | 320 => 179 | 337 => 194 | 338 => 195 | n => n,fun | 9 => 9 | 3 => 3 | 75 => 99 | 76 => 100 | 4 => 4 | 5 => 5 | 167 => 161 | 37 => 72 | 0 => 0 | 85 => 162 | 2 => 2 | 168 => 164 | 53 => 22 | 175 => 184 | 46 => 157 | 210 => 188 | 127 => 167 | 145 => 214 | 143 => 212 | 21 => 21 | 171 => 176 | 173 => 179 | 212 => 207 | 51 => 181 | 20 => 20 | 213 => 208 | 232 => 243 | 233 => 244 | 80 => 139 | n => n,fun | 15 => 2 | 16 => 3 | 17 => 4 | 18 => 7 | 19 => 8 | n => n⟩
theorem Tryz.lays172 : Go.Proofs.Lays.n172 Tryz.prog Tryz.lays172_ren := {
 mixed := by kernel_rfl
 f129 := Tryz.func176.trans (congrArg some (by kernel_rfl))
 f171 := Tryz.func69.trans (congrArg some (by kernel_rfl))
 f172 := Tryz.func72.trans (congrArg some (by kernel_rfl))
 f205 := Tryz.func157.trans (congrArg some (by kernel_rfl))
 f243 := Tryz.func95.trans (congrArg some (by kernel_rfl))
 f244 := Tryz.func101.trans (congrArg some (by kernel_rfl))
 f245 := Tryz.func102.trans (congrArg some (by kernel_rfl))
 f246 := Tryz.func122.trans (congrArg some (by kernel_rfl))
 f247 := Tryz.func129.trans (congrArg some (by kernel_rfl))
 f279 := Tryz.func130.trans (congrArg some (by kernel_rfl))
 f280 := Tryz.func131.trans (congrArg some (by kernel_rfl))
 f281 := Tryz.func132.trans (congrArg some (by kernel_rfl))
 f282 := Tryz.func133.trans (congrArg some (by kernel_rfl))
 f283 := Tryz.func148.trans (congrArg some (by kernel_rfl))
 f284 := Tryz.func149.trans (congrArg some (by kernel_rfl))
 f285 := Tryz.func150.trans (congrArg some (by kernel_rfl))
 f286 := Tryz.func151.trans (congrArg some (by kernel_rfl))
 f287 := Tryz.func155.trans (congrArg some (by kernel_rfl))
 f316 := Tryz.func156.trans (congrArg some (by kernel_rfl))
 f317 := Tryz.func175.trans (congrArg some (by kernel_rfl))
 f318 := Tryz.func177.trans (congrArg some (by kernel_rfl))
 f319 := Tryz.func178.trans (congrArg some (by kernel_rfl))
 f320 := Tryz.func179.trans (congrArg some (by kernel_rfl))
 f321 := Tryz.func180.trans (congrArg some (by kernel_rfl))
 f322 := Tryz.func181.trans (congrArg some (by kernel_rfl))
 f337 := Tryz.func194.trans (congrArg some (by kernel_rfl))
 f338 := Tryz.func195.trans (congrArg some (by kernel_rfl))
 t0 := Tryz.underlying0
 a0 := Tryz.isAgg0
 z0 := Tryz.sizeOf0
 v0 := Tryz.zeroValue0
 t2 := Tryz.underlying2
 a2 := Tryz.isAgg2
 z2 := Tryz.sizeOf2
 v2 := Tryz.zeroValue2
 t3 := Tryz.underlying3
 a3 := Tryz.isAgg3
 z3 := Tryz.sizeOf3
 v3 := Tryz.zeroValue3
 t4 := Tryz.underlying4
 a4 := Tryz.isAgg4
 z4 := Tryz.sizeOf4
 v4 := Tryz.zeroValue4
 t5 := Tryz.underlying5
 a5 := Tryz.isAgg5
 z5 := Tryz.sizeOf5
 v5 := Tryz.zeroValue5
 t9 := Tryz.underlying9
 a9 := Tryz.isAgg9
 z9 := Tryz.sizeOf9
 v9 := Tryz.zeroValue9
 t20 := Tryz.underlying20
 a20 := Tryz.isAgg20
 z20 := Tryz.sizeOf20
 v20 := Tryz.zeroValue20
 t21 := Tryz.underlying21
 a21 := Tryz.isAgg21
 z21 := Tryz.sizeOf21
 v21 := Tryz.zeroValue21
 t37 := Tryz.underlying72
 a37 := Tryz.isAgg72
 z37 := Tryz.sizeOf72
 v37 := Tryz.zeroValue72
 t46 := Tryz.underlying157
 a46 := Tryz.isAgg157
 z46 := Tryz.sizeOf157
 v46 := Tryz.zeroValue157
 t51 := Tryz.underlying181
 a51 := Tryz.isAgg181
 z51 := Tryz.sizeOf181
 v51 := Tryz.zeroValue181
 t53 := Tryz.underlying22
 a53 := Tryz.isAgg22
 z53 := Tryz.sizeOf22
 v53 := Tryz.zeroValue22
 t75 := Tryz.underlying99
 a75 := Tryz.isAgg99
 z75 := Tryz.sizeOf99
 v75 := Tryz.zeroValue99
 t76 := Tryz.underlying100
 a76 := Tryz.isAgg100
 z76 := Tryz.sizeOf100
 v76 := Tryz.zeroValue100
 t85 := Tryz.underlying162
 a85 := Tryz.isAgg162
 z85 := Tryz.sizeOf162
 v85 := Tryz.zeroValue162
 t127 := Tryz.underlying167
 a127 := Tryz.isAgg167
 z127 := Tryz.sizeOf167
 v127 := Tryz.zeroValue167
 t143 := Tryz.underlying212
 a143 := Tryz.isAgg212
 z143 := Tryz.sizeOf212
 v143 := Tryz.zeroValue212
 t145 := Tryz.underlying214
 a145 := Tryz.isAgg214
 z145 := Tryz.sizeOf214
 v145 := Tryz.zeroValue214
 t167 := Tryz.underlying161
 a167 := Tryz.isAgg161
 z167 := Tryz.sizeOf161
 v167 := Tryz.zeroValue161
 t168 := Tryz.underlying164
 a168 := Tryz.isAgg164
 z168 := Tryz.sizeOf164
 v168 := Tryz.zeroValue164
 t171 := Tryz.underlying176
 a171 := Tryz.isAgg176
 z171 := Tryz.sizeOf176
 v171 := Tryz.zeroValue176
 t173 := Tryz.underlying179
 a173 := Tryz.isAgg179
 z173 := Tryz.sizeOf179
 v173 := Tryz.zeroValue179
 t175 := Tryz.underlying184
 a175 := Tryz.isAgg184
 z175 := Tryz.sizeOf184
 v175 := Tryz.zeroValue184
 t210 := Tryz.underlying188
 a210 := Tryz.isAgg188
 z210 := Tryz.sizeOf188
 v210 := Tryz.zeroValue188
 t212 := Tryz.underlying207
 a212 := Tryz.isAgg207
 z212 := Tryz.sizeOf207
 v212 := Tryz.zeroValue207
 t213 := Tryz.underlying208
 a213 := Tryz.isAgg208
 z213 := Tryz.sizeOf208
 t232 := Tryz.underlying243
 a232 := Tryz.isAgg243
 z232 := Tryz.sizeOf243
 v232 := Tryz.zeroValue243
 t233 := Tryz.underlying244
 a233 := Tryz.isAgg244
 z233 := Tryz.sizeOf244
 v233 := Tryz.zeroValue244
 g15 := by kernel_rfl
 g16 := by kernel_rfl
 g17 := by kernel_rfl
 g18 := by kernel_rfl
 g19 := by kernel_rfl }
open Go.RowKit in
theorem Tryz.strconv_Atoi (s : ByteArray) (n : Int) (hl : s.size ≤ 18) (h : Lib.atoi s.data.toList = some n) (w : World) :
  Calls Tryz.prog 72 #[.string s] w fun e w' => e = .returned (.tuple #[.int .i64 n,.nilIface]) ∧ ∃ t,w' = Lib.bytesWorld w 5 t := Any.strconv_Atoi Tryz.lays172 s n hl h w
def Tryz.lays283_ren : Go.Shelf.Ren := ⟨fun | 283 => 148 | n => n,fun | 3 => 3 | 9 => 9 | 4 => 4 | n => n,fun | n => n⟩
theorem Tryz.lays283 : Go.Proofs.Lays.n283 Tryz.prog Tryz.lays283_ren := {
 mixed := by kernel_rfl
 f283 := Tryz.func148.trans (congrArg some (by kernel_rfl))
 t3 := Tryz.underlying3
 a3 := Tryz.isAgg3
 z3 := Tryz.sizeOf3
 v3 := Tryz.zeroValue3
 t4 := Tryz.underlying4
 a4 := Tryz.isAgg4
 z4 := Tryz.sizeOf4
 v4 := Tryz.zeroValue4
 t9 := Tryz.underlying9
 a9 := Tryz.isAgg9
 z9 := Tryz.sizeOf9
 v9 := Tryz.zeroValue9 }
open Go.Lib in
theorem Tryz.internal_strconv_small (i : Nat) (h : i < 100) (w : World) :
  Calls Tryz.prog 148 #[.int .i64 i] w fun e w' => e = .returned (.string ⟨(Lib.decDigits i).toArray⟩) ∧ w' = w := Any.internal_strconv_small Tryz.lays283 i h w
def Tryz.laysM284_ren : Go.Shelf.Ren := ⟨fun | 284 => 149 | 129 => 176 | 317 => 175 | 318 => 177 | n => n,fun | 53 => 22 | 3 => 3 | 212 => 207 | 0 => 0 | 4 => 4 | 46 => 157 | 5 => 5 | 9 => 9 | n => n,fun | 17 => 4 | n => n⟩
theorem Tryz.laysM284 : Go.Proofs.LaysM.n284 Tryz.prog Tryz.laysM284_ren := {
 mixed := by kernel_rfl
 f129 := Tryz.func176.trans (congrArg some (by kernel_rfl))
 f284 := Tryz.func149.trans (congrArg some (by kernel_rfl))
 f317 := Tryz.func175.trans (congrArg some (by kernel_rfl))
 f318 := Tryz.func177.trans (congrArg some (by kernel_rfl))
 t0 := Tryz.underlying0
 a0 := Tryz.isAgg0
 z0 := Tryz.sizeOf0
 v0 := Tryz.zeroValue0
 t3 := Tryz.underlying3
 a3 := Tryz.isAgg3
 z3 := Tryz.sizeOf3
 v3 := Tryz.zeroValue3
 t4 := Tryz.underlying4
 a4 := Tryz.isAgg4
 z4 := Tryz.sizeOf4
 v4 := Tryz.zeroValue4
 t5 := Tryz.underlying5
 a5 := Tryz.isAgg5
 z5 := Tryz.sizeOf5
 v5 := Tryz.zeroValue5
 t9 := Tryz.underlying9
 a9 := Tryz.isAgg9
 z9 := Tryz.sizeOf9
 v9 := Tryz.zeroValue9
 t46 := Tryz.underlying157
 a46 := Tryz.isAgg157
 z46 := Tryz.sizeOf157
 v46 := Tryz.zeroValue157
 t53 := Tryz.underlying22
 a53 := Tryz.isAgg22
 z53 := Tryz.sizeOf22
 v53 := Tryz.zeroValue22
 t212 := Tryz.underlying207
 a212 := Tryz.isAgg207
 z212 := Tryz.sizeOf207
 v212 := Tryz.zeroValue207
 g17 := by kernel_rfl
 i0 := by kernel_rfl
 i3 := by kernel_rfl
 i4 := by kernel_rfl
 i5 := by kernel_rfl
 i9 := by kernel_rfl
 i46 := by kernel_rfl
 i53 := by kernel_rfl
 i212 := by kernel_rfl
 m17 := by kernel_rfl }
open Go.Lib in
theorem Tryz.internal_strconv_numDigits (u : Nat) (h1 : 1 ≤ u) (h2 : u < 18446744073709551616) (w : World) (htab : Lib.TabIs Tryz.prog w "internal/strconv.uint64pow10" .u64 Lib.pow10Tab) :
  Calls Tryz.prog 149 #[.int .u64 u] w fun e w' => e = .returned (.int .i64 (Lib.nDigits u)) ∧ w' = w := Any.internal_strconv_numDigits Tryz.laysM284 u h1 h2 w htab
def Tryz.lays285_ren : Go.Shelf.Ren := ⟨fun | 285 => 150 | n => n,fun | 37 => 72 | 53 => 22 | 3 => 3 | 4 => 4 | 51 => 181 | 9 => 9 | 5 => 5 | 0 => 0 | n => n,fun | n => n⟩
theorem Tryz.lays285 : Go.Proofs.Lays.n285 Tryz.prog Tryz.lays285_ren := {
 mixed := by kernel_rfl
 f285 := Tryz.func150.trans (congrArg some (by kernel_rfl))
 t0 := Tryz.underlying0
 a0 := Tryz.isAgg0
 z0 := Tryz.sizeOf0
 v0 := Tryz.zeroValue0
 t3 := Tryz.underlying3
 a3 := Tryz.isAgg3
 z3 := Tryz.sizeOf3
 v3 := Tryz.zeroValue3
 t4 := Tryz.underlying4
 a4 := Tryz.isAgg4
 z4 := Tryz.sizeOf4
 v4 := Tryz.zeroValue4
 t5 := Tryz.underlying5
 a5 := Tryz.isAgg5
 z5 := Tryz.sizeOf5
 v5 := Tryz.zeroValue5
 t9 := Tryz.underlying9
 a9 := Tryz.isAgg9
 z9 := Tryz.sizeOf9
 v9 := Tryz.zeroValue9
 t37 := Tryz.underlying72
 a37 := Tryz.isAgg72
 z37 := Tryz.sizeOf72
 v37 := Tryz.zeroValue72
 t51 := Tryz.underlying181
 a51 := Tryz.isAgg181
 z51 := Tryz.sizeOf181
 v51 := Tryz.zeroValue181
 t53 := Tryz.underlying22
 a53 := Tryz.isAgg22
 z53 := Tryz.sizeOf22
 v53 := Tryz.zeroValue22 }
open Go.RowKit Go.Sort Go.Lib in
theorem Tryz.internal_strconv_formatBase10 (blk off cap : Nat) (u : Nat) (d : Array UInt8) (w : World) (hH : Holds (fun (b : UInt8) => Value.int .u8 (b.toNat : Int)) w blk off d) (hu : u < 10 ^ d.size) (hu64 : u < 18446744073709551616) (hsz : d.size < 4611686018427387904) :
  Calls Tryz.prog 150 #[.slice (some ⟨blk,off,none⟩) d.size cap,.int .u64 u] w fun e w' =>
   e = .returned (.tuple #[]) ∧ ∃ (n v' : Nat) (dk : Array UInt8),w' = (putRow (fun (b : UInt8) => Value.int .u8 (b.toNat : Int)) w blk off dk).drewN n ∧ FmtInv d.size u 0 v' dk := Any.internal_strconv_formatBase10 Tryz.lays285 blk off cap u d w hH hu hu64 hsz
def Tryz.laysM171_ren : Go.Shelf.Ren := ⟨fun | 171 => 69 | 243 => 95 | 246 => 122 | 283 => 148 | 284 => 149 | 285 => 150 | 286 => 151 | 129 => 176 | 317 => 175 | 318 => 177 | 319 => 178 | 320 => 179 | 337 => 194 | 338 => 195 | n => n,fun | 3 => 3 | 9 => 9 | 2 => 2 | 4 => 4 | 171 => 176 | 0 => 0 | 53 => 22 | 37 => 72 | 5 => 5 | 173 => 179 | 212 => 207 | 51 => 181 | 20 => 20 | 213 => 208 | 46 => 157 | 232 => 243 | 233 => 244 | n => n,fun | 17 => 4 | 18 => 7 | 19 => 8 | n => n⟩
theorem Tryz.laysM171 : Go.Proofs.LaysM.n171 Tryz.prog Tryz.laysM171_ren := {
 mixed := by kernel_rfl
 f129 := Tryz.func176.trans (congrArg some (by kernel_rfl))
 f171 := Tryz.func69.trans (congrArg some (by kernel_rfl))
 f243 := Tryz.func95.trans (congrArg some (by kernel_rfl))
 f246 := Tryz.func122.trans (congrArg some (by kernel_rfl))
 f283 := Tryz.func148.trans (congrArg some (by kernel_rfl))
 f284 := Tryz.func149.trans (congrArg some (by kernel_rfl))
 f285 := Tryz.func150.trans (congrArg some (by kernel_rfl))
 f286 := Tryz.func151.trans (congrArg some (by kernel_rfl))
 f317 := Tryz.func175.trans (congrArg some (by kernel_rfl))
 f318 := Tryz.func177.trans (congrArg some (by kernel_rfl))
 f319 := Tryz.func178.trans (congrArg some (by kernel_rfl))
 f320 := Tryz.func179.trans (congrArg some (by kernel_rfl))
 f337 := Tryz.func194.trans (congrArg some (by kernel_rfl))
 f338 := Tryz.func195.trans (congrArg some (by kernel_rfl))
 t0 := Tryz.underlying0
 a0 := Tryz.isAgg0
 z0 := Tryz.sizeOf0
 v0 := Tryz.zeroValue0
 t2 := Tryz.underlying2
 a2 := Tryz.isAgg2
 z2 := Tryz.sizeOf2
 v2 := Tryz.zeroValue2
 t3 := Tryz.underlying3
 a3 := Tryz.isAgg3
 z3 := Tryz.sizeOf3
 v3 := Tryz.zeroValue3
 t4 := Tryz.underlying4
 a4 := Tryz.isAgg4
 z4 := Tryz.sizeOf4
 v4 := Tryz.zeroValue4
 t5 := Tryz.underlying5
 a5 := Tryz.isAgg5
 z5 := Tryz.sizeOf5
 v5 := Tryz.zeroValue5
 t9 := Tryz.underlying9
 a9 := Tryz.isAgg9
 z9 := Tryz.sizeOf9
 v9 := Tryz.zeroValue9
 t20 := Tryz.underlying20
 a20 := Tryz.isAgg20
 z20 := Tryz.sizeOf20
 v20 := Tryz.zeroValue20
 t37 := Tryz.underlying72
 a37 := Tryz.isAgg72
 z37 := Tryz.sizeOf72
 v37 := Tryz.zeroValue72
 t46 := Tryz.underlying157
 a46 := Tryz.isAgg157
 z46 := Tryz.sizeOf157
 v46 := Tryz.zeroValue157
 t51 := Tryz.underlying181
 a51 := Tryz.isAgg181
 z51 := Tryz.sizeOf181
 v51 := Tryz.zeroValue181
 t53 := Tryz.underlying22
 a53 := Tryz.isAgg22
 z53 := Tryz.sizeOf22
 v53 := Tryz.zeroValue22
 t171 := Tryz.underlying176
 a171 := Tryz.isAgg176
 z171 := Tryz.sizeOf176
 v171 := Tryz.zeroValue176
 t173 := Tryz.underlying179
 a173 := Tryz.isAgg179
 z173 := Tryz.sizeOf179
 v173 := Tryz.zeroValue179
 t212 := Tryz.underlying207
 a212 := Tryz.isAgg207
 z212 := Tryz.sizeOf207
 v212 := Tryz.zeroValue207
 t213 := Tryz.underlying208
 a213 := Tryz.isAgg208
 z213 := Tryz.sizeOf208
 t232 := Tryz.underlying243
 a232 := Tryz.isAgg243
 z232 := Tryz.sizeOf243
 v232 := Tryz.zeroValue243
 t233 := Tryz.underlying244
 a233 := Tryz.isAgg244
 z233 := Tryz.sizeOf244
 v233 := Tryz.zeroValue244
 g17 := by kernel_rfl
 g18 := by kernel_rfl
 g19 := by kernel_rfl
 i0 := by kernel_rfl
 i2 := by kernel_rfl
 i3 := by kernel_rfl
 i4 := by kernel_rfl
 i5 := by kernel_rfl
 i9 := by kernel_rfl
 i20 := by kernel_rfl
 i37 := by kernel_rfl
 i46 := by kernel_rfl
 i51 := by kernel_rfl
 i53 := by kernel_rfl
 i171 := by kernel_rfl
 i173 := by kernel_rfl
 i212 := by kernel_rfl
 i232 := by kernel_rfl
 i233 := by kernel_rfl
 m17 := by kernel_rfl
 m18 := by kernel_rfl
 m19 := by kernel_rfl }
open Go.RowKit Go.Sort Go.Lib in
theorem Tryz.strconv_Itoa (n : Int) (h0 : -9223372036854775808 ≤ n) (h1 : n ≤ 9223372036854775807) (w : World) (htab : Lib.TabIs Tryz.prog w "internal/strconv.uint64pow10" .u64 Lib.pow10Tab) :
  Calls Tryz.prog 69 #[.int .i64 n] w fun e w' => e = .returned (.string ⟨(Lib.itoa n).toArray⟩) ∧ ∃ k os,w' = grow (w.drewN k) os := Any.strconv_Itoa Tryz.laysM171 n h0 h1 w htab
def Tryz.laysC172_ren : Go.Shelf.Ren := ⟨fun | 172 => 72 | 244 => 101 | 245 => 102 | 247 => 129 | 279 => 130 | 280 => 131 | 281 => 132 | 282 => 133 | 287 => 155 | 316 => 156 | 171 => 69 | 205 => 157 | 321 => 180 | 322 => 181 | 243 => 95 | 246 => 122 | 283 => 148 | 284 => 149 | 285 => 150 | 286 => 151 | 129 => 176 | 317 => 175 | 318 => 177 | 319 => 178 | 320 => 179 | 337 => 194 | 338 => 195 | n => n,fun | 9 => 9 | 3 => 3 | 75 => 99 | 76 => 100 | 4 => 4 | 5 => 5 | 167 => 161 | 37 => 72 | 0 => 0 | 85 => 162 | 2 => 2 | 168 => 164 | 53 => 22 | 175 => 184 | 46 => 157 | 210 => 188 | 127 => 167 | 145 => 214 | 143 => 212 | 21 => 21 | 171 => 176 | 173 => 179 | 212 => 207 | 51 => 181 | 20 => 20 | 213 => 208 | 232 => 243 | 233 => 244 | 80 => 139 | n => n,fun | 15 => 2 | 16 => 3 | 17 => 4 | 18 => 7 | 19 => 8 | n => n⟩
theorem Tryz.laysC172 : Go.Proofs.LaysC.n172 Tryz.prog Tryz.laysC172_ren := {
 mixed := by kernel_rfl
 f129 := Tryz.func176.trans (congrArg some (by kernel_rfl))
 f171 := Tryz.func69.trans (congrArg some (by kernel_rfl))
 f172 := Tryz.func72.trans (congrArg some (by kernel_rfl))
 f205 := Tryz.func157.trans (congrArg some (by kernel_rfl))
 f243 := Tryz.func95.trans (congrArg some (by kernel_rfl))
 f244 := Tryz.func101.trans (congrArg some (by kernel_rfl))
 f245 := Tryz.func102.trans (congrArg some (by kernel_rfl))
 f246 := Tryz.func122.trans (congrArg some (by kernel_rfl))
 f247 := Tryz.func129.trans (congrArg some (by kernel_rfl))
 f279 := Tryz.func130.trans (congrArg some (by kernel_rfl))
 f280 := Tryz.func131.trans (congrArg some (by kernel_rfl))
 f281 := Tryz.func132.trans (congrArg some (by kernel_rfl))
 f282 := Tryz.func133.trans (congrArg some (by kernel_rfl))
 f283 := Tryz.func148.trans (congrArg some (by kernel_rfl))
 f284 := Tryz.func149.trans (congrArg some (by kernel_rfl))
 f285 := Tryz.func150.trans (congrArg some (by kernel_rfl))
 f286 := Tryz.func151.trans (congrArg some (by kernel_rfl))
 f287 := Tryz.func155.trans (congrArg some (by kernel_rfl))
 f316 := Tryz.func156.trans (congrArg some (by kernel_rfl))
 f317 := Tryz.func175.trans (congrArg some (by kernel_rfl))
 f318 := Tryz.func177.trans (congrArg some (by kernel_rfl))
 f319 := Tryz.func178.trans (congrArg some (by kernel_rfl))
 f320 := Tryz.func179.trans (congrArg some (by kernel_rfl))
 f321 := Tryz.func180.trans (congrArg some (by kernel_rfl))
 f322 := Tryz.func181.trans (congrArg some (by kernel_rfl))
 f337 := Tryz.func194.trans (congrArg some (by kernel_rfl))
 f338 := Tryz.func195.trans (congrArg some (by kernel_rfl))
 t0 := Tryz.underlying0
 a0 := Tryz.isAgg0
 z0 := Tryz.sizeOf0
 v0 := Tryz.zeroValue0
 t2 := Tryz.underlying2
 a2 := Tryz.isAgg2
 z2 := Tryz.sizeOf2
 v2 := Tryz.zeroValue2
 t3 := Tryz.underlying3
 a3 := Tryz.isAgg3
 z3 := Tryz.sizeOf3
 v3 := Tryz.zeroValue3
 t4 := Tryz.underlying4
 a4 := Tryz.isAgg4
 z4 := Tryz.sizeOf4
 v4 := Tryz.zeroValue4
 t5 := Tryz.underlying5
 a5 := Tryz.isAgg5
 z5 := Tryz.sizeOf5
 v5 := Tryz.zeroValue5
 t9 := Tryz.underlying9
 a9 := Tryz.isAgg9
 z9 := Tryz.sizeOf9
 v9 := Tryz.zeroValue9
 t20 := Tryz.underlying20
 a20 := Tryz.isAgg20
 z20 := Tryz.sizeOf20
 v20 := Tryz.zeroValue20
 t21 := Tryz.underlying21
 a21 := Tryz.isAgg21
 z21 := Tryz.sizeOf21
 v21 := Tryz.zeroValue21
 t37 := Tryz.underlying72
 a37 := Tryz.isAgg72
 z37 := Tryz.sizeOf72
 v37 := Tryz.zeroValue72
 t46 := Tryz.underlying157
 a46 := Tryz.isAgg157
 z46 := Tryz.sizeOf157
 v46 := Tryz.zeroValue157
 t51 := Tryz.underlying181
 a51 := Tryz.isAgg181
 z51 := Tryz.sizeOf181
 v51 := Tryz.zeroValue181
 t53 := Tryz.underlying22
 a53 := Tryz.isAgg22
 z53 := Tryz.sizeOf22
 v53 := Tryz.zeroValue22
 t75 := Tryz.underlying99
 a75 := Tryz.isAgg99
 z75 := Tryz.sizeOf99
 v75 := Tryz.zeroValue99
 t76 := Tryz.underlying100
 a76 := Tryz.isAgg100
 z76 := Tryz.sizeOf100
 v76 := Tryz.zeroValue100
 t85 := Tryz.underlying162
 a85 := Tryz.isAgg162
 z85 := Tryz.sizeOf162
 v85 := Tryz.zeroValue162
 t127 := Tryz.underlying167
 a127 := Tryz.isAgg167
 z127 := Tryz.sizeOf167
 v127 := Tryz.zeroValue167
 t143 := Tryz.underlying212
 a143 := Tryz.isAgg212
 z143 := Tryz.sizeOf212
 v143 := Tryz.zeroValue212
 t145 := Tryz.underlying214
 a145 := Tryz.isAgg214
 z145 := Tryz.sizeOf214
 v145 := Tryz.zeroValue214
 t167 := Tryz.underlying161
 a167 := Tryz.isAgg161
 z167 := Tryz.sizeOf161
 v167 := Tryz.zeroValue161
 t168 := Tryz.underlying164
 a168 := Tryz.isAgg164
 z168 := Tryz.sizeOf164
 v168 := Tryz.zeroValue164
 t171 := Tryz.underlying176
 a171 := Tryz.isAgg176
 z171 := Tryz.sizeOf176
 v171 := Tryz.zeroValue176
 t173 := Tryz.underlying179
 a173 := Tryz.isAgg179
 z173 := Tryz.sizeOf179
 v173 := Tryz.zeroValue179
 t175 := Tryz.underlying184
 a175 := Tryz.isAgg184
 z175 := Tryz.sizeOf184
 v175 := Tryz.zeroValue184
 t210 := Tryz.underlying188
 a210 := Tryz.isAgg188
 z210 := Tryz.sizeOf188
 v210 := Tryz.zeroValue188
 t212 := Tryz.underlying207
 a212 := Tryz.isAgg207
 z212 := Tryz.sizeOf207
 v212 := Tryz.zeroValue207
 t213 := Tryz.underlying208
 a213 := Tryz.isAgg208
 z213 := Tryz.sizeOf208
 t232 := Tryz.underlying243
 a232 := Tryz.isAgg243
 z232 := Tryz.sizeOf243
 v232 := Tryz.zeroValue243
 t233 := Tryz.underlying244
 a233 := Tryz.isAgg244
 z233 := Tryz.sizeOf244
 v233 := Tryz.zeroValue244
 g15 := by kernel_rfl
 g16 := by kernel_rfl
 g17 := by kernel_rfl
 g18 := by kernel_rfl
 g19 := by kernel_rfl
 t80 := Tryz.underlying139
 a80 := Tryz.isAgg139
 z80 := Tryz.sizeOf139
 v80 := Tryz.zeroValue139
 i0 := by kernel_rfl
 i2 := by kernel_rfl
 i3 := by kernel_rfl
 i4 := by kernel_rfl
 i5 := by kernel_rfl
 i9 := by kernel_rfl
 i20 := by kernel_rfl
 i21 := by kernel_rfl
 i37 := by kernel_rfl
 i46 := by kernel_rfl
 i51 := by kernel_rfl
 i53 := by kernel_rfl
 i75 := by kernel_rfl
 i76 := by kernel_rfl
 i80 := by kernel_rfl
 i85 := by kernel_rfl
 i127 := by kernel_rfl
 i143 := by kernel_rfl
 i145 := by kernel_rfl
 i167 := by kernel_rfl
 i168 := by kernel_rfl
 i171 := by kernel_rfl
 i173 := by kernel_rfl
 i175 := by kernel_rfl
 i210 := by kernel_rfl
 i212 := by kernel_rfl
 i232 := by kernel_rfl
 i233 := by kernel_rfl
 m15 := by kernel_rfl
 m16 := by kernel_rfl
 m17 := by kernel_rfl
 m18 := by kernel_rfl
 m19 := by kernel_rfl
 c0 := by kernel_rfl
 c2 := by kernel_rfl
 c3 := by kernel_rfl
 c4 := by kernel_rfl
 c5 := by kernel_rfl
 c9 := by kernel_rfl
 c20 := by kernel_rfl
 c21 := by kernel_rfl
 c37 := by kernel_rfl
 c46 := by kernel_rfl
 c51 := by kernel_rfl
 c53 := by kernel_rfl
 c75 := by kernel_rfl
 c76 := by kernel_rfl
 c80 := by kernel_rfl
 c85 := by kernel_rfl
 c127 := by kernel_rfl
 c143 := by kernel_rfl
 c145 := by kernel_rfl
 c167 := by kernel_rfl
 c168 := by kernel_rfl
 c171 := by kernel_rfl
 c173 := by kernel_rfl
 c175 := by kernel_rfl
 c210 := by kernel_rfl
 c212 := by kernel_rfl
 c213 := by kernel_rfl
 c232 := by kernel_rfl
 c233 := by kernel_rfl }
open Go.RowKit in
theorem Tryz.strconv_Atoi_ok (s : ByteArray) (hmax : s.size ≤ 9223372036854775806) (v : Int) (h : Lib.atoiAll s.data.toList = .ok v) (w : World) :
  Calls Tryz.prog 72 #[.string s] w fun e w' => e = .returned (.tuple #[.int .i64 v,.nilIface]) ∧ (w' = w ∨ ∃ t,w' = Lib.bytesWorld w 5 t) := Any.strconv_Atoi_ok Tryz.laysC172 s hmax v h w
open Go.RowKit in
theorem Tryz.strconv_Atoi_syntax (s : ByteArray) (hlim : s.size ≤ 281474976710656) (h : Lib.atoiAll s.data.toList = Lib.atoiAll []) (ev : Value) (w : World) (hv : w.cell? ⟨2,0,none⟩ = some ev) (hev : ev = .nilIface ∨ ∃ te pe,ev = .iface te pe) :
  Calls Tryz.prog 72 #[.string s] w fun e w' => ∃ N,e = .returned (.tuple #[.int .i64 (0),.iface 164 (.pointer (some ⟨N,0,none⟩))]) ∧ w.heap.size ≤ N ∧ w'.heap[N]? = some (.cells #[.string ⟨#[65,116,111,105]⟩,.string s,ev] 188 (0,0)) ∧ Below w.heap.size w w' := Any.strconv_Atoi_syntax Tryz.laysC172 s hlim h ev w hv hev
open Go.RowKit in
theorem Tryz.strconv_Atoi_range (s : ByteArray) (hlim : s.size ≤ 281474976710656) (h : Lib.atoiAll s.data.toList = .range) (ev : Value) (w : World) (hv : w.cell? ⟨3,0,none⟩ = some ev) (hev : ev = .nilIface ∨ ∃ te pe,ev = .iface te pe) :
  Calls Tryz.prog 72 #[.string s] w fun e w' => ∃ N,e = .returned (.tuple #[.int .i64 (Lib.atoiSat s.data.toList),.iface 164 (.pointer (some ⟨N,0,none⟩))]) ∧ w.heap.size ≤ N ∧ w'.heap[N]? = some (.cells #[.string ⟨#[65,116,111,105]⟩,.string s,ev] 188 (0,0)) ∧ Below w.heap.size w w' := Any.strconv_Atoi_range Tryz.laysC172 s hlim h ev w hv hev
def Tryz.laysPu14_ren : Go.Shelf.Ren := ⟨fun | 14 => 154 | 16 => 155 | 17 => 102 | 19 => 180 | 20 => 181 | 21 => 130 | 22 => 131 | 23 => 132 | 24 => 133 | 25 => 156 | 27 => 69 | 26 => 157 | 28 => 95 | 29 => 122 | 30 => 148 | 31 => 149 | 32 => 150 | 33 => 151 | 35 => 176 | 34 => 175 | 36 => 177 | 37 => 178 | 38 => 179 | 39 => 194 | 40 => 195 | n => n,fun | 9 => 9 | 3 => 3 | 22 => 22 | 24 => 99 | 25 => 184 | 4 => 4 | 34 => 161 | 5 => 5 | 36 => 157 | 37 => 72 | 0 => 0 | 39 => 164 | 21 => 21 | 44 => 188 | 47 => 167 | 50 => 214 | 48 => 212 | 2 => 2 | 52 => 176 | 55 => 179 | 59 => 207 | 60 => 181 | 20 => 20 | 61 => 208 | 65 => 243 | 66 => 244 | 67 => 139 | n => n,fun | 0 => 2 | 1 => 3 | 2 => 4 | 3 => 7 | 4 => 8 | n => n⟩
theorem Tryz.laysPu14 : Go.Proofs.LaysPu.n14 Tryz.prog Tryz.laysPu14_ren := {
 mixed := by kernel_rfl
 f14 := Tryz.func154.trans (congrArg some (by kernel_rfl))
 f16 := Tryz.func155.trans (congrArg some (by kernel_rfl))
 f17 := Tryz.func102.trans (congrArg some (by kernel_rfl))
 f19 := Tryz.func180.trans (congrArg some (by kernel_rfl))
 f20 := Tryz.func181.trans (congrArg some (by kernel_rfl))
 f21 := Tryz.func130.trans (congrArg some (by kernel_rfl))
 f22 := Tryz.func131.trans (congrArg some (by kernel_rfl))
 f23 := Tryz.func132.trans (congrArg some (by kernel_rfl))
 f24 := Tryz.func133.trans (congrArg some (by kernel_rfl))
 f25 := Tryz.func156.trans (congrArg some (by kernel_rfl))
 f26 := Tryz.func157.trans (congrArg some (by kernel_rfl))
 f27 := Tryz.func69.trans (congrArg some (by kernel_rfl))
 f28 := Tryz.func95.trans (congrArg some (by kernel_rfl))
 f29 := Tryz.func122.trans (congrArg some (by kernel_rfl))
 f30 := Tryz.func148.trans (congrArg some (by kernel_rfl))
 f31 := Tryz.func149.trans (congrArg some (by kernel_rfl))
 f32 := Tryz.func150.trans (congrArg some (by kernel_rfl))
 f33 := Tryz.func151.trans (congrArg some (by kernel_rfl))
 f34 := Tryz.func175.trans (congrArg some (by kernel_rfl))
 f35 := Tryz.func176.trans (congrArg some (by kernel_rfl))
 f36 := Tryz.func177.trans (congrArg some (by kernel_rfl))
 f37 := Tryz.func178.trans (congrArg some (by kernel_rfl))
 f38 := Tryz.func179.trans (congrArg some (by kernel_rfl))
 f39 := Tryz.func194.trans (congrArg some (by kernel_rfl))
 f40 := Tryz.func195.trans (congrArg some (by kernel_rfl))
 t0 := Tryz.underlying0
 a0 := Tryz.isAgg0
 z0 := Tryz.sizeOf0
 v0 := Tryz.zeroValue0
 i0 := by kernel_rfl
 t2 := Tryz.underlying2
 a2 := Tryz.isAgg2
 z2 := Tryz.sizeOf2
 v2 := Tryz.zeroValue2
 i2 := by kernel_rfl
 t3 := Tryz.underlying3
 a3 := Tryz.isAgg3
 z3 := Tryz.sizeOf3
 v3 := Tryz.zeroValue3
 i3 := by kernel_rfl
 t4 := Tryz.underlying4
 a4 := Tryz.isAgg4
 z4 := Tryz.sizeOf4
 v4 := Tryz.zeroValue4
 i4 := by kernel_rfl
 t5 := Tryz.underlying5
 a5 := Tryz.isAgg5
 z5 := Tryz.sizeOf5
 v5 := Tryz.zeroValue5
 i5 := by kernel_rfl
 t9 := Tryz.underlying9
 a9 := Tryz.isAgg9
 z9 := Tryz.sizeOf9
 v9 := Tryz.zeroValue9
 i9 := by kernel_rfl
 t20 := Tryz.underlying20
 a20 := Tryz.isAgg20
 z20 := Tryz.sizeOf20
 v20 := Tryz.zeroValue20
 i20 := by kernel_rfl
 t21 := Tryz.underlying21
 a21 := Tryz.isAgg21
 z21 := Tryz.sizeOf21
 v21 := Tryz.zeroValue21
 i21 := by kernel_rfl
 t22 := Tryz.underlying22
 a22 := Tryz.isAgg22
 z22 := Tryz.sizeOf22
 v22 := Tryz.zeroValue22
 i22 := by kernel_rfl
 t24 := Tryz.underlying99
 a24 := Tryz.isAgg99
 z24 := Tryz.sizeOf99
 v24 := Tryz.zeroValue99
 i24 := by kernel_rfl
 t25 := Tryz.underlying184
 a25 := Tryz.isAgg184
 z25 := Tryz.sizeOf184
 v25 := Tryz.zeroValue184
 i25 := by kernel_rfl
 t34 := Tryz.underlying161
 a34 := Tryz.isAgg161
 z34 := Tryz.sizeOf161
 v34 := Tryz.zeroValue161
 i34 := by kernel_rfl
 c34 := by kernel_rfl
 t36 := Tryz.underlying157
 a36 := Tryz.isAgg157
 z36 := Tryz.sizeOf157
 v36 := Tryz.zeroValue157
 i36 := by kernel_rfl
 t37 := Tryz.underlying72
 a37 := Tryz.isAgg72
 z37 := Tryz.sizeOf72
 v37 := Tryz.zeroValue72
 i37 := by kernel_rfl
 t39 := Tryz.underlying164
 a39 := Tryz.isAgg164
 z39 := Tryz.sizeOf164
 v39 := Tryz.zeroValue164
 i39 := by kernel_rfl
 t44 := Tryz.underlying188
 a44 := Tryz.isAgg188
 z44 := Tryz.sizeOf188
 v44 := Tryz.zeroValue188
 i44 := by kernel_rfl
 t47 := Tryz.underlying167
 a47 := Tryz.isAgg167
 z47 := Tryz.sizeOf167
 v47 := Tryz.zeroValue167
 i47 := by kernel_rfl
 t48 := Tryz.underlying212
 a48 := Tryz.isAgg212
 z48 := Tryz.sizeOf212
 v48 := Tryz.zeroValue212
 i48 := by kernel_rfl
 t50 := Tryz.underlying214
 a50 := Tryz.isAgg214
 z50 := Tryz.sizeOf214
 v50 := Tryz.zeroValue214
 i50 := by kernel_rfl
 t52 := Tryz.underlying176
 a52 := Tryz.isAgg176
 z52 := Tryz.sizeOf176
 v52 := Tryz.zeroValue176
 i52 := by kernel_rfl
 t55 := Tryz.underlying179
 a55 := Tryz.isAgg179
 z55 := Tryz.sizeOf179
 v55 := Tryz.zeroValue179
 i55 := by kernel_rfl
 t59 := Tryz.underlying207
 a59 := Tryz.isAgg207
 z59 := Tryz.sizeOf207
 v59 := Tryz.zeroValue207
 i59 := by kernel_rfl
 t60 := Tryz.underlying181
 a60 := Tryz.isAgg181
 z60 := Tryz.sizeOf181
 v60 := Tryz.zeroValue181
 i60 := by kernel_rfl
 t61 := Tryz.underlying208
 a61 := Tryz.isAgg208
 z61 := Tryz.sizeOf208
 t65 := Tryz.underlying243
 a65 := Tryz.isAgg243
 z65 := Tryz.sizeOf243
 v65 := Tryz.zeroValue243
 i65 := by kernel_rfl
 t66 := Tryz.underlying244
 a66 := Tryz.isAgg244
 z66 := Tryz.sizeOf244
 v66 := Tryz.zeroValue244
 i66 := by kernel_rfl
 t67 := Tryz.underlying139
 a67 := Tryz.isAgg139
 z67 := Tryz.sizeOf139
 v67 := Tryz.zeroValue139
 i67 := by kernel_rfl
 g0 := by kernel_rfl
 m0 := by kernel_rfl
 g1 := by kernel_rfl
 m1 := by kernel_rfl
 g2 := by kernel_rfl
 m2 := by kernel_rfl
 g3 := by kernel_rfl
 m3 := by kernel_rfl
 g4 := by kernel_rfl
 m4 := by kernel_rfl }
open Go.RowKit in
theorem Tryz.strconv_ParseUint_10_at32_ok (s : ByteArray) (hmax : s.size ≤ 9223372036854775806) (u : Nat) (h : Lib.parseUintB 32 s.data.toList = .ok u) (w : World) :
  Calls Tryz.prog 154 #[.string s,.int .i64 10,.int .i64 32] w fun e w' => e = .returned (.tuple #[.int .u64 u,.nilIface]) ∧ (w' = w ∨ w' = Lib.bytesWorld w 5 s) := Any.strconv_ParseUint_10_at32_ok Tryz.laysPu14 s hmax u h w
open Go.RowKit in
theorem Tryz.strconv_ParseUint_10_at32_syntax (s : ByteArray) (hlim : s.size ≤ 281474976710656) (h : Lib.parseUintB 32 s.data.toList = Lib.parseUintB 32 []) (ev : Value) (w : World) (hv : w.cell? ⟨2,0,none⟩ = some ev) (hev : ev = .nilIface ∨ ∃ te pe,ev = .iface te pe) :
  Calls Tryz.prog 154 #[.string s,.int .i64 10,.int .i64 32] w fun e w' => ∃ N,e = .returned (.tuple #[.int .u64 0,.iface 164 (.pointer (some ⟨N,0,none⟩))]) ∧ w.heap.size ≤ N ∧ w'.heap[N]? = some (.cells #[.string ⟨#[80,97,114,115,101,85,105,110,116]⟩,.string s,ev] 188 (0,0)) ∧ Below w.heap.size w w' := Any.strconv_ParseUint_10_at32_syntax Tryz.laysPu14 s hlim h ev w hv hev
open Go.RowKit in
theorem Tryz.strconv_ParseUint_10_at32_range (s : ByteArray) (hlim : s.size ≤ 281474976710656) (h : Lib.parseUintB 32 s.data.toList = .range) (ev : Value) (w : World) (hv : w.cell? ⟨3,0,none⟩ = some ev) (hev : ev = .nilIface ∨ ∃ te pe,ev = .iface te pe) :
  Calls Tryz.prog 154 #[.string s,.int .i64 10,.int .i64 32] w fun e w' => ∃ N,e = .returned (.tuple #[.int .u64 4294967295,.iface 164 (.pointer (some ⟨N,0,none⟩))]) ∧ w.heap.size ≤ N ∧ w'.heap[N]? = some (.cells #[.string ⟨#[80,97,114,115,101,85,105,110,116]⟩,.string s,ev] 188 (0,0)) ∧ Below w.heap.size w w' := Any.strconv_ParseUint_10_at32_range Tryz.laysPu14 s hlim h ev w hv hev
def Tryz.lays219_ren : Go.Shelf.Ren := ⟨fun | 219 => 96 | 217 => 123 | 225 => 124 | 224 => 125 | 267 => 126 | 266 => 152 | 314 => 153 | n => n,fun | 9 => 9 | 3 => 3 | 4 => 4 | 5 => 5 | 46 => 157 | 146 => 182 | 51 => 181 | n => n,fun | 1 => 1 | n => n⟩
theorem Tryz.lays219 : Go.Proofs.Lays.n219 Tryz.prog Tryz.lays219_ren := {
 mixed := by kernel_rfl
 f217 := Tryz.func123.trans (congrArg some (by kernel_rfl))
 f219 := Tryz.func96.trans (congrArg some (by kernel_rfl))
 f224 := Tryz.func125.trans (congrArg some (by kernel_rfl))
 f225 := Tryz.func124.trans (congrArg some (by kernel_rfl))
 f266 := Tryz.func152.trans (congrArg some (by kernel_rfl))
 f267 := Tryz.func126.trans (congrArg some (by kernel_rfl))
 f314 := Tryz.func153.trans (congrArg some (by kernel_rfl))
 t3 := Tryz.underlying3
 a3 := Tryz.isAgg3
 z3 := Tryz.sizeOf3
 v3 := Tryz.zeroValue3
 t4 := Tryz.underlying4
 a4 := Tryz.isAgg4
 z4 := Tryz.sizeOf4
 v4 := Tryz.zeroValue4
 t5 := Tryz.underlying5
 a5 := Tryz.isAgg5
 z5 := Tryz.sizeOf5
 v5 := Tryz.zeroValue5
 t9 := Tryz.underlying9
 a9 := Tryz.isAgg9
 z9 := Tryz.sizeOf9
 v9 := Tryz.zeroValue9
 t46 := Tryz.underlying157
 a46 := Tryz.isAgg157
 z46 := Tryz.sizeOf157
 v46 := Tryz.zeroValue157
 t51 := Tryz.underlying181
 a51 := Tryz.isAgg181
 z51 := Tryz.sizeOf181
 v51 := Tryz.zeroValue181
 t146 := Tryz.underlying182
 a146 := Tryz.isAgg182
 z146 := Tryz.sizeOf182
 v146 := Tryz.zeroValue182
 g1 := by kernel_rfl }
open Go.RowKit Go.Lib in
theorem Tryz.stringslite_Index_one (s : ByteArray) (c : UInt8) (w : World) :
  Calls Tryz.prog 96 #[.string s,.string ⟨#[c]⟩] w fun e w' => e = .returned (.int .i64 (Lib.indexByte s.data.toList c)) ∧ w' = w := Any.stringslite_Index_one Tryz.lays219 s c w
def Tryz.lays143_ren : Go.Shelf.Ren := ⟨fun | 143 => 110 | 219 => 96 | 217 => 123 | 225 => 124 | 224 => 125 | 267 => 126 | 266 => 152 | 314 => 153 | n => n,fun | 9 => 9 | 3 => 3 | 4 => 4 | 5 => 5 | 46 => 157 | 146 => 182 | 51 => 181 | n => n,fun | 1 => 1 | n => n⟩
theorem Tryz.lays143 : Go.Proofs.Lays.n143 Tryz.prog Tryz.lays143_ren := {
 mixed := by kernel_rfl
 f143 := Tryz.func110.trans (congrArg some (by kernel_rfl))
 f217 := Tryz.func123.trans (congrArg some (by kernel_rfl))
 f219 := Tryz.func96.trans (congrArg some (by kernel_rfl))
 f224 := Tryz.func125.trans (congrArg some (by kernel_rfl))
 f225 := Tryz.func124.trans (congrArg some (by kernel_rfl))
 f266 := Tryz.func152.trans (congrArg some (by kernel_rfl))
 f267 := Tryz.func126.trans (congrArg some (by kernel_rfl))
 f314 := Tryz.func153.trans (congrArg some (by kernel_rfl))
 t3 := Tryz.underlying3
 a3 := Tryz.isAgg3
 z3 := Tryz.sizeOf3
 v3 := Tryz.zeroValue3
 t4 := Tryz.underlying4
 a4 := Tryz.isAgg4
 z4 := Tryz.sizeOf4
 v4 := Tryz.zeroValue4
 t5 := Tryz.underlying5
 a5 := Tryz.isAgg5
 z5 := Tryz.sizeOf5
 v5 := Tryz.zeroValue5
 t9 := Tryz.underlying9
 a9 := Tryz.isAgg9
 z9 := Tryz.sizeOf9
 v9 := Tryz.zeroValue9
 t46 := Tryz.underlying157
 a46 := Tryz.isAgg157
 z46 := Tryz.sizeOf157
 v46 := Tryz.zeroValue157
 t51 := Tryz.underlying181
 a51 := Tryz.isAgg181
 z51 := Tryz.sizeOf181
 v51 := Tryz.zeroValue181
 t146 := Tryz.underlying182
 a146 := Tryz.isAgg182
 z146 := Tryz.sizeOf182
 v146 := Tryz.zeroValue182
 g1 := by kernel_rfl }
open Go.RowKit Go.Lib in
theorem Tryz.strings_Index_one (s : ByteArray) (c : UInt8) (w : World) :
  Calls Tryz.prog 110 #[.string s,.string ⟨#[c]⟩] w fun e w' => e = .returned (.int .i64 (Lib.indexByte s.data.toList c)) ∧ w' = w := Any.strings_Index_one Tryz.lays143 s c w
def Tryz.lays144_ren : Go.Shelf.Ren := ⟨fun | 144 => 98 | 143 => 110 | 219 => 96 | 217 => 123 | 225 => 124 | 224 => 125 | 267 => 126 | 266 => 152 | 314 => 153 | n => n,fun | 9 => 9 | 4 => 4 | 3 => 3 | 5 => 5 | 46 => 157 | 146 => 182 | 51 => 181 | n => n,fun | 1 => 1 | n => n⟩
theorem Tryz.lays144 : Go.Proofs.Lays.n144 Tryz.prog Tryz.lays144_ren := {
 mixed := by kernel_rfl
 f143 := Tryz.func110.trans (congrArg some (by kernel_rfl))
 f144 := Tryz.func98.trans (congrArg some (by kernel_rfl))
 f217 := Tryz.func123.trans (congrArg some (by kernel_rfl))
 f219 := Tryz.func96.trans (congrArg some (by kernel_rfl))
 f224 := Tryz.func125.trans (congrArg some (by kernel_rfl))
 f225 := Tryz.func124.trans (congrArg some (by kernel_rfl))
 f266 := Tryz.func152.trans (congrArg some (by kernel_rfl))
 f267 := Tryz.func126.trans (congrArg some (by kernel_rfl))
 f314 := Tryz.func153.trans (congrArg some (by kernel_rfl))
 t3 := Tryz.underlying3
 a3 := Tryz.isAgg3
 z3 := Tryz.sizeOf3
 v3 := Tryz.zeroValue3
 t4 := Tryz.underlying4
 a4 := Tryz.isAgg4
 z4 := Tryz.sizeOf4
 v4 := Tryz.zeroValue4
 t5 := Tryz.underlying5
 a5 := Tryz.isAgg5
 z5 := Tryz.sizeOf5
 v5 := Tryz.zeroValue5
 t9 := Tryz.underlying9
 a9 := Tryz.isAgg9
 z9 := Tryz.sizeOf9
 v9 := Tryz.zeroValue9
 t46 := Tryz.underlying157
 a46 := Tryz.isAgg157
 z46 := Tryz.sizeOf157
 v46 := Tryz.zeroValue157
 t51 := Tryz.underlying181
 a51 := Tryz.isAgg181
 z51 := Tryz.sizeOf181
 v51 := Tryz.zeroValue181
 t146 := Tryz.underlying182
 a146 := Tryz.isAgg182
 z146 := Tryz.sizeOf182
 v146 := Tryz.zeroValue182
 g1 := by kernel_rfl }
open Go.RowKit Go.Lib in
theorem Tryz.strings_Contains_one (s : ByteArray) (c : UInt8) (w : World) :
  Calls Tryz.prog 98 #[.string s,.string ⟨#[c]⟩] w fun e w' => e = .returned (.bool (decide (0 ≤ Lib.indexByte s.data.toList c))) ∧ w' = w := Any.strings_Contains_one Tryz.lays144 s c w
def Tryz.lays145_ren : Go.Shelf.Ren := ⟨fun | 145 => 31 | 220 => 70 | 219 => 96 | 217 => 123 | 225 => 124 | 224 => 125 | 267 => 126 | 266 => 152 | 314 => 153 | n => n,fun | 9 => 9 | 4 => 4 | 59 => 60 | 3 => 3 | 5 => 5 | 46 => 157 | 146 => 182 | 51 => 181 | n => n,fun | 1 => 1 | n => n⟩
theorem Tryz.lays145 : Go.Proofs.Lays.n145 Tryz.prog Tryz.lays145_ren := {
 mixed := by kernel_rfl
 f145 := Tryz.func31.trans (congrArg some (by kernel_rfl))
 f217 := Tryz.func123.trans (congrArg some (by kernel_rfl))
 f219 := Tryz.func96.trans (congrArg some (by kernel_rfl))
 f220 := Tryz.func70.trans (congrArg some (by kernel_rfl))
 f224 := Tryz.func125.trans (congrArg some (by kernel_rfl))
 f225 := Tryz.func124.trans (congrArg some (by kernel_rfl))
 f266 := Tryz.func152.trans (congrArg some (by kernel_rfl))
 f267 := Tryz.func126.trans (congrArg some (by kernel_rfl))
 f314 := Tryz.func153.trans (congrArg some (by kernel_rfl))
 t3 := Tryz.underlying3
 a3 := Tryz.isAgg3
 z3 := Tryz.sizeOf3
 v3 := Tryz.zeroValue3
 t4 := Tryz.underlying4
 a4 := Tryz.isAgg4
 z4 := Tryz.sizeOf4
 v4 := Tryz.zeroValue4
 t5 := Tryz.underlying5
 a5 := Tryz.isAgg5
 z5 := Tryz.sizeOf5
 v5 := Tryz.zeroValue5
 t9 := Tryz.underlying9
 a9 := Tryz.isAgg9
 z9 := Tryz.sizeOf9
 v9 := Tryz.zeroValue9
 t46 := Tryz.underlying157
 a46 := Tryz.isAgg157
 z46 := Tryz.sizeOf157
 v46 := Tryz.zeroValue157
 t51 := Tryz.underlying181
 a51 := Tryz.isAgg181
 z51 := Tryz.sizeOf181
 v51 := Tryz.zeroValue181
 t59 := Tryz.underlying60
 a59 := Tryz.isAgg60
 z59 := Tryz.sizeOf60
 v59 := Tryz.zeroValue60
 t146 := Tryz.underlying182
 a146 := Tryz.isAgg182
 z146 := Tryz.sizeOf182
 v146 := Tryz.zeroValue182
 g1 := by kernel_rfl }
open Go.RowKit Go.Lib in
theorem Tryz.strings_Cut (s sep : ByteArray) (m : Int) (w : World) (hs : s.size < 4294967281) (hm : w.cell? ⟨1,0,none⟩ = some (.int .i64 m)) :
  Calls Tryz.prog 31 #[.string s,.string sep] w fun e w' => e = .returned (.tuple #[.string ⟨(Lib.cut s.data.toList sep.data.toList).1.toArray⟩,.string ⟨(Lib.cut s.data.toList sep.data.toList).2.1.toArray⟩,.bool (Lib.cut s.data.toList sep.data.toList).2.2]) ∧ ∃ n,w' = w.drewN n := Any.strings_Cut Tryz.lays145 s sep m w hs hm
def Tryz.lays138_ren : Go.Shelf.Ren := ⟨fun | 138 => 109 | 195 => 136 | 218 => 138 | 143 => 110 | 219 => 96 | 217 => 123 | 225 => 124 | 224 => 125 | 267 => 126 | 266 => 152 | 314 => 153 | n => n,fun | 9 => 9 | 3 => 3 | 4 => 4 | 5 => 5 | 0 => 0 | 46 => 157 | 146 => 182 | 51 => 181 | n => n,fun | 1 => 1 | n => n⟩
theorem Tryz.lays138 : Go.Proofs.Lays.n138 Tryz.prog Tryz.lays138_ren := {
 mixed := by kernel_rfl
 f138 := Tryz.func109.trans (congrArg some (by kernel_rfl))
 f143 := Tryz.func110.trans (congrArg some (by kernel_rfl))
 f195 := Tryz.func136.trans (congrArg some (by kernel_rfl))
 f217 := Tryz.func123.trans (congrArg some (by kernel_rfl))
 f218 := Tryz.func138.trans (congrArg some (by kernel_rfl))
 f219 := Tryz.func96.trans (congrArg some (by kernel_rfl))
 f224 := Tryz.func125.trans (congrArg some (by kernel_rfl))
 f225 := Tryz.func124.trans (congrArg some (by kernel_rfl))
 f266 := Tryz.func152.trans (congrArg some (by kernel_rfl))
 f267 := Tryz.func126.trans (congrArg some (by kernel_rfl))
 f314 := Tryz.func153.trans (congrArg some (by kernel_rfl))
 t0 := Tryz.underlying0
 a0 := Tryz.isAgg0
 z0 := Tryz.sizeOf0
 v0 := Tryz.zeroValue0
 t3 := Tryz.underlying3
 a3 := Tryz.isAgg3
 z3 := Tryz.sizeOf3
 v3 := Tryz.zeroValue3
 t4 := Tryz.underlying4
 a4 := Tryz.isAgg4
 z4 := Tryz.sizeOf4
 v4 := Tryz.zeroValue4
 t5 := Tryz.underlying5
 a5 := Tryz.isAgg5
 z5 := Tryz.sizeOf5
 v5 := Tryz.zeroValue5
 t9 := Tryz.underlying9
 a9 := Tryz.isAgg9
 z9 := Tryz.sizeOf9
 v9 := Tryz.zeroValue9
 t46 := Tryz.underlying157
 a46 := Tryz.isAgg157
 z46 := Tryz.sizeOf157
 v46 := Tryz.zeroValue157
 t51 := Tryz.underlying181
 a51 := Tryz.isAgg181
 z51 := Tryz.sizeOf181
 v51 := Tryz.zeroValue181
 t146 := Tryz.underlying182
 a146 := Tryz.isAgg182
 z146 := Tryz.sizeOf182
 v146 := Tryz.zeroValue182
 g1 := by kernel_rfl }
open Go.RowKit Go.Lib in
theorem Tryz.strings_Count_one (s : ByteArray) (c : UInt8) (w : World) :
  Calls Tryz.prog 109 #[.string s,.string ⟨#[c]⟩] w fun e w' => e = .returned (.int .i64 (Lib.countByte s.data.toList c)) ∧ w' = w := Any.strings_Count_one Tryz.lays138 s c w
def Tryz.lays146_ren : Go.Shelf.Ren := ⟨fun | 146 => 57 | 221 => 83 | 268 => 108 | 138 => 109 | 143 => 110 | 195 => 136 | 197 => 137 | 218 => 138 | 219 => 96 | 260 => 160 | 217 => 123 | 225 => 124 | 224 => 125 | 267 => 126 | 266 => 152 | 314 => 153 | n => n,fun | 9 => 9 | 31 => 74 | 3 => 3 | 4 => 4 | 0 => 0 | 105 => 168 | 21 => 21 | 5 => 5 | 46 => 157 | 119 => 215 | 139 => 218 | 138 => 217 | 146 => 182 | 51 => 181 | n => n,fun | 1 => 1 | 3 => 5 | 4 => 6 | n => n⟩
theorem Tryz.lays146 : Go.Proofs.Lays.n146 Tryz.prog Tryz.lays146_ren := {
 mixed := by kernel_rfl
 f138 := Tryz.func109.trans (congrArg some (by kernel_rfl))
 f143 := Tryz.func110.trans (congrArg some (by kernel_rfl))
 f146 := Tryz.func57.trans (congrArg some (by kernel_rfl))
 f195 := Tryz.func136.trans (congrArg some (by kernel_rfl))
 f197 := Tryz.func137.trans (congrArg some (by kernel_rfl))
 f217 := Tryz.func123.trans (congrArg some (by kernel_rfl))
 f218 := Tryz.func138.trans (congrArg some (by kernel_rfl))
 f219 := Tryz.func96.trans (congrArg some (by kernel_rfl))
 f221 := Tryz.func83.trans (congrArg some (by kernel_rfl))
 f224 := Tryz.func125.trans (congrArg some (by kernel_rfl))
 f225 := Tryz.func124.trans (congrArg some (by kernel_rfl))
 f260 := Tryz.func160.trans (congrArg some (by kernel_rfl))
 f266 := Tryz.func152.trans (congrArg some (by kernel_rfl))
 f267 := Tryz.func126.trans (congrArg some (by kernel_rfl))
 f268 := Tryz.func108.trans (congrArg some (by kernel_rfl))
 f314 := Tryz.func153.trans (congrArg some (by kernel_rfl))
 t0 := Tryz.underlying0
 a0 := Tryz.isAgg0
 z0 := Tryz.sizeOf0
 v0 := Tryz.zeroValue0
 t3 := Tryz.underlying3
 a3 := Tryz.isAgg3
 z3 := Tryz.sizeOf3
 v3 := Tryz.zeroValue3
 t4 := Tryz.underlying4
 a4 := Tryz.isAgg4
 z4 := Tryz.sizeOf4
 v4 := Tryz.zeroValue4
 t5 := Tryz.underlying5
 a5 := Tryz.isAgg5
 z5 := Tryz.sizeOf5
 v5 := Tryz.zeroValue5
 t9 := Tryz.underlying9
 a9 := Tryz.isAgg9
 z9 := Tryz.sizeOf9
 v9 := Tryz.zeroValue9
 t21 := Tryz.underlying21
 a21 := Tryz.isAgg21
 z21 := Tryz.sizeOf21
 v21 := Tryz.zeroValue21
 t31 := Tryz.underlying74
 a31 := Tryz.isAgg74
 z31 := Tryz.sizeOf74
 v31 := Tryz.zeroValue74
 t46 := Tryz.underlying157
 a46 := Tryz.isAgg157
 z46 := Tryz.sizeOf157
 v46 := Tryz.zeroValue157
 t51 := Tryz.underlying181
 a51 := Tryz.isAgg181
 z51 := Tryz.sizeOf181
 v51 := Tryz.zeroValue181
 t105 := Tryz.underlying168
 a105 := Tryz.isAgg168
 z105 := Tryz.sizeOf168
 v105 := Tryz.zeroValue168
 t119 := Tryz.underlying215
 a119 := Tryz.isAgg215
 z119 := Tryz.sizeOf215
 t138 := Tryz.underlying217
 a138 := Tryz.isAgg217
 z138 := Tryz.sizeOf217
 v138 := Tryz.zeroValue217
 t139 := Tryz.underlying218
 a139 := Tryz.isAgg218
 z139 := Tryz.sizeOf218
 v139 := Tryz.zeroValue218
 t146 := Tryz.underlying182
 a146 := Tryz.isAgg182
 z146 := Tryz.sizeOf182
 v146 := Tryz.zeroValue182
 g1 := by kernel_rfl
 g3 := by kernel_rfl
 g4 := by kernel_rfl }
end Go.Proofs
namespace Go.Proofs.YtafggolijpopeaaGreatDoor
open Go Go.Ma Go.RowKit Go.Proofs
theorem zq889 {P : Program} {f : FuncId} {ps : List PS} {k : K} {t : PsT ps → Option (PsT [PS.one (.fl k)])} (vals : PsT ps → List Value)
  (hv : ∀ x ρ,denL ρ (encA false ps x 0).1 = vals x) 
  (h : ∀ x y,t x = some (y,()) → ∀ w,Glob P w → Calls P f (vals x).toArray w fun e w' => e = .returned (den (fun _ => Go.undef) (flV k y)) ∧ Below w.heap.size w w')
  (hr : ∀ (y : k.T),resR [PS.one (.fl k)] (flV k y) [] = some (y,())) : TrOk P f (con ps [.one (.fl k)] t) :=
 zq296 _ _ _ fun x y hx ρ us vs w hG hu => by
  obtain ⟨y1,u⟩ := y
  have hd := hu.den _ (zq476 us)
  rw [hv x] at hd
  rw [← hd]
  refine (h x y1 hx w hG).mono ?_
  rintro e w' ⟨rfl,hb⟩
  exact ⟨fun _ => Go.undef,flV k y1,[],rfl,⟨hb,fun j o h => by simp at h,fun i j o o' _ h => by simp at h,fun j o h => by simp at h⟩,hr y1⟩
theorem zq212 (w : World) (n : Nat) : Below w.heap.size w (w.drewN n) := ⟨rfl,rfl,rfl,zc49 _,fun _ _ => rfl⟩
def zq571 : Con := con [.one (.fl .str),.one (.fl .str)] [.one (.fl .int)] (fun x => zq573 x.1 x.2.1)
theorem zq572 : TrOk Tryz.prog 96 zq571 :=
 zq889 (fun x => [.string x.1,.string x.2.1]) (fun _ _ => rfl) (fun x y hx w hG => by
  obtain ⟨s,sep,u⟩ := x
  unfold zq573 at hx
  simp only at hx
  split at hx
  ·rename_i c hc
   injection hx with hx
   injection hx with hx
   subst hx
   have hsep : sep = ⟨#[c]⟩ := by
    cases sep with | mk a => 
    have : a = #[c] := Array.toList_inj.1 hc
    rw [this]
   subst hsep
   refine (Go.Proofs.Tryz.stringslite_Index_one s c w).mono ?_
   rintro e w' ⟨rfl,rfl⟩
   exact ⟨rfl,Below.refl _ _⟩
  ·cases hx) (fun _ => rfl)
theorem zq1506 {w : World} (hG : Glob Tryz.prog w) : Lib.TabIs Tryz.prog w "internal/strconv.uint64pow10" .u64 Lib.pow10Tab := by
 have hg : Tryz.prog.globalNamed "internal/strconv.uint64pow10" = some 4 := by kernel_rfl
 obtain ⟨t,z,h⟩ := hG.pow _ hg
 have e : zq1029 = Lib.pow10Tab := by decide +kernel
 unfold Lib.TabIs World.var?
 simp [hg,h,e]
theorem zq580 (i : Nat) : Lib.itoa (i : Int) = Lib.decDigits i := by
 unfold Lib.itoa
 rw [if_neg (by omega)]
 rfl
theorem zq581 (i : Nat) (hi : i < 9223372036854775808) (w : World) (hG : Glob Tryz.prog w) : Calls Tryz.prog 69 #[.int .i64 (i : Int)] w fun e w' => e = .returned (.string ⟨(Lib.decDigits i).toArray⟩) ∧ Below w.heap.size w w' := by
 refine (Go.Proofs.Tryz.strconv_Itoa (i : Int) (by omega) (by omega) w (zq1506 hG)).mono ?_
 rintro e w' ⟨rfl,k,os,rfl⟩
 exact ⟨by rw [zq580],Lib.below_grow w.heap.size w (zc49 _) k os⟩
def zq1483 : Con := con [.one (.fl .int)] [.one (.fl .str)] (fun x => zq1485 x.1)
theorem zq1484 : TrOk Tryz.prog 69 zq1483 :=
 zq889 (fun x => [.int .i64 x.1]) (fun _ _ => rfl) (fun x y hx w hG => by
  obtain ⟨n,u⟩ := x
  unfold zq1485 at hx
  obtain ⟨hq,hx⟩ := zq1188 hx
  simp only [zc4,decide_eq_true_eq] at hq
  injection hx with hx
  injection hx with hx
  subst hx
  obtain ⟨i,rfl⟩ := Int.eq_ofNat_of_zero_le hq.1
  refine (zq581 i (by omega) w hG).mono ?_
  rintro e w' ⟨rfl,hb⟩
  exact ⟨rfl,hb⟩) (fun _ => rfl)
theorem zq1474 (ρ : Nat → Value) : ∀ l : List ByteArray,(List.flatMap (fun a => denL ρ (K.enc .str a)) (show List K.str.T from l)) = l.map Value.string
 | [] => rfl
 | a :: r => by
  show denL ρ (K.enc .str a) ++ List.flatMap (fun a => denL ρ (K.enc .str a)) (show List K.str.T from r) = _
  rw [zq1474 ρ r]
  rfl
def zq1491 : Con := con [.one (.row .str 9),.one (.fl .str)] [.one (.fl .str)] (fun x => zq1493 x.1 x.2.1)
theorem zq590 (l : List ByteArray) (sep : ByteArray) (y : ByteArray × Unit) (hx : zq1493 l sep = some y) (ρ : Nat → Value) (us vals : List Value) (w : World)
  (hu : zq0 w ρ 0 vals (encA false [.one (.row .str 9),.one (.fl .str)] (l,sep,()) 0).1 (encA false [.one (.row .str 9),.one (.fl .str)] (l,sep,()) 0).2 us) :
  Calls Tryz.prog 80 vals.toArray w fun e w' => ∃ ρc r m',e = .returned (den ρc r) ∧ RelM w ρc m' w' ∧ resR [.one (.fl .str)] r m' = some y := by
 have hg := zq476 us
 have hlen := hu.len
 have hdenv := hu.den _ hg
 obtain ⟨v,rfl⟩ : ∃ v,us = [v] := by
  have hl1 : us.length = 1 := hlen
  match us,hl1 with
  | [v],_ => exact ⟨v,rfl⟩
 obtain ⟨hob,_⟩ := hu.obj w _ hg 0 (.row (.ty .str l) 9 false) v rfl rfl
 obtain ⟨_,_,hrow0⟩ := hob
 rw [if_neg (by simp)] at hrow0
 have hrow : RowIs w v l.length 1 (List.flatMap (fun a => denL (zq831 [v]) (K.enc .str a)) (show List K.str.T from l)) := hrow0
 rw [zq1474] at hrow
 unfold zq1493 at hx
 obtain ⟨hq,hx⟩ := zq1188 hx
 simp only [zc4] at hq
 have q2 := Nat.le_of_ble_eq_true hq.1
 have q3 := Nat.le_of_ble_eq_true hq.2
 injection hx with hx
 subst hx
 obtain ⟨_,A,cap,hv,hn,hc,hA,hcells⟩ := hrow
 have hvals : vals = [.slice A l.length cap,.string sep] := hdenv.symm.trans (by rw [hv]; rfl)
 subst hvals
 by_cases hl0 : l = []
 ·subst hl0
  refine (Go.Proofs.Tryz.strings_Join_none A cap sep w).mono ?_
  rintro e w' ⟨rfl,rfl⟩
  exact ⟨fun _ => Go.undef,.s ⟨#[]⟩,[],rfl,⟨Below.refl _ _,fun j o h => by simp at h,fun i j o o' _ h => by simp at h,fun j o h => by simp at h⟩,rfl⟩
 have q1 : 1 ≤ l.length := by
  cases l with
  | nil => exact absurd rfl hl0
  | cons x r => simp
 cases A with
 | none => have := hA rfl; omega
 | some a =>
  obtain ⟨hlt,hcl⟩ := hcells a rfl
  obtain ⟨blk,off,spot⟩ := a
  have hs : spot = none := by
   have h0 := hcl 0 (.string (l[0]'(by omega))) (by simp)
   rw [show Addr.add ⟨blk,off,spot⟩ 0 = ⟨blk,off,spot⟩ from rfl] at h0
   cases spot with
   | none => rfl
   | some q =>
    unfold World.cell? at h0
    split at h0
    ·simp at h0
    ·cases h0
  subst hs
  have hj := Go.Proofs.Tryz.strings_Join blk off cap l sep w (fun j x hx => by
   have := hcl j (.string x) (by simp [hx])
   rwa [Addr.add_lit] at this) (by first | exact hlt | exact hlt (by omega)) (by omega) hn (by omega)
  refine hj.mono ?_
  rintro e w' ⟨rfl,hb⟩
  refine ⟨fun _ => Go.undef,.s ⟨(Lib.join (l.map (·.data.toList)) sep.data.toList).toArray⟩,[],rfl,?_,rfl⟩
  exact ⟨hb,fun j o h => by simp at h,fun i j o o' _ h => by simp at h,fun j o h => by simp at h⟩
theorem zq1492 : TrOk Tryz.prog 80 zq1491 := zq296 _ _ _ fun x y hx ρ us vals w _ hu => zq590 x.1 x.2.1 y hx ρ us vals w hu
theorem info9 : (Tryz.prog.info? 9).map (fun i => (i.zero,i.size,i.bytes)) = some (some (.string ByteArray.empty),1,16) := by kernel_rfl
set_option maxHeartbeats 1000000 in
theorem zq1341 (s : ByteArray) (c : UInt8) (w : World) (hs : s.size < 4294967281) :
  Calls Tryz.prog 57 #[.string s,.string ⟨#[c]⟩] w fun e w' =>
   e = .returned (.slice (some ⟨w.heap.size,0,none⟩) (Lib.countB s ⟨#[c]⟩ + 1) (Lib.countB s ⟨#[c]⟩ + 1)) ∧ w' = w.alloc (.cells ((Lib.splitB ⟨#[c]⟩ 0 (Lib.countB s ⟨#[c]⟩) s).map Value.string).toArray 9) := by
 have h1 : 1 ≤ (⟨#[c]⟩ : ByteArray).size := zc49 _
 have hle := Lib.countB_le ⟨#[c]⟩ h1 s.size s (zc49 _)
 have hlen := Lib.splitB_all ⟨#[c]⟩ h1 0 _ s rfl
 have c0 := Go.Proofs.Any.strings_genSplit_core { Go.Proofs.Tryz.lays146 with } info9 s ⟨#[c]⟩ 0 (-1) (Lib.countB s ⟨#[c]⟩ + 1) w hs h1 (Nat.zero_le _)
  (fun x cc hx => (Go.Proofs.Tryz.strings_Index_one x c _).mono fun e w' ⟨he,hw⟩ => ⟨by rw [he,← Lib.index_one],hw⟩)
  ((Go.Proofs.Tryz.strings_Count_one s c w).mono fun e w' ⟨he,hw⟩ => ⟨by rw [he]; show _ = Ending.returned (Value.int .i64 ((Lib.count s.data.toList [c] : Nat) : Int)); rw [Lib.count_one]; rfl,hw⟩)
  (by decide) (by decide) (by rw [if_pos (by decide)]; omega)
 rw [Nat.add_sub_cancel,hlen] at c0
 have e2 : Lib.cellsOf (Lib.splitB ⟨#[c]⟩ 0 (Lib.countB s ⟨#[c]⟩) s) (Lib.countB s ⟨#[c]⟩ + 1) = ((Lib.splitB ⟨#[c]⟩ 0 (Lib.countB s ⟨#[c]⟩) s).map Value.string).toArray := by rw [← hlen]; exact Lib.cellsOf_full _
 rw [e2] at c0
 have HC : Hid (Calls Tryz.prog 83 #[.string s,.string ⟨#[c]⟩,.int .i64 0,.int .i64 (-1)] w fun e w' => e = .returned (.slice (some ⟨w.heap.size,0,none⟩) (Lib.countB s ⟨#[c]⟩ + 1) (Lib.countB s ⟨#[c]⟩ + 1)) ∧ w' = w.alloc (.cells ((Lib.splitB ⟨#[c]⟩ 0 (Lib.countB s ⟨#[c]⟩) s).map Value.string).toArray 9)) := c0
 clear c0
 go_enter Tryz.func57,Tryz.ntmps57
 go_wp2_with (go_at_call 83; refine HC.out.mono ?_; rintro e w' ⟨rfl,hw⟩; rw [hw])
 go_ret
 exact ⟨rfl,rfl⟩
def zq1494 : Con := con [.one (.fl .str),.one (.fl .str)] [.one (.row .str 9)] (fun x => zq1496 x.1 x.2.1)
theorem zq1340 (s sep : ByteArray) (y : List ByteArray × Unit) (hx : zq1496 s sep = some y) (ρ : Nat → Value) (us vals : List Value) (w : World)
  (hu : zq0 w ρ 0 vals (encA false [.one (.fl .str),.one (.fl .str)] (s,sep,()) 0).1 (encA false [.one (.fl .str),.one (.fl .str)] (s,sep,()) 0).2 us) :
  Calls Tryz.prog 57 vals.toArray w fun e w' => ∃ ρc r m',e = .returned (den ρc r) ∧ RelM w ρc m' w' ∧ resR [.one (.row .str 9)] r m' = some y := by
 have hdenv := hu.den _ (zq476 us)
 have hvals : vals = [.string s,.string sep] := hdenv.symm
 subst hvals
 unfold zq1496 at hx
 obtain ⟨hq,hx⟩ := zq1188 hx
 simp only [zc4] at hq
 have q1 := Nat.le_of_ble_eq_true hq.1
 obtain ⟨c,rfl⟩ := Lib.one_byte sep (Nat.eq_of_beq_eq_true hq.2)
 injection hx with hx
 subst hx
 have hlen := Lib.splitB_all ⟨#[c]⟩ (zc49 _) 0 _ s rfl
 have hle := Lib.countB_le ⟨#[c]⟩ (zc49 _) s.size s (zc49 _)
 refine (zq1341 s c w (by omega)).mono ?_
 rintro e w' ⟨rfl,rfl⟩
 generalize Lib.splitB ⟨#[c]⟩ 0 (Lib.countB s ⟨#[c]⟩) s = l at hlen ⊢
 rw [← hlen]
 have hn : w.heap[w.heap.size]? = none := by simp
 refine ⟨fun _ => .slice (some ⟨w.heap.size,0,none⟩) l.length l.length,.row 0,[.row (.ty .str l) 9 true],by simp [den,zq1263],?_,rfl⟩
 refine ⟨(Below.refl _ w).alloc (zc49 _) _,fun j o hj => ?_,fun i j o o' hij hi hj => ?_,fun j o hj => ?_⟩
 ·cases j with
  | zero =>
   simp only [zc13,zc2] at hj
   subst hj
   refine ⟨(show 0 < K.sz .str by decide),fun u hu => ?_,?_⟩
   ·exact zq436 _ .str _ u hu
   ·rw [if_pos rfl]
    have e1 : (C.ty K.str l).den (fun _ => Value.slice (some ⟨w.heap.size,0,none⟩) l.length l.length) = l.map Value.string := zq1474 _ _
    rw [e1]
    refine ⟨by show (l.map Value.string).length = l.length * 1; simp,.inr ⟨w.heap.size,l.length,(l.map Value.string).toArray,rfl,zc49 _,heap_alloc_new w _,zc49 _,?_,?_,?_⟩⟩
    ·unfold maxLen
     omega
    ·show (l.map Value.string).toArray.size = l.length * 1
     simp
    ·show (l.map Value.string).toArray.toList.take (l.length * 1) = l.map Value.string
     rw [Nat.mul_one,List.take_of_length_le (by simp)]
  | succ j => simp at hj
 ·have h1 := (zc1.1 hi).1
  have h2 := (zc1.1 hj).1
  simp at h1 h2
  omega
 ·cases j with
  | zero =>
   simp only [zc13,zc2] at hj
   subst hj
   rfl
  | succ j => simp at hj
theorem zq1495 : TrOk Tryz.prog 57 zq1494 := zq296 _ _ _ fun x y hx ρ us vals w _ hu => zq1340 x.1 x.2.1 y hx ρ us vals w hu
theorem zq211 (w : World) (e : TypeId) (s : ByteArray) : Below w.heap.size w (Lib.bytesWorld w e s) := by
 refine ⟨?_,?_,?_,by rw [Lib.bytesWorld_size]; omega,fun j hj => Lib.bytesWorld_at_old w e s j hj⟩
 ·unfold Lib.bytesWorld World.freeze; rw [if_neg (by decide)]; rfl
 ·unfold Lib.bytesWorld World.freeze; rw [if_neg (by decide)]; rfl
 ·unfold Lib.bytesWorld World.freeze; rw [if_neg (by decide)]; rfl
theorem zq210 (w : World) (e : TypeId) {w' : World} (h : ∃ t,w' = Lib.bytesWorld w e t) : Below w.heap.size w w' := by
 obtain ⟨t,rfl⟩ := h
 exact zq211 w e t
end Go.Proofs.YtafggolijpopeaaGreatDoor
namespace Go.Proofs.YtafggolijpopeaaGreatDoor
open Go Go.Ma Go.RowKit Go.Proofs
theorem gErrS : Tryz.prog.globalNamed "strconv.ErrSyntax" = some 2 := by kernel_rfl
theorem gErrR : Tryz.prog.globalNamed "strconv.ErrRange" = some 3 := by kernel_rfl
def errV (te : Option TypeId) (pe : Value) : Value := match te with | none => .nilIface | some t => .iface t pe
theorem zq208 (s : ByteArray) (w : World) (hs : s.size ≤ 1073741824) (hG : Glob Tryz.prog w) : ∃ te : Option TypeId,(te = none ↔ ∃ v,Lib.atoiAll s.data.toList = .ok v) ∧
  Calls Tryz.prog 72 #[.string s] w fun e w' => (∃ pe,e = .returned (.tuple #[.int .i64 (digN s),errV te pe])) ∧ Below w.heap.size w w' := by
 cases ha : Lib.atoiAll s.data.toList with
 | ok v =>
  refine ⟨none,⟨fun _ => ⟨v,rfl⟩,fun _ => rfl⟩,(Go.Proofs.Tryz.strconv_Atoi_ok s (by omega) v ha w).mono ?_⟩
  rintro e w' ⟨rfl,hw⟩
  refine ⟨⟨.bool true,by unfold digN; rw [ha]; rfl⟩,?_⟩
  rcases hw with rfl | hw
  ·exact Below.refl _ _
  ·exact zq210 _ _ hw
 | range =>
  obtain ⟨er,her,her2⟩ := hG.err _ _ (.inr rfl) gErrR
  obtain ⟨T,hT⟩ : ∃ T : TypeId,Calls Tryz.prog 72 #[.string s] w fun e w' => (∃ pe,e = .returned (.tuple #[.int .i64 (Lib.atoiSat s.data.toList),.iface T pe])) ∧ Below w.heap.size w w' :=
   ⟨_,(Go.Proofs.Tryz.strconv_Atoi_range s (by omega) ha er w her her2).mono fun e w' ⟨N,he,_,_,hb⟩ => ⟨⟨_,he⟩,hb⟩⟩
  refine ⟨some T,⟨fun h => (by cases h),fun ⟨v,h⟩ => (by cases h)⟩,hT.mono ?_⟩
  rintro e w' ⟨⟨pe,rfl⟩,hb⟩
  exact ⟨⟨pe,by unfold digN; rw [ha]; rfl⟩,hb⟩
 | _ =>
  obtain ⟨es,hes,hes2⟩ := hG.err _ _ (.inl rfl) gErrS
  obtain ⟨T,hT⟩ : ∃ T : TypeId,Calls Tryz.prog 72 #[.string s] w fun e w' => (∃ pe,e = .returned (.tuple #[.int .i64 0,.iface T pe])) ∧ Below w.heap.size w w' :=
   ⟨_,(Go.Proofs.Tryz.strconv_Atoi_syntax s (by omega) ha es w hes hes2).mono fun e w' ⟨N,he,_,_,hb⟩ => ⟨⟨_,he⟩,hb⟩⟩
  refine ⟨some T,⟨fun h => (by cases h),fun ⟨v,h⟩ => (by cases h)⟩,hT.mono ?_⟩
  rintro e w' ⟨⟨pe,rfl⟩,hb⟩
  exact ⟨⟨pe,by unfold digN; rw [ha]; rfl⟩,hb⟩
set_option maxRecDepth 100000 in
set_option maxHeartbeats 4000000 in
theorem zq358 (s : ByteArray) (w : World) (hs : s.size ≤ 1073741824) (hG : Glob Tryz.prog w) :
  Calls Tryz.prog 33 #[.string s] w fun e w' => e = .returned (.tuple #[.int .i64 (digN s),.bool (digB s)]) ∧ Below w.heap.size w w' := by
 obtain ⟨te,hte,hA⟩ := zq208 s w hs hG
 have HP : Hid (Calls Tryz.prog 72 #[.string s] w fun e w' => (∃ pe,e = .returned (.tuple #[.int .i64 (digN s),errV te pe])) ∧ Below w.heap.size w w') := hA
 cases te with
 | some t =>
  have hB : digB s = false := by
   unfold digB
   split
   ·rename_i v hv; cases hte.2 ⟨v,hv⟩
   ·rfl
  rw [hB]
  clear hA hG hte
  simp only [errV] at HP
  generalize digN s = n at HP ⊢
  go_enter Tryz.func33,Tryz.ntmps33
  go_wp2_with (go_at_call 72; refine HP.out.mono ?_; rintro e w2 ⟨⟨pe,rfl⟩,hb2⟩)
  go_ret2
  exact ⟨rfl,hb2⟩
 | none =>
  obtain ⟨v,hv⟩ := hte.1 rfl
  have hN : digN s = v := by unfold digN; rw [hv]
  have hB : digB s = (decide (0 ≤ v) && (decide (s.size ≤ 4) && ((⟨(Lib.decDigits v.toNat).toArray⟩ : ByteArray) == s))) := by unfold digB; rw [hv]
  obtain ⟨b1,b2⟩ := Lib.atoiAll_bounds hv
  rw [hN] at HP ⊢
  simp only [errV] at HP
  rw [hB]
  clear hA hte hN hB
  by_cases h0 : 0 ≤ v
  rotate_left
  ·have z0 : decide (0 ≤ v) = false := decide_eq_false h0
   clear hG
   rw [z0]
   go_enter Tryz.func33,Tryz.ntmps33
   go_wp2_with (go_at_call 72; refine HP.out.mono ?_; rintro e w2 ⟨⟨pe,rfl⟩,hb2⟩)
   go_ret2
   exact ⟨rfl,hb2⟩
  obtain ⟨i,rfl⟩ := Int.eq_ofNat_of_zero_le h0
  obtain ⟨z,hz⟩ : ∃ z : ByteArray,z = ⟨(Lib.decDigits i).toArray⟩ := ⟨_,rfl⟩
  have HQ : Hid (∀ W,Below w.heap.size w W → Calls Tryz.prog 69 #[.int .i64 (i : Int)] W fun e w' => e = .returned (.string z) ∧ Below W.heap.size W w') := fun W hW => by rw [hz]; exact zq581 i (by omega) W (hG.mono hW)
  have hz' : (⟨(Lib.decDigits (i : Int).toNat).toArray⟩ : ByteArray) = z := hz.symm
  rw [hz']
  clear hz hz' hG
  go_enter Tryz.func33,Tryz.ntmps33
  have z0 : decide (0 ≤ (i : Int)) = true := decide_eq_true h0
  by_cases h4 : s.size ≤ 4
  ·have z1 : decide ((s.size : Int) ≤ 4) = true := decide_eq_true (by omega)
   go_wp2_with (first | (go_at_call 72; refine HP.out.mono ?_; rintro e w2 ⟨⟨pe,rfl⟩,hb2⟩) | (go_at_call 69; refine (HQ.out _ hb2).mono ?_; rintro e w3 ⟨rfl,hb3⟩))
   go_ret2
   refine ⟨?_,hb2.trans (hb3.mono hb2.size)⟩
   rw [decide_eq_true h4,decide_eq_true h0,Go.beq_toListBytes]
   rfl
  ·have z1 : decide ((s.size : Int) ≤ 4) = false := decide_eq_false (by omega)
   go_wp2_with (first | (go_at_call 72; refine HP.out.mono ?_; rintro e w2 ⟨⟨pe,rfl⟩,hb2⟩) | (go_at_call 69; refine (HQ.out _ hb2).mono ?_; rintro e w3 ⟨rfl,hb3⟩))
   go_ret2
   refine ⟨?_,hb2⟩
   rw [decide_eq_false h4,decide_eq_true h0]
   rfl
def zq1049 : Con := con [.one (.fl .str)] [.one (.fl .int),.one (.fl .bool)] (fun x => zq1051 x.1)
theorem zq1050 : TrOk Tryz.prog 33 zq1049 := zq296 _ _ _ fun x y hx ρ us vals w hG hu => by
 obtain ⟨s,z⟩ := x
 obtain ⟨r1,r2,z2⟩ := y
 have hd := hu.den _ (zq476 us)
 have hvals : vals = [.string s] := hd.symm
 subst hvals
 unfold zq1051 at hx
 obtain ⟨hq,hx⟩ := zq1188 hx
 have h1 : r1 = digN s := by injection hx with hx; injection hx with a b; exact a.symm
 have h2 : r2 = digB s := by injection hx with hx; injection hx with a b; injection b with b c; exact b.symm
 subst h1
 subst h2
 refine (zq358 s w (Nat.le_of_ble_eq_true hq) hG).mono ?_
 rintro e w' ⟨rfl,hb⟩
 exact ⟨fun _ => Go.undef,.tup [.i .i64 (digN s),.b (digB s)],[],rfl,⟨hb,fun j o h => by simp at h,fun i j o o' _ h => by simp at h,fun j o h => by simp at h⟩,rfl⟩
end Go.Proofs.YtafggolijpopeaaGreatDoor
