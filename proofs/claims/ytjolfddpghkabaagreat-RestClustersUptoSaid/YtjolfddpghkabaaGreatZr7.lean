/-
  For every input whose arguments are together of bulk at most 1048576, RestClusters of the package yardarmlaw returns true, and each of its arguments reads behind the call as it read before.
-/
import Derived.Test.YtjolfddpghkabaaGreatRows
import Derived.WalkKit
import Derived.ProofKit
import Derived.OpenShut
import Derived.ShutString
import Derived.ChangeOld
import Derived.Below
import Derived.JoinedCond
import Derived.Test.YtjolfddpghkabaaGreatZr6
set_option linter.unusedVariables false
set_option linter.unusedSimpArgs false
noncomputable section
namespace Go.Proofs.YtjolfddpghkabaaGreat
open Go Go.Ma
def zq962 : LoopS := { n := 49,base := 10,head := { keep := [0,2,4,8,9,10],vals := [.one (.cst (.row 6)),.one (.cst (.fn 130 [])),.one (.cst (.ptr 10 0)),.one (.fl .int),.one (.fl .int),.one (.fl .int)],objs := [.row .addr 32 false,.row .lease 105 false,.blk [.fl .bool,.fl .u64,.fl .u64,.fl .int,.cst (.row 0)] 103 false,.blk [.fl .str] 9 false,.row .lease 105 false,.blk [.fl .addr] 32 false,.row .lease 105 false,.blk [.fl .bool,.fl .u64,.fl .u64,.fl .int,.cst (.row 0),.cst (.row 6)] 182 false,.blk [.fl .addr] 32 false,.blk [.fl .lease] 105 false,.blk [.fl .lease] 105 true] },exits := [⟨some 0,{ keep := [0,2,4,8,9],vals := [.one (.cst (.row 6)),.one (.cst (.fn 130 [])),.one (.cst (.ptr 10 0)),.one (.fl .int),.one (.fl .int)],objs := [.row .addr 32 false,.row .lease 105 false,.blk [.fl .bool,.fl .u64,.fl .u64,.fl .int,.cst (.row 0)] 103 false,.blk [.fl .str] 9 false,.row .lease 105 false,.blk [.fl .addr] 32 false,.row .lease 105 false,.blk [.fl .bool,.fl .u64,.fl .u64,.fl .int,.cst (.row 0),.cst (.row 6)] 182 false,.blk [.fl .addr] 32 false,.blk [.fl .lease] 105 false,.blk [.fl .lease] 105 true] }⟩] }
def zq964 : Env := mkEnv ty fnB [(130,zq950)] [(3,(zq1084 zq962 (loopN zq961 FUEL)))]
theorem zq965 : EnvOk Tryz.prog zq964 := envOk tyOk fn_ok (zq369 zq953 zq370) _
theorem zq963 : LOk Tryz.prog (zq1158 (zq492 Tryz.f129) 0) (zq1084 zq962 (loopN zq961 FUEL)) := by
 have h : zq1088 (zq1158 (zq492 Tryz.f129) 0) = [] := by kernel_rfl
 refine zq1085 zq965 (zq1089 h lsNil) zq962 zq961 FUEL (fun rec x => ?_)
 kernel_rfl
theorem zq966 : TrOk Tryz.prog 129 (flCon zq964 Tryz.f129 [.one (.fl .int),.one (.fl .bool)]) := by
 have h : zq1088 (zq492 Tryz.f129) = [(zq1158 (zq492 Tryz.f129) 0)] := by kernel_rfl
 exact zq669 zq965 Tryz.func129 (zq352 h (zq1094 (zq1183 (t := (zq1084 zq962 (loopN zq961 FUEL))) (by kernel_rfl) zq963) lsNil)) [.one (.fl .int),.one (.fl .bool)] rfl
def zq968 : LoopS := { n := 19,base := 8,head := { keep := [0,1,7,8],vals := [.one (.cst (.row 6)),.one (.cst (.fn 127 [.ptr 3 0])),.one (.fl .int),.one (.fl .int)],objs := [.row .addr 32 false,.row .lease 105 false,.blk [.fl .bool,.fl .u64,.fl .u64,.fl .int,.cst (.row 0)] 103 true,.blk [.fl .str] 9 true,.row .lease 105 true,.blk [.fl .addr] 32 true,.row .lease 105 true,.blk [.fl .bool,.fl .u64,.fl .u64,.fl .int,.cst (.row 0),.cst (.row 6)] 182 true] },exits := [⟨none,{ keep := [4],vals := [.one (.fl .int)],objs := [.row .addr 32 false,.row .lease 105 false,.blk [.fl .bool,.fl .u64,.fl .u64,.fl .int,.cst (.row 0)] 103 true,.blk [.fl .str] 9 true,.row .lease 105 true,.blk [.fl .addr] 32 true,.row .lease 105 true,.blk [.fl .bool,.fl .u64,.fl .u64,.fl .int,.cst (.row 0),.cst (.row 6)] 182 true] }⟩,⟨some 0,{ keep := [],vals := [],objs := [.row .addr 32 false,.row .lease 105 false,.blk [.fl .bool,.fl .u64,.fl .u64,.fl .int,.cst (.row 0)] 103 true,.blk [.fl .str] 9 true,.row .lease 105 true,.blk [.fl .addr] 32 true,.row .lease 105 true,.blk [.fl .bool,.fl .u64,.fl .u64,.fl .int,.cst (.row 0),.cst (.row 6)] 182 true] }⟩] }
def zq970 : Env := mkEnv ty fnB [(127,zq945)] [(2,(zq1084 zq968 (loopN zq967 FUEL)))]
theorem zq971 : EnvOk Tryz.prog zq970 := envOk tyOk fn_ok (zq369 zq948 zq370) _
theorem zq969 : LOk Tryz.prog (zq1158 (zq492 Tryz.f125) 0) (zq1084 zq968 (loopN zq967 FUEL)) := by
 have h : zq1088 (zq1158 (zq492 Tryz.f125) 0) = [] := by kernel_rfl
 refine zq1085 zq971 (zq1089 h lsNil) zq968 zq967 FUEL (fun rec x => ?_)
 kernel_rfl
theorem zq972 : TrOk Tryz.prog 125 (zq757 zq970 Tryz.f125) := by
 have h : zq1088 (zq492 Tryz.f125) = [(zq1158 (zq492 Tryz.f125) 0)] := by kernel_rfl
 exact zq758 zq971 Tryz.func125 (zq352 h (zq1094 (zq1183 (t := (zq1084 zq968 (loopN zq967 FUEL))) (by kernel_rfl) zq969) lsNil))
def zq956 : Env := mkEnv ty fnB [(97,zq921),(128,zq172),(129,(flCon zq964 Tryz.f129 [.one (.fl .int),.one (.fl .bool)])),(131,zq1620),(125,(zq757 zq970 Tryz.f125))] []
theorem zq957 : EnvOk Tryz.prog zq956 := envOk tyOk fn_ok (zq369 zq925 (zq369 zq173 (zq369 zq966 (zq369 zq1621 (zq369 zq972 zq370))))) _
def zq955 : Con := con [.agg [.fl .pfx,.row .addr 32],.one (.row .lease 105),.one (.fl .str),.one (.fl .int),.one (.fl .int)] [.one (.row .lease 105),.one (.fl .addr),.one (.fl .bool)] (fun x => zq973 x.1.1 x.1.2.1 x.2.1 x.2.2.1 x.2.2.2.1 x.2.2.2.2.1)
theorem zq959 : TrOk Tryz.prog 111 zq955 := by
 have h : zq1088 (zq492 Tryz.f111) = [] := by kernel_rfl
 refine zq494 zq957 Tryz.func111 (zq352 h lsNil) _ _ _ (fun x => ?_)
 kernel_rfl
def zq1694 : LoopS := { n := 49,base := 17,head := { keep := [0,2,4,8,9,10],vals := [.one (.cst (.row 11)),.one (.cst (.fn 102 [])),.one (.cst (.ptr 17 0)),.one (.fl .int),.one (.fl .int),.one (.fl .int)],objs := [.bag .addr 32 false false,.nest .pfx 0 103 false,.row .lease 105 false,.blk [.cst (.row 1),.cst (.row 2),.fl .int] 61 false,.blk [.fl .op] 36 false,.blk [.cst (.row 7),.cst (.row 8),.fl .int] 61 false,.bag .addr 32 false false,.nest .pfx 6 103 false,.row .lease 105 false,.blk [.fl .addr] 32 false,.bag .addr 32 false false,.nest .pfx 10 103 false,.row .lease 105 false,.blk [.cst (.row 11),.cst (.row 12),.fl .int] 141 false,.blk [.fl .op] 36 false,.blk [.fl .addr] 32 false,.blk [.fl .pfx] 34 false,.blk [.fl .pfx] 34 true] },exits := [⟨some 0,{ keep := [0,2,4,8,9],vals := [.one (.cst (.row 11)),.one (.cst (.fn 102 [])),.one (.cst (.ptr 17 0)),.one (.fl .int),.one (.fl .int)],objs := [.bag .addr 32 false false,.nest .pfx 0 103 false,.row .lease 105 false,.blk [.cst (.row 1),.cst (.row 2),.fl .int] 61 false,.blk [.fl .op] 36 false,.blk [.cst (.row 7),.cst (.row 8),.fl .int] 61 false,.bag .addr 32 false false,.nest .pfx 6 103 false,.row .lease 105 false,.blk [.fl .addr] 32 false,.bag .addr 32 false false,.nest .pfx 10 103 false,.row .lease 105 false,.blk [.cst (.row 11),.cst (.row 12),.fl .int] 141 false,.blk [.fl .op] 36 false,.blk [.fl .addr] 32 false,.blk [.fl .pfx] 34 false,.blk [.fl .pfx] 34 true] }⟩] }
def zq1696 : Env := mkEnv ty fnB [(102,zq215)] [(3,(zq1084 zq1694 (loopN zq1693 FUEL)))]
theorem zq1697 : EnvOk Tryz.prog zq1696 := envOk tyOk fn_ok (zq369 zq218 zq370) _
theorem zq1695 : LOk Tryz.prog (zq1158 (zq492 Tryz.f101) 0) (zq1084 zq1694 (loopN zq1693 FUEL)) := by
 have h : zq1088 (zq1158 (zq492 Tryz.f101) 0) = [] := by kernel_rfl
 refine zq1085 zq1697 (zq1089 h lsNil) zq1694 zq1693 FUEL (fun rec x => ?_)
 kernel_rfl
theorem zq1698 : TrOk Tryz.prog 101 (flCon zq1696 Tryz.f101 [.one (.fl .int),.one (.fl .bool)]) := by
 have h : zq1088 (zq492 Tryz.f101) = [(zq1158 (zq492 Tryz.f101) 0)] := by kernel_rfl
 exact zq669 zq1697 Tryz.func101 (zq352 h (zq1094 (zq1183 (t := (zq1084 zq1694 (loopN zq1693 FUEL))) (by kernel_rfl) zq1695) lsNil)) [.one (.fl .int),.one (.fl .bool)] rfl
def zq1703 : LoopS := { n := 19,base := 17,head := { keep := [0,1,7,8],vals := [.one (.cst (.row 11)),.one (.cst (.fn 99 [.ptr 16 0])),.one (.fl .int),.one (.fl .int)],objs := [.bag .addr 32 false false,.nest .pfx 0 103 false,.row .lease 105 false,.blk [.cst (.row 1),.cst (.row 2),.fl .int] 61 true,.blk [.fl .op] 36 true,.blk [.cst (.row 7),.cst (.row 8),.fl .int] 61 true,.bag .addr 32 true true,.nest .pfx 6 103 true,.row .lease 105 true,.blk [.fl .addr] 32 true,.bag .addr 32 true true,.nest .pfx 10 103 true,.row .lease 105 true,.blk [.cst (.row 11),.cst (.row 12),.fl .int] 141 true,.blk [.fl .op] 36 true,.blk [.fl .addr] 32 true,.blk [.fl .pfx] 34 true] },exits := [⟨none,{ keep := [4],vals := [.one (.fl .int)],objs := [.bag .addr 32 false false,.nest .pfx 0 103 false,.row .lease 105 false,.blk [.cst (.row 1),.cst (.row 2),.fl .int] 61 true,.blk [.fl .op] 36 true,.blk [.cst (.row 7),.cst (.row 8),.fl .int] 61 true,.bag .addr 32 true true,.nest .pfx 6 103 true,.row .lease 105 true,.blk [.fl .addr] 32 true,.bag .addr 32 true true,.nest .pfx 10 103 true,.row .lease 105 true,.blk [.cst (.row 11),.cst (.row 12),.fl .int] 141 true,.blk [.fl .op] 36 true,.blk [.fl .addr] 32 true,.blk [.fl .pfx] 34 true] }⟩,⟨some 0,{ keep := [],vals := [],objs := [.bag .addr 32 false false,.nest .pfx 0 103 false,.row .lease 105 false,.blk [.cst (.row 1),.cst (.row 2),.fl .int] 61 true,.blk [.fl .op] 36 true,.blk [.cst (.row 7),.cst (.row 8),.fl .int] 61 true,.bag .addr 32 true true,.nest .pfx 6 103 true,.row .lease 105 true,.blk [.fl .addr] 32 true,.bag .addr 32 true true,.nest .pfx 10 103 true,.row .lease 105 true,.blk [.cst (.row 11),.cst (.row 12),.fl .int] 141 true,.blk [.fl .op] 36 true,.blk [.fl .addr] 32 true,.blk [.fl .pfx] 34 true] }⟩] }
def zq1705 : Env := mkEnv ty fnB [(99,zq210)] [(2,(zq1084 zq1703 (loopN zq1702 FUEL)))]
theorem zq1706 : EnvOk Tryz.prog zq1705 := envOk tyOk fn_ok (zq369 zq213 zq370) _
theorem zq1704 : LOk Tryz.prog (zq1158 (zq492 Tryz.f117) 0) (zq1084 zq1703 (loopN zq1702 FUEL)) := by
 have h : zq1088 (zq1158 (zq492 Tryz.f117) 0) = [] := by kernel_rfl
 refine zq1085 zq1706 (zq1089 h lsNil) zq1703 zq1702 FUEL (fun rec x => ?_)
 kernel_rfl
theorem zq1707 : TrOk Tryz.prog 117 (zq757 zq1705 Tryz.f117) := by
 have h : zq1088 (zq492 Tryz.f117) = [(zq1158 (zq492 Tryz.f117) 0)] := by kernel_rfl
 exact zq758 zq1706 Tryz.func117 (zq352 h (zq1094 (zq1183 (t := (zq1084 zq1703 (loopN zq1702 FUEL))) (by kernel_rfl) zq1704) lsNil))
def zq1699 : Env := mkEnv ty fnB [(117,(zq757 zq1705 Tryz.f117))] []
theorem zq1700 : EnvOk Tryz.prog zq1699 := envOk tyOk fn_ok (zq369 zq1707 zq370) _
theorem zq1701 : TrOk Tryz.prog 98 (zq757 zq1699 Tryz.f98) := by
 have h : zq1088 (zq492 Tryz.f98) = [] := by kernel_rfl
 exact zq758 zq1700 Tryz.func98 (zq352 h lsNil)
def zq1689 : Env := mkEnv ty fnB [(101,(flCon zq1696 Tryz.f101 [.one (.fl .int),.one (.fl .bool)])),(104,zq1622),(98,(zq757 zq1699 Tryz.f98))] []
theorem zq1690 : EnvOk Tryz.prog zq1689 := envOk tyOk fn_ok (zq369 zq1698 (zq369 zq1623 (zq369 zq1701 zq370))) _
theorem zq1691 : TrOk Tryz.prog 93 (zq757 zq1689 Tryz.f93) := by
 have h : zq1088 (zq492 Tryz.f93) = [] := by kernel_rfl
 exact zq758 zq1690 Tryz.func93 (zq352 h lsNil)
def zq1684 : LoopS := { n := 49,base := 17,head := { keep := [0,2,4,8,9,10],vals := [.one (.inn 10),.one (.cst (.fn 107 [])),.one (.cst (.ptr 17 0)),.one (.fl .int),.one (.fl .int),.one (.fl .int)],objs := [.bag .addr 32 false false,.nest .pfx 0 103 false,.row .lease 105 false,.blk [.cst (.row 1),.cst (.row 2),.fl .int] 61 false,.blk [.fl .op] 36 false,.blk [.cst (.row 7),.cst (.row 8),.fl .int] 61 false,.bag .addr 32 false false,.nest .pfx 6 103 false,.row .lease 105 false,.blk [.fl .addr] 32 false,.bag .addr 32 false false,.nest .pfx 10 103 false,.row .lease 105 false,.blk [.cst (.row 11),.cst (.row 12),.fl .int] 141 false,.blk [.fl .op] 36 false,.blk [.fl .addr] 32 false,.blk [.fl .addr] 32 false,.blk [.fl .addr] 32 true] },exits := [⟨some 0,{ keep := [0,2,4,8,9],vals := [.one (.inn 10),.one (.cst (.fn 107 [])),.one (.cst (.ptr 17 0)),.one (.fl .int),.one (.fl .int)],objs := [.bag .addr 32 false false,.nest .pfx 0 103 false,.row .lease 105 false,.blk [.cst (.row 1),.cst (.row 2),.fl .int] 61 false,.blk [.fl .op] 36 false,.blk [.cst (.row 7),.cst (.row 8),.fl .int] 61 false,.bag .addr 32 false false,.nest .pfx 6 103 false,.row .lease 105 false,.blk [.fl .addr] 32 false,.bag .addr 32 false false,.nest .pfx 10 103 false,.row .lease 105 false,.blk [.cst (.row 11),.cst (.row 12),.fl .int] 141 false,.blk [.fl .op] 36 false,.blk [.fl .addr] 32 false,.blk [.fl .addr] 32 false,.blk [.fl .addr] 32 true] }⟩] }
def zq1686 : Env := mkEnv ty fnB [(107,zq257)] [(3,(zq1084 zq1684 (loopN zq1683 FUEL)))]
theorem zq1687 : EnvOk Tryz.prog zq1686 := envOk tyOk fn_ok (zq369 zq261 zq370) _
theorem zq1685 : LOk Tryz.prog (zq1158 (zq492 Tryz.f106) 0) (zq1084 zq1684 (loopN zq1683 FUEL)) := by
 have h : zq1088 (zq1158 (zq492 Tryz.f106) 0) = [] := by kernel_rfl
 refine zq1085 zq1687 (zq1089 h lsNil) zq1684 zq1683 FUEL (fun rec x => ?_)
 kernel_rfl
theorem zq1688 : TrOk Tryz.prog 106 (flCon zq1686 Tryz.f106 [.one (.fl .int),.one (.fl .bool)]) := by
 have h : zq1088 (zq492 Tryz.f106) = [(zq1158 (zq492 Tryz.f106) 0)] := by kernel_rfl
 exact zq669 zq1687 Tryz.func106 (zq352 h (zq1094 (zq1183 (t := (zq1084 zq1684 (loopN zq1683 FUEL))) (by kernel_rfl) zq1685) lsNil)) [.one (.fl .int),.one (.fl .bool)] rfl
def zq1680 : Env := mkEnv ty fnB [(105,zq1729),(106,(flCon zq1686 Tryz.f106 [.one (.fl .int),.one (.fl .bool)])),(108,zq1618)] []
theorem zq1681 : EnvOk Tryz.prog zq1680 := envOk tyOk fn_ok (zq369 zq1733 (zq369 zq1688 (zq369 zq1619 zq370))) _
theorem zq1682 : TrOk Tryz.prog 94 (zq757 zq1680 Tryz.f94) := by
 have h : zq1088 (zq492 Tryz.f94) = [] := by kernel_rfl
 exact zq758 zq1681 Tryz.func94 (zq352 h lsNil)
def zq1675 : LoopS := { n := 121,base := 16,head := { keep := [0,1,3,8,10,12,13,61,62,63],vals := [.one (.cst (.ptr 13 0)),.one (.fl .str),.one (.fl .int),.one (.cst (.ptr 16 0)),.one (.cst (.ptr 17 0)),.one (.cst (.row 18)),.one (.cst (.row 19)),.one (.cst (.row 12)),.one (.fl .int),.one (.fl .int)],objs := [.bag .addr 32 false false,.nest .pfx 0 103 false,.row .lease 105 false,.blk [.cst (.row 1),.cst (.row 2),.fl .int] 61 true,.blk [.fl .op] 36 true,.blk [.cst (.row 7),.cst (.row 8),.fl .int] 61 true,.bag .addr 32 true true,.nest .pfx 6 103 true,.row .lease 105 true,.blk [.fl .addr] 32 true,.bag .addr 32 true true,.nest .pfx 10 103 true,.row .lease 105 true,.blk [.cst (.row 11),.cst (.row 12),.fl .int] 141 true,.blk [.fl .op] 36 true,.blk [.fl .addr] 32 true,.blk [.fl .addr] 32 true,.blk [.fl .bool,.fl .u64,.fl .u64,.fl .int,.inn 10] 103 true,.row .lease 105 true,.row .lease 105 true] },exits := [⟨some 0,{ keep := [0,1,3,8,10,12,13],vals := [.one (.cst (.ptr 13 0)),.one (.fl .str),.one (.fl .int),.one (.cst (.ptr 16 0)),.one (.cst (.ptr 17 0)),.one (.cst (.row 18)),.one (.cst (.row 19))],objs := [.bag .addr 32 false false,.nest .pfx 0 103 false,.row .lease 105 false,.blk [.cst (.row 1),.cst (.row 2),.fl .int] 61 true,.blk [.fl .op] 36 true,.blk [.cst (.row 7),.cst (.row 8),.fl .int] 61 true,.bag .addr 32 true true,.nest .pfx 6 103 true,.row .lease 105 true,.blk [.fl .addr] 32 true,.bag .addr 32 true true,.nest .pfx 10 103 true,.row .lease 105 true,.blk [.cst (.row 11),.cst (.row 12),.fl .int] 141 true,.blk [.fl .op] 36 true,.blk [.fl .addr] 32 true,.blk [.fl .addr] 32 true,.blk [.fl .bool,.fl .u64,.fl .u64,.fl .int,.inn 10] 103 true,.row .lease 105 true,.row .lease 105 true] }⟩] }
def zq1677 : Env := mkEnv ty fnB [(109,zq199),(110,zq1321),(111,zq955),(112,zq1624)] [(9,(zq1084 zq1675 (loopN zq1674 FUEL)))]
theorem zq1678 : EnvOk Tryz.prog zq1677 := envOk tyOk fn_ok (zq369 zq202 (zq369 zq1325 (zq369 zq959 (zq369 zq1625 zq370)))) _
theorem zq1676 : LOk Tryz.prog (zq1158 (zq492 Tryz.f95) 0) (zq1084 zq1675 (loopN zq1674 FUEL)) := by
 have h : zq1088 (zq1158 (zq492 Tryz.f95) 0) = [] := by kernel_rfl
 refine zq1085 zq1678 (zq1089 h lsNil) zq1675 zq1674 FUEL (fun rec x => ?_)
 kernel_rfl
theorem zq1679 : TrOk Tryz.prog 95 (zq757 zq1677 Tryz.f95) := by
 have h : zq1088 (zq492 Tryz.f95) = [(zq1158 (zq492 Tryz.f95) 0)] := by kernel_rfl
 exact zq758 zq1678 Tryz.func95 (zq352 h (zq1094 (zq1183 (t := (zq1084 zq1675 (loopN zq1674 FUEL))) (by kernel_rfl) zq1676) lsNil))
def zq1671 : Env := mkEnv ty fnB [(109,zq199),(114,zq1606)] []
theorem zq1672 : EnvOk Tryz.prog zq1671 := envOk tyOk fn_ok (zq369 zq202 (zq369 zq1607 zq370)) _
theorem zq1673 : TrOk Tryz.prog 96 (zq757 zq1671 Tryz.f96) := by
 have h : zq1088 (zq492 Tryz.f96) = [] := by kernel_rfl
 exact zq758 zq1672 Tryz.func96 (zq352 h lsNil)
def zq1708 : Env := mkEnv ty fnB [(93,(zq757 zq1689 Tryz.f93)),(94,(zq757 zq1680 Tryz.f94)),(95,(zq757 zq1677 Tryz.f95)),(96,(zq757 zq1671 Tryz.f96)),(97,zq921)] []
theorem zq1709 : EnvOk Tryz.prog zq1708 := envOk tyOk fn_ok (zq369 zq1691 (zq369 zq1682 (zq369 zq1679 (zq369 zq1673 (zq369 zq925 zq370))))) _
theorem zq1710 : TrOk Tryz.prog 89 (zq757 zq1708 Tryz.f89) := by
 have h : zq1088 (zq492 Tryz.f89) = [] := by kernel_rfl
 exact zq758 zq1709 Tryz.func89 (zq352 h lsNil)
def zq1712 : Env := mkEnv ty fnB [(60,zq1656),(88,zq1665),(89,(zq757 zq1708 Tryz.f89))] []
theorem zq1713 : EnvOk Tryz.prog zq1712 := envOk tyOk fn_ok (zq369 zq1660 (zq369 zq1669 (zq369 zq1710 zq370))) _
def zq1711 : Con := con [.agg [.nest .pfx .addr 103 32 true,.row .lease 105,.fl .int],.one (.fl .op)] [.agg [.nest .pfx .addr 103 32 true,.row .lease 105,.fl .int],.one (.fl .addr),.one (.fl .int)] (fun x => zq1716 x.1.1 x.1.2.1 x.1.2.2.1 x.2.1)
theorem zq1715 : TrOk Tryz.prog 82 zq1711 := by
 have h : zq1088 (zq492 Tryz.f82) = [] := by kernel_rfl
 refine zq494 zq1713 Tryz.func82 (zq352 h lsNil) _ _ _ (fun x => ?_)
 kernel_rfl
def zq1019 : Env := mkEnv ty fnB [(82,zq1711)] []
theorem zq1020 : EnvOk Tryz.prog zq1019 := envOk tyOk fn_ok (zq369 zq1715 zq370) _
theorem zq1021 : TrOk Tryz.prog 67 (zq757 zq1019 Tryz.f67) := by
 have h : zq1088 (zq492 Tryz.f67) = [] := by kernel_rfl
 exact zq758 zq1020 Tryz.func67 (zq352 h lsNil)
def zq1017 : LoopS := { n := 27,base := 1,head := { keep := [2,4,9,10,11],vals := [.one (.cst (.ptr 1 0)),.one (.cst (.ptr 2 0)),.one (.cst (.row 0)),.one (.fl .int),.one (.fl .int)],objs := [.row .entry 100 false,.blk [.cst (.row 3),.cst (.row 4),.fl .int] 61 true,.blk [.cst (.row 5),.cst (.row 6),.fl .int,.cst (.row 7)] 122 true,.nest .pfx 8 103 true,.row .lease 105 true,.nest .pfx 9 103 true,.row .lease 105 true,.row .addr 32 true,.bag .addr 32 true true,.bag .addr 32 true true] },exits := [⟨some 0,{ keep := [2,4],vals := [.one (.cst (.ptr 1 0)),.one (.cst (.ptr 2 0))],objs := [.row .entry 100 false,.blk [.cst (.row 3),.cst (.row 4),.fl .int] 61 true,.blk [.cst (.row 5),.cst (.row 6),.fl .int,.cst (.row 7)] 122 true,.nest .pfx 8 103 true,.row .lease 105 true,.nest .pfx 9 103 true,.row .lease 105 true,.row .addr 32 true,.bag .addr 32 true true,.bag .addr 32 true true] }⟩] }
def zq1023 : Env := mkEnv ty fnB [(67,(zq757 zq1019 Tryz.f67))] [(3,(zq1084 zq1017 (loopN zq1016 FUEL)))]
theorem zq1024 : EnvOk Tryz.prog zq1023 := envOk tyOk fn_ok (zq369 zq1021 zq370) _
theorem zq1018 : LOk Tryz.prog (zq1158 (zq492 Tryz.f50) 0) (zq1084 zq1017 (loopN zq1016 FUEL)) := by
 have h : zq1088 (zq1158 (zq492 Tryz.f50) 0) = [] := by kernel_rfl
 refine zq1085 zq1024 (zq1089 h lsNil) zq1017 zq1016 FUEL (fun rec x => ?_)
 kernel_rfl
def zq1022 : Con := con [.one (.row .entry 100)] [.agg [.nest .pfx .addr 103 32 true,.row .lease 105,.fl .int],.one (.row .addr 32)] (fun x => zq1027 x.1)
theorem zq1026 : TrOk Tryz.prog 50 zq1022 := by
 have h : zq1088 (zq492 Tryz.f50) = [(zq1158 (zq492 Tryz.f50) 0)] := by kernel_rfl
 refine zq494 zq1024 Tryz.func50 (zq352 h (zq1094 (zq1183 (t := (zq1084 zq1017 (loopN zq1016 FUEL))) (by kernel_rfl) zq1018) lsNil)) _ _ _ (fun x => ?_)
 kernel_rfl
def zq467 : Env := mkEnv ty fnB [(26,zq427),(54,zq484),(50,zq1022)] []
theorem zq468 : EnvOk Tryz.prog zq467 := envOk tyOk fn_ok (zq369 zq431 (zq369 zq488 (zq369 zq1026 zq370))) _
def zq466 : Con := con [.agg [.fl .int,.fl .int,.fl .int,.fl .int,.row .entry 100,.nest .int .entry 41 100 true],.one (.fl .int)] [.agg [.nest .pfx .addr 103 32 true,.row .lease 105,.fl .int],.one (.fl .int)] (fun x => zq471 x.1.1 x.1.2.1 x.1.2.2.1 x.1.2.2.2.1 x.1.2.2.2.2.1 x.1.2.2.2.2.2.1 x.2.1)
theorem zq470 : TrOk Tryz.prog 25 zq466 := by
 have h : zq1088 (zq492 Tryz.f25) = [] := by kernel_rfl
 refine zq494 zq468 Tryz.func25 (zq352 h lsNil) _ _ _ (fun x => ?_)
 kernel_rfl
def zq854 : Env := mkEnv ty fnB [(24,zq868),(20,zq460),(25,zq466),(27,zq452),(26,zq427)] []
theorem zq855 : EnvOk Tryz.prog zq854 := envOk tyOk fn_ok (zq369 zq871 (zq369 zq464 (zq369 zq470 (zq369 zq455 (zq369 zq431 zq370))))) _
def zq853 : Con := con [] [.one (.fl .bool)] (fun x => zq857)
theorem zq856 : TrOk Tryz.prog 4 zq853 := by
 have h : zq1088 (zq492 Tryz.f4) = [] := by kernel_rfl
 refine zq494 zq855 Tryz.func4 (zq352 h lsNil) _ _ _ (fun x => ?_)
 kernel_rfl
def zq1560 : Env := mkEnv ty fnB [(68,zq1608)] []
theorem zq1561 : EnvOk Tryz.prog zq1560 := envOk tyOk fn_ok (zq369 zq1609 zq370) _
def zq1563 : Env := mkEnv ty fnB [(68,zq1608)] []
theorem zq1564 : EnvOk Tryz.prog zq1563 := envOk tyOk fn_ok (zq369 zq1609 zq370) _
def zq1566 : Env := mkEnv ty fnB [(68,zq1608)] [(3,(zq1791 zq1563 (zq1158 (zq492 Tryz.f52) 0) 16)),(11,(zq1791 zq1560 (zq1158 (zq492 Tryz.f52) 1) 16))]
theorem zq1567 : EnvOk Tryz.prog zq1566 := envOk tyOk fn_ok (zq369 zq1609 zq370) _
theorem zq1562 : LOk Tryz.prog (zq1158 (zq492 Tryz.f52) 1) (zq1791 zq1560 (zq1158 (zq492 Tryz.f52) 1) 16) := by
 have h : zq1088 (zq1158 (zq492 Tryz.f52) 1) = [] := by kernel_rfl
 exact zq1792 zq1561 (zq1089 h lsNil) 16
theorem zq1565 : LOk Tryz.prog (zq1158 (zq492 Tryz.f52) 0) (zq1791 zq1563 (zq1158 (zq492 Tryz.f52) 0) 16) := by
 have h : zq1088 (zq1158 (zq492 Tryz.f52) 0) = [] := by kernel_rfl
 exact zq1792 zq1564 (zq1089 h lsNil) 16
theorem zq1568 : TrOk Tryz.prog 52 (zq757 zq1566 Tryz.f52) := by
 have h : zq1088 (zq492 Tryz.f52) = [(zq1158 (zq492 Tryz.f52) 0),(zq1158 (zq492 Tryz.f52) 1)] := by kernel_rfl
 exact zq758 zq1567 Tryz.func52 (zq352 h (zq1094 (zq1183 (t := (zq1791 zq1563 (zq1158 (zq492 Tryz.f52) 0) 16)) (by kernel_rfl) zq1565) (zq1094 (zq1183 (t := (zq1791 zq1560 (zq1158 (zq492 Tryz.f52) 1) 16)) (by kernel_rfl) zq1562) lsNil)))
def zq1556 : Env := mkEnv ty fnB [(33,zq1040),(52,(zq757 zq1566 Tryz.f52))] []
theorem zq1557 : EnvOk Tryz.prog zq1556 := envOk tyOk fn_ok (zq369 zq1044 (zq369 zq1568 zq370)) _
def zq1555 : Con := con [.one (.row .entry 100),.one (.row .entry 100)] [.one (.row .entry 100),.one (.fl .int)] (fun x => zq1569 x.1 x.2.1)
theorem zq1559 : TrOk Tryz.prog 19 zq1555 := by
 have h : zq1088 (zq492 Tryz.f19) = [] := by kernel_rfl
 refine zq494 zq1557 Tryz.func19 (zq352 h lsNil) _ _ _ (fun x => ?_)
 kernel_rfl
def zq889 : Env := mkEnv ty fnB [(30,zq863),(18,zq1549),(19,zq1555),(31,zq142)] []
theorem zq890 : EnvOk Tryz.prog zq889 := envOk tyOk fn_ok (zq369 zq866 (zq369 zq1553 (zq369 zq1559 (zq369 zq146 zq370)))) _
def zq888 : Con := con [] [.one (.fl .bool)] (fun x => zq892)
theorem zq891 : TrOk Tryz.prog 6 zq888 := by
 have h : zq1088 (zq492 Tryz.f6) = [] := by kernel_rfl
 refine zq494 zq890 Tryz.func6 (zq352 h lsNil) _ _ _ (fun x => ?_)
 kernel_rfl
def zq1070 : Env := mkEnv ty fnB [(33,zq1040),(50,zq1022)] []
theorem zq1071 : EnvOk Tryz.prog zq1070 := envOk tyOk fn_ok (zq369 zq1044 (zq369 zq1026 zq370)) _
def zq1069 : Con := con [.one (.row .entry 100)] [.agg [.nest .pfx .addr 103 32 true,.row .lease 105,.fl .int],.one (.row .addr 32),.one (.fl .int)] (fun x => zq1074 x.1)
theorem zq1073 : TrOk Tryz.prog 17 zq1069 := by
 have h : zq1088 (zq492 Tryz.f17) = [] := by kernel_rfl
 refine zq494 zq1071 Tryz.func17 (zq352 h lsNil) _ _ _ (fun x => ?_)
 kernel_rfl
def zq879 : Env := mkEnv ty fnB [(30,zq863),(15,zq893),(16,zq1010),(17,zq1069),(32,zq1031),(33,zq1040),(34,zq905)] []
theorem zq880 : EnvOk Tryz.prog zq879 := envOk tyOk fn_ok (zq369 zq866 (zq369 zq896 (zq369 zq1014 (zq369 zq1073 (zq369 zq1035 (zq369 zq1044 (zq369 zq908 zq370))))))) _
def zq878 : Con := con [] [.one (.fl .bool)] (fun x => zq882)
theorem zq881 : TrOk Tryz.prog 7 zq878 := by
 have h : zq1088 (zq492 Tryz.f7) = [] := by kernel_rfl
 refine zq494 zq880 Tryz.func7 (zq352 h lsNil) _ _ _ (fun x => ?_)
 kernel_rfl
def zq833 : LoopS := { n := 13,base := 33,head := { keep := [0,2],vals := [.one (.inn 30),.one (.fl .int)],objs := [.row .entry 100 false,.bag .entry 100 false false,.nest .int 1 41 false,.blk [.fl .int,.fl .int,.fl .int,.fl .int,.cst (.row 0),.cst (.row 2)] 29 true,.blk [.fl .event] 38 true,.blk [.fl .int,.fl .int,.fl .int,.fl .int,.cst (.row 16),.cst (.row 17)] 29 true,.blk [.fl .int,.fl .int,.fl .int,.fl .int,.cst (.row 18),.cst (.row 19)] 29 true,.blk [.fl .int,.fl .int,.fl .int,.fl .int,.cst (.row 20),.cst (.row 21)] 29 true,.blk [.fl .int,.fl .int,.fl .int,.cst (.row 22)] 26 true,.blk [.fl .int,.fl .int,.fl .int,.cst (.row 23)] 26 true,.row .entry 100 true,.blk [.cst (.row 24),.cst (.row 25),.fl .int] 61 true,.row .entry 100 true,.row .entry 100 true,.blk [.fl .int,.fl .int,.fl .int,.fl .int,.cst (.row 26),.cst (.row 27)] 29 true,.row .bool 4 true,.row .entry 100 false,.nest .int 28 41 true,.row .entry 100 false,.nest .int 29 41 false,.row .entry 100 true,.nest .int 30 41 true,.row .entry 100 true,.row .entry 100 true,.nest .pfx 31 103 true,.row .lease 105 true,.row .entry 100 true,.nest .int 32 41 true,.bag .entry 100 true true,.bag .entry 100 false false,.bag .entry 100 true true,.bag .addr 32 true true,.bag .entry 100 true true] },exits := [⟨some 0,{ keep := [],vals := [],objs := [.row .entry 100 false,.bag .entry 100 false false,.nest .int 1 41 false,.blk [.fl .int,.fl .int,.fl .int,.fl .int,.cst (.row 0),.cst (.row 2)] 29 true,.blk [.fl .event] 38 true,.blk [.fl .int,.fl .int,.fl .int,.fl .int,.cst (.row 16),.cst (.row 17)] 29 true,.blk [.fl .int,.fl .int,.fl .int,.fl .int,.cst (.row 18),.cst (.row 19)] 29 true,.blk [.fl .int,.fl .int,.fl .int,.fl .int,.cst (.row 20),.cst (.row 21)] 29 true,.blk [.fl .int,.fl .int,.fl .int,.cst (.row 22)] 26 true,.blk [.fl .int,.fl .int,.fl .int,.cst (.row 23)] 26 true,.row .entry 100 true,.blk [.cst (.row 24),.cst (.row 25),.fl .int] 61 true,.row .entry 100 true,.row .entry 100 true,.blk [.fl .int,.fl .int,.fl .int,.fl .int,.cst (.row 26),.cst (.row 27)] 29 true,.row .bool 4 true,.row .entry 100 false,.nest .int 28 41 true,.row .entry 100 false,.nest .int 29 41 false,.row .entry 100 true,.nest .int 30 41 true,.row .entry 100 true,.row .entry 100 true,.nest .pfx 31 103 true,.row .lease 105 true,.row .entry 100 true,.nest .int 32 41 true,.bag .entry 100 true true,.bag .entry 100 false false,.bag .entry 100 true true,.bag .addr 32 true true,.bag .entry 100 true true] }⟩] }
def zq835 : Env := mkEnv (lendT ty [24]) fnB [] [(1,(zq1084 zq833 (loopN zq832 FUEL)))]
theorem zq836 : EnvOk Tryz.prog zq835 := envOk (tyOk.lend [24]) fn_ok zq370 _
theorem zq834 : LOk Tryz.prog (zq1158 (zq492 Tryz.f22) 0) (zq1084 zq833 (loopN zq832 FUEL)) := by
 have h : zq1088 (zq1158 (zq492 Tryz.f22) 0) = [] := by kernel_rfl
 refine zq1085 zq836 (zq1089 h lsNil) zq833 zq832 FUEL (fun rec x => ?_)
 kernel_rfl
theorem zq837 : TrOk Tryz.prog 22 (zq757 zq835 Tryz.f22) := by
 have h : zq1088 (zq492 Tryz.f22) = [(zq1158 (zq492 Tryz.f22) 0)] := by kernel_rfl
 exact zq758 zq836 Tryz.func22 (zq352 h (zq1094 (zq1183 (t := (zq1084 zq833 (loopN zq832 FUEL))) (by kernel_rfl) zq834) lsNil))
def zq845 : LoopS := { n := 50,base := 29,head := { keep := [1,2,3],vals := [.one (.cst (.ptr 29 0)),.one (.fl .int),.one (.fl .int)],objs := [.row .entry 100 false,.bag .entry 100 false false,.nest .int 1 41 false,.blk [.fl .int,.fl .int,.fl .int,.fl .int,.cst (.row 0),.cst (.row 2)] 29 true,.blk [.fl .event] 38 true,.blk [.fl .int,.fl .int,.fl .int,.fl .int,.cst (.row 15),.cst (.row 16)] 29 true,.blk [.fl .int,.fl .int,.fl .int,.fl .int,.cst (.row 17),.cst (.row 18)] 29 true,.blk [.fl .int,.fl .int,.fl .int,.cst (.row 19)] 26 true,.blk [.fl .int,.fl .int,.fl .int,.cst (.row 20)] 26 true,.row .entry 100 true,.blk [.cst (.row 21),.cst (.row 22),.fl .int] 61 true,.row .entry 100 true,.row .entry 100 true,.blk [.fl .int,.fl .int,.fl .int,.fl .int,.cst (.row 23),.cst (.row 24)] 29 true,.row .bool 4 true,.row .entry 100 false,.nest .int 25 41 true,.row .entry 100 false,.nest .int 26 41 false,.row .entry 100 true,.row .entry 100 true,.nest .pfx 27 103 true,.row .lease 105 true,.row .entry 100 true,.nest .int 28 41 true,.bag .entry 100 true true,.bag .entry 100 false false,.bag .addr 32 true true,.bag .entry 100 true true,.blk [.cst (.row 21),.cst (.row 22),.fl .int] 61 true] },exits := [⟨some 2,{ keep := [1,2],vals := [.one (.cst (.ptr 29 0)),.one (.fl .int)],objs := [.row .entry 100 false,.bag .entry 100 false false,.nest .int 1 41 false,.blk [.fl .int,.fl .int,.fl .int,.fl .int,.cst (.row 0),.cst (.row 2)] 29 true,.blk [.fl .event] 38 true,.blk [.fl .int,.fl .int,.fl .int,.fl .int,.cst (.row 15),.cst (.row 16)] 29 true,.blk [.fl .int,.fl .int,.fl .int,.fl .int,.cst (.row 17),.cst (.row 18)] 29 true,.blk [.fl .int,.fl .int,.fl .int,.cst (.row 19)] 26 true,.blk [.fl .int,.fl .int,.fl .int,.cst (.row 20)] 26 true,.row .entry 100 true,.blk [.cst (.row 21),.cst (.row 22),.fl .int] 61 true,.row .entry 100 true,.row .entry 100 true,.blk [.fl .int,.fl .int,.fl .int,.fl .int,.cst (.row 23),.cst (.row 24)] 29 true,.row .bool 4 true,.row .entry 100 false,.nest .int 25 41 true,.row .entry 100 false,.nest .int 26 41 false,.row .entry 100 true,.row .entry 100 true,.nest .pfx 27 103 true,.row .lease 105 true,.row .entry 100 true,.nest .int 28 41 true,.bag .entry 100 true true,.bag .entry 100 false false,.bag .addr 32 true true,.bag .entry 100 true true,.blk [.cst (.row 21),.cst (.row 22),.fl .int] 61 true] }⟩] }
def zq842 : LoopS := { n := 50,base := 29,head := { keep := [1,2],vals := [.one (.cst (.ptr 29 0)),.one (.fl .int)],objs := [.row .entry 100 false,.bag .entry 100 false false,.nest .int 1 41 false,.blk [.fl .int,.fl .int,.fl .int,.fl .int,.cst (.row 0),.cst (.row 2)] 29 true,.blk [.fl .event] 38 true,.blk [.fl .int,.fl .int,.fl .int,.fl .int,.cst (.row 15),.cst (.row 16)] 29 true,.blk [.fl .int,.fl .int,.fl .int,.fl .int,.cst (.row 17),.cst (.row 18)] 29 true,.blk [.fl .int,.fl .int,.fl .int,.cst (.row 19)] 26 true,.blk [.fl .int,.fl .int,.fl .int,.cst (.row 20)] 26 true,.row .entry 100 true,.blk [.cst (.row 21),.cst (.row 22),.fl .int] 61 true,.row .entry 100 true,.row .entry 100 true,.blk [.fl .int,.fl .int,.fl .int,.fl .int,.cst (.row 23),.cst (.row 24)] 29 true,.row .bool 4 true,.row .entry 100 false,.nest .int 25 41 true,.row .entry 100 false,.nest .int 26 41 false,.row .entry 100 true,.row .entry 100 true,.nest .pfx 27 103 true,.row .lease 105 true,.row .entry 100 true,.nest .int 28 41 true,.bag .entry 100 true true,.bag .entry 100 false false,.bag .addr 32 true true,.bag .entry 100 true true,.blk [.cst (.row 21),.cst (.row 22),.fl .int] 61 true] },exits := [⟨some 0,{ keep := [1],vals := [.one (.cst (.ptr 29 0))],objs := [.row .entry 100 false,.bag .entry 100 false false,.nest .int 1 41 false,.blk [.fl .int,.fl .int,.fl .int,.fl .int,.cst (.row 0),.cst (.row 2)] 29 true,.blk [.fl .event] 38 true,.blk [.fl .int,.fl .int,.fl .int,.fl .int,.cst (.row 15),.cst (.row 16)] 29 true,.blk [.fl .int,.fl .int,.fl .int,.fl .int,.cst (.row 17),.cst (.row 18)] 29 true,.blk [.fl .int,.fl .int,.fl .int,.cst (.row 19)] 26 true,.blk [.fl .int,.fl .int,.fl .int,.cst (.row 20)] 26 true,.row .entry 100 true,.blk [.cst (.row 21),.cst (.row 22),.fl .int] 61 true,.row .entry 100 true,.row .entry 100 true,.blk [.fl .int,.fl .int,.fl .int,.fl .int,.cst (.row 23),.cst (.row 24)] 29 true,.row .bool 4 true,.row .entry 100 false,.nest .int 25 41 true,.row .entry 100 false,.nest .int 26 41 false,.row .entry 100 true,.row .entry 100 true,.nest .pfx 27 103 true,.row .lease 105 true,.row .entry 100 true,.nest .int 28 41 true,.bag .entry 100 true true,.bag .entry 100 false false,.bag .addr 32 true true,.bag .entry 100 true true,.blk [.cst (.row 21),.cst (.row 22),.fl .int] 61 true] }⟩] }
def zq839 : LoopS := { n := 50,base := 29,head := { keep := [1,4],vals := [.one (.cst (.ptr 29 0)),.one (.fl .int)],objs := [.row .entry 100 false,.bag .entry 100 false false,.nest .int 1 41 false,.blk [.fl .int,.fl .int,.fl .int,.fl .int,.cst (.row 0),.cst (.row 2)] 29 true,.blk [.fl .event] 38 true,.blk [.fl .int,.fl .int,.fl .int,.fl .int,.cst (.row 15),.cst (.row 16)] 29 true,.blk [.fl .int,.fl .int,.fl .int,.fl .int,.cst (.row 17),.cst (.row 18)] 29 true,.blk [.fl .int,.fl .int,.fl .int,.cst (.row 19)] 26 true,.blk [.fl .int,.fl .int,.fl .int,.cst (.row 20)] 26 true,.row .entry 100 true,.blk [.cst (.row 21),.cst (.row 22),.fl .int] 61 true,.row .entry 100 true,.row .entry 100 true,.blk [.fl .int,.fl .int,.fl .int,.fl .int,.cst (.row 23),.cst (.row 24)] 29 true,.row .bool 4 true,.row .entry 100 false,.nest .int 25 41 true,.row .entry 100 false,.nest .int 26 41 false,.row .entry 100 true,.row .entry 100 true,.nest .pfx 27 103 true,.row .lease 105 true,.row .entry 100 true,.nest .int 28 41 true,.bag .entry 100 true true,.bag .entry 100 false false,.bag .addr 32 true true,.bag .entry 100 true true,.blk [.cst (.row 21),.cst (.row 22),.fl .int] 61 true] },exits := [⟨some 4,{ keep := [],vals := [],objs := [.row .entry 100 false,.bag .entry 100 false false,.nest .int 1 41 false,.blk [.fl .int,.fl .int,.fl .int,.fl .int,.cst (.row 0),.cst (.row 2)] 29 true,.blk [.fl .event] 38 true,.blk [.fl .int,.fl .int,.fl .int,.fl .int,.cst (.row 15),.cst (.row 16)] 29 true,.blk [.fl .int,.fl .int,.fl .int,.fl .int,.cst (.row 17),.cst (.row 18)] 29 true,.blk [.fl .int,.fl .int,.fl .int,.cst (.row 19)] 26 true,.blk [.fl .int,.fl .int,.fl .int,.cst (.row 20)] 26 true,.row .entry 100 true,.blk [.cst (.row 21),.cst (.row 22),.fl .int] 61 true,.row .entry 100 true,.row .entry 100 true,.blk [.fl .int,.fl .int,.fl .int,.fl .int,.cst (.row 23),.cst (.row 24)] 29 true,.row .bool 4 true,.row .entry 100 false,.nest .int 25 41 true,.row .entry 100 false,.nest .int 26 41 false,.row .entry 100 true,.row .entry 100 true,.nest .pfx 27 103 true,.row .lease 105 true,.row .entry 100 true,.nest .int 28 41 true,.bag .entry 100 true true,.bag .entry 100 false false,.bag .addr 32 true true,.bag .entry 100 true true] }⟩] }
def zq847 : Env := mkEnv (lendT ty [24]) fnB [] [(5,(zq1084 zq845 (loopN zq844 FUEL))),(2,(zq1084 zq842 (loopN zq841 FUEL))),(10,(zq1084 zq839 (loopN zq838 FUEL)))]
theorem zq848 : EnvOk Tryz.prog zq847 := envOk (tyOk.lend [24]) fn_ok zq370 _
theorem zq846 : LOk Tryz.prog (zq1158 (zq1158 (zq492 Tryz.f23) 0) 0) (zq1084 zq845 (loopN zq844 FUEL)) := by
 have h : zq1088 (zq1158 (zq1158 (zq492 Tryz.f23) 0) 0) = [] := by kernel_rfl
 refine zq1085 zq848 (zq1089 h lsNil) zq845 zq844 FUEL (fun rec x => ?_)
 kernel_rfl
theorem zq840 : LOk Tryz.prog (zq1158 (zq492 Tryz.f23) 1) (zq1084 zq839 (loopN zq838 FUEL)) := by
 have h : zq1088 (zq1158 (zq492 Tryz.f23) 1) = [] := by kernel_rfl
 refine zq1085 zq848 (zq1089 h lsNil) zq839 zq838 FUEL (fun rec x => ?_)
 kernel_rfl
theorem zq843 : LOk Tryz.prog (zq1158 (zq492 Tryz.f23) 0) (zq1084 zq842 (loopN zq841 FUEL)) := by
 have h : zq1088 (zq1158 (zq492 Tryz.f23) 0) = [(zq1158 (zq1158 (zq492 Tryz.f23) 0) 0)] := by kernel_rfl
 refine zq1085 zq848 (zq1089 h (zq1094 (zq1183 (t := (zq1084 zq845 (loopN zq844 FUEL))) (by kernel_rfl) zq846) lsNil)) zq842 zq841 FUEL (fun rec x => ?_)
 kernel_rfl
theorem zq849 : TrOk Tryz.prog 23 (zq757 zq847 Tryz.f23) := by
 have h : zq1088 (zq492 Tryz.f23) = [(zq1158 (zq492 Tryz.f23) 0),(zq1158 (zq492 Tryz.f23) 1)] := by kernel_rfl
 exact zq758 zq848 Tryz.func23 (zq352 h (zq1094 (zq1183 (t := (zq1084 zq842 (loopN zq841 FUEL))) (by kernel_rfl) zq843) (zq1094 (zq1183 (t := (zq1084 zq839 (loopN zq838 FUEL))) (by kernel_rfl) zq840) lsNil)))
def zq827 : LoopS := { n := 243,base := 3,head := { keep := [2,3,5,6],vals := [.one (.cst (.ptr 3 0)),.one (.cst (.ptr 4 0)),.one (.cst (.ptr 5 0)),.one (.fl .int)],objs := [.row .entry 100 false,.bag .entry 100 false false,.nest .int 1 41 false,.blk [.fl .int,.fl .int,.fl .int,.fl .int,.cst (.row 0),.cst (.row 2)] 29 true,.blk [.fl .event] 38 true,.blk [.fl .int,.fl .int,.fl .int,.fl .int,.cst (.row 6),.cst (.row 7)] 29 true,.row .entry 100 true,.nest .int 8 41 true,.bag .entry 100 true true] },exits := [⟨some 0,{ keep := [2,3,5],vals := [.one (.cst (.ptr 3 0)),.one (.cst (.ptr 4 0)),.one (.cst (.ptr 5 0))],objs := [.row .entry 100 false,.bag .entry 100 false false,.nest .int 1 41 false,.blk [.fl .int,.fl .int,.fl .int,.fl .int,.cst (.row 0),.cst (.row 2)] 29 true,.blk [.fl .event] 38 true,.blk [.fl .int,.fl .int,.fl .int,.fl .int,.cst (.row 6),.cst (.row 7)] 29 true,.row .entry 100 true,.nest .int 8 41 true,.bag .entry 100 true true] }⟩] }
def zq821 : LoopS := { n := 243,base := 3,head := { keep := [2,3,5,7,8,9,10,13,16,18,20,23,25,27,28,30],vals := [.one (.cst (.ptr 3 0)),.one (.cst (.ptr 4 0)),.one (.cst (.ptr 5 0)),.one (.fl .int),.one (.cst (.ptr 6 0)),.one (.fl .int),.one (.cst (.ptr 7 0)),.one (.cst (.ptr 8 0)),.one (.cst (.ptr 9 0)),.one (.cst (.row 10)),.one (.cst (.ptr 11 0)),.one (.cst (.row 12)),.one (.cst (.row 13)),.one (.cst (.ptr 14 0)),.one (.cst (.row 15)),.one (.fl .int)],objs := [.row .entry 100 false,.bag .entry 100 false false,.nest .int 1 41 false,.blk [.fl .int,.fl .int,.fl .int,.fl .int,.cst (.row 0),.cst (.row 2)] 29 true,.blk [.fl .event] 38 true,.blk [.fl .int,.fl .int,.fl .int,.fl .int,.cst (.row 16),.cst (.row 17)] 29 true,.blk [.fl .int,.fl .int,.fl .int,.fl .int,.cst (.row 18),.cst (.row 19)] 29 true,.blk [.fl .int,.fl .int,.fl .int,.fl .int,.cst (.row 20),.cst (.row 21)] 29 true,.blk [.fl .int,.fl .int,.fl .int,.cst (.row 22)] 26 true,.blk [.fl .int,.fl .int,.fl .int,.cst (.row 23)] 26 true,.row .entry 100 true,.blk [.cst (.row 24),.cst (.row 25),.fl .int] 61 true,.row .entry 100 true,.row .entry 100 true,.blk [.fl .int,.fl .int,.fl .int,.fl .int,.cst (.row 26),.cst (.row 27)] 29 true,.row .bool 4 true,.row .entry 100 false,.nest .int 28 41 true,.row .entry 100 false,.nest .int 29 41 false,.row .entry 100 true,.nest .int 30 41 true,.row .entry 100 true,.row .entry 100 true,.nest .pfx 31 103 true,.row .lease 105 true,.row .entry 100 true,.nest .int 32 41 true,.bag .entry 100 true true,.bag .entry 100 false false,.bag .entry 100 true true,.bag .addr 32 true true,.bag .entry 100 true true] },exits := [⟨some 4,{ keep := [2,3,5,7,8,9,13,16,18,20,23,25,27,28],vals := [.one (.cst (.ptr 3 0)),.one (.cst (.ptr 4 0)),.one (.cst (.ptr 5 0)),.one (.fl .int),.one (.cst (.ptr 6 0)),.one (.fl .int),.one (.cst (.ptr 7 0)),.one (.cst (.ptr 8 0)),.one (.cst (.row 9)),.one (.cst (.ptr 10 0)),.one (.cst (.row 11)),.one (.cst (.row 12)),.one (.cst (.ptr 13 0)),.one (.cst (.row 14))],objs := [.row .entry 100 false,.bag .entry 100 false false,.nest .int 1 41 false,.blk [.fl .int,.fl .int,.fl .int,.fl .int,.cst (.row 0),.cst (.row 2)] 29 true,.blk [.fl .event] 38 true,.blk [.fl .int,.fl .int,.fl .int,.fl .int,.cst (.row 15),.cst (.row 16)] 29 true,.blk [.fl .int,.fl .int,.fl .int,.fl .int,.cst (.row 17),.cst (.row 18)] 29 true,.blk [.fl .int,.fl .int,.fl .int,.cst (.row 19)] 26 true,.blk [.fl .int,.fl .int,.fl .int,.cst (.row 20)] 26 true,.row .entry 100 true,.blk [.cst (.row 21),.cst (.row 22),.fl .int] 61 true,.row .entry 100 true,.row .entry 100 true,.blk [.fl .int,.fl .int,.fl .int,.fl .int,.cst (.row 23),.cst (.row 24)] 29 true,.row .bool 4 true,.row .entry 100 false,.nest .int 25 41 true,.row .entry 100 false,.nest .int 26 41 false,.row .entry 100 true,.row .entry 100 true,.nest .pfx 27 103 true,.row .lease 105 true,.row .entry 100 true,.nest .int 28 41 true,.bag .entry 100 true true,.bag .entry 100 false false,.bag .addr 32 true true,.bag .entry 100 true true] }⟩] }
def zq824 : LoopS := { n := 243,base := 3,head := { keep := [2,3,5,7,8,9,28,31],vals := [.one (.cst (.ptr 3 0)),.one (.cst (.ptr 4 0)),.one (.cst (.ptr 5 0)),.one (.fl .int),.one (.cst (.ptr 6 0)),.one (.fl .int),.one (.cst (.row 7)),.one (.fl .int)],objs := [.row .entry 100 false,.bag .entry 100 false false,.nest .int 1 41 false,.blk [.fl .int,.fl .int,.fl .int,.fl .int,.cst (.row 0),.cst (.row 2)] 29 true,.blk [.fl .event] 38 true,.blk [.fl .int,.fl .int,.fl .int,.fl .int,.cst (.row 8),.cst (.row 9)] 29 true,.blk [.fl .int,.fl .int,.fl .int,.fl .int,.cst (.row 10),.cst (.row 11)] 29 true,.row .bool 4 true,.row .entry 100 false,.nest .int 12 41 true,.row .entry 100 false,.nest .int 13 41 false,.bag .entry 100 true true,.bag .entry 100 false false] },exits := [⟨some 6,{ keep := [2,3,5,7,8,9],vals := [.one (.cst (.ptr 3 0)),.one (.cst (.ptr 4 0)),.one (.cst (.ptr 5 0)),.one (.fl .int),.one (.cst (.ptr 6 0)),.one (.fl .int)],objs := [.row .entry 100 false,.bag .entry 100 false false,.nest .int 1 41 false,.blk [.fl .int,.fl .int,.fl .int,.fl .int,.cst (.row 0),.cst (.row 2)] 29 true,.blk [.fl .event] 38 true,.blk [.fl .int,.fl .int,.fl .int,.fl .int,.cst (.row 7),.cst (.row 8)] 29 true,.blk [.fl .int,.fl .int,.fl .int,.fl .int,.cst (.row 9),.cst (.row 10)] 29 true,.row .entry 100 false,.nest .int 11 41 true,.row .entry 100 false,.nest .int 12 41 false,.bag .entry 100 true true,.bag .entry 100 false false] }⟩] }
def zq818 : LoopS := { n := 243,base := 3,head := { keep := [2,3,5,7,8,9],vals := [.one (.cst (.ptr 3 0)),.one (.cst (.ptr 4 0)),.one (.cst (.ptr 5 0)),.one (.fl .int),.one (.cst (.ptr 6 0)),.one (.fl .int)],objs := [.row .entry 100 false,.bag .entry 100 false false,.nest .int 1 41 false,.blk [.fl .int,.fl .int,.fl .int,.fl .int,.cst (.row 0),.cst (.row 2)] 29 true,.blk [.fl .event] 38 true,.blk [.fl .int,.fl .int,.fl .int,.fl .int,.cst (.row 7),.cst (.row 8)] 29 true,.blk [.fl .int,.fl .int,.fl .int,.fl .int,.cst (.row 9),.cst (.row 10)] 29 true,.row .entry 100 false,.nest .int 11 41 true,.row .entry 100 false,.nest .int 12 41 false,.bag .entry 100 true true,.bag .entry 100 false false] },exits := [⟨none,{ keep := [4],vals := [.one (.fl .bool)],objs := [.row .entry 100 false,.bag .entry 100 false false,.nest .int 1 41 false] }⟩,⟨some 2,{ keep := [],vals := [],objs := [.row .entry 100 false,.bag .entry 100 false false,.nest .int 1 41 false] }⟩] }
def zq816 : List (Nat × JoinS) := [(2000008,{ n := 243,exits := [⟨some BIG,{ keep := [2,3,5,6],vals := [.one (.cst (.ptr 3 0)),.one (.cst (.ptr 4 0)),.one (.cst (.ptr 5 0)),.one (.fl .int)],objs := [.row .entry 100 false,.bag .entry 100 false false,.nest .int 1 41 false,.blk [.fl .int,.fl .int,.fl .int,.fl .int,.cst (.row 0),.cst (.row 2)] 29 true,.blk [.fl .event] 38 true,.blk [.fl .int,.fl .int,.fl .int,.fl .int,.cst (.row 6),.cst (.row 7)] 29 true,.row .entry 100 true,.nest .int 8 41 true,.bag .entry 100 true true] }⟩] }),(2000022,{ n := 243,exits := [⟨some BIG,{ keep := [2,3,5,7,8,9,10,13,16],vals := [.one (.cst (.ptr 3 0)),.one (.cst (.ptr 4 0)),.one (.cst (.ptr 5 0)),.one (.fl .int),.one (.cst (.ptr 6 0)),.one (.fl .int),.one (.cst (.ptr 7 0)),.one (.cst (.ptr 8 0)),.one (.cst (.ptr 9 0))],objs := [.row .entry 100 false,.bag .entry 100 false false,.nest .int 1 41 false,.blk [.fl .int,.fl .int,.fl .int,.fl .int,.cst (.row 0),.cst (.row 2)] 29 true,.blk [.fl .event] 38 true,.blk [.fl .int,.fl .int,.fl .int,.fl .int,.cst (.row 10),.cst (.row 11)] 29 true,.blk [.fl .int,.fl .int,.fl .int,.fl .int,.cst (.row 12),.cst (.row 13)] 29 true,.blk [.fl .int,.fl .int,.fl .int,.fl .int,.cst (.row 14),.cst (.row 15)] 29 true,.blk [.fl .int,.fl .int,.fl .int,.cst (.row 16)] 26 true,.blk [.fl .int,.fl .int,.fl .int,.cst (.row 17)] 26 true,.row .entry 100 false,.nest .int 18 41 true,.row .entry 100 false,.nest .int 19 41 false,.row .entry 100 true,.nest .int 20 41 true,.row .entry 100 true,.row .entry 100 true,.bag .entry 100 true true,.bag .entry 100 false false,.bag .entry 100 true true] }⟩] }),(2000023,{ n := 243,exits := [⟨some BIG,{ keep := [2,3,5,7,8,9,10,13,16,18],vals := [.one (.cst (.ptr 3 0)),.one (.cst (.ptr 4 0)),.one (.cst (.ptr 5 0)),.one (.fl .int),.one (.cst (.ptr 6 0)),.one (.fl .int),.one (.cst (.ptr 7 0)),.one (.cst (.ptr 8 0)),.one (.cst (.ptr 9 0)),.one (.cst (.row 10))],objs := [.row .entry 100 false,.bag .entry 100 false false,.nest .int 1 41 false,.blk [.fl .int,.fl .int,.fl .int,.fl .int,.cst (.row 0),.cst (.row 2)] 29 true,.blk [.fl .event] 38 true,.blk [.fl .int,.fl .int,.fl .int,.fl .int,.cst (.row 11),.cst (.row 12)] 29 true,.blk [.fl .int,.fl .int,.fl .int,.fl .int,.cst (.row 13),.cst (.row 14)] 29 true,.blk [.fl .int,.fl .int,.fl .int,.fl .int,.cst (.row 15),.cst (.row 16)] 29 true,.blk [.fl .int,.fl .int,.fl .int,.cst (.row 17)] 26 true,.blk [.fl .int,.fl .int,.fl .int,.cst (.row 18)] 26 true,.row .entry 100 true,.row .entry 100 false,.nest .int 19 41 true,.row .entry 100 false,.nest .int 20 41 false,.row .entry 100 true,.nest .int 21 41 true,.row .entry 100 true,.row .entry 100 true,.bag .entry 100 true true,.bag .entry 100 false false,.bag .entry 100 true true] }⟩] }),(2000025,{ n := 243,exits := [⟨some BIG,{ keep := [2,3,5,7,8,9,10,13,16,18,20,23],vals := [.one (.cst (.ptr 3 0)),.one (.cst (.ptr 4 0)),.one (.cst (.ptr 5 0)),.one (.fl .int),.one (.cst (.ptr 6 0)),.one (.fl .int),.one (.cst (.ptr 7 0)),.one (.cst (.ptr 8 0)),.one (.cst (.ptr 9 0)),.one (.cst (.row 10)),.one (.cst (.ptr 11 0)),.one (.cst (.row 12))],objs := [.row .entry 100 false,.bag .entry 100 false false,.nest .int 1 41 false,.blk [.fl .int,.fl .int,.fl .int,.fl .int,.cst (.row 0),.cst (.row 2)] 29 true,.blk [.fl .event] 38 true,.blk [.fl .int,.fl .int,.fl .int,.fl .int,.cst (.row 13),.cst (.row 14)] 29 true,.blk [.fl .int,.fl .int,.fl .int,.fl .int,.cst (.row 15),.cst (.row 16)] 29 true,.blk [.fl .int,.fl .int,.fl .int,.fl .int,.cst (.row 17),.cst (.row 18)] 29 true,.blk [.fl .int,.fl .int,.fl .int,.cst (.row 19)] 26 true,.blk [.fl .int,.fl .int,.fl .int,.cst (.row 20)] 26 true,.row .entry 100 true,.blk [.cst (.row 21),.cst (.row 22),.fl .int] 61 true,.row .entry 100 true,.row .entry 100 false,.nest .int 23 41 true,.row .entry 100 false,.nest .int 24 41 false,.row .entry 100 true,.nest .int 25 41 true,.row .entry 100 true,.row .entry 100 true,.nest .pfx 26 103 true,.row .lease 105 true,.bag .entry 100 true true,.bag .entry 100 false false,.bag .entry 100 true true,.bag .addr 32 true true] }⟩] })]
def zq830 : Env := mkEnv (lendT ty [24]) fnB [(4,zq853),(5,zq873),(6,zq888),(7,zq878),(8,zq53),(9,zq68),(10,zq104),(11,zq446),(12,zq858),(13,zq591),(15,zq893),(14,zq639),(16,zq1010),(17,zq1069),(18,zq1549),(19,zq1555),(20,zq460),(21,zq128),(22,(zq1287 .entry zq898 100 (zq757 zq835 Tryz.f22))),(23,(zq757 zq847 Tryz.f23))] [(6,(zq1084 zq827 (loopN zq826 FUEL))),(32,(zq1084 zq821 (loopN zq820 FUEL))),(43,(zq1084 zq824 (loopN zq823 FUEL))),(16,(zq1084 zq818 (loopN zq817 FUEL)))] zq816
theorem zq831 : EnvOk Tryz.prog zq830 := envOk (tyOk.lend [24]) fn_ok (zq369 zq856 (zq369 zq876 (zq369 zq891 (zq369 zq881 (zq369 zq57 (zq369 zq72 (zq369 zq108 (zq369 zq450 (zq369 zq861 (zq369 zq595 (zq369 zq896 (zq369 zq643 (zq369 zq1014 (zq369 zq1073 (zq369 zq1553 (zq369 zq1559 (zq369 zq464 (zq369 zq131 (zq369 (zq899 zq837) (zq369 zq849 zq370)))))))))))))))))))) _ _
theorem zq825 : LOk Tryz.prog (zq1158 (zq1158 (zq492 Tryz.f3) 1) 1) (zq1084 zq824 (loopN zq823 FUEL)) := by
 have h : zq1088 (zq1158 (zq1158 (zq492 Tryz.f3) 1) 1) = [] := by kernel_rfl
 refine zq1085 zq831 (zq1089 h lsNil) zq824 zq823 FUEL (fun rec x => ?_)
 kernel_rfl
theorem zq822 : LOk Tryz.prog (zq1158 (zq1158 (zq492 Tryz.f3) 1) 0) (zq1084 zq821 (loopN zq820 FUEL)) := by
 have h : zq1088 (zq1158 (zq1158 (zq492 Tryz.f3) 1) 0) = [] := by kernel_rfl
 refine zq1085 zq831 (zq1089 h lsNil) zq821 zq820 FUEL (fun rec x => ?_)
 kernel_rfl
theorem zq819 : LOk Tryz.prog (zq1158 (zq492 Tryz.f3) 1) (zq1084 zq818 (loopN zq817 FUEL)) := by
 have h : zq1088 (zq1158 (zq492 Tryz.f3) 1) = [(zq1158 (zq1158 (zq492 Tryz.f3) 1) 0),(zq1158 (zq1158 (zq492 Tryz.f3) 1) 1)] := by kernel_rfl
 refine zq1085 zq831 (zq1089 h (zq1094 (zq1183 (t := (zq1084 zq821 (loopN zq820 FUEL))) (by kernel_rfl) zq822) (zq1094 (zq1183 (t := (zq1084 zq824 (loopN zq823 FUEL))) (by kernel_rfl) zq825) lsNil))) zq818 zq817 FUEL (fun rec x => ?_)
 kernel_rfl
theorem zq828 : LOk Tryz.prog (zq1158 (zq492 Tryz.f3) 0) (zq1084 zq827 (loopN zq826 FUEL)) := by
 have h : zq1088 (zq1158 (zq492 Tryz.f3) 0) = [] := by kernel_rfl
 refine zq1085 zq831 (zq1089 h lsNil) zq827 zq826 FUEL (fun rec x => ?_)
 kernel_rfl
def zq829 : Con := con [.agg [.fl .int,.fl .int,.fl .int,.fl .int,.row .entry 100,.nest .int .entry 41 100 true],.one (.fl .event)] [.one (.fl .bool)] (fun x => zq851 x.1.1 x.1.2.1 x.1.2.2.1 x.1.2.2.2.1 x.1.2.2.2.2.1 x.1.2.2.2.2.2.1 x.2.1)
theorem zq850 : TrOk Tryz.prog 3 zq829 := by
 have h : zq1088 (zq492 Tryz.f3) = [(zq1158 (zq492 Tryz.f3) 0),(zq1158 (zq492 Tryz.f3) 1)] := by kernel_rfl
 refine zq494 zq831 Tryz.func3 (zq352 h (zq1094 (zq1183 (t := (zq1084 zq827 (loopN zq826 FUEL))) (by kernel_rfl) zq828) (zq1094 (zq1183 (t := (zq1084 zq818 (loopN zq817 FUEL))) (by kernel_rfl) zq819) lsNil))) _ _ _ (fun x => ?_)
 kernel_rfl
end Go.Proofs.YtjolfddpghkabaaGreat
namespace Go.Proofs.YtjolfddpghkabaaGreat
open Go Go.Ma Go.ChangeShapes Go.WideShapes Go.ChangeAt Go.RowKit
set_option linter.unusedVariables false
theorem zq1482 : ownKnob Tryz.prog.godebug = none := by kernel_rfl
theorem zq1477 : laidOutB Tryz.prog = true := by kernel_rfl
theorem zq1480 {H : Type} (d : DataW H) : 1 ≤ Rows.uptoBulk d := by
 cases d with
 | lit l => cases l <;> simp [Rows.uptoBulk]
 | _ => simp [Rows.uptoBulk]
theorem zq1478 {H : Type} : ∀ l : List (DataW H),l.length ≤ Rows.uptoBulkAll l
 | [] => Nat.zero_le _
 | d :: r => by
  have h1 := zq1480 d
  have h2 := zq1478 r
  simp only [Rows.uptoBulkAll,List.length_cons]
  omega
theorem zq1483 {H : Type} {d : DataW H} : ∀ {l : List (DataW H)},d ∈ l → Rows.uptoBulk d ≤ Rows.uptoBulkAll l
 | e :: r,h => by
  simp only [Rows.uptoBulkAll]
  rcases List.mem_cons.1 h with rfl | h
  ·omega
  ·have := zq1483 h
   omega
theorem zq1485 {H : Type} : Small (H := H) 1048576 (fun d => Rows.uptoBulk d ≤ 1048576) := by
 refine ⟨fun es sp _ h => ?_,fun l q hq h => ?_,fun es sp q hq h => ?_,fun s _ h => ?_⟩
 ·have h1 := zq1478 es
  simp only [Rows.uptoBulk] at h
  omega
 ·have h1 := zq1483 hq
  simp only [Rows.uptoBulk] at h
  omega
 ·have h1 := zq1483 hq
  simp only [Rows.uptoBulk] at h
  omega
 ·simp only [Rows.uptoBulk] at h
  omega
theorem zq1484 : ∀ x,PsIn [.agg [.fl .int,.fl .int,.fl .int,.fl .int,.row .entry 100,.nest .int .entry 41 100 true],.one (.fl .event)] x → PsLe 1048576 [.agg [.fl .int,.fl .int,.fl .int,.fl .int,.row .entry 100,.nest .int .entry 41 100 true],.one (.fl .event)] x → (fun x => zq851 x.1.1 x.1.2.1 x.1.2.2.1 x.1.2.2.2.1 x.1.2.2.2.2.1 x.1.2.2.2.2.2.1 x.2.1) x = some ((true : Bool),()) := fun x hx hl => zq166 x.1.1 x.1.2.1 x.1.2.2.1 x.1.2.2.2.1 hx.1.2.2.2.2.1.2 hl.1.2.2.2.2.1 x.1.2.2.2.2.2.1.1 (fun c hc => (hx.1.2.2.2.2.2.1.2.2 c hc).2) hx.1.2.2.2.2.2.1.2.1 hl.1.2.2.2.2.2.1.1 hl.1.2.2.2.2.2.1.2 hx.2.1
set_option maxRecDepth 100000 in
/-- What the walk gives. -/
theorem zq1476 (H : Type) (enc : TypeId × Value → H) (W : World) (base : Nat) (args : Array Value) (ds gs : List (DataW H)) (before : List MemPlace)
  (hval : ∀ (j : Nat) t v,Tryz.f3.params[j]? = some t → args[j]? = some v → Value.okWide Tryz.prog W .any base t v)
  (hW : DataW.Whole enc Tryz.prog Tryz.f3.params.toList Rows.restClustersSpec.vars false W args.toList ds gs before) (hk : Rows.uptoSmall H (ds ++ gs) = true) :
  Calls Tryz.prog 3 args W fun e W' => ∃ v,e = .returned v ∧ Rows.restClustersSpec.post enc Tryz.prog Tryz.f3 false true false false W args v W' := by
 have hW' := hW
 obtain ⟨p,q,hA0,hV,rfl,hfz,hnd⟩ := hW
 have hA : DataW.TrodAll enc Tryz.prog W 0 (fun _ => true) true Tryz.f3.params.toList args.toList ds p := hA0
 rw [Tryz.params3] at hA hval
 have hA2 := hA
 obtain ⟨v0,vs0,d0,ds0,p0,q0,hargs,rfl,rfl,h0,r0⟩ := trodAll_cons hA
 obtain ⟨v1,vs1,d1,ds1,p1,q1,rfl,rfl,rfl,h1,r1⟩ := trodAll_cons r0
 obtain ⟨rfl,rfl,rfl⟩ := trodAll_nil r1
 obtain rfl : args = #[v0,v1] := by cases args; simp_all
 obtain ⟨rfl,rfl⟩ := trodVars_none hV
 have hb : Rows.uptoBulkAll ([d0,d1] ++ []) ≤ 1048576 := of_decide_eq_true hk
 rw [List.append_nil] at hb
 have call := zq852 (enc := enc) zq1485 (Glob.none (by kernel_rfl) (by kernel_rfl) (by kernel_rfl) (by kernel_rfl) (by kernel_rfl) (by kernel_rfl)) zq850 zq1484 (fun x => rfl) (fun x => rfl) (ts := [29,38]) (vs := [v0,v1]) (by kernel_rfl) (fun j t v h1 h2 => hval j t v (by simpa using h1) (by simpa using h2)) hA2 (fun d hd => Nat.le_trans (zq1483 hd) hb)
 refine call.mono fun e W' ⟨he,bel⟩ => ?_
 subst he
 exact ⟨_,rfl,_,_,_,[],_,[],hW',trodAll_mk1 (shut_bool Tryz.underlying4 _),zq277 zq1477 bel _ _ _ _ (by kernel_rfl) hA2,rfl,bel.frame _,fun h => by cases h⟩
set_option maxRecDepth 100000 in
theorem zq1479 (os : Os) (started : os.Started) (H : Type) (enc : TypeId × Value → H) (F : Stop.Interp) :
  ReturnsInHanded {} Tryz.checked os 3 .any ((Rows.OpenSpec.upto Rows.restClustersSpec).pre6 enc Tryz.prog Tryz.f3 Rows.restClustersUptoRow.domain false) (((Rows.OpenSpec.upto Rows.restClustersSpec).at F).post enc Tryz.prog Tryz.f3 false true false false) := by
 refine returnsInHanded_of_cond (C := Tryz.checked) (s := Rows.OpenSpec.upto Rows.restClustersSpec) (k := Rows.uptoSmall) rfl zq1482 started (by kernel_rfl) Tryz.func3
  (OpenSpec.witness (enc := enc) (C := Tryz.checked) (s := Rows.OpenSpec.upto Rows.restClustersSpec) (k := Rows.uptoSmall) rfl false ⟨#[],#[.agg #[.int .i64 0,.int .i64 0,.int .i64 0,.int .i64 0,.slice none 0 0,.slice none 0 0],.agg #[.int .i64 0,.int .i64 0,.int .i64 0,.int .i64 0,.bool false,.int .u64 0,.int .u64 0,.int .i64 0,.bool false,.int .u64 0,.int .u64 0,.string ByteArray.empty,.int .i64 0,.int .i64 0]],[]⟩ 8 (by kernel_rfl) (by kernel_rfl) (by kernel_rfl)
   (x := ([.agg [.lit (.int .i64 0),.agg [.lit (.int .i64 0),.agg [.lit (.int .i64 0),.lit (.int .i64 0)],.nil],.nil],.agg [.lit (.int .i64 0),.lit (.int .i64 0),.lit (.int .i64 0),.agg [.lit (.int .i64 0),.agg [.agg [.lit (.bool false),.lit (.int .u64 0),.lit (.int .u64 0)],.lit (.int .i64 0)],.agg [.lit (.bool false),.lit (.int .u64 0),.lit (.int .u64 0)],.lit (.string []),.lit (.int .i64 0),.lit (.int .i64 0)]]],[],[])) (by kernel_rfl) rfl (by kernel_rfl)) ?_
 intro W base args ds gs before hval hW _ hk _
 exact zq1476 H enc W base args ds gs before hval hW hk
theorem zq1481 : Rows.restClustersUptoRow.holds Tryz.pinned (Rows.OpenSpec.upto Rows.restClustersSpec) :=
 OpenClaim.holds_of_cond 3 Tryz.f3 rfl rfl rfl rfl rfl rfl rfl ⟨rfl,rfl,rfl,rfl,rfl⟩ rfl rfl rfl rfl rfl (by kernel_rfl) Tryz.func3 (by kernel_rfl)
  (of_decide_eq_true (by kernel_rfl)) (by unfold Func.isWrapper; rw [if_neg (of_decide_eq_false (by kernel_rfl))]; exact ⟨rfl,rfl⟩)
  (fun os started H enc _ F => zq1479 os started H enc F)
theorem restClusters_said : Rows.RestClustersUptoSaid := zq1481
end Go.Proofs.YtjolfddpghkabaaGreat
