/-
  For every input ClusterTells of the package yardarmlaw returns true, and each of its arguments reads behind the call as it read before. No condition.
-/
import Derived.Test.YtjncjiegmnicbabGreatRows
import Derived.WalkKit
import Derived.ProofKit
import Derived.OpenShut
import Derived.ShutString
import Derived.ChangeOld
import Derived.Below
import Derived.Test.YtjncjiegmnicbabGreatVf6
set_option linter.unusedVariables false
set_option linter.unusedSimpArgs false
noncomputable section
namespace Go.Proofs.YtjncjiegmnicbabGreat
open Go Go.Ma
def zq1079 : LoopS := { n := 49,base := 10,head := { keep := [0,2,4,8,9,10],vals := [.one (.cst (.row 6)),.one (.cst (.fn 164 [])),.one (.cst (.ptr 10 0)),.one (.fl .int),.one (.fl .int),.one (.fl .int)],objs := [.row .addr 32 false,.row .lease 127 false,.blk [.fl .bool,.fl .u64,.fl .u64,.fl .int,.cst (.row 0)] 116 false,.blk [.fl .str] 9 false,.row .lease 127 false,.blk [.fl .addr] 32 false,.row .lease 127 false,.blk [.fl .bool,.fl .u64,.fl .u64,.fl .int,.cst (.row 0),.cst (.row 6)] 204 false,.blk [.fl .addr] 32 false,.blk [.fl .lease] 127 false,.blk [.fl .lease] 127 true] },exits := [⟨some 0,{ keep := [0,2,4,8,9],vals := [.one (.cst (.row 6)),.one (.cst (.fn 164 [])),.one (.cst (.ptr 10 0)),.one (.fl .int),.one (.fl .int)],objs := [.row .addr 32 false,.row .lease 127 false,.blk [.fl .bool,.fl .u64,.fl .u64,.fl .int,.cst (.row 0)] 116 false,.blk [.fl .str] 9 false,.row .lease 127 false,.blk [.fl .addr] 32 false,.row .lease 127 false,.blk [.fl .bool,.fl .u64,.fl .u64,.fl .int,.cst (.row 0),.cst (.row 6)] 204 false,.blk [.fl .addr] 32 false,.blk [.fl .lease] 127 false,.blk [.fl .lease] 127 true] }⟩] }
def zq1081 : Env := mkEnv ty fnB [(164,zq1067)] [(3,(zq1177 zq1079 (loopN zq1078 FUEL)))]
theorem zq1082 : EnvOk Tryz.prog zq1081 := envOk tyOk fn_ok (zq534 zq1070 zq535) _
theorem zq1080 : LOk Tryz.prog (zq1259 (zq662 Tryz.f163) 0) (zq1177 zq1079 (loopN zq1078 FUEL)) := by
 have h : zq1180 (zq1259 (zq662 Tryz.f163) 0) = [] := by kernel_rfl
 refine zq1178 zq1082 (zq1181 h lsNil) zq1079 zq1078 FUEL (fun rec x => ?_)
 kernel_rfl
theorem zq1083 : TrOk Tryz.prog 163 (flCon zq1081 Tryz.f163 [.one (.fl .int),.one (.fl .bool)]) := by
 have h : zq1180 (zq662 Tryz.f163) = [(zq1259 (zq662 Tryz.f163) 0)] := by kernel_rfl
 exact zq829 zq1082 Tryz.func163 (zq511 h (zq1186 (zq1283 (t := (zq1177 zq1079 (loopN zq1078 FUEL))) (by kernel_rfl) zq1080) lsNil)) [.one (.fl .int),.one (.fl .bool)] rfl
def zq1085 : LoopS := { n := 19,base := 8,head := { keep := [0,1,7,8],vals := [.one (.cst (.row 6)),.one (.cst (.fn 161 [.ptr 3 0])),.one (.fl .int),.one (.fl .int)],objs := [.row .addr 32 false,.row .lease 127 false,.blk [.fl .bool,.fl .u64,.fl .u64,.fl .int,.cst (.row 0)] 116 true,.blk [.fl .str] 9 true,.row .lease 127 true,.blk [.fl .addr] 32 true,.row .lease 127 true,.blk [.fl .bool,.fl .u64,.fl .u64,.fl .int,.cst (.row 0),.cst (.row 6)] 204 true] },exits := [⟨none,{ keep := [4],vals := [.one (.fl .int)],objs := [.row .addr 32 false,.row .lease 127 false,.blk [.fl .bool,.fl .u64,.fl .u64,.fl .int,.cst (.row 0)] 116 true,.blk [.fl .str] 9 true,.row .lease 127 true,.blk [.fl .addr] 32 true,.row .lease 127 true,.blk [.fl .bool,.fl .u64,.fl .u64,.fl .int,.cst (.row 0),.cst (.row 6)] 204 true] }⟩,⟨some 0,{ keep := [],vals := [],objs := [.row .addr 32 false,.row .lease 127 false,.blk [.fl .bool,.fl .u64,.fl .u64,.fl .int,.cst (.row 0)] 116 true,.blk [.fl .str] 9 true,.row .lease 127 true,.blk [.fl .addr] 32 true,.row .lease 127 true,.blk [.fl .bool,.fl .u64,.fl .u64,.fl .int,.cst (.row 0),.cst (.row 6)] 204 true] }⟩] }
def zq1087 : Env := mkEnv ty fnB [(161,zq1062)] [(2,(zq1177 zq1085 (loopN zq1084 FUEL)))]
theorem zq1088 : EnvOk Tryz.prog zq1087 := envOk tyOk fn_ok (zq534 zq1065 zq535) _
theorem zq1086 : LOk Tryz.prog (zq1259 (zq662 Tryz.f132) 0) (zq1177 zq1085 (loopN zq1084 FUEL)) := by
 have h : zq1180 (zq1259 (zq662 Tryz.f132) 0) = [] := by kernel_rfl
 refine zq1178 zq1088 (zq1181 h lsNil) zq1085 zq1084 FUEL (fun rec x => ?_)
 kernel_rfl
theorem zq1089 : TrOk Tryz.prog 132 (zq919 zq1087 Tryz.f132) := by
 have h : zq1180 (zq662 Tryz.f132) = [(zq1259 (zq662 Tryz.f132) 0)] := by kernel_rfl
 exact zq920 zq1088 Tryz.func132 (zq511 h (zq1186 (zq1283 (t := (zq1177 zq1085 (loopN zq1084 FUEL))) (by kernel_rfl) zq1086) lsNil))
def zq1073 : Env := mkEnv ty fnB [(140,zq1038),(162,zq330),(163,(flCon zq1081 Tryz.f163 [.one (.fl .int),.one (.fl .bool)])),(165,zq1672),(132,(zq919 zq1087 Tryz.f132))] []
theorem zq1074 : EnvOk Tryz.prog zq1073 := envOk tyOk fn_ok (zq534 zq1042 (zq534 zq331 (zq534 zq1083 (zq534 zq1673 (zq534 zq1089 zq535))))) _
def zq1072 : Con := con [.agg [.fl .pfx,.row .addr 32],.one (.row .lease 127),.one (.fl .str),.one (.fl .int),.one (.fl .int)] [.one (.row .lease 127),.one (.fl .addr),.one (.fl .bool)] (fun x => zq1090 x.1.1 x.1.2.1 x.2.1 x.2.2.1 x.2.2.2.1 x.2.2.2.2.1)
theorem zq1076 : TrOk Tryz.prog 150 zq1072 := by
 have h : zq1180 (zq662 Tryz.f150) = [] := by kernel_rfl
 refine zq665 zq1074 Tryz.func150 (zq511 h lsNil) _ _ _ (fun x => ?_)
 kernel_rfl
def zq1734 : LoopS := { n := 49,base := 17,head := { keep := [0,2,4,8,9,10],vals := [.one (.cst (.row 11)),.one (.cst (.fn 145 [])),.one (.cst (.ptr 17 0)),.one (.fl .int),.one (.fl .int),.one (.fl .int)],objs := [.bag .addr 32 false false,.nest .pfx 0 116 false,.row .lease 127 false,.blk [.cst (.row 1),.cst (.row 2),.fl .int] 45 false,.blk [.fl .op] 36 false,.blk [.cst (.row 7),.cst (.row 8),.fl .int] 45 false,.bag .addr 32 false false,.nest .pfx 6 116 false,.row .lease 127 false,.blk [.fl .addr] 32 false,.bag .addr 32 false false,.nest .pfx 10 116 false,.row .lease 127 false,.blk [.cst (.row 11),.cst (.row 12),.fl .int] 174 false,.blk [.fl .op] 36 false,.blk [.fl .addr] 32 false,.blk [.fl .pfx] 34 false,.blk [.fl .pfx] 34 true] },exits := [⟨some 0,{ keep := [0,2,4,8,9],vals := [.one (.cst (.row 11)),.one (.cst (.fn 145 [])),.one (.cst (.ptr 17 0)),.one (.fl .int),.one (.fl .int)],objs := [.bag .addr 32 false false,.nest .pfx 0 116 false,.row .lease 127 false,.blk [.cst (.row 1),.cst (.row 2),.fl .int] 45 false,.blk [.fl .op] 36 false,.blk [.cst (.row 7),.cst (.row 8),.fl .int] 45 false,.bag .addr 32 false false,.nest .pfx 6 116 false,.row .lease 127 false,.blk [.fl .addr] 32 false,.bag .addr 32 false false,.nest .pfx 10 116 false,.row .lease 127 false,.blk [.cst (.row 11),.cst (.row 12),.fl .int] 174 false,.blk [.fl .op] 36 false,.blk [.fl .addr] 32 false,.blk [.fl .pfx] 34 false,.blk [.fl .pfx] 34 true] }⟩] }
def zq1736 : Env := mkEnv ty fnB [(145,zq373)] [(3,(zq1177 zq1734 (loopN zq1733 FUEL)))]
theorem zq1737 : EnvOk Tryz.prog zq1736 := envOk tyOk fn_ok (zq534 zq376 zq535) _
theorem zq1735 : LOk Tryz.prog (zq1259 (zq662 Tryz.f144) 0) (zq1177 zq1734 (loopN zq1733 FUEL)) := by
 have h : zq1180 (zq1259 (zq662 Tryz.f144) 0) = [] := by kernel_rfl
 refine zq1178 zq1737 (zq1181 h lsNil) zq1734 zq1733 FUEL (fun rec x => ?_)
 kernel_rfl
theorem zq1738 : TrOk Tryz.prog 144 (flCon zq1736 Tryz.f144 [.one (.fl .int),.one (.fl .bool)]) := by
 have h : zq1180 (zq662 Tryz.f144) = [(zq1259 (zq662 Tryz.f144) 0)] := by kernel_rfl
 exact zq829 zq1737 Tryz.func144 (zq511 h (zq1186 (zq1283 (t := (zq1177 zq1734 (loopN zq1733 FUEL))) (by kernel_rfl) zq1735) lsNil)) [.one (.fl .int),.one (.fl .bool)] rfl
def zq1743 : LoopS := { n := 19,base := 17,head := { keep := [0,1,7,8],vals := [.one (.cst (.row 11)),.one (.cst (.fn 143 [.ptr 16 0])),.one (.fl .int),.one (.fl .int)],objs := [.bag .addr 32 false false,.nest .pfx 0 116 false,.row .lease 127 false,.blk [.cst (.row 1),.cst (.row 2),.fl .int] 45 true,.blk [.fl .op] 36 true,.blk [.cst (.row 7),.cst (.row 8),.fl .int] 45 true,.bag .addr 32 true true,.nest .pfx 6 116 true,.row .lease 127 true,.blk [.fl .addr] 32 true,.bag .addr 32 true true,.nest .pfx 10 116 true,.row .lease 127 true,.blk [.cst (.row 11),.cst (.row 12),.fl .int] 174 true,.blk [.fl .op] 36 true,.blk [.fl .addr] 32 true,.blk [.fl .pfx] 34 true] },exits := [⟨none,{ keep := [4],vals := [.one (.fl .int)],objs := [.bag .addr 32 false false,.nest .pfx 0 116 false,.row .lease 127 false,.blk [.cst (.row 1),.cst (.row 2),.fl .int] 45 true,.blk [.fl .op] 36 true,.blk [.cst (.row 7),.cst (.row 8),.fl .int] 45 true,.bag .addr 32 true true,.nest .pfx 6 116 true,.row .lease 127 true,.blk [.fl .addr] 32 true,.bag .addr 32 true true,.nest .pfx 10 116 true,.row .lease 127 true,.blk [.cst (.row 11),.cst (.row 12),.fl .int] 174 true,.blk [.fl .op] 36 true,.blk [.fl .addr] 32 true,.blk [.fl .pfx] 34 true] }⟩,⟨some 0,{ keep := [],vals := [],objs := [.bag .addr 32 false false,.nest .pfx 0 116 false,.row .lease 127 false,.blk [.cst (.row 1),.cst (.row 2),.fl .int] 45 true,.blk [.fl .op] 36 true,.blk [.cst (.row 7),.cst (.row 8),.fl .int] 45 true,.bag .addr 32 true true,.nest .pfx 6 116 true,.row .lease 127 true,.blk [.fl .addr] 32 true,.bag .addr 32 true true,.nest .pfx 10 116 true,.row .lease 127 true,.blk [.cst (.row 11),.cst (.row 12),.fl .int] 174 true,.blk [.fl .op] 36 true,.blk [.fl .addr] 32 true,.blk [.fl .pfx] 34 true] }⟩] }
def zq1745 : Env := mkEnv ty fnB [(143,zq368)] [(2,(zq1177 zq1743 (loopN zq1742 FUEL)))]
theorem zq1746 : EnvOk Tryz.prog zq1745 := envOk tyOk fn_ok (zq534 zq371 zq535) _
theorem zq1744 : LOk Tryz.prog (zq1259 (zq662 Tryz.f118) 0) (zq1177 zq1743 (loopN zq1742 FUEL)) := by
 have h : zq1180 (zq1259 (zq662 Tryz.f118) 0) = [] := by kernel_rfl
 refine zq1178 zq1746 (zq1181 h lsNil) zq1743 zq1742 FUEL (fun rec x => ?_)
 kernel_rfl
theorem zq1747 : TrOk Tryz.prog 118 (zq919 zq1745 Tryz.f118) := by
 have h : zq1180 (zq662 Tryz.f118) = [(zq1259 (zq662 Tryz.f118) 0)] := by kernel_rfl
 exact zq920 zq1746 Tryz.func118 (zq511 h (zq1186 (zq1283 (t := (zq1177 zq1743 (loopN zq1742 FUEL))) (by kernel_rfl) zq1744) lsNil))
def zq1739 : Env := mkEnv ty fnB [(118,(zq919 zq1745 Tryz.f118))] []
theorem zq1740 : EnvOk Tryz.prog zq1739 := envOk tyOk fn_ok (zq534 zq1747 zq535) _
theorem zq1741 : TrOk Tryz.prog 142 (zq919 zq1739 Tryz.f142) := by
 have h : zq1180 (zq662 Tryz.f142) = [] := by kernel_rfl
 exact zq920 zq1740 Tryz.func142 (zq511 h lsNil)
def zq1729 : Env := mkEnv ty fnB [(144,(flCon zq1736 Tryz.f144 [.one (.fl .int),.one (.fl .bool)])),(146,zq1674),(142,(zq919 zq1739 Tryz.f142))] []
theorem zq1730 : EnvOk Tryz.prog zq1729 := envOk tyOk fn_ok (zq534 zq1738 (zq534 zq1675 (zq534 zq1741 zq535))) _
theorem zq1731 : TrOk Tryz.prog 136 (zq919 zq1729 Tryz.f136) := by
 have h : zq1180 (zq662 Tryz.f136) = [] := by kernel_rfl
 exact zq920 zq1730 Tryz.func136 (zq511 h lsNil)
def zq1724 : LoopS := { n := 49,base := 17,head := { keep := [0,2,4,8,9,10],vals := [.one (.inn 10),.one (.cst (.fn 114 [])),.one (.cst (.ptr 17 0)),.one (.fl .int),.one (.fl .int),.one (.fl .int)],objs := [.bag .addr 32 false false,.nest .pfx 0 116 false,.row .lease 127 false,.blk [.cst (.row 1),.cst (.row 2),.fl .int] 45 false,.blk [.fl .op] 36 false,.blk [.cst (.row 7),.cst (.row 8),.fl .int] 45 false,.bag .addr 32 false false,.nest .pfx 6 116 false,.row .lease 127 false,.blk [.fl .addr] 32 false,.bag .addr 32 false false,.nest .pfx 10 116 false,.row .lease 127 false,.blk [.cst (.row 11),.cst (.row 12),.fl .int] 174 false,.blk [.fl .op] 36 false,.blk [.fl .addr] 32 false,.blk [.fl .addr] 32 false,.blk [.fl .addr] 32 true] },exits := [⟨some 0,{ keep := [0,2,4,8,9],vals := [.one (.inn 10),.one (.cst (.fn 114 [])),.one (.cst (.ptr 17 0)),.one (.fl .int),.one (.fl .int)],objs := [.bag .addr 32 false false,.nest .pfx 0 116 false,.row .lease 127 false,.blk [.cst (.row 1),.cst (.row 2),.fl .int] 45 false,.blk [.fl .op] 36 false,.blk [.cst (.row 7),.cst (.row 8),.fl .int] 45 false,.bag .addr 32 false false,.nest .pfx 6 116 false,.row .lease 127 false,.blk [.fl .addr] 32 false,.bag .addr 32 false false,.nest .pfx 10 116 false,.row .lease 127 false,.blk [.cst (.row 11),.cst (.row 12),.fl .int] 174 false,.blk [.fl .op] 36 false,.blk [.fl .addr] 32 false,.blk [.fl .addr] 32 false,.blk [.fl .addr] 32 true] }⟩] }
def zq1726 : Env := mkEnv ty fnB [(114,zq415)] [(3,(zq1177 zq1724 (loopN zq1723 FUEL)))]
theorem zq1727 : EnvOk Tryz.prog zq1726 := envOk tyOk fn_ok (zq534 zq419 zq535) _
theorem zq1725 : LOk Tryz.prog (zq1259 (zq662 Tryz.f147) 0) (zq1177 zq1724 (loopN zq1723 FUEL)) := by
 have h : zq1180 (zq1259 (zq662 Tryz.f147) 0) = [] := by kernel_rfl
 refine zq1178 zq1727 (zq1181 h lsNil) zq1724 zq1723 FUEL (fun rec x => ?_)
 kernel_rfl
theorem zq1728 : TrOk Tryz.prog 147 (flCon zq1726 Tryz.f147 [.one (.fl .int),.one (.fl .bool)]) := by
 have h : zq1180 (zq662 Tryz.f147) = [(zq1259 (zq662 Tryz.f147) 0)] := by kernel_rfl
 exact zq829 zq1727 Tryz.func147 (zq511 h (zq1186 (zq1283 (t := (zq1177 zq1724 (loopN zq1723 FUEL))) (by kernel_rfl) zq1725) lsNil)) [.one (.fl .int),.one (.fl .bool)] rfl
def zq1720 : Env := mkEnv ty fnB [(77,zq1769),(147,(flCon zq1726 Tryz.f147 [.one (.fl .int),.one (.fl .bool)])),(148,zq1670)] []
theorem zq1721 : EnvOk Tryz.prog zq1720 := envOk tyOk fn_ok (zq534 zq1773 (zq534 zq1728 (zq534 zq1671 zq535))) _
theorem zq1722 : TrOk Tryz.prog 137 (zq919 zq1720 Tryz.f137) := by
 have h : zq1180 (zq662 Tryz.f137) = [] := by kernel_rfl
 exact zq920 zq1721 Tryz.func137 (zq511 h lsNil)
def zq1715 : LoopS := { n := 121,base := 16,head := { keep := [0,1,3,8,10,12,13,61,62,63],vals := [.one (.cst (.ptr 13 0)),.one (.fl .str),.one (.fl .int),.one (.cst (.ptr 16 0)),.one (.cst (.ptr 17 0)),.one (.cst (.row 18)),.one (.cst (.row 19)),.one (.cst (.row 12)),.one (.fl .int),.one (.fl .int)],objs := [.bag .addr 32 false false,.nest .pfx 0 116 false,.row .lease 127 false,.blk [.cst (.row 1),.cst (.row 2),.fl .int] 45 true,.blk [.fl .op] 36 true,.blk [.cst (.row 7),.cst (.row 8),.fl .int] 45 true,.bag .addr 32 true true,.nest .pfx 6 116 true,.row .lease 127 true,.blk [.fl .addr] 32 true,.bag .addr 32 true true,.nest .pfx 10 116 true,.row .lease 127 true,.blk [.cst (.row 11),.cst (.row 12),.fl .int] 174 true,.blk [.fl .op] 36 true,.blk [.fl .addr] 32 true,.blk [.fl .addr] 32 true,.blk [.fl .bool,.fl .u64,.fl .u64,.fl .int,.inn 10] 116 true,.row .lease 127 true,.row .lease 127 true] },exits := [⟨some 0,{ keep := [0,1,3,8,10,12,13],vals := [.one (.cst (.ptr 13 0)),.one (.fl .str),.one (.fl .int),.one (.cst (.ptr 16 0)),.one (.cst (.ptr 17 0)),.one (.cst (.row 18)),.one (.cst (.row 19))],objs := [.bag .addr 32 false false,.nest .pfx 0 116 false,.row .lease 127 false,.blk [.cst (.row 1),.cst (.row 2),.fl .int] 45 true,.blk [.fl .op] 36 true,.blk [.cst (.row 7),.cst (.row 8),.fl .int] 45 true,.bag .addr 32 true true,.nest .pfx 6 116 true,.row .lease 127 true,.blk [.fl .addr] 32 true,.bag .addr 32 true true,.nest .pfx 10 116 true,.row .lease 127 true,.blk [.cst (.row 11),.cst (.row 12),.fl .int] 174 true,.blk [.fl .op] 36 true,.blk [.fl .addr] 32 true,.blk [.fl .addr] 32 true,.blk [.fl .bool,.fl .u64,.fl .u64,.fl .int,.inn 10] 116 true,.row .lease 127 true,.row .lease 127 true] }⟩] }
def zq1717 : Env := mkEnv ty fnB [(149,zq357),(113,zq1421),(150,zq1072),(151,zq1676)] [(9,(zq1177 zq1715 (loopN zq1714 FUEL)))]
theorem zq1718 : EnvOk Tryz.prog zq1717 := envOk tyOk fn_ok (zq534 zq360 (zq534 zq1425 (zq534 zq1076 (zq534 zq1677 zq535)))) _
theorem zq1716 : LOk Tryz.prog (zq1259 (zq662 Tryz.f138) 0) (zq1177 zq1715 (loopN zq1714 FUEL)) := by
 have h : zq1180 (zq1259 (zq662 Tryz.f138) 0) = [] := by kernel_rfl
 refine zq1178 zq1718 (zq1181 h lsNil) zq1715 zq1714 FUEL (fun rec x => ?_)
 kernel_rfl
theorem zq1719 : TrOk Tryz.prog 138 (zq919 zq1717 Tryz.f138) := by
 have h : zq1180 (zq662 Tryz.f138) = [(zq1259 (zq662 Tryz.f138) 0)] := by kernel_rfl
 exact zq920 zq1718 Tryz.func138 (zq511 h (zq1186 (zq1283 (t := (zq1177 zq1715 (loopN zq1714 FUEL))) (by kernel_rfl) zq1716) lsNil))
def zq1711 : Env := mkEnv ty fnB [(149,zq357),(153,zq1660)] []
theorem zq1712 : EnvOk Tryz.prog zq1711 := envOk tyOk fn_ok (zq534 zq360 (zq534 zq1661 zq535)) _
theorem zq1713 : TrOk Tryz.prog 139 (zq919 zq1711 Tryz.f139) := by
 have h : zq1180 (zq662 Tryz.f139) = [] := by kernel_rfl
 exact zq920 zq1712 Tryz.func139 (zq511 h lsNil)
def zq1748 : Env := mkEnv ty fnB [(136,(zq919 zq1729 Tryz.f136)),(137,(zq919 zq1720 Tryz.f137)),(138,(zq919 zq1717 Tryz.f138)),(139,(zq919 zq1711 Tryz.f139)),(140,zq1038)] []
theorem zq1749 : EnvOk Tryz.prog zq1748 := envOk tyOk fn_ok (zq534 zq1731 (zq534 zq1722 (zq534 zq1719 (zq534 zq1713 (zq534 zq1042 zq535))))) _
theorem zq1750 : TrOk Tryz.prog 128 (zq919 zq1748 Tryz.f128) := by
 have h : zq1180 (zq662 Tryz.f128) = [] := by kernel_rfl
 exact zq920 zq1749 Tryz.func128 (zq511 h lsNil)
def zq1752 : Env := mkEnv ty fnB [(71,zq1696),(127,zq1705),(128,(zq919 zq1748 Tryz.f128))] []
theorem zq1753 : EnvOk Tryz.prog zq1752 := envOk tyOk fn_ok (zq534 zq1700 (zq534 zq1709 (zq534 zq1750 zq535))) _
def zq1751 : Con := con [.agg [.nest .pfx .addr 116 32 true,.row .lease 127,.fl .int],.one (.fl .op)] [.agg [.nest .pfx .addr 116 32 true,.row .lease 127,.fl .int],.one (.fl .addr),.one (.fl .int)] (fun x => zq1756 x.1.1 x.1.2.1 x.1.2.2.1 x.2.1)
theorem zq1755 : TrOk Tryz.prog 107 zq1751 := by
 have h : zq1180 (zq662 Tryz.f107) = [] := by kernel_rfl
 refine zq665 zq1753 Tryz.func107 (zq511 h lsNil) _ _ _ (fun x => ?_)
 kernel_rfl
def zq1127 : Env := mkEnv ty fnB [(107,zq1751)] []
theorem zq1128 : EnvOk Tryz.prog zq1127 := envOk tyOk fn_ok (zq534 zq1755 zq535) _
theorem zq1129 : TrOk Tryz.prog 89 (zq919 zq1127 Tryz.f89) := by
 have h : zq1180 (zq662 Tryz.f89) = [] := by kernel_rfl
 exact zq920 zq1128 Tryz.func89 (zq511 h lsNil)
def zq1125 : LoopS := { n := 27,base := 1,head := { keep := [2,4,9,10,11],vals := [.one (.cst (.ptr 1 0)),.one (.cst (.ptr 2 0)),.one (.cst (.row 0)),.one (.fl .int),.one (.fl .int)],objs := [.row .entry 68 false,.blk [.cst (.row 3),.cst (.row 4),.fl .int] 45 true,.blk [.cst (.row 5),.cst (.row 6),.fl .int,.cst (.row 7)] 138 true,.nest .pfx 8 116 true,.row .lease 127 true,.nest .pfx 9 116 true,.row .lease 127 true,.row .addr 32 true,.bag .addr 32 true true,.bag .addr 32 true true] },exits := [⟨some 0,{ keep := [2,4],vals := [.one (.cst (.ptr 1 0)),.one (.cst (.ptr 2 0))],objs := [.row .entry 68 false,.blk [.cst (.row 3),.cst (.row 4),.fl .int] 45 true,.blk [.cst (.row 5),.cst (.row 6),.fl .int,.cst (.row 7)] 138 true,.nest .pfx 8 116 true,.row .lease 127 true,.nest .pfx 9 116 true,.row .lease 127 true,.row .addr 32 true,.bag .addr 32 true true,.bag .addr 32 true true] }⟩] }
def zq1131 : Env := mkEnv ty fnB [(89,(zq919 zq1127 Tryz.f89))] [(3,(zq1177 zq1125 (loopN zq1124 FUEL)))]
theorem zq1132 : EnvOk Tryz.prog zq1131 := envOk tyOk fn_ok (zq534 zq1129 zq535) _
theorem zq1126 : LOk Tryz.prog (zq1259 (zq662 Tryz.f43) 0) (zq1177 zq1125 (loopN zq1124 FUEL)) := by
 have h : zq1180 (zq1259 (zq662 Tryz.f43) 0) = [] := by kernel_rfl
 refine zq1178 zq1132 (zq1181 h lsNil) zq1125 zq1124 FUEL (fun rec x => ?_)
 kernel_rfl
def zq1130 : Con := con [.one (.row .entry 68)] [.agg [.nest .pfx .addr 116 32 true,.row .lease 127,.fl .int],.one (.row .addr 32)] (fun x => zq1135 x.1)
theorem zq1134 : TrOk Tryz.prog 43 zq1130 := by
 have h : zq1180 (zq662 Tryz.f43) = [(zq1259 (zq662 Tryz.f43) 0)] := by kernel_rfl
 refine zq665 zq1132 Tryz.func43 (zq511 h (zq1186 (zq1283 (t := (zq1177 zq1125 (loopN zq1124 FUEL))) (by kernel_rfl) zq1126) lsNil)) _ _ _ (fun x => ?_)
 kernel_rfl
def zq637 : Env := mkEnv ty fnB [(16,zq597),(42,zq654),(43,zq1130)] []
theorem zq638 : EnvOk Tryz.prog zq637 := envOk tyOk fn_ok (zq534 zq601 (zq534 zq658 (zq534 zq1134 zq535))) _
def zq636 : Con := con [.agg [.fl .int,.fl .int,.fl .int,.fl .int,.row .entry 68,.nest .int .entry 56 68 true],.one (.fl .int)] [.agg [.nest .pfx .addr 116 32 true,.row .lease 127,.fl .int],.one (.fl .int)] (fun x => zq641 x.1.1 x.1.2.1 x.1.2.2.1 x.1.2.2.2.1 x.1.2.2.2.2.1 x.1.2.2.2.2.2.1 x.2.1)
theorem zq640 : TrOk Tryz.prog 10 zq636 := by
 have h : zq1180 (zq662 Tryz.f10) = [] := by kernel_rfl
 refine zq665 zq638 Tryz.func10 (zq511 h lsNil) _ _ _ (fun x => ?_)
 kernel_rfl
def zq152 : LoopS := { n := 135,base := 2,head := { keep := [2,3,4,5,11,13,15,16,17,18,19],vals := [.one (.fl .str),.one (.fl .int),.one (.fl .int),.one (.cst (.ptr 2 0)),.one (.cst (.ptr 3 0)),.one (.cst (.row 4)),.one (.cst (.row 5)),.one (.cst (.ptr 6 0)),.one (.fl .int),.one (.fl .bool),.one (.fl .int)],objs := [.row .addr 32 false,.row .lease 127 false,.blk [.fl .bool,.fl .u64,.fl .u64,.fl .int,.cst (.row 0)] 116 true,.blk [.fl .addr] 32 true,.row .lease 127 true,.row .lease 127 true,.blk [.fl .addr] 32 true] },exits := [⟨some 2,{ keep := [2,3,4,5,11,13,15,16,17,18],vals := [.one (.fl .str),.one (.fl .int),.one (.fl .int),.one (.cst (.ptr 2 0)),.one (.cst (.ptr 3 0)),.one (.cst (.row 4)),.one (.cst (.row 5)),.one (.cst (.ptr 6 0)),.one (.fl .int),.one (.fl .bool)],objs := [.row .addr 32 false,.row .lease 127 false,.blk [.fl .bool,.fl .u64,.fl .u64,.fl .int,.cst (.row 0)] 116 true,.blk [.fl .addr] 32 true,.row .lease 127 true,.row .lease 127 true,.blk [.fl .addr] 32 true] }⟩] }
def zq155 : LoopS := { n := 135,base := 2,head := { keep := [11,13,15,16,20,21,22],vals := [.one (.cst (.ptr 2 0)),.one (.cst (.row 3)),.one (.cst (.row 4)),.one (.cst (.ptr 5 0)),.one (.cst (.ptr 6 0)),.one (.fl .bool),.one (.fl .int)],objs := [.row .addr 32 false,.row .lease 127 false,.blk [.fl .addr] 32 true,.row .lease 127 true,.row .lease 127 true,.blk [.fl .addr] 32 true,.blk [.fl .lease] 127 true] },exits := [⟨some 4,{ keep := [11,15,16,20,21],vals := [.one (.cst (.ptr 2 0)),.one (.cst (.row 3)),.one (.cst (.ptr 4 0)),.one (.cst (.ptr 5 0)),.one (.fl .bool)],objs := [.row .addr 32 false,.row .lease 127 false,.blk [.fl .addr] 32 true,.row .lease 127 true,.blk [.fl .addr] 32 true,.blk [.fl .lease] 127 true] }⟩] }
def zq158 : LoopS := { n := 135,base := 2,head := { keep := [2,3,4,5,11,13,15,16,17],vals := [.one (.fl .str),.one (.fl .int),.one (.fl .int),.one (.cst (.ptr 2 0)),.one (.cst (.ptr 3 0)),.one (.cst (.row 4)),.one (.cst (.row 5)),.one (.cst (.ptr 6 0)),.one (.fl .int)],objs := [.row .addr 32 false,.row .lease 127 false,.blk [.fl .bool,.fl .u64,.fl .u64,.fl .int,.cst (.row 0)] 116 true,.blk [.fl .addr] 32 true,.row .lease 127 true,.row .lease 127 true,.blk [.fl .addr] 32 true] },exits := [⟨none,{ keep := [10,11,12],vals := [.one (.cst (.row 2)),.one (.cst (.ptr 3 0)),.one (.fl .bool)],objs := [.row .addr 32 false,.row .lease 127 false,.row .lease 127 true,.blk [.fl .addr] 32 true] }⟩,⟨some 0,{ keep := [11],vals := [.one (.cst (.ptr 2 0))],objs := [.row .addr 32 false,.row .lease 127 false,.blk [.fl .addr] 32 true] }⟩] }
def zq161 : Env := mkEnv ty fnB [(99,zq205),(96,zq292),(97,zq166),(94,zq313),(95,zq181),(125,zq211)] [(13,(zq1177 zq152 (loopN zq151 FUEL))),(20,(zq1177 zq155 (loopN zq154 FUEL))),(9,(zq1177 zq158 (loopN zq157 FUEL)))]
theorem zq162 : EnvOk Tryz.prog zq161 := envOk tyOk fn_ok (zq534 zq209 (zq534 zq296 (zq534 zq170 (zq534 zq317 (zq534 zq185 (zq534 zq213 zq535)))))) _
theorem zq156 : LOk Tryz.prog (zq1259 (zq1259 (zq662 Tryz.f98) 0) 1) (zq1177 zq155 (loopN zq154 FUEL)) := by
 have h : zq1180 (zq1259 (zq1259 (zq662 Tryz.f98) 0) 1) = [] := by kernel_rfl
 refine zq1178 zq162 (zq1181 h lsNil) zq155 zq154 FUEL (fun rec x => ?_)
 kernel_rfl
theorem zq153 : LOk Tryz.prog (zq1259 (zq1259 (zq662 Tryz.f98) 0) 0) (zq1177 zq152 (loopN zq151 FUEL)) := by
 have h : zq1180 (zq1259 (zq1259 (zq662 Tryz.f98) 0) 0) = [] := by kernel_rfl
 refine zq1178 zq162 (zq1181 h lsNil) zq152 zq151 FUEL (fun rec x => ?_)
 kernel_rfl
theorem zq159 : LOk Tryz.prog (zq1259 (zq662 Tryz.f98) 0) (zq1177 zq158 (loopN zq157 FUEL)) := by
 have h : zq1180 (zq1259 (zq662 Tryz.f98) 0) = [(zq1259 (zq1259 (zq662 Tryz.f98) 0) 0),(zq1259 (zq1259 (zq662 Tryz.f98) 0) 1)] := by kernel_rfl
 refine zq1178 zq162 (zq1181 h (zq1186 (zq1283 (t := (zq1177 zq152 (loopN zq151 FUEL))) (by kernel_rfl) zq153) (zq1186 (zq1283 (t := (zq1177 zq155 (loopN zq154 FUEL))) (by kernel_rfl) zq156) lsNil))) zq158 zq157 FUEL (fun rec x => ?_)
 kernel_rfl
def zq160 : Con := con [.agg [.fl .pfx,.row .addr 32],.one (.row .lease 127),.one (.fl .str),.one (.fl .int),.one (.fl .int)] [.one (.row .lease 127),.one (.fl .addr),.one (.fl .bool)] (fun x => zq165 x.1.1 x.1.2.1 x.2.1 x.2.2.1 x.2.2.2.1 x.2.2.2.2.1)
theorem zq164 : TrOk Tryz.prog 98 zq160 := by
 have h : zq1180 (zq662 Tryz.f98) = [(zq1259 (zq662 Tryz.f98) 0)] := by kernel_rfl
 refine zq665 zq162 Tryz.func98 (zq511 h (zq1186 (zq1283 (t := (zq1177 zq158 (loopN zq157 FUEL))) (by kernel_rfl) zq159) lsNil)) _ _ _ (fun x => ?_)
 kernel_rfl
def zq116 : LoopS := { n := 421,base := 4,head := { keep := [2,3,4,5,8,9,10],vals := [.one (.cst (.ptr 4 0)),.one (.cst (.ptr 5 0)),.one (.cst (.ptr 6 0)),.one (.cst (.ptr 7 0)),.one (.cst (.ptr 8 0)),.one (.fl .bool),.one (.fl .int)],objs := [.bag .addr 32 false false,.nest .pfx 0 116 false,.row .lease 127 false,.ghost,.blk [.cst (.row 1),.cst (.row 2),.fl .int] 45 true,.blk [.fl .op] 36 true,.blk [.cst (.row 9),.cst (.row 10),.fl .int] 45 true,.blk [.fl .addr] 32 true,.blk [.cst (.row 11),.cst (.row 2),.fl .int] 45 true,.nest .pfx 12 116 true,.row .lease 127 true,.nest .pfx 13 116 true,.bag .addr 32 true true,.bag .addr 32 false false] },exits := [⟨none,{ keep := [4,5,6],vals := [.one (.cst (.ptr 4 0)),.one (.cst (.ptr 5 0)),.one (.fl .int)],objs := [.bag .addr 32 false false,.nest .pfx 0 116 false,.row .lease 127 false,.ghost,.blk [.cst (.row 6),.cst (.row 7),.fl .int] 45 true,.blk [.fl .addr] 32 true,.nest .pfx 8 116 true,.row .lease 127 true,.bag .addr 32 true true] }⟩,⟨some 1,{ keep := [3,4,5,8,9],vals := [.one (.cst (.ptr 4 0)),.one (.cst (.ptr 5 0)),.one (.cst (.ptr 6 0)),.one (.cst (.ptr 7 0)),.one (.fl .bool)],objs := [.bag .addr 32 false false,.nest .pfx 0 116 false,.row .lease 127 false,.ghost,.blk [.fl .op] 36 true,.blk [.cst (.row 8),.cst (.row 9),.fl .int] 45 true,.blk [.fl .addr] 32 true,.blk [.cst (.row 10),.cst (.row 2),.fl .int] 45 true,.nest .pfx 11 116 true,.row .lease 127 true,.nest .pfx 12 116 true,.bag .addr 32 true true,.bag .addr 32 false false] }⟩] }
def zq119 : LoopS := { n := 421,base := 4,head := { keep := [2,4,5,8,11,12,13],vals := [.one (.cst (.ptr 4 0)),.one (.cst (.ptr 5 0)),.one (.cst (.ptr 6 0)),.one (.cst (.ptr 7 0)),.one (.fl .int),.one (.cst (.row 8)),.one (.fl .int)],objs := [.bag .addr 32 false false,.nest .pfx 0 116 false,.row .lease 127 false,.ghost,.blk [.cst (.row 1),.cst (.row 2),.fl .int] 45 true,.blk [.cst (.row 9),.cst (.row 10),.fl .int] 45 true,.blk [.fl .addr] 32 true,.blk [.cst (.row 1),.cst (.row 2),.fl .int] 45 true,.row .addr 32 true,.nest .pfx 11 116 true,.row .lease 127 true,.bag .addr 32 true true] },exits := [⟨some 4,{ keep := [2,4,5,8,11,12],vals := [.one (.cst (.ptr 4 0)),.one (.cst (.ptr 5 0)),.one (.cst (.ptr 6 0)),.one (.cst (.ptr 7 0)),.one (.fl .int),.one (.cst (.row 8))],objs := [.bag .addr 32 false false,.nest .pfx 0 116 false,.row .lease 127 false,.ghost,.blk [.cst (.row 1),.cst (.row 2),.fl .int] 45 true,.blk [.cst (.row 9),.cst (.row 10),.fl .int] 45 true,.blk [.fl .addr] 32 true,.blk [.cst (.row 1),.cst (.row 2),.fl .int] 45 true,.row .addr 32 true,.nest .pfx 11 116 true,.row .lease 127 true,.bag .addr 32 true true] }⟩] }
def zq122 : LoopS := { n := 421,base := 4,head := { keep := [2,3,4,5,8,14,16,17],vals := [.one (.cst (.ptr 4 0)),.one (.cst (.ptr 5 0)),.one (.cst (.ptr 6 0)),.one (.cst (.ptr 7 0)),.one (.cst (.ptr 8 0)),.one (.cst (.ptr 9 0)),.one (.cst (.row 10)),.one (.fl .int)],objs := [.bag .addr 32 false false,.nest .pfx 0 116 false,.row .lease 127 false,.ghost,.blk [.cst (.row 1),.cst (.row 2),.fl .int] 45 true,.blk [.fl .op] 36 true,.blk [.cst (.row 11),.cst (.row 12),.fl .int] 45 true,.blk [.fl .addr] 32 true,.blk [.cst (.row 1),.cst (.row 2),.fl .int] 45 true,.blk [.fl .bool,.fl .u64,.fl .u64,.fl .int,.inn 0] 116 true,.row .lease 127 true,.nest .pfx 13 116 true,.row .lease 127 true,.bag .addr 32 true true] },exits := [⟨some 6,{ keep := [2,3,4,5,8,14,16],vals := [.one (.cst (.ptr 4 0)),.one (.cst (.ptr 5 0)),.one (.cst (.ptr 6 0)),.one (.cst (.ptr 7 0)),.one (.cst (.ptr 8 0)),.one (.cst (.ptr 9 0)),.one (.cst (.row 10))],objs := [.bag .addr 32 false false,.nest .pfx 0 116 false,.row .lease 127 false,.ghost,.blk [.cst (.row 1),.cst (.row 2),.fl .int] 45 true,.blk [.fl .op] 36 true,.blk [.cst (.row 11),.cst (.row 12),.fl .int] 45 true,.blk [.fl .addr] 32 true,.blk [.cst (.row 1),.cst (.row 2),.fl .int] 45 true,.blk [.fl .bool,.fl .u64,.fl .u64,.fl .int,.inn 0] 116 true,.row .lease 127 true,.nest .pfx 13 116 true,.row .lease 127 true,.bag .addr 32 true true] }⟩] }
def zq125 : LoopS := { n := 421,base := 4,head := { keep := [2,4,5,8,14,18,19,21],vals := [.one (.cst (.ptr 4 0)),.one (.cst (.ptr 5 0)),.one (.cst (.ptr 6 0)),.one (.cst (.ptr 7 0)),.one (.cst (.ptr 8 0)),.one (.cst (.row 9)),.one (.cst (.ptr 10 0)),.one (.fl .int)],objs := [.bag .addr 32 false false,.nest .pfx 0 116 false,.row .lease 127 false,.ghost,.blk [.cst (.row 1),.cst (.row 2),.fl .int] 45 true,.blk [.cst (.row 11),.cst (.row 12),.fl .int] 45 true,.blk [.fl .addr] 32 true,.blk [.cst (.row 1),.cst (.row 13),.fl .int] 45 true,.blk [.fl .bool,.fl .u64,.fl .u64,.fl .int,.inn 0] 116 true,.row .lease 127 true,.blk [.fl .addr] 32 true,.nest .pfx 14 116 true,.row .lease 127 true,.row .lease 127 true,.bag .addr 32 true true] },exits := [⟨some 8,{ keep := [4,5,8,18,19],vals := [.one (.cst (.ptr 4 0)),.one (.cst (.ptr 5 0)),.one (.cst (.ptr 6 0)),.one (.cst (.row 7)),.one (.cst (.ptr 8 0))],objs := [.bag .addr 32 false false,.nest .pfx 0 116 false,.row .lease 127 false,.ghost,.blk [.cst (.row 9),.cst (.row 10),.fl .int] 45 true,.blk [.fl .addr] 32 true,.blk [.cst (.row 1),.cst (.row 11),.fl .int] 45 true,.row .lease 127 true,.blk [.fl .addr] 32 true,.nest .pfx 12 116 true,.row .lease 127 true,.row .lease 127 true,.bag .addr 32 true true] }⟩] }
def zq131 : LoopS := { n := 421,base := 4,head := { keep := [4,5,8,18,19,22,23],vals := [.one (.cst (.ptr 4 0)),.one (.cst (.ptr 5 0)),.one (.cst (.ptr 6 0)),.one (.cst (.row 7)),.one (.cst (.ptr 8 0)),.one (.fl .int),.one (.fl .int)],objs := [.bag .addr 32 false false,.nest .pfx 0 116 false,.row .lease 127 false,.ghost,.blk [.cst (.row 9),.cst (.row 10),.fl .int] 45 true,.blk [.fl .addr] 32 true,.blk [.cst (.row 1),.cst (.row 11),.fl .int] 45 true,.row .lease 127 true,.blk [.fl .addr] 32 true,.nest .pfx 12 116 true,.row .lease 127 true,.row .lease 127 true,.bag .addr 32 true true] },exits := [⟨some 12,{ keep := [4,5,8,18,19,22],vals := [.one (.cst (.ptr 4 0)),.one (.cst (.ptr 5 0)),.one (.cst (.ptr 6 0)),.one (.cst (.row 7)),.one (.cst (.ptr 8 0)),.one (.fl .int)],objs := [.bag .addr 32 false false,.nest .pfx 0 116 false,.row .lease 127 false,.ghost,.blk [.cst (.row 9),.cst (.row 10),.fl .int] 45 true,.blk [.fl .addr] 32 true,.blk [.cst (.row 1),.cst (.row 11),.fl .int] 45 true,.row .lease 127 true,.blk [.fl .addr] 32 true,.nest .pfx 12 116 true,.row .lease 127 true,.row .lease 127 true,.bag .addr 32 true true] }⟩] }
def zq128 : LoopS := { n := 421,base := 4,head := { keep := [4,5,8,18,19,22],vals := [.one (.cst (.ptr 4 0)),.one (.cst (.ptr 5 0)),.one (.cst (.ptr 6 0)),.one (.cst (.row 7)),.one (.cst (.ptr 8 0)),.one (.fl .int)],objs := [.bag .addr 32 false false,.nest .pfx 0 116 false,.row .lease 127 false,.ghost,.blk [.cst (.row 9),.cst (.row 10),.fl .int] 45 true,.blk [.fl .addr] 32 true,.blk [.cst (.row 1),.cst (.row 11),.fl .int] 45 true,.row .lease 127 true,.blk [.fl .addr] 32 true,.nest .pfx 12 116 true,.row .lease 127 true,.row .lease 127 true,.bag .addr 32 true true] },exits := [⟨some 10,{ keep := [4,5,8,19],vals := [.one (.cst (.ptr 4 0)),.one (.cst (.ptr 5 0)),.one (.cst (.ptr 6 0)),.one (.cst (.ptr 7 0))],objs := [.bag .addr 32 false false,.nest .pfx 0 116 false,.row .lease 127 false,.ghost,.blk [.cst (.row 8),.cst (.row 9),.fl .int] 45 true,.blk [.fl .addr] 32 true,.blk [.cst (.row 1),.cst (.row 10),.fl .int] 45 true,.blk [.fl .addr] 32 true,.nest .pfx 11 116 true,.row .lease 127 true,.row .lease 127 true,.bag .addr 32 true true] }⟩] }
def zq134 : Env := mkEnv ty fnB [(22,zq94),(91,zq109),(92,zq224),(93,zq218),(94,zq313),(95,zq181),(96,zq292),(97,zq166),(98,zq160),(99,zq205)] [(10,(zq1177 zq116 (loopN zq115 FUEL))),(33,(zq1177 zq119 (loopN zq118 FUEL))),(48,(zq1177 zq122 (loopN zq121 FUEL))),(57,(zq1177 zq125 (loopN zq124 FUEL))),(66,(zq1177 zq131 (loopN zq130 FUEL))),(62,(zq1177 zq128 (loopN zq127 FUEL)))]
theorem zq135 : EnvOk Tryz.prog zq134 := envOk tyOk fn_ok (zq534 zq98 (zq534 zq113 (zq534 zq228 (zq534 zq222 (zq534 zq317 (zq534 zq185 (zq534 zq296 (zq534 zq170 (zq534 zq164 (zq534 zq209 zq535)))))))))) _
theorem zq132 : LOk Tryz.prog (zq1259 (zq1259 (zq662 Tryz.f51) 4) 0) (zq1177 zq131 (loopN zq130 FUEL)) := by
 have h : zq1180 (zq1259 (zq1259 (zq662 Tryz.f51) 4) 0) = [] := by kernel_rfl
 refine zq1178 zq135 (zq1181 h lsNil) zq131 zq130 FUEL (fun rec x => ?_)
 kernel_rfl
theorem zq129 : LOk Tryz.prog (zq1259 (zq662 Tryz.f51) 4) (zq1177 zq128 (loopN zq127 FUEL)) := by
 have h : zq1180 (zq1259 (zq662 Tryz.f51) 4) = [(zq1259 (zq1259 (zq662 Tryz.f51) 4) 0)] := by kernel_rfl
 refine zq1178 zq135 (zq1181 h (zq1186 (zq1283 (t := (zq1177 zq131 (loopN zq130 FUEL))) (by kernel_rfl) zq132) lsNil)) zq128 zq127 FUEL (fun rec x => ?_)
 kernel_rfl
theorem zq120 : LOk Tryz.prog (zq1259 (zq662 Tryz.f51) 1) (zq1177 zq119 (loopN zq118 FUEL)) := by
 have h : zq1180 (zq1259 (zq662 Tryz.f51) 1) = [] := by kernel_rfl
 refine zq1178 zq135 (zq1181 h lsNil) zq119 zq118 FUEL (fun rec x => ?_)
 kernel_rfl
theorem zq123 : LOk Tryz.prog (zq1259 (zq662 Tryz.f51) 2) (zq1177 zq122 (loopN zq121 FUEL)) := by
 have h : zq1180 (zq1259 (zq662 Tryz.f51) 2) = [] := by kernel_rfl
 refine zq1178 zq135 (zq1181 h lsNil) zq122 zq121 FUEL (fun rec x => ?_)
 kernel_rfl
theorem zq126 : LOk Tryz.prog (zq1259 (zq662 Tryz.f51) 3) (zq1177 zq125 (loopN zq124 FUEL)) := by
 have h : zq1180 (zq1259 (zq662 Tryz.f51) 3) = [] := by kernel_rfl
 refine zq1178 zq135 (zq1181 h lsNil) zq125 zq124 FUEL (fun rec x => ?_)
 kernel_rfl
theorem zq117 : LOk Tryz.prog (zq1259 (zq662 Tryz.f51) 0) (zq1177 zq116 (loopN zq115 FUEL)) := by
 have h : zq1180 (zq1259 (zq662 Tryz.f51) 0) = [] := by kernel_rfl
 refine zq1178 zq135 (zq1181 h lsNil) zq116 zq115 FUEL (fun rec x => ?_)
 kernel_rfl
def zq133 : Con := lcon [.agg [.nest .pfx .addr 116 32 true,.row .lease 127,.fl .int],.one (.fl .op)] [.agg [.nest .pfx .addr 116 32 false,.row .lease 127,.fl .int],.one (.fl .addr),.one (.fl .int)] (fun x => zq138 x.1.1 x.1.2.1 x.1.2.2.1 x.2.1)
theorem zq137 : TrOk Tryz.prog 51 zq133 := by
 have h : zq1180 (zq662 Tryz.f51) = [(zq1259 (zq662 Tryz.f51) 0),(zq1259 (zq662 Tryz.f51) 1),(zq1259 (zq662 Tryz.f51) 2),(zq1259 (zq662 Tryz.f51) 3),(zq1259 (zq662 Tryz.f51) 4)] := by kernel_rfl
 refine zq1032 zq135 Tryz.func51 (zq511 h (zq1186 (zq1283 (t := (zq1177 zq116 (loopN zq115 FUEL))) (by kernel_rfl) zq117) (zq1186 (zq1283 (t := (zq1177 zq119 (loopN zq118 FUEL))) (by kernel_rfl) zq120) (zq1186 (zq1283 (t := (zq1177 zq122 (loopN zq121 FUEL))) (by kernel_rfl) zq123) (zq1186 (zq1283 (t := (zq1177 zq125 (loopN zq124 FUEL))) (by kernel_rfl) zq126) (zq1186 (zq1283 (t := (zq1177 zq128 (loopN zq127 FUEL))) (by kernel_rfl) zq129) lsNil)))))) _ _ rfl rfl _ (fun x => ?_)
 kernel_rfl
def zq231 : LoopS := { n := 36,base := 2,head := { keep := [0,2,4,5,6],vals := [.one (.cst (.row 0)),.one (.cst (.ptr 2 0)),.one (.cst (.ptr 3 0)),.one (.cst (.row 4)),.one (.fl .int)],objs := [.row .entry 68 false,.ghost,.blk [.cst (.row 5),.cst (.row 6),.fl .int] 45 true,.blk [.cst (.row 7),.cst (.row 8),.fl .int] 45 true,.row .addr 32 true,.nest .pfx 9 116 true,.row .lease 127 true,.nest .pfx 10 116 false,.row .lease 127 false,.bag .addr 32 true true,.bag .addr 32 false false] },exits := [⟨some 0,{ keep := [2,4,5],vals := [.one (.cst (.ptr 2 0)),.one (.cst (.ptr 3 0)),.one (.cst (.row 4))],objs := [.row .entry 68 false,.ghost,.blk [.cst (.row 5),.cst (.row 6),.fl .int] 45 true,.blk [.cst (.row 7),.cst (.row 8),.fl .int] 45 true,.row .addr 32 true,.nest .pfx 9 116 true,.row .lease 127 true,.nest .pfx 10 116 false,.row .lease 127 false,.bag .addr 32 true true,.bag .addr 32 false false] }⟩] }
def zq234 : Env := mkEnv ty fnB [(51,(conS zq133))] [(4,(zq1177 zq231 (loopN zq230 FUEL)))]
theorem zq235 : EnvOk Tryz.prog zq234 := envOk tyOk fn_ok (zq534 (zq663 zq137) zq535) _
theorem zq232 : LOk Tryz.prog (zq1259 (zq662 Tryz.f14) 0) (zq1177 zq231 (loopN zq230 FUEL)) := by
 have h : zq1180 (zq1259 (zq662 Tryz.f14) 0) = [] := by kernel_rfl
 refine zq1178 zq235 (zq1181 h lsNil) zq231 zq230 FUEL (fun rec x => ?_)
 kernel_rfl
def zq233 : Con := lcon [.one (.row .entry 68)] [.agg [.nest .pfx .addr 116 32 false,.row .lease 127,.fl .int],.one (.row .addr 32)] (fun x => zq238 x.1)
theorem zq237 : TrOk Tryz.prog 14 zq233 := by
 have h : zq1180 (zq662 Tryz.f14) = [(zq1259 (zq662 Tryz.f14) 0)] := by kernel_rfl
 refine zq1032 zq235 Tryz.func14 (zq511 h (zq1186 (zq1283 (t := (zq1177 zq231 (loopN zq230 FUEL))) (by kernel_rfl) zq232) lsNil)) _ _ rfl rfl _ (fun x => ?_)
 kernel_rfl
def zq993 : Env := mkEnv ty fnB [(52,zq1002),(19,zq630),(10,zq636),(53,zq622),(16,zq597)] []
theorem zq994 : EnvOk Tryz.prog zq993 := envOk tyOk fn_ok (zq534 zq1005 (zq534 zq634 (zq534 zq640 (zq534 zq625 (zq534 zq601 zq535))))) _
def zq992 : Con := con [] [.one (.fl .bool)] (fun x => zq996)
theorem zq995 : TrOk Tryz.prog 15 zq992 := by
 have h : zq1180 (zq662 Tryz.f15) = [] := by kernel_rfl
 refine zq665 zq994 Tryz.func15 (zq511 h lsNil) _ _ _ (fun x => ?_)
 kernel_rfl
def zq986 : Env := mkEnv ty fnB [(9,zq616),(10,zq636),(11,zq64),(12,zq79),(13,zq145),(15,zq992),(16,zq597),(17,zq997),(18,zq1017),(14,zq233)] []
theorem zq987 : EnvOk Tryz.prog zq986 := envOk tyOk fn_ok (zq534 zq620 (zq534 zq640 (zq534 zq68 (zq534 zq83 (zq534 zq149 (zq534 zq995 (zq534 zq601 (zq534 zq1000 (zq534 zq1021 (zq534 zq237 zq535)))))))))) _
def zq985 : Con := con [.agg [.fl .int,.fl .int,.fl .int,.fl .int,.row .entry 68,.nest .int .entry 56 68 true],.one (.fl .event),.one (.fl .int)] [.one (.fl .bool)] (fun x => zq989 x.1.1 x.1.2.1 x.1.2.2.1 x.1.2.2.2.1 x.1.2.2.2.2.1 x.1.2.2.2.2.2.1 x.2.1 x.2.2.1)
theorem zq988 : TrOk Tryz.prog 3 zq985 := by
 have h : zq1180 (zq662 Tryz.f3) = [] := by kernel_rfl
 refine zq665 zq987 Tryz.func3 (zq511 h lsNil) _ _ _ (fun x => ?_)
 kernel_rfl
end Go.Proofs.YtjncjiegmnicbabGreat
namespace Go.Proofs.YtjncjiegmnicbabGreat
open Go Go.Ma Go.ChangeShapes Go.WideShapes Go.ChangeAt Go.RowKit
set_option linter.unusedVariables false
theorem zq589 : ownKnob Tryz.prog.godebug = none := by kernel_rfl
theorem zq586 : laidOutB Tryz.prog = true := by kernel_rfl
theorem zq590 : ∀ x,PsIn [.agg [.fl .int,.fl .int,.fl .int,.fl .int,.row .entry 68,.nest .int .entry 56 68 true],.one (.fl .event),.one (.fl .int)] x → (fun x => zq989 x.1.1 x.1.2.1 x.1.2.2.1 x.1.2.2.2.1 x.1.2.2.2.2.1 x.1.2.2.2.2.2.1 x.2.1 x.2.2.1) x = some ((true : Bool),()) := fun x hx => zq4 x.1.1 x.1.2.1 x.1.2.2.1 x.1.2.2.2.1 hx.1.2.2.2.2.1.2 (zq1194 hx.1.2.2.2.2.1.1) x.1.2.2.2.2.2.1.1 (fun c hc => (hx.1.2.2.2.2.2.1.2.2 c hc).2) hx.1.2.2.2.2.2.1.2.1 hx.2.1 x.2.2.1
set_option maxRecDepth 100000 in
theorem zq587 (os : Os) (started : os.Started) (H : Type) (enc : TypeId × Value → H) :
  ReturnsInHanded {} Tryz.checked os 3 .any (Rows.clusterTellsSpec.pre6 enc Tryz.prog Tryz.f3 Rows.clusterTellsRow.domain false) (Rows.clusterTellsSpec.post enc Tryz.prog Tryz.f3 false true false false) := by
 refine returnsInHanded_of_change (C := Tryz.checked) zq589 started (by kernel_rfl) Tryz.func3
  (ChangeSpec.witness6 (enc := enc) (C := Tryz.checked) false ⟨#[],#[.agg #[.int .i64 0,.int .i64 0,.int .i64 0,.int .i64 0,.slice none 0 0,.slice none 0 0],.agg #[.int .i64 0,.int .i64 0,.int .i64 0,.int .i64 0,.bool false,.int .u64 0,.int .u64 0,.int .i64 0,.bool false,.int .u64 0,.int .u64 0,.string ByteArray.empty,.int .i64 0,.int .i64 0],.int .i64 0],[]⟩ 8 (by kernel_rfl) (by kernel_rfl) (by kernel_rfl) (by kernel_rfl)) ?_
 intro W base args ds gs before hval0 hW hcnd _
 have hval : ∀ (j : Nat) t v,Tryz.f3.params[j]? = some t → args[j]? = some v → Value.okWide Tryz.prog W .any base t v := hval0
 have hW' := hW
 obtain ⟨p,q,hA0,hV,rfl,hfz,hnd⟩ := hW
 have hA : DataW.TrodAll enc Tryz.prog W 0 (fun _ => true) true Tryz.f3.params.toList args.toList ds p := hA0
 rw [Tryz.params3] at hA hval
 have hA2 := hA
 obtain ⟨v0,vs0,d0,ds0,p0,q0,hargs,rfl,rfl,h0,r0⟩ := trodAll_cons hA
 obtain ⟨v1,vs1,d1,ds1,p1,q1,rfl,rfl,rfl,h1,r1⟩ := trodAll_cons r0
 obtain ⟨v2,vs2,d2,ds2,p2,q2,rfl,rfl,rfl,h2,r2⟩ := trodAll_cons r1
 obtain ⟨rfl,rfl,rfl⟩ := trodAll_nil r2
 obtain rfl : args = #[v0,v1,v2] := by cases args; simp_all
 obtain ⟨rfl,rfl⟩ := trodVars_none hV
 have call := zq990 (enc := enc) (Glob.none (by kernel_rfl) (by kernel_rfl) (by kernel_rfl) (by kernel_rfl) (by kernel_rfl)) zq988 zq590 (fun x => rfl) (fun x => rfl) (ts := [29,38,3]) (vs := [v0,v1,v2]) (by kernel_rfl) (fun j t v h1 h2 => hval j t v (by simpa using h1) (by simpa using h2)) hA2
 refine call.mono fun e W' ⟨he,bel⟩ => ?_
 subst he
 exact ⟨_,rfl,_,_,_,[],_,[],hW',trodAll_mk1 (shut_bool Tryz.underlying4 _),zq440 zq586 bel _ _ _ _ (by kernel_rfl) hA2,rfl,bel.frame _,fun h => by cases h⟩
theorem zq588 : Rows.clusterTellsRow.holds Tryz.pinned (OpenSpec.ofChange Rows.clusterTellsSpec) :=
 OpenClaim.holds_of_wide 3 Tryz.f3 rfl rfl rfl rfl rfl rfl rfl ⟨rfl,rfl,rfl,rfl,rfl⟩ rfl rfl rfl rfl rfl (by kernel_rfl) Tryz.func3 (by kernel_rfl)
  (of_decide_eq_true (by kernel_rfl)) (by unfold Func.isWrapper; rw [if_neg (of_decide_eq_false (by kernel_rfl))]; exact ⟨rfl,rfl⟩)
  (fun os started H enc _ => zq587 os started H enc)
theorem clusterTells_said : Rows.ClusterTellsSaid := zq588
end Go.Proofs.YtjncjiegmnicbabGreat
