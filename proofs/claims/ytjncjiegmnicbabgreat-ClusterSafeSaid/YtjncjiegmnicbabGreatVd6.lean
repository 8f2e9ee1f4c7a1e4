/-
  For every input ClusterSafe of the package yardarmlaw returns true, and each of its arguments reads behind the call as it read before. No condition.
-/
import Derived.Test.YtjncjiegmnicbabGreatRows
import Derived.WalkKit
import Derived.ProofKit
import Derived.OpenShut
import Derived.ShutString
import Derived.ChangeOld
import Derived.Below
import Derived.Test.YtjncjiegmnicbabGreatVd5
set_option linter.unusedVariables false
set_option linter.unusedSimpArgs false
namespace Go.Proofs.YtjncjiegmnicbabGreat
open Go Go.Ma
def zq44 : LoopS := { n := 49, base := 10, head := { keep := [0, 2, 4, 8, 9, 10], vals := [.one (.cst (.row 6)), .one (.cst (.fn 164 [])), .one (.cst (.ptr 10 0)), .one (.fl .int), .one (.fl .int), .one (.fl .int)], objs := [.row .addr 32 false, .row .lease 127 false, .blk [.fl .bool, .fl .u64, .fl .u64, .fl .int, .cst (.row 0)] 116 false, .blk [.fl .str] 9 false, .row .lease 127 false, .blk [.fl .addr] 32 false, .row .lease 127 false, .blk [.fl .bool, .fl .u64, .fl .u64, .fl .int, .cst (.row 0), .cst (.row 6)] 204 false, .blk [.fl .addr] 32 false, .blk [.fl .lease] 127 false, .blk [.fl .lease] 127 true] }, exits := [⟨some 0, { keep := [0, 2, 4, 8, 9], vals := [.one (.cst (.row 6)), .one (.cst (.fn 164 [])), .one (.cst (.ptr 10 0)), .one (.fl .int), .one (.fl .int)], objs := [.row .addr 32 false, .row .lease 127 false, .blk [.fl .bool, .fl .u64, .fl .u64, .fl .int, .cst (.row 0)] 116 false, .blk [.fl .str] 9 false, .row .lease 127 false, .blk [.fl .addr] 32 false, .row .lease 127 false, .blk [.fl .bool, .fl .u64, .fl .u64, .fl .int, .cst (.row 0), .cst (.row 6)] 204 false, .blk [.fl .addr] 32 false, .blk [.fl .lease] 127 false, .blk [.fl .lease] 127 true] }⟩] }
noncomputable def zq46 : Env := mkEnv ty fnB [(164, lease_Raw_2_con)] [(3, (loopTr zq44 (loopN zq43 FUEL)))]
theorem zq47 : EnvOk Tryz.prog zq46 := envOk tyOk fn_ok (callsCons lease_Raw_2_ok callsNil) _
theorem zq45 : LOk Tryz.prog (nthLoop (codeOf Tryz.f163) 0) (loopTr zq44 (loopN zq43 FUEL)) := by
 have h : loopsOf (nthLoop (codeOf Tryz.f163) 0) = [] := by kernel_rfl
 refine loop_ok zq47 (loopsOk h lsNil) zq44 zq43 FUEL (fun rec x => ?_)
 kernel_rfl
theorem zq48 : TrOk Tryz.prog 163 (flCon zq46 Tryz.f163 [.one (.fl .int), .one (.fl .bool)]) := by
 have h : loopsOf (codeOf Tryz.f163) = [(nthLoop (codeOf Tryz.f163) 0)] := by kernel_rfl
 exact flCon_ok zq47 Tryz.func163 (bodyOk h (lsCons (one_loop (t := (loopTr zq44 (loopN zq43 FUEL))) (by kernel_rfl) zq45) lsNil)) [.one (.fl .int), .one (.fl .bool)] rfl
def zq50 : LoopS := { n := 19, base := 8, head := { keep := [0, 1, 7, 8], vals := [.one (.cst (.row 6)), .one (.cst (.fn 161 [.ptr 3 0])), .one (.fl .int), .one (.fl .int)], objs := [.row .addr 32 false, .row .lease 127 false, .blk [.fl .bool, .fl .u64, .fl .u64, .fl .int, .cst (.row 0)] 116 true, .blk [.fl .str] 9 true, .row .lease 127 true, .blk [.fl .addr] 32 true, .row .lease 127 true, .blk [.fl .bool, .fl .u64, .fl .u64, .fl .int, .cst (.row 0), .cst (.row 6)] 204 true] }, exits := [⟨none, { keep := [4], vals := [.one (.fl .int)], objs := [.row .addr 32 false, .row .lease 127 false, .blk [.fl .bool, .fl .u64, .fl .u64, .fl .int, .cst (.row 0)] 116 true, .blk [.fl .str] 9 true, .row .lease 127 true, .blk [.fl .addr] 32 true, .row .lease 127 true, .blk [.fl .bool, .fl .u64, .fl .u64, .fl .int, .cst (.row 0), .cst (.row 6)] 204 true] }⟩, ⟨some 0, { keep := [], vals := [], objs := [.row .addr 32 false, .row .lease 127 false, .blk [.fl .bool, .fl .u64, .fl .u64, .fl .int, .cst (.row 0)] 116 true, .blk [.fl .str] 9 true, .row .lease 127 true, .blk [.fl .addr] 32 true, .row .lease 127 true, .blk [.fl .bool, .fl .u64, .fl .u64, .fl .int, .cst (.row 0), .cst (.row 6)] 204 true] }⟩] }
noncomputable def zq51 : Env := mkEnv ty fnB [(161, lease_Raw_1_con)] [(2, (loopTr zq50 (loopN zq49 FUEL)))]
theorem zq52 : EnvOk Tryz.prog zq51 := envOk tyOk fn_ok (callsCons lease_Raw_1_ok callsNil) _
theorem lease_Raw_slices_IndexFunc___api_Lease_api_Lease__L2_ok : LOk Tryz.prog (nthLoop (codeOf Tryz.f132) 0) (loopTr zq50 (loopN zq49 FUEL)) := by
 have h : loopsOf (nthLoop (codeOf Tryz.f132) 0) = [] := by kernel_rfl
 refine loop_ok zq52 (loopsOk h lsNil) zq50 zq49 FUEL (fun rec x => ?_)
 kernel_rfl
theorem lease_Raw_slices_IndexFunc___api_Lease_api_Lease__inl : TrOk Tryz.prog 132 (inlCon zq51 Tryz.f132) := by
 have h : loopsOf (codeOf Tryz.f132) = [(nthLoop (codeOf Tryz.f132) 0)] := by kernel_rfl
 exact inl_ok zq52 Tryz.func132 (bodyOk h (lsCons (one_loop (t := (loopTr zq50 (loopN zq49 FUEL))) (by kernel_rfl) lease_Raw_slices_IndexFunc___api_Lease_api_Lease__L2_ok) lsNil))
noncomputable def lease_Raw_env : Env := mkEnv ty fnB [(140, lease_Live_con), (162, m_lease_book__first_con), (163, (flCon zq46 Tryz.f163 [.one (.fl .int), .one (.fl .bool)])), (165, slices_Insert___api_Lease_api_Lease__con), (132, (inlCon zq51 Tryz.f132))] []
theorem lease_Raw_envOk : EnvOk Tryz.prog lease_Raw_env := envOk tyOk fn_ok (callsCons lease_Live_ok (callsCons m_lease_book__first_ok (callsCons zq48 (callsCons slices_Insert___api_Lease_api_Lease__ok (callsCons lease_Raw_slices_IndexFunc___api_Lease_api_Lease__inl callsNil))))) _
noncomputable def lease_Raw_con : Con := con [.agg [.fl .pfx, .row .addr 32], .one (.row .lease 127), .one (.fl .str), .one (.fl .int), .one (.fl .int)] [.one (.row .lease 127), .one (.fl .addr), .one (.fl .bool)] (fun x => lease_Raw_t x.1.1 x.1.2.1 x.2.1 x.2.2.1 x.2.2.2.1 x.2.2.2.2.1)
theorem lease_Raw_ok : TrOk Tryz.prog 150 lease_Raw_con := by
 have h : loopsOf (codeOf Tryz.f150) = [] := by kernel_rfl
 refine con_ok lease_Raw_envOk Tryz.func150 (bodyOk h lsNil) _ _ _ (fun x => ?_)
 kernel_rfl
def zq88 : LoopS := { n := 49, base := 17, head := { keep := [0, 2, 4, 8, 9, 10], vals := [.one (.cst (.row 11)), .one (.cst (.fn 145 [])), .one (.cst (.ptr 17 0)), .one (.fl .int), .one (.fl .int), .one (.fl .int)], objs := [.bag .addr 32 false false, .nest .pfx 0 116 false, .row .lease 127 false, .blk [.cst (.row 1), .cst (.row 2), .fl .int] 45 false, .blk [.fl .op] 36 false, .blk [.cst (.row 7), .cst (.row 8), .fl .int] 45 false, .bag .addr 32 false false, .nest .pfx 6 116 false, .row .lease 127 false, .blk [.fl .addr] 32 false, .bag .addr 32 false false, .nest .pfx 10 116 false, .row .lease 127 false, .blk [.cst (.row 11), .cst (.row 12), .fl .int] 174 false, .blk [.fl .op] 36 false, .blk [.fl .addr] 32 false, .blk [.fl .pfx] 34 false, .blk [.fl .pfx] 34 true] }, exits := [⟨some 0, { keep := [0, 2, 4, 8, 9], vals := [.one (.cst (.row 11)), .one (.cst (.fn 145 [])), .one (.cst (.ptr 17 0)), .one (.fl .int), .one (.fl .int)], objs := [.bag .addr 32 false false, .nest .pfx 0 116 false, .row .lease 127 false, .blk [.cst (.row 1), .cst (.row 2), .fl .int] 45 false, .blk [.fl .op] 36 false, .blk [.cst (.row 7), .cst (.row 8), .fl .int] 45 false, .bag .addr 32 false false, .nest .pfx 6 116 false, .row .lease 127 false, .blk [.fl .addr] 32 false, .bag .addr 32 false false, .nest .pfx 10 116 false, .row .lease 127 false, .blk [.cst (.row 11), .cst (.row 12), .fl .int] 174 false, .blk [.fl .op] 36 false, .blk [.fl .addr] 32 false, .blk [.fl .pfx] 34 false, .blk [.fl .pfx] 34 true] }⟩] }
noncomputable def zq90 : Env := mkEnv ty fnB [(145, m_state_doer__pool_2_con)] [(3, (loopTr zq88 (loopN zq87 FUEL)))]
theorem zq91 : EnvOk Tryz.prog zq90 := envOk tyOk fn_ok (callsCons m_state_doer__pool_2_ok callsNil) _
theorem zq89 : LOk Tryz.prog (nthLoop (codeOf Tryz.f144) 0) (loopTr zq88 (loopN zq87 FUEL)) := by
 have h : loopsOf (nthLoop (codeOf Tryz.f144) 0) = [] := by kernel_rfl
 refine loop_ok zq91 (loopsOk h lsNil) zq88 zq87 FUEL (fun rec x => ?_)
 kernel_rfl
theorem zq92 : TrOk Tryz.prog 144 (flCon zq90 Tryz.f144 [.one (.fl .int), .one (.fl .bool)]) := by
 have h : loopsOf (codeOf Tryz.f144) = [(nthLoop (codeOf Tryz.f144) 0)] := by kernel_rfl
 exact flCon_ok zq91 Tryz.func144 (bodyOk h (lsCons (one_loop (t := (loopTr zq88 (loopN zq87 FUEL))) (by kernel_rfl) zq89) lsNil)) [.one (.fl .int), .one (.fl .bool)] rfl
def zq97 : LoopS := { n := 19, base := 17, head := { keep := [0, 1, 7, 8], vals := [.one (.cst (.row 11)), .one (.cst (.fn 143 [.ptr 16 0])), .one (.fl .int), .one (.fl .int)], objs := [.bag .addr 32 false false, .nest .pfx 0 116 false, .row .lease 127 false, .blk [.cst (.row 1), .cst (.row 2), .fl .int] 45 true, .blk [.fl .op] 36 true, .blk [.cst (.row 7), .cst (.row 8), .fl .int] 45 true, .bag .addr 32 true true, .nest .pfx 6 116 true, .row .lease 127 true, .blk [.fl .addr] 32 true, .bag .addr 32 true true, .nest .pfx 10 116 true, .row .lease 127 true, .blk [.cst (.row 11), .cst (.row 12), .fl .int] 174 true, .blk [.fl .op] 36 true, .blk [.fl .addr] 32 true, .blk [.fl .pfx] 34 true] }, exits := [⟨none, { keep := [4], vals := [.one (.fl .int)], objs := [.bag .addr 32 false false, .nest .pfx 0 116 false, .row .lease 127 false, .blk [.cst (.row 1), .cst (.row 2), .fl .int] 45 true, .blk [.fl .op] 36 true, .blk [.cst (.row 7), .cst (.row 8), .fl .int] 45 true, .bag .addr 32 true true, .nest .pfx 6 116 true, .row .lease 127 true, .blk [.fl .addr] 32 true, .bag .addr 32 true true, .nest .pfx 10 116 true, .row .lease 127 true, .blk [.cst (.row 11), .cst (.row 12), .fl .int] 174 true, .blk [.fl .op] 36 true, .blk [.fl .addr] 32 true, .blk [.fl .pfx] 34 true] }⟩, ⟨some 0, { keep := [], vals := [], objs := [.bag .addr 32 false false, .nest .pfx 0 116 false, .row .lease 127 false, .blk [.cst (.row 1), .cst (.row 2), .fl .int] 45 true, .blk [.fl .op] 36 true, .blk [.cst (.row 7), .cst (.row 8), .fl .int] 45 true, .bag .addr 32 true true, .nest .pfx 6 116 true, .row .lease 127 true, .blk [.fl .addr] 32 true, .bag .addr 32 true true, .nest .pfx 10 116 true, .row .lease 127 true, .blk [.cst (.row 11), .cst (.row 12), .fl .int] 174 true, .blk [.fl .op] 36 true, .blk [.fl .addr] 32 true, .blk [.fl .pfx] 34 true] }⟩] }
noncomputable def zq99 : Env := mkEnv ty fnB [(143, m_state_doer__pool_1_con)] [(2, (loopTr zq97 (loopN zq96 FUEL)))]
theorem zq100 : EnvOk Tryz.prog zq99 := envOk tyOk fn_ok (callsCons m_state_doer__pool_1_ok callsNil) _
theorem zq98 : LOk Tryz.prog (nthLoop (codeOf Tryz.f118) 0) (loopTr zq97 (loopN zq96 FUEL)) := by
 have h : loopsOf (nthLoop (codeOf Tryz.f118) 0) = [] := by kernel_rfl
 refine loop_ok zq100 (loopsOk h lsNil) zq97 zq96 FUEL (fun rec x => ?_)
 kernel_rfl
theorem zq101 : TrOk Tryz.prog 118 (inlCon zq99 Tryz.f118) := by
 have h : loopsOf (codeOf Tryz.f118) = [(nthLoop (codeOf Tryz.f118) 0)] := by kernel_rfl
 exact inl_ok zq100 Tryz.func118 (bodyOk h (lsCons (one_loop (t := (loopTr zq97 (loopN zq96 FUEL))) (by kernel_rfl) zq98) lsNil))
noncomputable def zq93 : Env := mkEnv ty fnB [(118, (inlCon zq99 Tryz.f118))] []
theorem zq94 : EnvOk Tryz.prog zq93 := envOk tyOk fn_ok (callsCons zq101 callsNil) _
theorem zq95 : TrOk Tryz.prog 142 (inlCon zq93 Tryz.f142) := by
 have h : loopsOf (codeOf Tryz.f142) = [] := by kernel_rfl
 exact inl_ok zq94 Tryz.func142 (bodyOk h lsNil)
noncomputable def zq85 : Env := mkEnv ty fnB [(144, (flCon zq90 Tryz.f144 [.one (.fl .int), .one (.fl .bool)])), (146, slices_Insert___api_Pool_api_Pool__con), (142, (inlCon zq93 Tryz.f142))] []
theorem state_Raw___state_doer__do___state_doer__pool_envOk : EnvOk Tryz.prog zq85 := envOk tyOk fn_ok (callsCons zq92 (callsCons slices_Insert___api_Pool_api_Pool__ok (callsCons zq95 callsNil))) _
theorem state_Raw___state_doer__do___state_doer__pool_inl : TrOk Tryz.prog 136 (inlCon zq85 Tryz.f136) := by
 have h : loopsOf (codeOf Tryz.f136) = [] := by kernel_rfl
 exact inl_ok state_Raw___state_doer__do___state_doer__pool_envOk Tryz.func136 (bodyOk h lsNil)
def zq80 : LoopS := { n := 49, base := 17, head := { keep := [0, 2, 4, 8, 9, 10], vals := [.one (.inn 10), .one (.cst (.fn 114 [])), .one (.cst (.ptr 17 0)), .one (.fl .int), .one (.fl .int), .one (.fl .int)], objs := [.bag .addr 32 false false, .nest .pfx 0 116 false, .row .lease 127 false, .blk [.cst (.row 1), .cst (.row 2), .fl .int] 45 false, .blk [.fl .op] 36 false, .blk [.cst (.row 7), .cst (.row 8), .fl .int] 45 false, .bag .addr 32 false false, .nest .pfx 6 116 false, .row .lease 127 false, .blk [.fl .addr] 32 false, .bag .addr 32 false false, .nest .pfx 10 116 false, .row .lease 127 false, .blk [.cst (.row 11), .cst (.row 12), .fl .int] 174 false, .blk [.fl .op] 36 false, .blk [.fl .addr] 32 false, .blk [.fl .addr] 32 false, .blk [.fl .addr] 32 true] }, exits := [⟨some 0, { keep := [0, 2, 4, 8, 9], vals := [.one (.inn 10), .one (.cst (.fn 114 [])), .one (.cst (.ptr 17 0)), .one (.fl .int), .one (.fl .int)], objs := [.bag .addr 32 false false, .nest .pfx 0 116 false, .row .lease 127 false, .blk [.cst (.row 1), .cst (.row 2), .fl .int] 45 false, .blk [.fl .op] 36 false, .blk [.cst (.row 7), .cst (.row 8), .fl .int] 45 false, .bag .addr 32 false false, .nest .pfx 6 116 false, .row .lease 127 false, .blk [.fl .addr] 32 false, .bag .addr 32 false false, .nest .pfx 10 116 false, .row .lease 127 false, .blk [.cst (.row 11), .cst (.row 12), .fl .int] 174 false, .blk [.fl .op] 36 false, .blk [.fl .addr] 32 false, .blk [.fl .addr] 32 false, .blk [.fl .addr] 32 true] }⟩] }
noncomputable def zq82 : Env := mkEnv ty fnB [(114, addr_Order_con)] [(3, (loopTr zq80 (loopN zq79 FUEL)))]
theorem zq83 : EnvOk Tryz.prog zq82 := envOk tyOk fn_ok (callsCons addr_Order_ok callsNil) _
theorem zq81 : LOk Tryz.prog (nthLoop (codeOf Tryz.f147) 0) (loopTr zq80 (loopN zq79 FUEL)) := by
 have h : loopsOf (nthLoop (codeOf Tryz.f147) 0) = [] := by kernel_rfl
 refine loop_ok zq83 (loopsOk h lsNil) zq80 zq79 FUEL (fun rec x => ?_)
 kernel_rfl
theorem zq84 : TrOk Tryz.prog 147 (flCon zq82 Tryz.f147 [.one (.fl .int), .one (.fl .bool)]) := by
 have h : loopsOf (codeOf Tryz.f147) = [(nthLoop (codeOf Tryz.f147) 0)] := by kernel_rfl
 exact flCon_ok zq83 Tryz.func147 (bodyOk h (lsCons (one_loop (t := (loopTr zq80 (loopN zq79 FUEL))) (by kernel_rfl) zq81) lsNil)) [.one (.fl .int), .one (.fl .bool)] rfl
noncomputable def zq78 : Env := mkEnv ty fnB [(77, state_poolOf_con), (147, (flCon zq82 Tryz.f147 [.one (.fl .int), .one (.fl .bool)])), (148, slices_Insert___api_Addr_api_Addr__con)] []
theorem state_Raw___state_doer__do___state_doer__keep_envOk : EnvOk Tryz.prog zq78 := envOk tyOk fn_ok (callsCons state_poolOf_ok (callsCons zq84 (callsCons slices_Insert___api_Addr_api_Addr__ok callsNil))) _
theorem state_Raw___state_doer__do___state_doer__keep_inl : TrOk Tryz.prog 137 (inlCon zq78 Tryz.f137) := by
 have h : loopsOf (codeOf Tryz.f137) = [] := by kernel_rfl
 exact inl_ok state_Raw___state_doer__do___state_doer__keep_envOk Tryz.func137 (bodyOk h lsNil)
def zq75 : LoopS := { n := 121, base := 16, head := { keep := [0, 1, 3, 8, 10, 12, 13, 61, 62, 63], vals := [.one (.cst (.ptr 13 0)), .one (.fl .str), .one (.fl .int), .one (.cst (.ptr 16 0)), .one (.cst (.ptr 17 0)), .one (.cst (.row 18)), .one (.cst (.row 19)), .one (.cst (.row 12)), .one (.fl .int), .one (.fl .int)], objs := [.bag .addr 32 false false, .nest .pfx 0 116 false, .row .lease 127 false, .blk [.cst (.row 1), .cst (.row 2), .fl .int] 45 true, .blk [.fl .op] 36 true, .blk [.cst (.row 7), .cst (.row 8), .fl .int] 45 true, .bag .addr 32 true true, .nest .pfx 6 116 true, .row .lease 127 true, .blk [.fl .addr] 32 true, .bag .addr 32 true true, .nest .pfx 10 116 true, .row .lease 127 true, .blk [.cst (.row 11), .cst (.row 12), .fl .int] 174 true, .blk [.fl .op] 36 true, .blk [.fl .addr] 32 true, .blk [.fl .addr] 32 true, .blk [.fl .bool, .fl .u64, .fl .u64, .fl .int, .inn 10] 116 true, .row .lease 127 true, .row .lease 127 true] }, exits := [⟨some 0, { keep := [0, 1, 3, 8, 10, 12, 13], vals := [.one (.cst (.ptr 13 0)), .one (.fl .str), .one (.fl .int), .one (.cst (.ptr 16 0)), .one (.cst (.ptr 17 0)), .one (.cst (.row 18)), .one (.cst (.row 19))], objs := [.bag .addr 32 false false, .nest .pfx 0 116 false, .row .lease 127 false, .blk [.cst (.row 1), .cst (.row 2), .fl .int] 45 true, .blk [.fl .op] 36 true, .blk [.cst (.row 7), .cst (.row 8), .fl .int] 45 true, .bag .addr 32 true true, .nest .pfx 6 116 true, .row .lease 127 true, .blk [.fl .addr] 32 true, .bag .addr 32 true true, .nest .pfx 10 116 true, .row .lease 127 true, .blk [.cst (.row 11), .cst (.row 12), .fl .int] 174 true, .blk [.fl .op] 36 true, .blk [.fl .addr] 32 true, .blk [.fl .addr] 32 true, .blk [.fl .bool, .fl .u64, .fl .u64, .fl .int, .inn 10] 116 true, .row .lease 127 true, .row .lease 127 true] }⟩] }
noncomputable def zq76 : Env := mkEnv ty fnB [(149, m_state_doer__find_con), (113, prefix_Holds_con), (150, lease_Raw_con), (151, slices_SortFunc___api_Lease_api_Lease__con)] [(9, (loopTr zq75 (loopN zq74 FUEL)))]
theorem zq77 : EnvOk Tryz.prog zq76 := envOk tyOk fn_ok (callsCons m_state_doer__find_ok (callsCons prefix_Holds_ok (callsCons lease_Raw_ok (callsCons slices_SortFunc___api_Lease_api_Lease__ok callsNil)))) _
theorem state_Raw___state_doer__do___state_doer__grant_L9_ok : LOk Tryz.prog (nthLoop (codeOf Tryz.f138) 0) (loopTr zq75 (loopN zq74 FUEL)) := by
 have h : loopsOf (nthLoop (codeOf Tryz.f138) 0) = [] := by kernel_rfl
 refine loop_ok zq77 (loopsOk h lsNil) zq75 zq74 FUEL (fun rec x => ?_)
 kernel_rfl
theorem state_Raw___state_doer__do___state_doer__grant_inl : TrOk Tryz.prog 138 (inlCon zq76 Tryz.f138) := by
 have h : loopsOf (codeOf Tryz.f138) = [(nthLoop (codeOf Tryz.f138) 0)] := by kernel_rfl
 exact inl_ok zq77 Tryz.func138 (bodyOk h (lsCons (one_loop (t := (loopTr zq75 (loopN zq74 FUEL))) (by kernel_rfl) state_Raw___state_doer__do___state_doer__grant_L9_ok) lsNil))
noncomputable def zq73 : Env := mkEnv ty fnB [(149, m_state_doer__find_con), (153, slices_Delete___api_Lease_api_Lease__con)] []
theorem state_Raw___state_doer__do___state_doer__free_envOk : EnvOk Tryz.prog zq73 := envOk tyOk fn_ok (callsCons m_state_doer__find_ok (callsCons slices_Delete___api_Lease_api_Lease__ok callsNil)) _
theorem state_Raw___state_doer__do___state_doer__free_inl : TrOk Tryz.prog 139 (inlCon zq73 Tryz.f139) := by
 have h : loopsOf (codeOf Tryz.f139) = [] := by kernel_rfl
 exact inl_ok state_Raw___state_doer__do___state_doer__free_envOk Tryz.func139 (bodyOk h lsNil)
noncomputable def state_Raw___state_doer__do_env : Env := mkEnv ty fnB [(136, (inlCon zq85 Tryz.f136)), (137, (inlCon zq78 Tryz.f137)), (138, (inlCon zq76 Tryz.f138)), (139, (inlCon zq73 Tryz.f139)), (140, lease_Live_con)] []
theorem state_Raw___state_doer__do_envOk : EnvOk Tryz.prog state_Raw___state_doer__do_env := envOk tyOk fn_ok (callsCons state_Raw___state_doer__do___state_doer__pool_inl (callsCons state_Raw___state_doer__do___state_doer__keep_inl (callsCons state_Raw___state_doer__do___state_doer__grant_inl (callsCons state_Raw___state_doer__do___state_doer__free_inl (callsCons lease_Live_ok callsNil))))) _
theorem state_Raw___state_doer__do_inl : TrOk Tryz.prog 128 (inlCon state_Raw___state_doer__do_env Tryz.f128) := by
 have h : loopsOf (codeOf Tryz.f128) = [] := by kernel_rfl
 exact inl_ok state_Raw___state_doer__do_envOk Tryz.func128 (bodyOk h lsNil)
noncomputable def state_Raw_env : Env := mkEnv ty fnB [(71, state_Form_con), (127, state_Own_con), (128, (inlCon state_Raw___state_doer__do_env Tryz.f128))] []
theorem state_Raw_envOk : EnvOk Tryz.prog state_Raw_env := envOk tyOk fn_ok (callsCons state_Form_ok (callsCons state_Own_ok (callsCons state_Raw___state_doer__do_inl callsNil))) _
noncomputable def state_Raw_con : Con := con [.agg [.nest .pfx .addr 116 32 true, .row .lease 127, .fl .int], .one (.fl .op)] [.agg [.nest .pfx .addr 116 32 true, .row .lease 127, .fl .int], .one (.fl .addr), .one (.fl .int)] (fun x => state_Raw_t x.1.1 x.1.2.1 x.1.2.2.1 x.2.1)
theorem state_Raw_ok : TrOk Tryz.prog 107 state_Raw_con := by
 have h : loopsOf (codeOf Tryz.f107) = [] := by kernel_rfl
 refine con_ok state_Raw_envOk Tryz.func107 (bodyOk h lsNil) _ _ _ (fun x => ?_)
 kernel_rfl
noncomputable def log_All___log_player__play_env : Env := mkEnv ty fnB [(107, state_Raw_con)] []
theorem log_All___log_player__play_envOk : EnvOk Tryz.prog log_All___log_player__play_env := envOk tyOk fn_ok (callsCons state_Raw_ok callsNil) _
theorem log_All___log_player__play_inl : TrOk Tryz.prog 89 (inlCon log_All___log_player__play_env Tryz.f89) := by
 have h : loopsOf (codeOf Tryz.f89) = [] := by kernel_rfl
 exact inl_ok log_All___log_player__play_envOk Tryz.func89 (bodyOk h lsNil)
def log_All_L3_S : LoopS := { n := 27, base := 1, head := { keep := [2, 4, 9, 10, 11], vals := [.one (.cst (.ptr 1 0)), .one (.cst (.ptr 2 0)), .one (.cst (.row 0)), .one (.fl .int), .one (.fl .int)], objs := [.row .entry 68 false, .blk [.cst (.row 3), .cst (.row 4), .fl .int] 45 true, .blk [.cst (.row 5), .cst (.row 6), .fl .int, .cst (.row 7)] 138 true, .nest .pfx 8 116 true, .row .lease 127 true, .nest .pfx 9 116 true, .row .lease 127 true, .row .addr 32 true, .bag .addr 32 true true, .bag .addr 32 true true] }, exits := [⟨some 0, { keep := [2, 4], vals := [.one (.cst (.ptr 1 0)), .one (.cst (.ptr 2 0))], objs := [.row .entry 68 false, .blk [.cst (.row 3), .cst (.row 4), .fl .int] 45 true, .blk [.cst (.row 5), .cst (.row 6), .fl .int, .cst (.row 7)] 138 true, .nest .pfx 8 116 true, .row .lease 127 true, .nest .pfx 9 116 true, .row .lease 127 true, .row .addr 32 true, .bag .addr 32 true true, .bag .addr 32 true true] }⟩] }
noncomputable def log_All_env : Env := mkEnv ty fnB [(89, (inlCon log_All___log_player__play_env Tryz.f89))] [(3, (loopTr log_All_L3_S (loopN log_All_L3 FUEL)))]
theorem log_All_envOk : EnvOk Tryz.prog log_All_env := envOk tyOk fn_ok (callsCons log_All___log_player__play_inl callsNil) _
theorem log_All_L3_ok : LOk Tryz.prog (nthLoop (codeOf Tryz.f43) 0) (loopTr log_All_L3_S (loopN log_All_L3 FUEL)) := by
 have h : loopsOf (nthLoop (codeOf Tryz.f43) 0) = [] := by kernel_rfl
 refine loop_ok log_All_envOk (loopsOk h lsNil) log_All_L3_S log_All_L3 FUEL (fun rec x => ?_)
 kernel_rfl
noncomputable def log_All_con : Con := con [.one (.row .entry 68)] [.agg [.nest .pfx .addr 116 32 true, .row .lease 127, .fl .int], .one (.row .addr 32)] (fun x => log_All_t x.1)
theorem log_All_ok : TrOk Tryz.prog 43 log_All_con := by
 have h : loopsOf (codeOf Tryz.f43) = [(nthLoop (codeOf Tryz.f43) 0)] := by kernel_rfl
 refine con_ok log_All_envOk Tryz.func43 (bodyOk h (lsCons (one_loop (t := (loopTr log_All_L3_S (loopN log_All_L3 FUEL))) (by kernel_rfl) log_All_L3_ok) lsNil)) _ _ _ (fun x => ?_)
 kernel_rfl
noncomputable def cluster_Seen_env : Env := mkEnv ty fnB [(16, cluster_Check_con), (42, cluster_within_con), (43, log_All_con)] []
theorem cluster_Seen_envOk : EnvOk Tryz.prog cluster_Seen_env := envOk tyOk fn_ok (callsCons cluster_Check_ok (callsCons cluster_within_ok (callsCons log_All_ok callsNil))) _
noncomputable def cluster_Seen_con : Con := con [.agg [.fl .int, .fl .int, .fl .int, .fl .int, .row .entry 68, .nest .int .entry 56 68 true], .one (.fl .int)] [.agg [.nest .pfx .addr 116 32 true, .row .lease 127, .fl .int], .one (.fl .int)] (fun x => cluster_Seen_t x.1.1 x.1.2.1 x.1.2.2.1 x.1.2.2.2.1 x.1.2.2.2.2.1 x.1.2.2.2.2.2.1 x.2.1)
theorem cluster_Seen_ok : TrOk Tryz.prog 10 cluster_Seen_con := by
 have h : loopsOf (codeOf Tryz.f10) = [] := by kernel_rfl
 refine con_ok cluster_Seen_envOk Tryz.func10 (bodyOk h lsNil) _ _ _ (fun x => ?_)
 kernel_rfl
noncomputable def law_clusterBegun_env : Env := mkEnv ty fnB [(52, law_events_con), (19, cluster_Run_con), (10, cluster_Seen_con), (53, cluster_New_con), (16, cluster_Check_con)] []
theorem law_clusterBegun_envOk : EnvOk Tryz.prog law_clusterBegun_env := envOk tyOk fn_ok (callsCons law_events_ok (callsCons cluster_Run_ok (callsCons cluster_Seen_ok (callsCons cluster_New_ok (callsCons cluster_Check_ok callsNil))))) _
noncomputable def law_clusterBegun_con : Con := con [] [.one (.fl .bool)] (fun x => law_clusterBegun_t)
theorem law_clusterBegun_ok : TrOk Tryz.prog 15 law_clusterBegun_con := by
 have h : loopsOf (codeOf Tryz.f15) = [] := by kernel_rfl
 refine con_ok law_clusterBegun_envOk Tryz.func15 (bodyOk h lsNil) _ _ _ (fun x => ?_)
 kernel_rfl
noncomputable def log_Replay_env : Env := mkEnv ty fnB [(57, log_Check_con), (43, log_All_con)] []
theorem log_Replay_envOk : EnvOk Tryz.prog log_Replay_env := envOk tyOk fn_ok (callsCons log_Check_ok (callsCons log_All_ok callsNil)) _
noncomputable def log_Replay_con : Con := con [.one (.row .entry 68)] [.agg [.nest .pfx .addr 116 32 true, .row .lease 127, .fl .int], .one (.row .addr 32), .one (.fl .int)] (fun x => log_Replay_t x.1)
theorem log_Replay_ok : TrOk Tryz.prog 29 log_Replay_con := by
 have h : loopsOf (codeOf Tryz.f29) = [] := by kernel_rfl
 refine con_ok log_Replay_envOk Tryz.func29 (bodyOk h lsNil) _ _ _ (fun x => ?_)
 kernel_rfl
noncomputable def law_logBegun_env : Env := mkEnv ty fnB [(56, law_entries_con), (33, law_some_con), (34, log_Add_con), (29, log_Replay_con), (26, log_Begins_con), (57, log_Check_con), (58, law_v4_con)] []
theorem law_logBegun_envOk : EnvOk Tryz.prog law_logBegun_env := envOk tyOk fn_ok (callsCons law_entries_ok (callsCons law_some_ok (callsCons log_Add_ok (callsCons log_Replay_ok (callsCons log_Begins_ok (callsCons log_Check_ok (callsCons law_v4_ok callsNil))))))) _
noncomputable def law_logBegun_con : Con := con [] [.one (.fl .bool)] (fun x => law_logBegun_t)
theorem law_logBegun_ok : TrOk Tryz.prog 21 law_logBegun_con := by
 have h : loopsOf (codeOf Tryz.f21) = [] := by kernel_rfl
 refine con_ok law_logBegun_envOk Tryz.func21 (bodyOk h lsNil) _ _ _ (fun x => ?_)
 kernel_rfl
noncomputable def law_ClusterSafe_env : Env := mkEnv ty fnB [(15, law_clusterBegun_con), (21, law_logBegun_con), (24, law_fenceBegun_con), (9, cluster_Do_con), (25, R_SameCluster_con), (16, cluster_Check_con), (26, log_Begins_con), (22, R_CheckOp_con)] []
theorem law_ClusterSafe_envOk : EnvOk Tryz.prog law_ClusterSafe_env := envOk tyOk fn_ok (callsCons law_clusterBegun_ok (callsCons law_logBegun_ok (callsCons law_fenceBegun_ok (callsCons cluster_Do_ok (callsCons R_SameCluster_ok (callsCons cluster_Check_ok (callsCons log_Begins_ok (callsCons R_CheckOp_ok callsNil)))))))) _
noncomputable def law_ClusterSafe_con : Con := con [.agg [.fl .int, .fl .int, .fl .int, .fl .int, .row .entry 68, .nest .int .entry 56 68 true], .one (.fl .event), .one (.fl .op)] [.one (.fl .bool)] (fun x => law_ClusterSafe_t x.1.1 x.1.2.1 x.1.2.2.1 x.1.2.2.2.1 x.1.2.2.2.2.1 x.1.2.2.2.2.2.1 x.2.1 x.2.2.1)
theorem law_ClusterSafe_ok : TrOk Tryz.prog 6 law_ClusterSafe_con := by
 have h : loopsOf (codeOf Tryz.f6) = [] := by kernel_rfl
 refine con_ok law_ClusterSafe_envOk Tryz.func6 (bodyOk h lsNil) _ _ _ (fun x => ?_)
 kernel_rfl
end Go.Proofs.YtjncjiegmnicbabGreat
namespace Go.Proofs.YtjncjiegmnicbabGreat
open Go Go.Ma Go.ChangeShapes Go.WideShapes Go.ChangeAt Go.RowKit
set_option linter.unusedVariables false
theorem clusterSafe_own : ownKnob Tryz.prog.godebug = none := by kernel_rfl
theorem clusterSafe_laidOut : laidOutB Tryz.prog = true := by kernel_rfl
theorem clusterSafe_plain : ∀ x, PsIn [.agg [.fl .int, .fl .int, .fl .int, .fl .int, .row .entry 68, .nest .int .entry 56 68 true], .one (.fl .event), .one (.fl .op)] x → (fun x => law_ClusterSafe_t x.1.1 x.1.2.1 x.1.2.2.1 x.1.2.2.2.1 x.1.2.2.2.2.1 x.1.2.2.2.2.2.1 x.2.1 x.2.2.1) x = some ((true : Bool), ()) := fun x hx => ClusterSafe_eq x.1.1 x.1.2.1 x.1.2.2.1 x.1.2.2.2.1 hx.1.2.2.2.2.1.2 x.1.2.2.2.2.2.1.1 (fun c hc => (hx.1.2.2.2.2.2.1.2.2 c hc).2) hx.1.2.2.2.2.2.1.2.1 hx.2.1 hx.2.2.1
set_option maxRecDepth 100000 in
theorem clusterSafe_lifted (os : Os) (started : os.Started) (H : Type) (enc : TypeId × Value → H) :
  ReturnsInHanded {} Tryz.checked os 6 .any (Rows.clusterSafeSpec.pre6 enc Tryz.prog Tryz.f6 Rows.clusterSafeRow.domain false) (Rows.clusterSafeSpec.post enc Tryz.prog Tryz.f6 false true false false) := by
 refine returnsInHanded_of_change (C := Tryz.checked) clusterSafe_own started (by kernel_rfl) Tryz.func6
  (ChangeSpec.witness6 (enc := enc) (C := Tryz.checked) false ⟨#[], #[.agg #[.int .i64 0, .int .i64 0, .int .i64 0, .int .i64 0, .slice none 0 0, .slice none 0 0], .agg #[.int .i64 0, .int .i64 0, .int .i64 0, .int .i64 0, .bool false, .int .u64 0, .int .u64 0, .int .i64 0, .bool false, .int .u64 0, .int .u64 0, .string ByteArray.empty, .int .i64 0, .int .i64 0], .agg #[.int .i64 0, .bool false, .int .u64 0, .int .u64 0, .int .i64 0, .bool false, .int .u64 0, .int .u64 0, .string ByteArray.empty, .int .i64 0, .int .i64 0]], []⟩ 8 (by kernel_rfl) (by kernel_rfl) (by kernel_rfl) (by kernel_rfl)) ?_
 intro W base args ds gs before hval0 hW hcnd _
 have hval : ∀ (j : Nat) t v, Tryz.f6.params[j]? = some t → args[j]? = some v → Value.okWide Tryz.prog W .any base t v := hval0
 have hW' := hW
 obtain ⟨p, q, hA0, hV, rfl, hfz, hnd⟩ := hW
 have hA : DataW.TrodAll enc Tryz.prog W 0 (fun _ => true) true Tryz.f6.params.toList args.toList ds p := hA0
 rw [Tryz.params6] at hA hval
 have hA2 := hA
 obtain ⟨v0, vs0, d0, ds0, p0, q0, hargs, rfl, rfl, h0, r0⟩ := trodAll_cons hA
 obtain ⟨v1, vs1, d1, ds1, p1, q1, rfl, rfl, rfl, h1, r1⟩ := trodAll_cons r0
 obtain ⟨v2, vs2, d2, ds2, p2, q2, rfl, rfl, rfl, h2, r2⟩ := trodAll_cons r1
 obtain ⟨rfl, rfl, rfl⟩ := trodAll_nil r2
 obtain rfl : args = #[v0, v1, v2] := by cases args; simp_all
 obtain ⟨rfl, rfl⟩ := trodVars_none hV
 have call := law_calls (enc := enc) (Glob.none (by kernel_rfl) (by kernel_rfl) (by kernel_rfl) (by kernel_rfl) (by kernel_rfl)) law_ClusterSafe_ok clusterSafe_plain (fun x => rfl) (fun x => rfl) (ts := [29, 38, 36]) (vs := [v0, v1, v2]) (by kernel_rfl) (fun j t v h1 h2 => hval j t v (by simpa using h1) (by simpa using h2)) hA2
 refine call.mono fun e W' ⟨he, bel⟩ => ?_
 subst he
 exact ⟨_, rfl, _, _, _, [], _, [], hW', trodAll_mk1 (shut_bool Tryz.underlying4 _), all_back clusterSafe_laidOut bel _ _ _ _ (by kernel_rfl) hA2, rfl, bel.frame _, fun h => by cases h⟩
theorem clusterSafe_over : Rows.clusterSafeRow.holds Tryz.pinned (OpenSpec.ofChange Rows.clusterSafeSpec) :=
 OpenClaim.holds_of_wide 6 Tryz.f6 rfl rfl rfl rfl rfl rfl rfl ⟨rfl, rfl, rfl, rfl, rfl⟩ rfl rfl rfl rfl rfl (by kernel_rfl) Tryz.func6 (by kernel_rfl)
  (of_decide_eq_true (by kernel_rfl)) (by unfold Func.isWrapper; rw [if_neg (of_decide_eq_false (by kernel_rfl))]; exact ⟨rfl, rfl⟩)
  (fun os started H enc _ => clusterSafe_lifted os started H enc)
theorem clusterSafe_said : Rows.ClusterSafeSaid := clusterSafe_over
end Go.Proofs.YtjncjiegmnicbabGreat
