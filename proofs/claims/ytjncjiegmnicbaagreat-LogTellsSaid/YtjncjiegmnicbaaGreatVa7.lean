/-
  For every input LogTells of the package yardarmlaw returns true, and each of its arguments reads behind the call as it read before. No condition.
-/
import Derived.Test.YtjncjiegmnicbaaGreatRows
import Derived.WalkKit
import Derived.ProofKit
import Derived.OpenShut
import Derived.ShutString
import Derived.ChangeOld
import Derived.Below
import Derived.Test.YtjncjiegmnicbaaGreatVa6
set_option linter.unusedVariables false
set_option linter.unusedSimpArgs false
namespace Go.Proofs.YtjncjiegmnicbaaGreat
open Go Go.Ma
def zq31 : LoopS := { n := 49, base := 10, head := { keep := [0, 2, 4, 8, 9, 10], vals := [.one (.cst (.row 6)), .one (.cst (.fn 121 [])), .one (.cst (.ptr 10 0)), .one (.fl .int), .one (.fl .int), .one (.fl .int)], objs := [.row .addr 25 false, .row .lease 82 false, .blk [.fl .bool, .fl .u64, .fl .u64, .fl .int, .cst (.row 0)] 73 false, .blk [.fl .str] 9 false, .row .lease 82 false, .blk [.fl .addr] 25 false, .row .lease 82 false, .blk [.fl .bool, .fl .u64, .fl .u64, .fl .int, .cst (.row 0), .cst (.row 6)] 153 false, .blk [.fl .addr] 25 false, .blk [.fl .lease] 82 false, .blk [.fl .lease] 82 true] }, exits := [⟨some 0, { keep := [0, 2, 4, 8, 9], vals := [.one (.cst (.row 6)), .one (.cst (.fn 121 [])), .one (.cst (.ptr 10 0)), .one (.fl .int), .one (.fl .int)], objs := [.row .addr 25 false, .row .lease 82 false, .blk [.fl .bool, .fl .u64, .fl .u64, .fl .int, .cst (.row 0)] 73 false, .blk [.fl .str] 9 false, .row .lease 82 false, .blk [.fl .addr] 25 false, .row .lease 82 false, .blk [.fl .bool, .fl .u64, .fl .u64, .fl .int, .cst (.row 0), .cst (.row 6)] 153 false, .blk [.fl .addr] 25 false, .blk [.fl .lease] 82 false, .blk [.fl .lease] 82 true] }⟩] }
noncomputable def zq33 : Env := mkEnv ty fnB [(121, lease_Raw_2_con)] [(3, (loopTr zq31 (loopN zq30 FUEL)))]
theorem zq34 : EnvOk Tryz.prog zq33 := envOk tyOk fn_ok (callsCons lease_Raw_2_ok callsNil) _
theorem zq32 : LOk Tryz.prog (nthLoop (codeOf Tryz.f120) 0) (loopTr zq31 (loopN zq30 FUEL)) := by
 have h : loopsOf (nthLoop (codeOf Tryz.f120) 0) = [] := by kernel_rfl
 refine loop_ok zq34 (loopsOk h lsNil) zq31 zq30 FUEL (fun rec x => ?_)
 kernel_rfl
theorem zq35 : TrOk Tryz.prog 120 (flCon zq33 Tryz.f120 [.one (.fl .int), .one (.fl .bool)]) := by
 have h : loopsOf (codeOf Tryz.f120) = [(nthLoop (codeOf Tryz.f120) 0)] := by kernel_rfl
 exact flCon_ok zq34 Tryz.func120 (bodyOk h (lsCons (one_loop (t := (loopTr zq31 (loopN zq30 FUEL))) (by kernel_rfl) zq32) lsNil)) [.one (.fl .int), .one (.fl .bool)] rfl
def zq37 : LoopS := { n := 19, base := 8, head := { keep := [0, 1, 7, 8], vals := [.one (.cst (.row 6)), .one (.cst (.fn 118 [.ptr 3 0])), .one (.fl .int), .one (.fl .int)], objs := [.row .addr 25 false, .row .lease 82 false, .blk [.fl .bool, .fl .u64, .fl .u64, .fl .int, .cst (.row 0)] 73 true, .blk [.fl .str] 9 true, .row .lease 82 true, .blk [.fl .addr] 25 true, .row .lease 82 true, .blk [.fl .bool, .fl .u64, .fl .u64, .fl .int, .cst (.row 0), .cst (.row 6)] 153 true] }, exits := [⟨none, { keep := [4], vals := [.one (.fl .int)], objs := [.row .addr 25 false, .row .lease 82 false, .blk [.fl .bool, .fl .u64, .fl .u64, .fl .int, .cst (.row 0)] 73 true, .blk [.fl .str] 9 true, .row .lease 82 true, .blk [.fl .addr] 25 true, .row .lease 82 true, .blk [.fl .bool, .fl .u64, .fl .u64, .fl .int, .cst (.row 0), .cst (.row 6)] 153 true] }⟩, ⟨some 0, { keep := [], vals := [], objs := [.row .addr 25 false, .row .lease 82 false, .blk [.fl .bool, .fl .u64, .fl .u64, .fl .int, .cst (.row 0)] 73 true, .blk [.fl .str] 9 true, .row .lease 82 true, .blk [.fl .addr] 25 true, .row .lease 82 true, .blk [.fl .bool, .fl .u64, .fl .u64, .fl .int, .cst (.row 0), .cst (.row 6)] 153 true] }⟩] }
noncomputable def zq38 : Env := mkEnv ty fnB [(118, lease_Raw_1_con)] [(2, (loopTr zq37 (loopN zq36 FUEL)))]
theorem zq39 : EnvOk Tryz.prog zq38 := envOk tyOk fn_ok (callsCons lease_Raw_1_ok callsNil) _
theorem lease_Raw_slices_IndexFunc___api_Lease_api_Lease__L2_ok : LOk Tryz.prog (nthLoop (codeOf Tryz.f117) 0) (loopTr zq37 (loopN zq36 FUEL)) := by
 have h : loopsOf (nthLoop (codeOf Tryz.f117) 0) = [] := by kernel_rfl
 refine loop_ok zq39 (loopsOk h lsNil) zq37 zq36 FUEL (fun rec x => ?_)
 kernel_rfl
theorem lease_Raw_slices_IndexFunc___api_Lease_api_Lease__inl : TrOk Tryz.prog 117 (inlCon zq38 Tryz.f117) := by
 have h : loopsOf (codeOf Tryz.f117) = [(nthLoop (codeOf Tryz.f117) 0)] := by kernel_rfl
 exact inl_ok zq39 Tryz.func117 (bodyOk h (lsCons (one_loop (t := (loopTr zq37 (loopN zq36 FUEL))) (by kernel_rfl) lease_Raw_slices_IndexFunc___api_Lease_api_Lease__L2_ok) lsNil))
noncomputable def lease_Raw_env : Env := mkEnv ty fnB [(86, lease_Live_con), (119, m_lease_book__first_con), (120, (flCon zq33 Tryz.f120 [.one (.fl .int), .one (.fl .bool)])), (122, slices_Insert___api_Lease_api_Lease__con), (117, (inlCon zq38 Tryz.f117))] []
theorem lease_Raw_envOk : EnvOk Tryz.prog lease_Raw_env := envOk tyOk fn_ok (callsCons lease_Live_ok (callsCons m_lease_book__first_ok (callsCons zq35 (callsCons slices_Insert___api_Lease_api_Lease__ok (callsCons lease_Raw_slices_IndexFunc___api_Lease_api_Lease__inl callsNil))))) _
noncomputable def lease_Raw_con : Con := con [.agg [.fl .pfx, .row .addr 25], .one (.row .lease 82), .one (.fl .str), .one (.fl .int), .one (.fl .int)] [.one (.row .lease 82), .one (.fl .addr), .one (.fl .bool)] (fun x => lease_Raw_t x.1.1 x.1.2.1 x.2.1 x.2.2.1 x.2.2.2.1 x.2.2.2.2.1)
theorem lease_Raw_ok : TrOk Tryz.prog 85 lease_Raw_con := by
 have h : loopsOf (codeOf Tryz.f85) = [] := by kernel_rfl
 refine con_ok lease_Raw_envOk Tryz.func85 (bodyOk h lsNil) _ _ _ (fun x => ?_)
 kernel_rfl
def zq73 : LoopS := { n := 49, base := 17, head := { keep := [0, 2, 4, 8, 9, 10], vals := [.one (.cst (.row 11)), .one (.cst (.fn 144 [])), .one (.cst (.ptr 17 0)), .one (.fl .int), .one (.fl .int), .one (.fl .int)], objs := [.bag .addr 25 false false, .nest .pfx 0 73 false, .row .lease 82 false, .blk [.cst (.row 1), .cst (.row 2), .fl .int] 36 false, .blk [.fl .op] 29 false, .blk [.cst (.row 7), .cst (.row 8), .fl .int] 36 false, .bag .addr 25 false false, .nest .pfx 6 73 false, .row .lease 82 false, .blk [.fl .addr] 25 false, .bag .addr 25 false false, .nest .pfx 10 73 false, .row .lease 82 false, .blk [.cst (.row 11), .cst (.row 12), .fl .int] 138 false, .blk [.fl .op] 29 false, .blk [.fl .addr] 25 false, .blk [.fl .pfx] 27 false, .blk [.fl .pfx] 27 true] }, exits := [⟨some 0, { keep := [0, 2, 4, 8, 9], vals := [.one (.cst (.row 11)), .one (.cst (.fn 144 [])), .one (.cst (.ptr 17 0)), .one (.fl .int), .one (.fl .int)], objs := [.bag .addr 25 false false, .nest .pfx 0 73 false, .row .lease 82 false, .blk [.cst (.row 1), .cst (.row 2), .fl .int] 36 false, .blk [.fl .op] 29 false, .blk [.cst (.row 7), .cst (.row 8), .fl .int] 36 false, .bag .addr 25 false false, .nest .pfx 6 73 false, .row .lease 82 false, .blk [.fl .addr] 25 false, .bag .addr 25 false false, .nest .pfx 10 73 false, .row .lease 82 false, .blk [.cst (.row 11), .cst (.row 12), .fl .int] 138 false, .blk [.fl .op] 29 false, .blk [.fl .addr] 25 false, .blk [.fl .pfx] 27 false, .blk [.fl .pfx] 27 true] }⟩] }
noncomputable def zq75 : Env := mkEnv ty fnB [(144, m_state_doer__pool_2_con)] [(3, (loopTr zq73 (loopN zq72 FUEL)))]
theorem zq76 : EnvOk Tryz.prog zq75 := envOk tyOk fn_ok (callsCons m_state_doer__pool_2_ok callsNil) _
theorem zq74 : LOk Tryz.prog (nthLoop (codeOf Tryz.f143) 0) (loopTr zq73 (loopN zq72 FUEL)) := by
 have h : loopsOf (nthLoop (codeOf Tryz.f143) 0) = [] := by kernel_rfl
 refine loop_ok zq76 (loopsOk h lsNil) zq73 zq72 FUEL (fun rec x => ?_)
 kernel_rfl
theorem zq77 : TrOk Tryz.prog 143 (flCon zq75 Tryz.f143 [.one (.fl .int), .one (.fl .bool)]) := by
 have h : loopsOf (codeOf Tryz.f143) = [(nthLoop (codeOf Tryz.f143) 0)] := by kernel_rfl
 exact flCon_ok zq76 Tryz.func143 (bodyOk h (lsCons (one_loop (t := (loopTr zq73 (loopN zq72 FUEL))) (by kernel_rfl) zq74) lsNil)) [.one (.fl .int), .one (.fl .bool)] rfl
def zq82 : LoopS := { n := 19, base := 17, head := { keep := [0, 1, 7, 8], vals := [.one (.cst (.row 11)), .one (.cst (.fn 142 [.ptr 16 0])), .one (.fl .int), .one (.fl .int)], objs := [.bag .addr 25 false false, .nest .pfx 0 73 false, .row .lease 82 false, .blk [.cst (.row 1), .cst (.row 2), .fl .int] 36 true, .blk [.fl .op] 29 true, .blk [.cst (.row 7), .cst (.row 8), .fl .int] 36 true, .bag .addr 25 true true, .nest .pfx 6 73 true, .row .lease 82 true, .blk [.fl .addr] 25 true, .bag .addr 25 true true, .nest .pfx 10 73 true, .row .lease 82 true, .blk [.cst (.row 11), .cst (.row 12), .fl .int] 138 true, .blk [.fl .op] 29 true, .blk [.fl .addr] 25 true, .blk [.fl .pfx] 27 true] }, exits := [⟨none, { keep := [4], vals := [.one (.fl .int)], objs := [.bag .addr 25 false false, .nest .pfx 0 73 false, .row .lease 82 false, .blk [.cst (.row 1), .cst (.row 2), .fl .int] 36 true, .blk [.fl .op] 29 true, .blk [.cst (.row 7), .cst (.row 8), .fl .int] 36 true, .bag .addr 25 true true, .nest .pfx 6 73 true, .row .lease 82 true, .blk [.fl .addr] 25 true, .bag .addr 25 true true, .nest .pfx 10 73 true, .row .lease 82 true, .blk [.cst (.row 11), .cst (.row 12), .fl .int] 138 true, .blk [.fl .op] 29 true, .blk [.fl .addr] 25 true, .blk [.fl .pfx] 27 true] }⟩, ⟨some 0, { keep := [], vals := [], objs := [.bag .addr 25 false false, .nest .pfx 0 73 false, .row .lease 82 false, .blk [.cst (.row 1), .cst (.row 2), .fl .int] 36 true, .blk [.fl .op] 29 true, .blk [.cst (.row 7), .cst (.row 8), .fl .int] 36 true, .bag .addr 25 true true, .nest .pfx 6 73 true, .row .lease 82 true, .blk [.fl .addr] 25 true, .bag .addr 25 true true, .nest .pfx 10 73 true, .row .lease 82 true, .blk [.cst (.row 11), .cst (.row 12), .fl .int] 138 true, .blk [.fl .op] 29 true, .blk [.fl .addr] 25 true, .blk [.fl .pfx] 27 true] }⟩] }
noncomputable def zq84 : Env := mkEnv ty fnB [(142, m_state_doer__pool_1_con)] [(2, (loopTr zq82 (loopN zq81 FUEL)))]
theorem zq85 : EnvOk Tryz.prog zq84 := envOk tyOk fn_ok (callsCons m_state_doer__pool_1_ok callsNil) _
theorem zq83 : LOk Tryz.prog (nthLoop (codeOf Tryz.f104) 0) (loopTr zq82 (loopN zq81 FUEL)) := by
 have h : loopsOf (nthLoop (codeOf Tryz.f104) 0) = [] := by kernel_rfl
 refine loop_ok zq85 (loopsOk h lsNil) zq82 zq81 FUEL (fun rec x => ?_)
 kernel_rfl
theorem zq86 : TrOk Tryz.prog 104 (inlCon zq84 Tryz.f104) := by
 have h : loopsOf (codeOf Tryz.f104) = [(nthLoop (codeOf Tryz.f104) 0)] := by kernel_rfl
 exact inl_ok zq85 Tryz.func104 (bodyOk h (lsCons (one_loop (t := (loopTr zq82 (loopN zq81 FUEL))) (by kernel_rfl) zq83) lsNil))
noncomputable def zq78 : Env := mkEnv ty fnB [(104, (inlCon zq84 Tryz.f104))] []
theorem zq79 : EnvOk Tryz.prog zq78 := envOk tyOk fn_ok (callsCons zq86 callsNil) _
theorem zq80 : TrOk Tryz.prog 141 (inlCon zq78 Tryz.f141) := by
 have h : loopsOf (codeOf Tryz.f141) = [] := by kernel_rfl
 exact inl_ok zq79 Tryz.func141 (bodyOk h lsNil)
noncomputable def zq70 : Env := mkEnv ty fnB [(143, (flCon zq75 Tryz.f143 [.one (.fl .int), .one (.fl .bool)])), (145, slices_Insert___api_Pool_api_Pool__con), (141, (inlCon zq78 Tryz.f141))] []
theorem state_Raw___state_doer__do___state_doer__pool_envOk : EnvOk Tryz.prog zq70 := envOk tyOk fn_ok (callsCons zq77 (callsCons slices_Insert___api_Pool_api_Pool__ok (callsCons zq80 callsNil))) _
theorem state_Raw___state_doer__do___state_doer__pool_inl : TrOk Tryz.prog 131 (inlCon zq70 Tryz.f131) := by
 have h : loopsOf (codeOf Tryz.f131) = [] := by kernel_rfl
 exact inl_ok state_Raw___state_doer__do___state_doer__pool_envOk Tryz.func131 (bodyOk h lsNil)
def zq65 : LoopS := { n := 49, base := 17, head := { keep := [0, 2, 4, 8, 9, 10], vals := [.one (.inn 10), .one (.cst (.fn 101 [])), .one (.cst (.ptr 17 0)), .one (.fl .int), .one (.fl .int), .one (.fl .int)], objs := [.bag .addr 25 false false, .nest .pfx 0 73 false, .row .lease 82 false, .blk [.cst (.row 1), .cst (.row 2), .fl .int] 36 false, .blk [.fl .op] 29 false, .blk [.cst (.row 7), .cst (.row 8), .fl .int] 36 false, .bag .addr 25 false false, .nest .pfx 6 73 false, .row .lease 82 false, .blk [.fl .addr] 25 false, .bag .addr 25 false false, .nest .pfx 10 73 false, .row .lease 82 false, .blk [.cst (.row 11), .cst (.row 12), .fl .int] 138 false, .blk [.fl .op] 29 false, .blk [.fl .addr] 25 false, .blk [.fl .addr] 25 false, .blk [.fl .addr] 25 true] }, exits := [⟨some 0, { keep := [0, 2, 4, 8, 9], vals := [.one (.inn 10), .one (.cst (.fn 101 [])), .one (.cst (.ptr 17 0)), .one (.fl .int), .one (.fl .int)], objs := [.bag .addr 25 false false, .nest .pfx 0 73 false, .row .lease 82 false, .blk [.cst (.row 1), .cst (.row 2), .fl .int] 36 false, .blk [.fl .op] 29 false, .blk [.cst (.row 7), .cst (.row 8), .fl .int] 36 false, .bag .addr 25 false false, .nest .pfx 6 73 false, .row .lease 82 false, .blk [.fl .addr] 25 false, .bag .addr 25 false false, .nest .pfx 10 73 false, .row .lease 82 false, .blk [.cst (.row 11), .cst (.row 12), .fl .int] 138 false, .blk [.fl .op] 29 false, .blk [.fl .addr] 25 false, .blk [.fl .addr] 25 false, .blk [.fl .addr] 25 true] }⟩] }
noncomputable def zq67 : Env := mkEnv ty fnB [(101, addr_Order_con)] [(3, (loopTr zq65 (loopN zq64 FUEL)))]
theorem zq68 : EnvOk Tryz.prog zq67 := envOk tyOk fn_ok (callsCons addr_Order_ok callsNil) _
theorem zq66 : LOk Tryz.prog (nthLoop (codeOf Tryz.f146) 0) (loopTr zq65 (loopN zq64 FUEL)) := by
 have h : loopsOf (nthLoop (codeOf Tryz.f146) 0) = [] := by kernel_rfl
 refine loop_ok zq68 (loopsOk h lsNil) zq65 zq64 FUEL (fun rec x => ?_)
 kernel_rfl
theorem zq69 : TrOk Tryz.prog 146 (flCon zq67 Tryz.f146 [.one (.fl .int), .one (.fl .bool)]) := by
 have h : loopsOf (codeOf Tryz.f146) = [(nthLoop (codeOf Tryz.f146) 0)] := by kernel_rfl
 exact flCon_ok zq68 Tryz.func146 (bodyOk h (lsCons (one_loop (t := (loopTr zq65 (loopN zq64 FUEL))) (by kernel_rfl) zq66) lsNil)) [.one (.fl .int), .one (.fl .bool)] rfl
noncomputable def zq63 : Env := mkEnv ty fnB [(59, state_poolOf_con), (146, (flCon zq67 Tryz.f146 [.one (.fl .int), .one (.fl .bool)])), (147, slices_Insert___api_Addr_api_Addr__con)] []
theorem state_Raw___state_doer__do___state_doer__keep_envOk : EnvOk Tryz.prog zq63 := envOk tyOk fn_ok (callsCons state_poolOf_ok (callsCons zq69 (callsCons slices_Insert___api_Addr_api_Addr__ok callsNil))) _
theorem state_Raw___state_doer__do___state_doer__keep_inl : TrOk Tryz.prog 132 (inlCon zq63 Tryz.f132) := by
 have h : loopsOf (codeOf Tryz.f132) = [] := by kernel_rfl
 exact inl_ok state_Raw___state_doer__do___state_doer__keep_envOk Tryz.func132 (bodyOk h lsNil)
def zq60 : LoopS := { n := 121, base := 16, head := { keep := [0, 1, 3, 8, 10, 12, 13, 61, 62, 63], vals := [.one (.cst (.ptr 13 0)), .one (.fl .str), .one (.fl .int), .one (.cst (.ptr 16 0)), .one (.cst (.ptr 17 0)), .one (.cst (.row 18)), .one (.cst (.row 19)), .one (.cst (.row 12)), .one (.fl .int), .one (.fl .int)], objs := [.bag .addr 25 false false, .nest .pfx 0 73 false, .row .lease 82 false, .blk [.cst (.row 1), .cst (.row 2), .fl .int] 36 true, .blk [.fl .op] 29 true, .blk [.cst (.row 7), .cst (.row 8), .fl .int] 36 true, .bag .addr 25 true true, .nest .pfx 6 73 true, .row .lease 82 true, .blk [.fl .addr] 25 true, .bag .addr 25 true true, .nest .pfx 10 73 true, .row .lease 82 true, .blk [.cst (.row 11), .cst (.row 12), .fl .int] 138 true, .blk [.fl .op] 29 true, .blk [.fl .addr] 25 true, .blk [.fl .addr] 25 true, .blk [.fl .bool, .fl .u64, .fl .u64, .fl .int, .inn 10] 73 true, .row .lease 82 true, .row .lease 82 true] }, exits := [⟨some 0, { keep := [0, 1, 3, 8, 10, 12, 13], vals := [.one (.cst (.ptr 13 0)), .one (.fl .str), .one (.fl .int), .one (.cst (.ptr 16 0)), .one (.cst (.ptr 17 0)), .one (.cst (.row 18)), .one (.cst (.row 19))], objs := [.bag .addr 25 false false, .nest .pfx 0 73 false, .row .lease 82 false, .blk [.cst (.row 1), .cst (.row 2), .fl .int] 36 true, .blk [.fl .op] 29 true, .blk [.cst (.row 7), .cst (.row 8), .fl .int] 36 true, .bag .addr 25 true true, .nest .pfx 6 73 true, .row .lease 82 true, .blk [.fl .addr] 25 true, .bag .addr 25 true true, .nest .pfx 10 73 true, .row .lease 82 true, .blk [.cst (.row 11), .cst (.row 12), .fl .int] 138 true, .blk [.fl .op] 29 true, .blk [.fl .addr] 25 true, .blk [.fl .addr] 25 true, .blk [.fl .bool, .fl .u64, .fl .u64, .fl .int, .inn 10] 73 true, .row .lease 82 true, .row .lease 82 true] }⟩] }
noncomputable def zq61 : Env := mkEnv ty fnB [(148, m_state_doer__find_con), (100, prefix_Holds_con), (85, lease_Raw_con), (149, slices_SortFunc___api_Lease_api_Lease__con)] [(9, (loopTr zq60 (loopN zq59 FUEL)))]
theorem zq62 : EnvOk Tryz.prog zq61 := envOk tyOk fn_ok (callsCons m_state_doer__find_ok (callsCons prefix_Holds_ok (callsCons lease_Raw_ok (callsCons slices_SortFunc___api_Lease_api_Lease__ok callsNil)))) _
theorem state_Raw___state_doer__do___state_doer__grant_L9_ok : LOk Tryz.prog (nthLoop (codeOf Tryz.f133) 0) (loopTr zq60 (loopN zq59 FUEL)) := by
 have h : loopsOf (nthLoop (codeOf Tryz.f133) 0) = [] := by kernel_rfl
 refine loop_ok zq62 (loopsOk h lsNil) zq60 zq59 FUEL (fun rec x => ?_)
 kernel_rfl
theorem state_Raw___state_doer__do___state_doer__grant_inl : TrOk Tryz.prog 133 (inlCon zq61 Tryz.f133) := by
 have h : loopsOf (codeOf Tryz.f133) = [(nthLoop (codeOf Tryz.f133) 0)] := by kernel_rfl
 exact inl_ok zq62 Tryz.func133 (bodyOk h (lsCons (one_loop (t := (loopTr zq60 (loopN zq59 FUEL))) (by kernel_rfl) state_Raw___state_doer__do___state_doer__grant_L9_ok) lsNil))
noncomputable def zq58 : Env := mkEnv ty fnB [(148, m_state_doer__find_con), (151, slices_Delete___api_Lease_api_Lease__con)] []
theorem state_Raw___state_doer__do___state_doer__free_envOk : EnvOk Tryz.prog zq58 := envOk tyOk fn_ok (callsCons m_state_doer__find_ok (callsCons slices_Delete___api_Lease_api_Lease__ok callsNil)) _
theorem state_Raw___state_doer__do___state_doer__free_inl : TrOk Tryz.prog 134 (inlCon zq58 Tryz.f134) := by
 have h : loopsOf (codeOf Tryz.f134) = [] := by kernel_rfl
 exact inl_ok state_Raw___state_doer__do___state_doer__free_envOk Tryz.func134 (bodyOk h lsNil)
noncomputable def state_Raw___state_doer__do_env : Env := mkEnv ty fnB [(131, (inlCon zq70 Tryz.f131)), (132, (inlCon zq63 Tryz.f132)), (133, (inlCon zq61 Tryz.f133)), (134, (inlCon zq58 Tryz.f134)), (86, lease_Live_con)] []
theorem state_Raw___state_doer__do_envOk : EnvOk Tryz.prog state_Raw___state_doer__do_env := envOk tyOk fn_ok (callsCons state_Raw___state_doer__do___state_doer__pool_inl (callsCons state_Raw___state_doer__do___state_doer__keep_inl (callsCons state_Raw___state_doer__do___state_doer__grant_inl (callsCons state_Raw___state_doer__do___state_doer__free_inl (callsCons lease_Live_ok callsNil))))) _
theorem state_Raw___state_doer__do_inl : TrOk Tryz.prog 109 (inlCon state_Raw___state_doer__do_env Tryz.f109) := by
 have h : loopsOf (codeOf Tryz.f109) = [] := by kernel_rfl
 exact inl_ok state_Raw___state_doer__do_envOk Tryz.func109 (bodyOk h lsNil)
noncomputable def state_Raw_env : Env := mkEnv ty fnB [(52, state_Form_con), (108, state_Own_con), (109, (inlCon state_Raw___state_doer__do_env Tryz.f109))] []
theorem state_Raw_envOk : EnvOk Tryz.prog state_Raw_env := envOk tyOk fn_ok (callsCons state_Form_ok (callsCons state_Own_ok (callsCons state_Raw___state_doer__do_inl callsNil))) _
noncomputable def state_Raw_con : Con := con [.agg [.nest .pfx .addr 73 25 true, .row .lease 82, .fl .int], .one (.fl .op)] [.agg [.nest .pfx .addr 73 25 true, .row .lease 82, .fl .int], .one (.fl .addr), .one (.fl .int)] (fun x => state_Raw_t x.1.1 x.1.2.1 x.1.2.2.1 x.2.1)
theorem state_Raw_ok : TrOk Tryz.prog 61 state_Raw_con := by
 have h : loopsOf (codeOf Tryz.f61) = [] := by kernel_rfl
 refine con_ok state_Raw_envOk Tryz.func61 (bodyOk h lsNil) _ _ _ (fun x => ?_)
 kernel_rfl
noncomputable def log_All___log_player__play_env : Env := mkEnv ty fnB [(61, state_Raw_con)] []
theorem log_All___log_player__play_envOk : EnvOk Tryz.prog log_All___log_player__play_env := envOk tyOk fn_ok (callsCons state_Raw_ok callsNil) _
theorem log_All___log_player__play_inl : TrOk Tryz.prog 88 (inlCon log_All___log_player__play_env Tryz.f88) := by
 have h : loopsOf (codeOf Tryz.f88) = [] := by kernel_rfl
 exact inl_ok log_All___log_player__play_envOk Tryz.func88 (bodyOk h lsNil)
def log_All_L3_S : LoopS := { n := 27, base := 1, head := { keep := [2, 4, 9, 10, 11], vals := [.one (.cst (.ptr 1 0)), .one (.cst (.ptr 2 0)), .one (.cst (.row 0)), .one (.fl .int), .one (.fl .int)], objs := [.row .entry 86 false, .blk [.cst (.row 3), .cst (.row 4), .fl .int] 36 true, .blk [.cst (.row 5), .cst (.row 6), .fl .int, .cst (.row 7)] 120 true, .nest .pfx 8 73 true, .row .lease 82 true, .nest .pfx 9 73 true, .row .lease 82 true, .row .addr 25 true, .bag .addr 25 true true, .bag .addr 25 true true] }, exits := [⟨some 0, { keep := [2, 4], vals := [.one (.cst (.ptr 1 0)), .one (.cst (.ptr 2 0))], objs := [.row .entry 86 false, .blk [.cst (.row 3), .cst (.row 4), .fl .int] 36 true, .blk [.cst (.row 5), .cst (.row 6), .fl .int, .cst (.row 7)] 120 true, .nest .pfx 8 73 true, .row .lease 82 true, .nest .pfx 9 73 true, .row .lease 82 true, .row .addr 25 true, .bag .addr 25 true true, .bag .addr 25 true true] }⟩] }
noncomputable def log_All_env : Env := mkEnv ty fnB [(88, (inlCon log_All___log_player__play_env Tryz.f88))] [(3, (loopTr log_All_L3_S (loopN log_All_L3 FUEL)))]
theorem log_All_envOk : EnvOk Tryz.prog log_All_env := envOk tyOk fn_ok (callsCons log_All___log_player__play_inl callsNil) _
theorem log_All_L3_ok : LOk Tryz.prog (nthLoop (codeOf Tryz.f44) 0) (loopTr log_All_L3_S (loopN log_All_L3 FUEL)) := by
 have h : loopsOf (nthLoop (codeOf Tryz.f44) 0) = [] := by kernel_rfl
 refine loop_ok log_All_envOk (loopsOk h lsNil) log_All_L3_S log_All_L3 FUEL (fun rec x => ?_)
 kernel_rfl
noncomputable def log_All_con : Con := con [.one (.row .entry 86)] [.agg [.nest .pfx .addr 73 25 true, .row .lease 82, .fl .int], .one (.row .addr 25)] (fun x => log_All_t x.1)
theorem log_All_ok : TrOk Tryz.prog 44 log_All_con := by
 have h : loopsOf (codeOf Tryz.f44) = [(nthLoop (codeOf Tryz.f44) 0)] := by kernel_rfl
 refine con_ok log_All_envOk Tryz.func44 (bodyOk h (lsCons (one_loop (t := (loopTr log_All_L3_S (loopN log_All_L3 FUEL))) (by kernel_rfl) log_All_L3_ok) lsNil)) _ _ _ (fun x => ?_)
 kernel_rfl
noncomputable def log_Replay_env : Env := mkEnv ty fnB [(17, log_Check_con), (44, log_All_con)] []
theorem log_Replay_envOk : EnvOk Tryz.prog log_Replay_env := envOk tyOk fn_ok (callsCons log_Check_ok (callsCons log_All_ok callsNil)) _
noncomputable def log_Replay_con : Con := con [.one (.row .entry 86)] [.agg [.nest .pfx .addr 73 25 true, .row .lease 82, .fl .int], .one (.row .addr 25), .one (.fl .int)] (fun x => log_Replay_t x.1)
theorem log_Replay_ok : TrOk Tryz.prog 11 log_Replay_con := by
 have h : loopsOf (codeOf Tryz.f11) = [] := by kernel_rfl
 refine con_ok log_Replay_envOk Tryz.func11 (bodyOk h lsNil) _ _ _ (fun x => ?_)
 kernel_rfl
def R_GrantOf_L13_S : LoopS := { n := 135, base := 2, head := { keep := [2, 3, 4, 5, 11, 13, 15, 16, 17, 18, 19], vals := [.one (.fl .str), .one (.fl .int), .one (.fl .int), .one (.cst (.ptr 2 0)), .one (.cst (.ptr 3 0)), .one (.cst (.row 4)), .one (.cst (.row 5)), .one (.cst (.ptr 6 0)), .one (.fl .int), .one (.fl .bool), .one (.fl .int)], objs := [.row .addr 25 false, .row .lease 82 false, .blk [.fl .bool, .fl .u64, .fl .u64, .fl .int, .cst (.row 0)] 73 true, .blk [.fl .addr] 25 true, .row .lease 82 true, .row .lease 82 true, .blk [.fl .addr] 25 true] }, exits := [⟨some 2, { keep := [2, 3, 4, 5, 11, 13, 15, 16, 17, 18], vals := [.one (.fl .str), .one (.fl .int), .one (.fl .int), .one (.cst (.ptr 2 0)), .one (.cst (.ptr 3 0)), .one (.cst (.row 4)), .one (.cst (.row 5)), .one (.cst (.ptr 6 0)), .one (.fl .int), .one (.fl .bool)], objs := [.row .addr 25 false, .row .lease 82 false, .blk [.fl .bool, .fl .u64, .fl .u64, .fl .int, .cst (.row 0)] 73 true, .blk [.fl .addr] 25 true, .row .lease 82 true, .row .lease 82 true, .blk [.fl .addr] 25 true] }⟩] }
def R_GrantOf_L20_S : LoopS := { n := 135, base := 2, head := { keep := [11, 13, 15, 16, 20, 21, 22], vals := [.one (.cst (.ptr 2 0)), .one (.cst (.row 3)), .one (.cst (.row 4)), .one (.cst (.ptr 5 0)), .one (.cst (.ptr 6 0)), .one (.fl .bool), .one (.fl .int)], objs := [.row .addr 25 false, .row .lease 82 false, .blk [.fl .addr] 25 true, .row .lease 82 true, .row .lease 82 true, .blk [.fl .addr] 25 true, .blk [.fl .lease] 82 true] }, exits := [⟨some 4, { keep := [11, 15, 16, 20, 21], vals := [.one (.cst (.ptr 2 0)), .one (.cst (.row 3)), .one (.cst (.ptr 4 0)), .one (.cst (.ptr 5 0)), .one (.fl .bool)], objs := [.row .addr 25 false, .row .lease 82 false, .blk [.fl .addr] 25 true, .row .lease 82 true, .blk [.fl .addr] 25 true, .blk [.fl .lease] 82 true] }⟩] }
def R_GrantOf_L9_S : LoopS := { n := 135, base := 2, head := { keep := [2, 3, 4, 5, 11, 13, 15, 16, 17], vals := [.one (.fl .str), .one (.fl .int), .one (.fl .int), .one (.cst (.ptr 2 0)), .one (.cst (.ptr 3 0)), .one (.cst (.row 4)), .one (.cst (.row 5)), .one (.cst (.ptr 6 0)), .one (.fl .int)], objs := [.row .addr 25 false, .row .lease 82 false, .blk [.fl .bool, .fl .u64, .fl .u64, .fl .int, .cst (.row 0)] 73 true, .blk [.fl .addr] 25 true, .row .lease 82 true, .row .lease 82 true, .blk [.fl .addr] 25 true] }, exits := [⟨none, { keep := [10, 11, 12], vals := [.one (.cst (.row 2)), .one (.cst (.ptr 3 0)), .one (.fl .bool)], objs := [.row .addr 25 false, .row .lease 82 false, .row .lease 82 true, .blk [.fl .addr] 25 true] }⟩, ⟨some 0, { keep := [11], vals := [.one (.cst (.ptr 2 0))], objs := [.row .addr 25 false, .row .lease 82 false, .blk [.fl .addr] 25 true] }⟩] }
noncomputable def R_GrantOf_env : Env := mkEnv ty fnB [(82, R_LiveOf_con), (77, R_WhoAt_con), (80, R_HasAddr_con), (78, R_hasAddr_con), (79, R_IsAhead_con), (116, R_NextOf_con)] [(13, (loopTr R_GrantOf_L13_S (loopN R_GrantOf_L13 FUEL))), (20, (loopTr R_GrantOf_L20_S (loopN R_GrantOf_L20 FUEL))), (9, (loopTr R_GrantOf_L9_S (loopN R_GrantOf_L9 FUEL)))]
theorem R_GrantOf_envOk : EnvOk Tryz.prog R_GrantOf_env := envOk tyOk fn_ok (callsCons R_LiveOf_ok (callsCons R_WhoAt_ok (callsCons R_HasAddr_ok (callsCons R_hasAddr_ok (callsCons R_IsAhead_ok (callsCons R_NextOf_ok callsNil)))))) _
theorem R_GrantOf_L20_ok : LOk Tryz.prog (nthLoop (nthLoop (codeOf Tryz.f81) 0) 1) (loopTr R_GrantOf_L20_S (loopN R_GrantOf_L20 FUEL)) := by
 have h : loopsOf (nthLoop (nthLoop (codeOf Tryz.f81) 0) 1) = [] := by kernel_rfl
 refine loop_ok R_GrantOf_envOk (loopsOk h lsNil) R_GrantOf_L20_S R_GrantOf_L20 FUEL (fun rec x => ?_)
 kernel_rfl
theorem R_GrantOf_L13_ok : LOk Tryz.prog (nthLoop (nthLoop (codeOf Tryz.f81) 0) 0) (loopTr R_GrantOf_L13_S (loopN R_GrantOf_L13 FUEL)) := by
 have h : loopsOf (nthLoop (nthLoop (codeOf Tryz.f81) 0) 0) = [] := by kernel_rfl
 refine loop_ok R_GrantOf_envOk (loopsOk h lsNil) R_GrantOf_L13_S R_GrantOf_L13 FUEL (fun rec x => ?_)
 kernel_rfl
theorem R_GrantOf_L9_ok : LOk Tryz.prog (nthLoop (codeOf Tryz.f81) 0) (loopTr R_GrantOf_L9_S (loopN R_GrantOf_L9 FUEL)) := by
 have h : loopsOf (nthLoop (codeOf Tryz.f81) 0) = [(nthLoop (nthLoop (codeOf Tryz.f81) 0) 0), (nthLoop (nthLoop (codeOf Tryz.f81) 0) 1)] := by kernel_rfl
 refine loop_ok R_GrantOf_envOk (loopsOk h (lsCons (one_loop (t := (loopTr R_GrantOf_L13_S (loopN R_GrantOf_L13 FUEL))) (by kernel_rfl) R_GrantOf_L13_ok) (lsCons (one_loop (t := (loopTr R_GrantOf_L20_S (loopN R_GrantOf_L20 FUEL))) (by kernel_rfl) R_GrantOf_L20_ok) lsNil))) R_GrantOf_L9_S R_GrantOf_L9 FUEL (fun rec x => ?_)
 kernel_rfl
noncomputable def R_GrantOf_con : Con := con [.agg [.fl .pfx, .row .addr 25], .one (.row .lease 82), .one (.fl .str), .one (.fl .int), .one (.fl .int)] [.one (.row .lease 82), .one (.fl .addr), .one (.fl .bool)] (fun x => R_GrantOf_t x.1.1 x.1.2.1 x.2.1 x.2.2.1 x.2.2.2.1 x.2.2.2.2.1)
theorem R_GrantOf_ok : TrOk Tryz.prog 81 R_GrantOf_con := by
 have h : loopsOf (codeOf Tryz.f81) = [(nthLoop (codeOf Tryz.f81) 0)] := by kernel_rfl
 refine con_ok R_GrantOf_envOk Tryz.func81 (bodyOk h (lsCons (one_loop (t := (loopTr R_GrantOf_L9_S (loopN R_GrantOf_L9 FUEL))) (by kernel_rfl) R_GrantOf_L9_ok) lsNil)) _ _ _ (fun x => ?_)
 kernel_rfl
def R_DoOf_L10_S : LoopS := { n := 421, base := 4, head := { keep := [2, 3, 4, 5, 8, 9, 10], vals := [.one (.cst (.ptr 4 0)), .one (.cst (.ptr 5 0)), .one (.cst (.ptr 6 0)), .one (.cst (.ptr 7 0)), .one (.cst (.ptr 8 0)), .one (.fl .bool), .one (.fl .int)], objs := [.bag .addr 25 false false, .nest .pfx 0 73 false, .row .lease 82 false, .ghost, .blk [.cst (.row 1), .cst (.row 2), .fl .int] 36 true, .blk [.fl .op] 29 true, .blk [.cst (.row 9), .cst (.row 10), .fl .int] 36 true, .blk [.fl .addr] 25 true, .blk [.cst (.row 11), .cst (.row 2), .fl .int] 36 true, .nest .pfx 12 73 true, .row .lease 82 true, .nest .pfx 13 73 true, .bag .addr 25 true true, .bag .addr 25 false false] }, exits := [⟨none, { keep := [4, 5, 6], vals := [.one (.cst (.ptr 4 0)), .one (.cst (.ptr 5 0)), .one (.fl .int)], objs := [.bag .addr 25 false false, .nest .pfx 0 73 false, .row .lease 82 false, .ghost, .blk [.cst (.row 6), .cst (.row 7), .fl .int] 36 true, .blk [.fl .addr] 25 true, .nest .pfx 8 73 true, .row .lease 82 true, .bag .addr 25 true true] }⟩, ⟨some 1, { keep := [3, 4, 5, 8, 9], vals := [.one (.cst (.ptr 4 0)), .one (.cst (.ptr 5 0)), .one (.cst (.ptr 6 0)), .one (.cst (.ptr 7 0)), .one (.fl .bool)], objs := [.bag .addr 25 false false, .nest .pfx 0 73 false, .row .lease 82 false, .ghost, .blk [.fl .op] 29 true, .blk [.cst (.row 8), .cst (.row 9), .fl .int] 36 true, .blk [.fl .addr] 25 true, .blk [.cst (.row 10), .cst (.row 2), .fl .int] 36 true, .nest .pfx 11 73 true, .row .lease 82 true, .nest .pfx 12 73 true, .bag .addr 25 true true, .bag .addr 25 false false] }⟩] }
def R_DoOf_L33_S : LoopS := { n := 421, base := 4, head := { keep := [2, 4, 5, 8, 11, 12, 13], vals := [.one (.cst (.ptr 4 0)), .one (.cst (.ptr 5 0)), .one (.cst (.ptr 6 0)), .one (.cst (.ptr 7 0)), .one (.fl .int), .one (.cst (.row 8)), .one (.fl .int)], objs := [.bag .addr 25 false false, .nest .pfx 0 73 false, .row .lease 82 false, .ghost, .blk [.cst (.row 1), .cst (.row 2), .fl .int] 36 true, .blk [.cst (.row 9), .cst (.row 10), .fl .int] 36 true, .blk [.fl .addr] 25 true, .blk [.cst (.row 1), .cst (.row 2), .fl .int] 36 true, .row .addr 25 true, .nest .pfx 11 73 true, .row .lease 82 true, .bag .addr 25 true true] }, exits := [⟨some 4, { keep := [2, 4, 5, 8, 11, 12], vals := [.one (.cst (.ptr 4 0)), .one (.cst (.ptr 5 0)), .one (.cst (.ptr 6 0)), .one (.cst (.ptr 7 0)), .one (.fl .int), .one (.cst (.row 8))], objs := [.bag .addr 25 false false, .nest .pfx 0 73 false, .row .lease 82 false, .ghost, .blk [.cst (.row 1), .cst (.row 2), .fl .int] 36 true, .blk [.cst (.row 9), .cst (.row 10), .fl .int] 36 true, .blk [.fl .addr] 25 true, .blk [.cst (.row 1), .cst (.row 2), .fl .int] 36 true, .row .addr 25 true, .nest .pfx 11 73 true, .row .lease 82 true, .bag .addr 25 true true] }⟩] }
def R_DoOf_L48_S : LoopS := { n := 421, base := 4, head := { keep := [2, 3, 4, 5, 8, 14, 16, 17], vals := [.one (.cst (.ptr 4 0)), .one (.cst (.ptr 5 0)), .one (.cst (.ptr 6 0)), .one (.cst (.ptr 7 0)), .one (.cst (.ptr 8 0)), .one (.cst (.ptr 9 0)), .one (.cst (.row 10)), .one (.fl .int)], objs := [.bag .addr 25 false false, .nest .pfx 0 73 false, .row .lease 82 false, .ghost, .blk [.cst (.row 1), .cst (.row 2), .fl .int] 36 true, .blk [.fl .op] 29 true, .blk [.cst (.row 11), .cst (.row 12), .fl .int] 36 true, .blk [.fl .addr] 25 true, .blk [.cst (.row 1), .cst (.row 2), .fl .int] 36 true, .blk [.fl .bool, .fl .u64, .fl .u64, .fl .int, .inn 0] 73 true, .row .lease 82 true, .nest .pfx 13 73 true, .row .lease 82 true, .bag .addr 25 true true] }, exits := [⟨some 6, { keep := [2, 3, 4, 5, 8, 14, 16], vals := [.one (.cst (.ptr 4 0)), .one (.cst (.ptr 5 0)), .one (.cst (.ptr 6 0)), .one (.cst (.ptr 7 0)), .one (.cst (.ptr 8 0)), .one (.cst (.ptr 9 0)), .one (.cst (.row 10))], objs := [.bag .addr 25 false false, .nest .pfx 0 73 false, .row .lease 82 false, .ghost, .blk [.cst (.row 1), .cst (.row 2), .fl .int] 36 true, .blk [.fl .op] 29 true, .blk [.cst (.row 11), .cst (.row 12), .fl .int] 36 true, .blk [.fl .addr] 25 true, .blk [.cst (.row 1), .cst (.row 2), .fl .int] 36 true, .blk [.fl .bool, .fl .u64, .fl .u64, .fl .int, .inn 0] 73 true, .row .lease 82 true, .nest .pfx 13 73 true, .row .lease 82 true, .bag .addr 25 true true] }⟩] }
def R_DoOf_L57_S : LoopS := { n := 421, base := 4, head := { keep := [2, 4, 5, 8, 14, 18, 19, 21], vals := [.one (.cst (.ptr 4 0)), .one (.cst (.ptr 5 0)), .one (.cst (.ptr 6 0)), .one (.cst (.ptr 7 0)), .one (.cst (.ptr 8 0)), .one (.cst (.row 9)), .one (.cst (.ptr 10 0)), .one (.fl .int)], objs := [.bag .addr 25 false false, .nest .pfx 0 73 false, .row .lease 82 false, .ghost, .blk [.cst (.row 1), .cst (.row 2), .fl .int] 36 true, .blk [.cst (.row 11), .cst (.row 12), .fl .int] 36 true, .blk [.fl .addr] 25 true, .blk [.cst (.row 1), .cst (.row 13), .fl .int] 36 true, .blk [.fl .bool, .fl .u64, .fl .u64, .fl .int, .inn 0] 73 true, .row .lease 82 true, .blk [.fl .addr] 25 true, .nest .pfx 14 73 true, .row .lease 82 true, .row .lease 82 true, .bag .addr 25 true true] }, exits := [⟨some 8, { keep := [4, 5, 8, 18, 19], vals := [.one (.cst (.ptr 4 0)), .one (.cst (.ptr 5 0)), .one (.cst (.ptr 6 0)), .one (.cst (.row 7)), .one (.cst (.ptr 8 0))], objs := [.bag .addr 25 false false, .nest .pfx 0 73 false, .row .lease 82 false, .ghost, .blk [.cst (.row 9), .cst (.row 10), .fl .int] 36 true, .blk [.fl .addr] 25 true, .blk [.cst (.row 1), .cst (.row 11), .fl .int] 36 true, .row .lease 82 true, .blk [.fl .addr] 25 true, .nest .pfx 12 73 true, .row .lease 82 true, .row .lease 82 true, .bag .addr 25 true true] }⟩] }
def R_DoOf_L66_S : LoopS := { n := 421, base := 4, head := { keep := [4, 5, 8, 18, 19, 22, 23], vals := [.one (.cst (.ptr 4 0)), .one (.cst (.ptr 5 0)), .one (.cst (.ptr 6 0)), .one (.cst (.row 7)), .one (.cst (.ptr 8 0)), .one (.fl .int), .one (.fl .int)], objs := [.bag .addr 25 false false, .nest .pfx 0 73 false, .row .lease 82 false, .ghost, .blk [.cst (.row 9), .cst (.row 10), .fl .int] 36 true, .blk [.fl .addr] 25 true, .blk [.cst (.row 1), .cst (.row 11), .fl .int] 36 true, .row .lease 82 true, .blk [.fl .addr] 25 true, .nest .pfx 12 73 true, .row .lease 82 true, .row .lease 82 true, .bag .addr 25 true true] }, exits := [⟨some 12, { keep := [4, 5, 8, 18, 19, 22], vals := [.one (.cst (.ptr 4 0)), .one (.cst (.ptr 5 0)), .one (.cst (.ptr 6 0)), .one (.cst (.row 7)), .one (.cst (.ptr 8 0)), .one (.fl .int)], objs := [.bag .addr 25 false false, .nest .pfx 0 73 false, .row .lease 82 false, .ghost, .blk [.cst (.row 9), .cst (.row 10), .fl .int] 36 true, .blk [.fl .addr] 25 true, .blk [.cst (.row 1), .cst (.row 11), .fl .int] 36 true, .row .lease 82 true, .blk [.fl .addr] 25 true, .nest .pfx 12 73 true, .row .lease 82 true, .row .lease 82 true, .bag .addr 25 true true] }⟩] }
def R_DoOf_L62_S : LoopS := { n := 421, base := 4, head := { keep := [4, 5, 8, 18, 19, 22], vals := [.one (.cst (.ptr 4 0)), .one (.cst (.ptr 5 0)), .one (.cst (.ptr 6 0)), .one (.cst (.row 7)), .one (.cst (.ptr 8 0)), .one (.fl .int)], objs := [.bag .addr 25 false false, .nest .pfx 0 73 false, .row .lease 82 false, .ghost, .blk [.cst (.row 9), .cst (.row 10), .fl .int] 36 true, .blk [.fl .addr] 25 true, .blk [.cst (.row 1), .cst (.row 11), .fl .int] 36 true, .row .lease 82 true, .blk [.fl .addr] 25 true, .nest .pfx 12 73 true, .row .lease 82 true, .row .lease 82 true, .bag .addr 25 true true] }, exits := [⟨some 10, { keep := [4, 5, 8, 19], vals := [.one (.cst (.ptr 4 0)), .one (.cst (.ptr 5 0)), .one (.cst (.ptr 6 0)), .one (.cst (.ptr 7 0))], objs := [.bag .addr 25 false false, .nest .pfx 0 73 false, .row .lease 82 false, .ghost, .blk [.cst (.row 8), .cst (.row 9), .fl .int] 36 true, .blk [.fl .addr] 25 true, .blk [.cst (.row 1), .cst (.row 10), .fl .int] 36 true, .blk [.fl .addr] 25 true, .nest .pfx 11 73 true, .row .lease 82 true, .row .lease 82 true, .bag .addr 25 true true] }⟩] }
noncomputable def R_DoOf_env : Env := mkEnv ty fnB [(47, R_CheckOp_con), (74, R_DoMeet_con), (73, R_PrefixAhead_con), (76, R_PoolAt_con), (78, R_hasAddr_con), (79, R_IsAhead_con), (77, R_WhoAt_con), (80, R_HasAddr_con), (81, R_GrantOf_con), (82, R_LiveOf_con)] [(10, (loopTr R_DoOf_L10_S (loopN R_DoOf_L10 FUEL))), (33, (loopTr R_DoOf_L33_S (loopN R_DoOf_L33 FUEL))), (48, (loopTr R_DoOf_L48_S (loopN R_DoOf_L48 FUEL))), (57, (loopTr R_DoOf_L57_S (loopN R_DoOf_L57 FUEL))), (66, (loopTr R_DoOf_L66_S (loopN R_DoOf_L66 FUEL))), (62, (loopTr R_DoOf_L62_S (loopN R_DoOf_L62 FUEL)))]
theorem R_DoOf_envOk : EnvOk Tryz.prog R_DoOf_env := envOk tyOk fn_ok (callsCons R_CheckOp_ok (callsCons R_DoMeet_ok (callsCons R_PrefixAhead_ok (callsCons R_PoolAt_ok (callsCons R_hasAddr_ok (callsCons R_IsAhead_ok (callsCons R_WhoAt_ok (callsCons R_HasAddr_ok (callsCons R_GrantOf_ok (callsCons R_LiveOf_ok callsNil)))))))))) _
theorem R_DoOf_L66_ok : LOk Tryz.prog (nthLoop (nthLoop (codeOf Tryz.f38) 4) 0) (loopTr R_DoOf_L66_S (loopN R_DoOf_L66 FUEL)) := by
 have h : loopsOf (nthLoop (nthLoop (codeOf Tryz.f38) 4) 0) = [] := by kernel_rfl
 refine loop_ok R_DoOf_envOk (loopsOk h lsNil) R_DoOf_L66_S R_DoOf_L66 FUEL (fun rec x => ?_)
 kernel_rfl
theorem R_DoOf_L62_ok : LOk Tryz.prog (nthLoop (codeOf Tryz.f38) 4) (loopTr R_DoOf_L62_S (loopN R_DoOf_L62 FUEL)) := by
 have h : loopsOf (nthLoop (codeOf Tryz.f38) 4) = [(nthLoop (nthLoop (codeOf Tryz.f38) 4) 0)] := by kernel_rfl
 refine loop_ok R_DoOf_envOk (loopsOk h (lsCons (one_loop (t := (loopTr R_DoOf_L66_S (loopN R_DoOf_L66 FUEL))) (by kernel_rfl) R_DoOf_L66_ok) lsNil)) R_DoOf_L62_S R_DoOf_L62 FUEL (fun rec x => ?_)
 kernel_rfl
theorem R_DoOf_L33_ok : LOk Tryz.prog (nthLoop (codeOf Tryz.f38) 1) (loopTr R_DoOf_L33_S (loopN R_DoOf_L33 FUEL)) := by
 have h : loopsOf (nthLoop (codeOf Tryz.f38) 1) = [] := by kernel_rfl
 refine loop_ok R_DoOf_envOk (loopsOk h lsNil) R_DoOf_L33_S R_DoOf_L33 FUEL (fun rec x => ?_)
 kernel_rfl
theorem R_DoOf_L48_ok : LOk Tryz.prog (nthLoop (codeOf Tryz.f38) 2) (loopTr R_DoOf_L48_S (loopN R_DoOf_L48 FUEL)) := by
 have h : loopsOf (nthLoop (codeOf Tryz.f38) 2) = [] := by kernel_rfl
 refine loop_ok R_DoOf_envOk (loopsOk h lsNil) R_DoOf_L48_S R_DoOf_L48 FUEL (fun rec x => ?_)
 kernel_rfl
theorem R_DoOf_L57_ok : LOk Tryz.prog (nthLoop (codeOf Tryz.f38) 3) (loopTr R_DoOf_L57_S (loopN R_DoOf_L57 FUEL)) := by
 have h : loopsOf (nthLoop (codeOf Tryz.f38) 3) = [] := by kernel_rfl
 refine loop_ok R_DoOf_envOk (loopsOk h lsNil) R_DoOf_L57_S R_DoOf_L57 FUEL (fun rec x => ?_)
 kernel_rfl
theorem R_DoOf_L10_ok : LOk Tryz.prog (nthLoop (codeOf Tryz.f38) 0) (loopTr R_DoOf_L10_S (loopN R_DoOf_L10 FUEL)) := by
 have h : loopsOf (nthLoop (codeOf Tryz.f38) 0) = [] := by kernel_rfl
 refine loop_ok R_DoOf_envOk (loopsOk h lsNil) R_DoOf_L10_S R_DoOf_L10 FUEL (fun rec x => ?_)
 kernel_rfl
noncomputable def R_DoOf_con : Con := lcon [.agg [.nest .pfx .addr 73 25 true, .row .lease 82, .fl .int], .one (.fl .op)] [.agg [.nest .pfx .addr 73 25 false, .row .lease 82, .fl .int], .one (.fl .addr), .one (.fl .int)] (fun x => R_DoOf_t x.1.1 x.1.2.1 x.1.2.2.1 x.2.1)
theorem R_DoOf_ok : TrOk Tryz.prog 38 R_DoOf_con := by
 have h : loopsOf (codeOf Tryz.f38) = [(nthLoop (codeOf Tryz.f38) 0), (nthLoop (codeOf Tryz.f38) 1), (nthLoop (codeOf Tryz.f38) 2), (nthLoop (codeOf Tryz.f38) 3), (nthLoop (codeOf Tryz.f38) 4)] := by kernel_rfl
 refine lcon_ok R_DoOf_envOk Tryz.func38 (bodyOk h (lsCons (one_loop (t := (loopTr R_DoOf_L10_S (loopN R_DoOf_L10 FUEL))) (by kernel_rfl) R_DoOf_L10_ok) (lsCons (one_loop (t := (loopTr R_DoOf_L33_S (loopN R_DoOf_L33 FUEL))) (by kernel_rfl) R_DoOf_L33_ok) (lsCons (one_loop (t := (loopTr R_DoOf_L48_S (loopN R_DoOf_L48 FUEL))) (by kernel_rfl) R_DoOf_L48_ok) (lsCons (one_loop (t := (loopTr R_DoOf_L57_S (loopN R_DoOf_L57 FUEL))) (by kernel_rfl) R_DoOf_L57_ok) (lsCons (one_loop (t := (loopTr R_DoOf_L62_S (loopN R_DoOf_L62 FUEL))) (by kernel_rfl) R_DoOf_L62_ok) lsNil)))))) _ _ rfl rfl _ (fun x => ?_)
 kernel_rfl
def R_ReplayOf_L4_S : LoopS := { n := 36, base := 2, head := { keep := [0, 2, 4, 5, 6], vals := [.one (.cst (.row 0)), .one (.cst (.ptr 2 0)), .one (.cst (.ptr 3 0)), .one (.cst (.row 4)), .one (.fl .int)], objs := [.row .entry 86 false, .ghost, .blk [.cst (.row 5), .cst (.row 6), .fl .int] 36 true, .blk [.cst (.row 7), .cst (.row 8), .fl .int] 36 true, .row .addr 25 true, .nest .pfx 9 73 true, .row .lease 82 true, .nest .pfx 10 73 false, .row .lease 82 false, .bag .addr 25 true true, .bag .addr 25 false false] }, exits := [⟨some 0, { keep := [2, 4, 5], vals := [.one (.cst (.ptr 2 0)), .one (.cst (.ptr 3 0)), .one (.cst (.row 4))], objs := [.row .entry 86 false, .ghost, .blk [.cst (.row 5), .cst (.row 6), .fl .int] 36 true, .blk [.cst (.row 7), .cst (.row 8), .fl .int] 36 true, .row .addr 25 true, .nest .pfx 9 73 true, .row .lease 82 true, .nest .pfx 10 73 false, .row .lease 82 false, .bag .addr 25 true true, .bag .addr 25 false false] }⟩] }
noncomputable def R_ReplayOf_env : Env := mkEnv ty fnB [(38, (conS R_DoOf_con))] [(4, (loopTr R_ReplayOf_L4_S (loopN R_ReplayOf_L4 FUEL)))]
theorem R_ReplayOf_envOk : EnvOk Tryz.prog R_ReplayOf_env := envOk tyOk fn_ok (callsCons (conS_ok R_DoOf_ok) callsNil) _
theorem R_ReplayOf_L4_ok : LOk Tryz.prog (nthLoop (codeOf Tryz.f15) 0) (loopTr R_ReplayOf_L4_S (loopN R_ReplayOf_L4 FUEL)) := by
 have h : loopsOf (nthLoop (codeOf Tryz.f15) 0) = [] := by kernel_rfl
 refine loop_ok R_ReplayOf_envOk (loopsOk h lsNil) R_ReplayOf_L4_S R_ReplayOf_L4 FUEL (fun rec x => ?_)
 kernel_rfl
noncomputable def R_ReplayOf_con : Con := lcon [.one (.row .entry 86)] [.agg [.nest .pfx .addr 73 25 false, .row .lease 82, .fl .int], .one (.row .addr 25)] (fun x => R_ReplayOf_t x.1)
theorem R_ReplayOf_ok : TrOk Tryz.prog 15 R_ReplayOf_con := by
 have h : loopsOf (codeOf Tryz.f15) = [(nthLoop (codeOf Tryz.f15) 0)] := by kernel_rfl
 refine lcon_ok R_ReplayOf_envOk Tryz.func15 (bodyOk h (lsCons (one_loop (t := (loopTr R_ReplayOf_L4_S (loopN R_ReplayOf_L4 FUEL))) (by kernel_rfl) R_ReplayOf_L4_ok) lsNil)) _ _ rfl rfl _ (fun x => ?_)
 kernel_rfl
noncomputable def law_logBegun_env : Env := mkEnv ty fnB [(48, law_entries_con), (49, law_some_con), (10, log_Add_con), (11, log_Replay_con), (12, log_Begins_con), (17, log_Check_con), (50, law_v4_con)] []
theorem law_logBegun_envOk : EnvOk Tryz.prog law_logBegun_env := envOk tyOk fn_ok (callsCons law_entries_ok (callsCons law_some_ok (callsCons log_Add_ok (callsCons log_Replay_ok (callsCons log_Begins_ok (callsCons log_Check_ok (callsCons law_v4_ok callsNil))))))) _
noncomputable def law_logBegun_con : Con := con [] [.one (.fl .bool)] (fun x => law_logBegun_t)
theorem law_logBegun_ok : TrOk Tryz.prog 16 law_logBegun_con := by
 have h : loopsOf (codeOf Tryz.f16) = [] := by kernel_rfl
 refine con_ok law_logBegun_envOk Tryz.func16 (bodyOk h lsNil) _ _ _ (fun x => ?_)
 kernel_rfl
noncomputable def law_LogTells_env : Env := mkEnv ty fnB [(10, log_Add_con), (11, log_Replay_con), (12, log_Begins_con), (13, R_CheckLog_con), (14, R_AddOf_con), (15, R_ReplayOf_con), (16, law_logBegun_con), (17, log_Check_con), (18, law_logIs_con), (19, law_stateIs_con), (20, R_SameAddrs_con), (21, R_DoesBegin_con)] []
theorem law_LogTells_envOk : EnvOk Tryz.prog law_LogTells_env := envOk tyOk fn_ok (callsCons log_Add_ok (callsCons log_Replay_ok (callsCons log_Begins_ok (callsCons R_CheckLog_ok (callsCons R_AddOf_ok (callsCons R_ReplayOf_ok (callsCons law_logBegun_ok (callsCons log_Check_ok (callsCons law_logIs_ok (callsCons law_stateIs_ok (callsCons R_SameAddrs_ok (callsCons R_DoesBegin_ok callsNil)))))))))))) _
noncomputable def law_LogTells_con : Con := con [.one (.row .entry 86), .one (.row .entry 86), .one (.fl .int), .one (.fl .op)] [.one (.fl .bool)] (fun x => law_LogTells_t x.1 x.2.1 x.2.2.1 x.2.2.2.1)
theorem law_LogTells_ok : TrOk Tryz.prog 3 law_LogTells_con := by
 have h : loopsOf (codeOf Tryz.f3) = [] := by kernel_rfl
 refine con_ok law_LogTells_envOk Tryz.func3 (bodyOk h lsNil) _ _ _ (fun x => ?_)
 kernel_rfl
end Go.Proofs.YtjncjiegmnicbaaGreat
namespace Go.Proofs.YtjncjiegmnicbaaGreat
open Go Go.Ma Go.ChangeShapes Go.WideShapes Go.ChangeAt Go.RowKit
set_option linter.unusedVariables false
theorem logTells_own : ownKnob Tryz.prog.godebug = none := by kernel_rfl
theorem logTells_laidOut : laidOutB Tryz.prog = true := by kernel_rfl
theorem logTells_plain : ∀ x, PsIn [.one (.row .entry 86), .one (.row .entry 86), .one (.fl .int), .one (.fl .op)] x → (fun x => law_LogTells_t x.1 x.2.1 x.2.2.1 x.2.2.2.1) x = some ((true : Bool), ()) := fun x hx => LogTells_eq hx.1.2 hx.2.1.2 (lt_of_max hx.1.1) x.2.2.1 hx.2.2.2.1
set_option maxRecDepth 100000 in
theorem logTells_lifted (os : Os) (started : os.Started) (H : Type) (enc : TypeId × Value → H) :
  ReturnsInHanded {} Tryz.checked os 3 .any (Rows.logTellsSpec.pre6 enc Tryz.prog Tryz.f3 Rows.logTellsRow.domain false) (Rows.logTellsSpec.post enc Tryz.prog Tryz.f3 false true false false) := by
 refine returnsInHanded_of_change (C := Tryz.checked) logTells_own started (by kernel_rfl) Tryz.func3
  (ChangeSpec.witness6 (enc := enc) (C := Tryz.checked) false ⟨#[], #[.slice none 0 0, .slice none 0 0, .int .i64 0, .agg #[.int .i64 0, .bool false, .int .u64 0, .int .u64 0, .int .i64 0, .bool false, .int .u64 0, .int .u64 0, .string ByteArray.empty, .int .i64 0, .int .i64 0]], []⟩ 8 (by kernel_rfl) (by kernel_rfl) (by kernel_rfl) (by kernel_rfl)) ?_
 intro W base args ds gs before hval0 hW hcnd _
 have hval : ∀ (j : Nat) t v, Tryz.f3.params[j]? = some t → args[j]? = some v → Value.okWide Tryz.prog W .any base t v := hval0
 have hW' := hW
 obtain ⟨p, q, hA0, hV, rfl, hfz, hnd⟩ := hW
 have hA : DataW.TrodAll enc Tryz.prog W 0 (fun _ => true) true Tryz.f3.params.toList args.toList ds p := hA0
 rw [Tryz.params3] at hA hval
 have hA2 := hA
 obtain ⟨v0, vs0, d0, ds0, p0, q0, hargs, rfl, rfl, h0, r0⟩ := trodAll_cons hA
 obtain ⟨v1, vs1, d1, ds1, p1, q1, rfl, rfl, rfl, h1, r1⟩ := trodAll_cons r0
 obtain ⟨v2, vs2, d2, ds2, p2, q2, rfl, rfl, rfl, h2, r2⟩ := trodAll_cons r1
 obtain ⟨v3, vs3, d3, ds3, p3, q3, rfl, rfl, rfl, h3, r3⟩ := trodAll_cons r2
 obtain ⟨rfl, rfl, rfl⟩ := trodAll_nil r3
 obtain rfl : args = #[v0, v1, v2, v3] := by cases args; simp_all
 obtain ⟨rfl, rfl⟩ := trodVars_none hV
 have call := law_calls (enc := enc) (Glob.none (by kernel_rfl) (by kernel_rfl) (by kernel_rfl) (by kernel_rfl) (by kernel_rfl)) law_LogTells_ok logTells_plain (fun x => rfl) (fun x => rfl) (ts := [22, 22, 3, 29]) (vs := [v0, v1, v2, v3]) (by kernel_rfl) (fun j t v h1 h2 => hval j t v (by simpa using h1) (by simpa using h2)) hA2
 refine call.mono fun e W' ⟨he, bel⟩ => ?_
 subst he
 exact ⟨_, rfl, _, _, _, [], _, [], hW', trodAll_mk1 (shut_bool Tryz.underlying4 _), all_back logTells_laidOut bel _ _ _ _ (by kernel_rfl) hA2, rfl, bel.frame _, fun h => by cases h⟩
theorem logTells_over : Rows.logTellsRow.holds Tryz.pinned (OpenSpec.ofChange Rows.logTellsSpec) :=
 OpenClaim.holds_of_wide 3 Tryz.f3 rfl rfl rfl rfl rfl rfl rfl ⟨rfl, rfl, rfl, rfl, rfl⟩ rfl rfl rfl rfl rfl (by kernel_rfl) Tryz.func3 (by kernel_rfl)
  (of_decide_eq_true (by kernel_rfl)) (by unfold Func.isWrapper; rw [if_neg (of_decide_eq_false (by kernel_rfl))]; exact ⟨rfl, rfl⟩)
  (fun os started H enc _ => logTells_lifted os started H enc)
theorem logTells_said : Rows.LogTellsSaid := logTells_over
end Go.Proofs.YtjncjiegmnicbaaGreat
