/-
  For every input StateTells of the package yardarmlaw returns true, and each of its arguments reads behind the call as it read before. No condition.
-/
import Derived.Test.YtbajhmdekihagaaGreatRows
import Derived.WalkKit
import Derived.ProofKit
import Derived.OpenShut
import Derived.ShutString
import Derived.ChangeOld
import Derived.Below
import Derived.Test.YtbajhmdekihagaaGreatUt6
namespace Go.Proofs.YtbajhmdekihagaaGreat
open Go Go.Ma
def state_Check_L4_S : LoopS := { n := 105, base := 3, head := { keep := [1, 15, 16, 17], vals := [.one (.cst (.ptr 3 0)), .one (.cst (.row 1)), .one (.fl .int), .one (.fl .int)], objs := [.bag .addr 28 false false, .nest .pfx 0 46 false, .row .lease 42 false, .blk [.cst (.row 1), .cst (.row 2), .fl .int] 25 true] }, exits := [⟨none, { keep := [2], vals := [.one (.fl .int)], objs := [.bag .addr 28 false false, .nest .pfx 0 46 false, .row .lease 42 false] }⟩, ⟨some 0, { keep := [1], vals := [.one (.cst (.ptr 3 0))], objs := [.bag .addr 28 false false, .nest .pfx 0 46 false, .row .lease 42 false, .blk [.cst (.row 1), .cst (.row 2), .fl .int] 25 true] }⟩] }
def state_Check_L11_S : LoopS := { n := 105, base := 3, head := { keep := [1, 6], vals := [.one (.cst (.ptr 3 0)), .one (.fl .int)], objs := [.bag .addr 28 false false, .nest .pfx 0 46 false, .row .lease 42 false, .blk [.cst (.row 1), .cst (.row 2), .fl .int] 25 true] }, exits := [⟨none, { keep := [2], vals := [.one (.fl .int)], objs := [.bag .addr 28 false false, .nest .pfx 0 46 false, .row .lease 42 false] }⟩, ⟨some 2, { keep := [1], vals := [.one (.cst (.ptr 3 0))], objs := [.bag .addr 28 false false, .nest .pfx 0 46 false, .row .lease 42 false, .blk [.cst (.row 1), .cst (.row 2), .fl .int] 25 true] }⟩] }
def state_Check_L21_S : LoopS := { n := 105, base := 3, head := { keep := [1, 78, 79, 80], vals := [.one (.cst (.ptr 3 0)), .one (.cst (.row 2)), .one (.fl .int), .one (.fl .int)], objs := [.bag .addr 28 false false, .nest .pfx 0 46 false, .row .lease 42 false, .blk [.cst (.row 1), .cst (.row 2), .fl .int] 25 true] }, exits := [⟨none, { keep := [2], vals := [.one (.fl .int)], objs := [.bag .addr 28 false false, .nest .pfx 0 46 false, .row .lease 42 false] }⟩, ⟨some 4, { keep := [], vals := [], objs := [.bag .addr 28 false false, .nest .pfx 0 46 false, .row .lease 42 false] }⟩] }
noncomputable def state_Check_env : Env := mkEnv ty fnB [(31, lease_Pool_con), (32, prefix_Order_con), (33, prefix_Meet_con), (34, state_within_con), (35, lease_All_con), (36, state_poolOf_con), (37, lease_Twice_con)] [(4, (loopTr state_Check_L4_S (loopN state_Check_L4 FUEL))), (11, (loopTr state_Check_L11_S (loopN state_Check_L11 FUEL))), (21, (loopTr state_Check_L21_S (loopN state_Check_L21 FUEL)))]
theorem state_Check_envOk : EnvOk Tryz.prog state_Check_env := envOk tyOk fn_ok (callsCons lease_Pool_ok (callsCons prefix_Order_ok (callsCons prefix_Meet_ok (callsCons state_within_ok (callsCons lease_All_ok (callsCons state_poolOf_ok (callsCons lease_Twice_ok callsNil))))))) _
theorem state_Check_L21_ok : LOk Tryz.prog (nthLoop (codeOf Tryz.f10) 2) (loopTr state_Check_L21_S (loopN state_Check_L21 FUEL)) := by
 have h : loopsOf (nthLoop (codeOf Tryz.f10) 2) = [] := by kernel_rfl
 refine loop_ok state_Check_envOk (loopsOk h lsNil) state_Check_L21_S state_Check_L21 FUEL (fun rec x => ?_)
 kernel_rfl
theorem state_Check_L4_ok : LOk Tryz.prog (nthLoop (codeOf Tryz.f10) 0) (loopTr state_Check_L4_S (loopN state_Check_L4 FUEL)) := by
 have h : loopsOf (nthLoop (codeOf Tryz.f10) 0) = [] := by kernel_rfl
 refine loop_ok state_Check_envOk (loopsOk h lsNil) state_Check_L4_S state_Check_L4 FUEL (fun rec x => ?_)
 kernel_rfl
theorem state_Check_L11_ok : LOk Tryz.prog (nthLoop (codeOf Tryz.f10) 1) (loopTr state_Check_L11_S (loopN state_Check_L11 FUEL)) := by
 have h : loopsOf (nthLoop (codeOf Tryz.f10) 1) = [] := by kernel_rfl
 refine loop_ok state_Check_envOk (loopsOk h lsNil) state_Check_L11_S state_Check_L11 FUEL (fun rec x => ?_)
 kernel_rfl
noncomputable def state_Check_con : Con := con [.agg [.nest .pfx .addr 46 28 true, .row .lease 42, .fl .int]] [.one (.fl .int)] (fun x => state_Check_t x.1.1 x.1.2.1 x.1.2.2.1)
theorem state_Check_ok : TrOk Tryz.prog 10 state_Check_con := by
 have h : loopsOf (codeOf Tryz.f10) = [(nthLoop (codeOf Tryz.f10) 0), (nthLoop (codeOf Tryz.f10) 1), (nthLoop (codeOf Tryz.f10) 2)] := by kernel_rfl
 refine con_ok state_Check_envOk Tryz.func10 (bodyOk h (lsCons (one_loop (t := (loopTr state_Check_L4_S (loopN state_Check_L4 FUEL))) (by kernel_rfl) state_Check_L4_ok) (lsCons (one_loop (t := (loopTr state_Check_L11_S (loopN state_Check_L11 FUEL))) (by kernel_rfl) state_Check_L11_ok) (lsCons (one_loop (t := (loopTr state_Check_L21_S (loopN state_Check_L21 FUEL))) (by kernel_rfl) state_Check_L21_ok) lsNil)))) [.agg [.nest .pfx .addr 46 28 true, .row .lease 42, .fl .int]] [.one (.fl .int)] _ (fun x => ?_)
 kernel_rfl
def zq24 : LoopS := { n := 49, base := 10, head := { keep := [0, 2, 4, 8, 9, 10], vals := [.one (.cst (.row 6)), .one (.cst (.fn 100 [])), .one (.cst (.ptr 10 0)), .one (.fl .int), .one (.fl .int), .one (.fl .int)], objs := [.row .addr 28 false, .row .lease 42 false, .blk [.fl .bool, .fl .u64, .fl .u64, .fl .int, .cst (.row 0)] 46 false, .blk [.fl .str] 9 false, .row .lease 42 false, .blk [.fl .addr] 28 false, .row .lease 42 false, .blk [.fl .bool, .fl .u64, .fl .u64, .fl .int, .cst (.row 0), .cst (.row 6)] 119 false, .blk [.fl .addr] 28 false, .blk [.fl .lease] 42 false, .blk [.fl .lease] 42 true] }, exits := [⟨some 0, { keep := [0, 2, 4, 8, 9], vals := [.one (.cst (.row 6)), .one (.cst (.fn 100 [])), .one (.cst (.ptr 10 0)), .one (.fl .int), .one (.fl .int)], objs := [.row .addr 28 false, .row .lease 42 false, .blk [.fl .bool, .fl .u64, .fl .u64, .fl .int, .cst (.row 0)] 46 false, .blk [.fl .str] 9 false, .row .lease 42 false, .blk [.fl .addr] 28 false, .row .lease 42 false, .blk [.fl .bool, .fl .u64, .fl .u64, .fl .int, .cst (.row 0), .cst (.row 6)] 119 false, .blk [.fl .addr] 28 false, .blk [.fl .lease] 42 false, .blk [.fl .lease] 42 true] }⟩] }
noncomputable def zq25 : Env := mkEnv ty fnB [(100, lease_Raw_2_con)] [(3, (loopTr zq24 (loopN zq23 FUEL)))]
theorem zq26 : EnvOk Tryz.prog zq25 := envOk tyOk fn_ok (callsCons lease_Raw_2_ok callsNil) _
theorem lease_Raw_slices_BinarySearchFunc___api_Lease_api_Lease_api_Lease__L3_ok : LOk Tryz.prog (nthLoop (codeOf Tryz.f99) 0) (loopTr zq24 (loopN zq23 FUEL)) := by
 have h : loopsOf (nthLoop (codeOf Tryz.f99) 0) = [] := by kernel_rfl
 refine loop_ok zq26 (loopsOk h lsNil) zq24 zq23 FUEL (fun rec x => ?_)
 kernel_rfl
theorem lease_Raw_slices_BinarySearchFunc___api_Lease_api_Lease_api_Lease__fl : TrOk Tryz.prog 99 (flCon zq25 Tryz.f99 [.one (.fl .int), .one (.fl .bool)]) := by
 have h : loopsOf (codeOf Tryz.f99) = [(nthLoop (codeOf Tryz.f99) 0)] := by kernel_rfl
 exact flCon_ok zq26 Tryz.func99 (bodyOk h (lsCons (one_loop (t := (loopTr zq24 (loopN zq23 FUEL))) (by kernel_rfl) lease_Raw_slices_BinarySearchFunc___api_Lease_api_Lease_api_Lease__L3_ok) lsNil)) [.one (.fl .int), .one (.fl .bool)] rfl
def zq28 : LoopS := { n := 19, base := 8, head := { keep := [0, 1, 7, 8], vals := [.one (.cst (.row 6)), .one (.cst (.fn 97 [.ptr 3 0])), .one (.fl .int), .one (.fl .int)], objs := [.row .addr 28 false, .row .lease 42 false, .blk [.fl .bool, .fl .u64, .fl .u64, .fl .int, .cst (.row 0)] 46 true, .blk [.fl .str] 9 true, .row .lease 42 true, .blk [.fl .addr] 28 true, .row .lease 42 true, .blk [.fl .bool, .fl .u64, .fl .u64, .fl .int, .cst (.row 0), .cst (.row 6)] 119 true] }, exits := [⟨none, { keep := [4], vals := [.one (.fl .int)], objs := [.row .addr 28 false, .row .lease 42 false, .blk [.fl .bool, .fl .u64, .fl .u64, .fl .int, .cst (.row 0)] 46 true, .blk [.fl .str] 9 true, .row .lease 42 true, .blk [.fl .addr] 28 true, .row .lease 42 true, .blk [.fl .bool, .fl .u64, .fl .u64, .fl .int, .cst (.row 0), .cst (.row 6)] 119 true] }⟩, ⟨some 0, { keep := [], vals := [], objs := [.row .addr 28 false, .row .lease 42 false, .blk [.fl .bool, .fl .u64, .fl .u64, .fl .int, .cst (.row 0)] 46 true, .blk [.fl .str] 9 true, .row .lease 42 true, .blk [.fl .addr] 28 true, .row .lease 42 true, .blk [.fl .bool, .fl .u64, .fl .u64, .fl .int, .cst (.row 0), .cst (.row 6)] 119 true] }⟩] }
noncomputable def zq29 : Env := mkEnv ty fnB [(97, lease_Raw_1_con)] [(2, (loopTr zq28 (loopN zq27 FUEL)))]
theorem lease_Raw_slices_IndexFunc___api_Lease_api_Lease__envOk : EnvOk Tryz.prog zq29 := envOk tyOk fn_ok (callsCons lease_Raw_1_ok callsNil) _
theorem lease_Raw_slices_IndexFunc___api_Lease_api_Lease__L2_ok : LOk Tryz.prog (nthLoop (codeOf Tryz.f76) 0) (loopTr zq28 (loopN zq27 FUEL)) := by
 have h : loopsOf (nthLoop (codeOf Tryz.f76) 0) = [] := by kernel_rfl
 refine loop_ok lease_Raw_slices_IndexFunc___api_Lease_api_Lease__envOk (loopsOk h lsNil) zq28 zq27 FUEL (fun rec x => ?_)
 kernel_rfl
theorem lease_Raw_slices_IndexFunc___api_Lease_api_Lease__inl : TrOk Tryz.prog 76 (inlCon zq29 Tryz.f76) := by
 have h : loopsOf (codeOf Tryz.f76) = [(nthLoop (codeOf Tryz.f76) 0)] := by kernel_rfl
 exact inl_ok lease_Raw_slices_IndexFunc___api_Lease_api_Lease__envOk Tryz.func76 (bodyOk h (lsCons (one_loop (t := (loopTr zq28 (loopN zq27 FUEL))) (by kernel_rfl) lease_Raw_slices_IndexFunc___api_Lease_api_Lease__L2_ok) lsNil))
noncomputable def lease_Raw_env : Env := mkEnv ty fnB [(73, lease_Live_con), (98, m_lease_book__first_con), (99, (flCon zq25 Tryz.f99 [.one (.fl .int), .one (.fl .bool)])), (101, slices_Insert___api_Lease_api_Lease__con), (76, (inlCon zq29 Tryz.f76))] []
theorem lease_Raw_envOk : EnvOk Tryz.prog lease_Raw_env := envOk tyOk fn_ok (callsCons lease_Live_ok (callsCons m_lease_book__first_ok (callsCons lease_Raw_slices_BinarySearchFunc___api_Lease_api_Lease_api_Lease__fl (callsCons slices_Insert___api_Lease_api_Lease__ok (callsCons lease_Raw_slices_IndexFunc___api_Lease_api_Lease__inl callsNil))))) _
noncomputable def lease_Raw_con : Con := con [.agg [.fl .pfx, .row .addr 28], .one (.row .lease 42), .one (.fl .str), .one (.fl .int), .one (.fl .int)] [.one (.row .lease 42), .one (.fl .addr), .one (.fl .bool)] (fun x => lease_Raw_t x.1.1 x.1.2.1 x.2.1 x.2.2.1 x.2.2.2.1 x.2.2.2.2.1)
theorem lease_Raw_ok : TrOk Tryz.prog 86 lease_Raw_con := by
 have h : loopsOf (codeOf Tryz.f86) = [] := by kernel_rfl
 refine con_ok lease_Raw_envOk Tryz.func86 (bodyOk h lsNil) [.agg [.fl .pfx, .row .addr 28], .one (.row .lease 42), .one (.fl .str), .one (.fl .int), .one (.fl .int)] [.one (.row .lease 42), .one (.fl .addr), .one (.fl .bool)] _ (fun x => ?_)
 kernel_rfl
def zq50 : LoopS := { n := 49, base := 17, head := { keep := [0, 2, 4, 8, 9, 10], vals := [.one (.cst (.row 11)), .one (.cst (.fn 81 [])), .one (.cst (.ptr 17 0)), .one (.fl .int), .one (.fl .int), .one (.fl .int)], objs := [.bag .addr 28 false false, .nest .pfx 0 46 false, .row .lease 42 false, .blk [.cst (.row 1), .cst (.row 2), .fl .int] 25 false, .blk [.fl .op] 32 false, .blk [.cst (.row 7), .cst (.row 8), .fl .int] 25 false, .bag .addr 28 false false, .nest .pfx 6 46 false, .row .lease 42 false, .blk [.fl .addr] 28 false, .bag .addr 28 false false, .nest .pfx 10 46 false, .row .lease 42 false, .blk [.cst (.row 11), .cst (.row 12), .fl .int] 76 false, .blk [.fl .op] 32 false, .blk [.fl .addr] 28 false, .blk [.fl .pfx] 30 false, .blk [.fl .pfx] 30 true] }, exits := [⟨some 0, { keep := [0, 2, 4, 8, 9], vals := [.one (.cst (.row 11)), .one (.cst (.fn 81 [])), .one (.cst (.ptr 17 0)), .one (.fl .int), .one (.fl .int)], objs := [.bag .addr 28 false false, .nest .pfx 0 46 false, .row .lease 42 false, .blk [.cst (.row 1), .cst (.row 2), .fl .int] 25 false, .blk [.fl .op] 32 false, .blk [.cst (.row 7), .cst (.row 8), .fl .int] 25 false, .bag .addr 28 false false, .nest .pfx 6 46 false, .row .lease 42 false, .blk [.fl .addr] 28 false, .bag .addr 28 false false, .nest .pfx 10 46 false, .row .lease 42 false, .blk [.cst (.row 11), .cst (.row 12), .fl .int] 76 false, .blk [.fl .op] 32 false, .blk [.fl .addr] 28 false, .blk [.fl .pfx] 30 false, .blk [.fl .pfx] 30 true] }⟩] }
noncomputable def zq52 : Env := mkEnv ty fnB [(81, m_state_doer__pool_2_con)] [(3, (loopTr zq50 (loopN zq49 FUEL)))]
theorem zq53 : EnvOk Tryz.prog zq52 := envOk tyOk fn_ok (callsCons m_state_doer__pool_2_ok callsNil) _
theorem zq51 : LOk Tryz.prog (nthLoop (codeOf Tryz.f80) 0) (loopTr zq50 (loopN zq49 FUEL)) := by
 have h : loopsOf (nthLoop (codeOf Tryz.f80) 0) = [] := by kernel_rfl
 refine loop_ok zq53 (loopsOk h lsNil) zq50 zq49 FUEL (fun rec x => ?_)
 kernel_rfl
theorem zq54 : TrOk Tryz.prog 80 (flCon zq52 Tryz.f80 [.one (.fl .int), .one (.fl .bool)]) := by
 have h : loopsOf (codeOf Tryz.f80) = [(nthLoop (codeOf Tryz.f80) 0)] := by kernel_rfl
 exact flCon_ok zq53 Tryz.func80 (bodyOk h (lsCons (one_loop (t := (loopTr zq50 (loopN zq49 FUEL))) (by kernel_rfl) zq51) lsNil)) [.one (.fl .int), .one (.fl .bool)] rfl
def zq59 : LoopS := { n := 19, base := 17, head := { keep := [0, 1, 7, 8], vals := [.one (.cst (.row 11)), .one (.cst (.fn 79 [.ptr 16 0])), .one (.fl .int), .one (.fl .int)], objs := [.bag .addr 28 false false, .nest .pfx 0 46 false, .row .lease 42 false, .blk [.cst (.row 1), .cst (.row 2), .fl .int] 25 true, .blk [.fl .op] 32 true, .blk [.cst (.row 7), .cst (.row 8), .fl .int] 25 true, .bag .addr 28 true true, .nest .pfx 6 46 true, .row .lease 42 true, .blk [.fl .addr] 28 true, .bag .addr 28 true true, .nest .pfx 10 46 true, .row .lease 42 true, .blk [.cst (.row 11), .cst (.row 12), .fl .int] 76 true, .blk [.fl .op] 32 true, .blk [.fl .addr] 28 true, .blk [.fl .pfx] 30 true] }, exits := [⟨none, { keep := [4], vals := [.one (.fl .int)], objs := [.bag .addr 28 false false, .nest .pfx 0 46 false, .row .lease 42 false, .blk [.cst (.row 1), .cst (.row 2), .fl .int] 25 true, .blk [.fl .op] 32 true, .blk [.cst (.row 7), .cst (.row 8), .fl .int] 25 true, .bag .addr 28 true true, .nest .pfx 6 46 true, .row .lease 42 true, .blk [.fl .addr] 28 true, .bag .addr 28 true true, .nest .pfx 10 46 true, .row .lease 42 true, .blk [.cst (.row 11), .cst (.row 12), .fl .int] 76 true, .blk [.fl .op] 32 true, .blk [.fl .addr] 28 true, .blk [.fl .pfx] 30 true] }⟩, ⟨some 0, { keep := [], vals := [], objs := [.bag .addr 28 false false, .nest .pfx 0 46 false, .row .lease 42 false, .blk [.cst (.row 1), .cst (.row 2), .fl .int] 25 true, .blk [.fl .op] 32 true, .blk [.cst (.row 7), .cst (.row 8), .fl .int] 25 true, .bag .addr 28 true true, .nest .pfx 6 46 true, .row .lease 42 true, .blk [.fl .addr] 28 true, .bag .addr 28 true true, .nest .pfx 10 46 true, .row .lease 42 true, .blk [.cst (.row 11), .cst (.row 12), .fl .int] 76 true, .blk [.fl .op] 32 true, .blk [.fl .addr] 28 true, .blk [.fl .pfx] 30 true] }⟩] }
noncomputable def zq61 : Env := mkEnv ty fnB [(79, m_state_doer__pool_1_con)] [(2, (loopTr zq59 (loopN zq58 FUEL)))]
theorem zq62 : EnvOk Tryz.prog zq61 := envOk tyOk fn_ok (callsCons m_state_doer__pool_1_ok callsNil) _
theorem zq60 : LOk Tryz.prog (nthLoop (codeOf Tryz.f60) 0) (loopTr zq59 (loopN zq58 FUEL)) := by
 have h : loopsOf (nthLoop (codeOf Tryz.f60) 0) = [] := by kernel_rfl
 refine loop_ok zq62 (loopsOk h lsNil) zq59 zq58 FUEL (fun rec x => ?_)
 kernel_rfl
theorem zq63 : TrOk Tryz.prog 60 (inlCon zq61 Tryz.f60) := by
 have h : loopsOf (codeOf Tryz.f60) = [(nthLoop (codeOf Tryz.f60) 0)] := by kernel_rfl
 exact inl_ok zq62 Tryz.func60 (bodyOk h (lsCons (one_loop (t := (loopTr zq59 (loopN zq58 FUEL))) (by kernel_rfl) zq60) lsNil))
noncomputable def zq55 : Env := mkEnv ty fnB [(60, (inlCon zq61 Tryz.f60))] []
theorem zq56 : EnvOk Tryz.prog zq55 := envOk tyOk fn_ok (callsCons zq63 callsNil) _
theorem zq57 : TrOk Tryz.prog 78 (inlCon zq55 Tryz.f78) := by
 have h : loopsOf (codeOf Tryz.f78) = [] := by kernel_rfl
 exact inl_ok zq56 Tryz.func78 (bodyOk h lsNil)
noncomputable def zq47 : Env := mkEnv ty fnB [(80, (flCon zq52 Tryz.f80 [.one (.fl .int), .one (.fl .bool)])), (82, slices_Insert___api_Pool_api_Pool__con), (78, (inlCon zq55 Tryz.f78))] []
theorem state_Raw___state_doer__do___state_doer__pool_envOk : EnvOk Tryz.prog zq47 := envOk tyOk fn_ok (callsCons zq54 (callsCons slices_Insert___api_Pool_api_Pool__ok (callsCons zq57 callsNil))) _
theorem state_Raw___state_doer__do___state_doer__pool_inl : TrOk Tryz.prog 69 (inlCon zq47 Tryz.f69) := by
 have h : loopsOf (codeOf Tryz.f69) = [] := by kernel_rfl
 exact inl_ok state_Raw___state_doer__do___state_doer__pool_envOk Tryz.func69 (bodyOk h lsNil)
def zq42 : LoopS := { n := 49, base := 17, head := { keep := [0, 2, 4, 8, 9, 10], vals := [.one (.inn 10), .one (.cst (.fn 56 [])), .one (.cst (.ptr 17 0)), .one (.fl .int), .one (.fl .int), .one (.fl .int)], objs := [.bag .addr 28 false false, .nest .pfx 0 46 false, .row .lease 42 false, .blk [.cst (.row 1), .cst (.row 2), .fl .int] 25 false, .blk [.fl .op] 32 false, .blk [.cst (.row 7), .cst (.row 8), .fl .int] 25 false, .bag .addr 28 false false, .nest .pfx 6 46 false, .row .lease 42 false, .blk [.fl .addr] 28 false, .bag .addr 28 false false, .nest .pfx 10 46 false, .row .lease 42 false, .blk [.cst (.row 11), .cst (.row 12), .fl .int] 76 false, .blk [.fl .op] 32 false, .blk [.fl .addr] 28 false, .blk [.fl .addr] 28 false, .blk [.fl .addr] 28 true] }, exits := [⟨some 0, { keep := [0, 2, 4, 8, 9], vals := [.one (.inn 10), .one (.cst (.fn 56 [])), .one (.cst (.ptr 17 0)), .one (.fl .int), .one (.fl .int)], objs := [.bag .addr 28 false false, .nest .pfx 0 46 false, .row .lease 42 false, .blk [.cst (.row 1), .cst (.row 2), .fl .int] 25 false, .blk [.fl .op] 32 false, .blk [.cst (.row 7), .cst (.row 8), .fl .int] 25 false, .bag .addr 28 false false, .nest .pfx 6 46 false, .row .lease 42 false, .blk [.fl .addr] 28 false, .bag .addr 28 false false, .nest .pfx 10 46 false, .row .lease 42 false, .blk [.cst (.row 11), .cst (.row 12), .fl .int] 76 false, .blk [.fl .op] 32 false, .blk [.fl .addr] 28 false, .blk [.fl .addr] 28 false, .blk [.fl .addr] 28 true] }⟩] }
noncomputable def zq44 : Env := mkEnv ty fnB [(56, addr_Order_con)] [(3, (loopTr zq42 (loopN zq41 FUEL)))]
theorem zq45 : EnvOk Tryz.prog zq44 := envOk tyOk fn_ok (callsCons addr_Order_ok callsNil) _
theorem zq43 : LOk Tryz.prog (nthLoop (codeOf Tryz.f83) 0) (loopTr zq42 (loopN zq41 FUEL)) := by
 have h : loopsOf (nthLoop (codeOf Tryz.f83) 0) = [] := by kernel_rfl
 refine loop_ok zq45 (loopsOk h lsNil) zq42 zq41 FUEL (fun rec x => ?_)
 kernel_rfl
theorem zq46 : TrOk Tryz.prog 83 (flCon zq44 Tryz.f83 [.one (.fl .int), .one (.fl .bool)]) := by
 have h : loopsOf (codeOf Tryz.f83) = [(nthLoop (codeOf Tryz.f83) 0)] := by kernel_rfl
 exact flCon_ok zq45 Tryz.func83 (bodyOk h (lsCons (one_loop (t := (loopTr zq42 (loopN zq41 FUEL))) (by kernel_rfl) zq43) lsNil)) [.one (.fl .int), .one (.fl .bool)] rfl
noncomputable def zq40 : Env := mkEnv ty fnB [(36, state_poolOf_con), (83, (flCon zq44 Tryz.f83 [.one (.fl .int), .one (.fl .bool)])), (84, slices_Insert___api_Addr_api_Addr__con)] []
theorem state_Raw___state_doer__do___state_doer__keep_envOk : EnvOk Tryz.prog zq40 := envOk tyOk fn_ok (callsCons state_poolOf_ok (callsCons zq46 (callsCons slices_Insert___api_Addr_api_Addr__ok callsNil))) _
theorem state_Raw___state_doer__do___state_doer__keep_inl : TrOk Tryz.prog 70 (inlCon zq40 Tryz.f70) := by
 have h : loopsOf (codeOf Tryz.f70) = [] := by kernel_rfl
 exact inl_ok state_Raw___state_doer__do___state_doer__keep_envOk Tryz.func70 (bodyOk h lsNil)
def zq38 : LoopS := { n := 121, base := 16, head := { keep := [0, 1, 3, 8, 10, 12, 13, 61, 62, 63], vals := [.one (.cst (.ptr 13 0)), .one (.fl .str), .one (.fl .int), .one (.cst (.ptr 16 0)), .one (.cst (.ptr 17 0)), .one (.cst (.row 18)), .one (.cst (.row 19)), .one (.cst (.row 12)), .one (.fl .int), .one (.fl .int)], objs := [.bag .addr 28 false false, .nest .pfx 0 46 false, .row .lease 42 false, .blk [.cst (.row 1), .cst (.row 2), .fl .int] 25 true, .blk [.fl .op] 32 true, .blk [.cst (.row 7), .cst (.row 8), .fl .int] 25 true, .bag .addr 28 true true, .nest .pfx 6 46 true, .row .lease 42 true, .blk [.fl .addr] 28 true, .bag .addr 28 true true, .nest .pfx 10 46 true, .row .lease 42 true, .blk [.cst (.row 11), .cst (.row 12), .fl .int] 76 true, .blk [.fl .op] 32 true, .blk [.fl .addr] 28 true, .blk [.fl .addr] 28 true, .blk [.fl .bool, .fl .u64, .fl .u64, .fl .int, .inn 10] 46 true, .row .lease 42 true, .row .lease 42 true] }, exits := [⟨some 0, { keep := [0, 1, 3, 8, 10, 12, 13], vals := [.one (.cst (.ptr 13 0)), .one (.fl .str), .one (.fl .int), .one (.cst (.ptr 16 0)), .one (.cst (.ptr 17 0)), .one (.cst (.row 18)), .one (.cst (.row 19))], objs := [.bag .addr 28 false false, .nest .pfx 0 46 false, .row .lease 42 false, .blk [.cst (.row 1), .cst (.row 2), .fl .int] 25 true, .blk [.fl .op] 32 true, .blk [.cst (.row 7), .cst (.row 8), .fl .int] 25 true, .bag .addr 28 true true, .nest .pfx 6 46 true, .row .lease 42 true, .blk [.fl .addr] 28 true, .bag .addr 28 true true, .nest .pfx 10 46 true, .row .lease 42 true, .blk [.cst (.row 11), .cst (.row 12), .fl .int] 76 true, .blk [.fl .op] 32 true, .blk [.fl .addr] 28 true, .blk [.fl .addr] 28 true, .blk [.fl .bool, .fl .u64, .fl .u64, .fl .int, .inn 10] 46 true, .row .lease 42 true, .row .lease 42 true] }⟩] }
noncomputable def zq39 : Env := mkEnv ty fnB [(85, m_state_doer__find_con), (55, prefix_Holds_con), (86, lease_Raw_con), (87, slices_SortFunc___api_Lease_api_Lease__con)] [(9, (loopTr zq38 (loopN zq37 FUEL)))]
theorem state_Raw___state_doer__do___state_doer__grant_envOk : EnvOk Tryz.prog zq39 := envOk tyOk fn_ok (callsCons m_state_doer__find_ok (callsCons prefix_Holds_ok (callsCons lease_Raw_ok (callsCons slices_SortFunc___api_Lease_api_Lease__ok callsNil)))) _
theorem state_Raw___state_doer__do___state_doer__grant_L9_ok : LOk Tryz.prog (nthLoop (codeOf Tryz.f71) 0) (loopTr zq38 (loopN zq37 FUEL)) := by
 have h : loopsOf (nthLoop (codeOf Tryz.f71) 0) = [] := by kernel_rfl
 refine loop_ok state_Raw___state_doer__do___state_doer__grant_envOk (loopsOk h lsNil) zq38 zq37 FUEL (fun rec x => ?_)
 kernel_rfl
theorem state_Raw___state_doer__do___state_doer__grant_inl : TrOk Tryz.prog 71 (inlCon zq39 Tryz.f71) := by
 have h : loopsOf (codeOf Tryz.f71) = [(nthLoop (codeOf Tryz.f71) 0)] := by kernel_rfl
 exact inl_ok state_Raw___state_doer__do___state_doer__grant_envOk Tryz.func71 (bodyOk h (lsCons (one_loop (t := (loopTr zq38 (loopN zq37 FUEL))) (by kernel_rfl) state_Raw___state_doer__do___state_doer__grant_L9_ok) lsNil))
noncomputable def zq36 : Env := mkEnv ty fnB [(85, m_state_doer__find_con), (89, slices_Delete___api_Lease_api_Lease__con)] []
theorem state_Raw___state_doer__do___state_doer__free_envOk : EnvOk Tryz.prog zq36 := envOk tyOk fn_ok (callsCons m_state_doer__find_ok (callsCons slices_Delete___api_Lease_api_Lease__ok callsNil)) _
theorem state_Raw___state_doer__do___state_doer__free_inl : TrOk Tryz.prog 72 (inlCon zq36 Tryz.f72) := by
 have h : loopsOf (codeOf Tryz.f72) = [] := by kernel_rfl
 exact inl_ok state_Raw___state_doer__do___state_doer__free_envOk Tryz.func72 (bodyOk h lsNil)
noncomputable def state_Raw___state_doer__do_env : Env := mkEnv ty fnB [(69, (inlCon zq47 Tryz.f69)), (70, (inlCon zq40 Tryz.f70)), (71, (inlCon zq39 Tryz.f71)), (72, (inlCon zq36 Tryz.f72)), (73, lease_Live_con)] []
theorem state_Raw___state_doer__do_envOk : EnvOk Tryz.prog state_Raw___state_doer__do_env := envOk tyOk fn_ok (callsCons state_Raw___state_doer__do___state_doer__pool_inl (callsCons state_Raw___state_doer__do___state_doer__keep_inl (callsCons state_Raw___state_doer__do___state_doer__grant_inl (callsCons state_Raw___state_doer__do___state_doer__free_inl (callsCons lease_Live_ok callsNil))))) _
theorem state_Raw___state_doer__do_inl : TrOk Tryz.prog 50 (inlCon state_Raw___state_doer__do_env Tryz.f50) := by
 have h : loopsOf (codeOf Tryz.f50) = [] := by kernel_rfl
 exact inl_ok state_Raw___state_doer__do_envOk Tryz.func50 (bodyOk h lsNil)
noncomputable def state_Raw_env : Env := mkEnv ty fnB [(11, state_Form_con), (49, state_Own_con), (50, (inlCon state_Raw___state_doer__do_env Tryz.f50))] []
theorem state_Raw_envOk : EnvOk Tryz.prog state_Raw_env := envOk tyOk fn_ok (callsCons state_Form_ok (callsCons state_Own_ok (callsCons state_Raw___state_doer__do_inl callsNil))) _
noncomputable def state_Raw_con : Con := con [.agg [.nest .pfx .addr 46 28 true, .row .lease 42, .fl .int], .one (.fl .op)] [.agg [.nest .pfx .addr 46 28 true, .row .lease 42, .fl .int], .one (.fl .addr), .one (.fl .int)] (fun x => state_Raw_t x.1.1 x.1.2.1 x.1.2.2.1 x.2.1)
theorem state_Raw_ok : TrOk Tryz.prog 17 state_Raw_con := by
 have h : loopsOf (codeOf Tryz.f17) = [] := by kernel_rfl
 refine con_ok state_Raw_envOk Tryz.func17 (bodyOk h lsNil) [.agg [.nest .pfx .addr 46 28 true, .row .lease 42, .fl .int], .one (.fl .op)] [.agg [.nest .pfx .addr 46 28 true, .row .lease 42, .fl .int], .one (.fl .addr), .one (.fl .int)] _ (fun x => ?_)
 kernel_rfl
noncomputable def state_Do_env : Env := mkEnv ty fnB [(10, state_Check_con), (17, state_Raw_con)] []
theorem state_Do_envOk : EnvOk Tryz.prog state_Do_env := envOk tyOk fn_ok (callsCons state_Check_ok (callsCons state_Raw_ok callsNil)) _
noncomputable def state_Do_con : Con := con [.agg [.nest .pfx .addr 46 28 true, .row .lease 42, .fl .int], .one (.fl .op)] [.agg [.nest .pfx .addr 46 28 true, .row .lease 42, .fl .int], .one (.fl .addr), .one (.fl .int)] (fun x => state_Do_t x.1.1 x.1.2.1 x.1.2.2.1 x.2.1)
theorem state_Do_ok : TrOk Tryz.prog 6 state_Do_con := by
 have h : loopsOf (codeOf Tryz.f6) = [] := by kernel_rfl
 refine con_ok state_Do_envOk Tryz.func6 (bodyOk h lsNil) [.agg [.nest .pfx .addr 46 28 true, .row .lease 42, .fl .int], .one (.fl .op)] [.agg [.nest .pfx .addr 46 28 true, .row .lease 42, .fl .int], .one (.fl .addr), .one (.fl .int)] _ (fun x => ?_)
 kernel_rfl
def R_GrantOf_L13_S : LoopS := { n := 135, base := 2, head := { keep := [2, 3, 4, 5, 11, 13, 15, 16, 17, 18, 19], vals := [.one (.fl .str), .one (.fl .int), .one (.fl .int), .one (.cst (.ptr 2 0)), .one (.cst (.ptr 3 0)), .one (.cst (.row 4)), .one (.cst (.row 5)), .one (.cst (.ptr 6 0)), .one (.fl .int), .one (.fl .bool), .one (.fl .int)], objs := [.row .addr 28 false, .row .lease 42 false, .blk [.fl .bool, .fl .u64, .fl .u64, .fl .int, .cst (.row 0)] 46 true, .blk [.fl .addr] 28 true, .row .lease 42 true, .row .lease 42 true, .blk [.fl .addr] 28 true] }, exits := [⟨some 2, { keep := [2, 3, 4, 5, 11, 13, 15, 16, 17, 18], vals := [.one (.fl .str), .one (.fl .int), .one (.fl .int), .one (.cst (.ptr 2 0)), .one (.cst (.ptr 3 0)), .one (.cst (.row 4)), .one (.cst (.row 5)), .one (.cst (.ptr 6 0)), .one (.fl .int), .one (.fl .bool)], objs := [.row .addr 28 false, .row .lease 42 false, .blk [.fl .bool, .fl .u64, .fl .u64, .fl .int, .cst (.row 0)] 46 true, .blk [.fl .addr] 28 true, .row .lease 42 true, .row .lease 42 true, .blk [.fl .addr] 28 true] }⟩] }
def R_GrantOf_L20_S : LoopS := { n := 135, base := 2, head := { keep := [11, 13, 15, 16, 20, 21, 22], vals := [.one (.cst (.ptr 2 0)), .one (.cst (.row 3)), .one (.cst (.row 4)), .one (.cst (.ptr 5 0)), .one (.cst (.ptr 6 0)), .one (.fl .bool), .one (.fl .int)], objs := [.row .addr 28 false, .row .lease 42 false, .blk [.fl .addr] 28 true, .row .lease 42 true, .row .lease 42 true, .blk [.fl .addr] 28 true, .blk [.fl .lease] 42 true] }, exits := [⟨some 4, { keep := [11, 15, 16, 20, 21], vals := [.one (.cst (.ptr 2 0)), .one (.cst (.row 3)), .one (.cst (.ptr 4 0)), .one (.cst (.ptr 5 0)), .one (.fl .bool)], objs := [.row .addr 28 false, .row .lease 42 false, .blk [.fl .addr] 28 true, .row .lease 42 true, .blk [.fl .addr] 28 true, .blk [.fl .lease] 42 true] }⟩] }
def R_GrantOf_L9_S : LoopS := { n := 135, base := 2, head := { keep := [2, 3, 4, 5, 11, 13, 15, 16, 17], vals := [.one (.fl .str), .one (.fl .int), .one (.fl .int), .one (.cst (.ptr 2 0)), .one (.cst (.ptr 3 0)), .one (.cst (.row 4)), .one (.cst (.row 5)), .one (.cst (.ptr 6 0)), .one (.fl .int)], objs := [.row .addr 28 false, .row .lease 42 false, .blk [.fl .bool, .fl .u64, .fl .u64, .fl .int, .cst (.row 0)] 46 true, .blk [.fl .addr] 28 true, .row .lease 42 true, .row .lease 42 true, .blk [.fl .addr] 28 true] }, exits := [⟨none, { keep := [10, 11, 12], vals := [.one (.cst (.row 2)), .one (.cst (.ptr 3 0)), .one (.fl .bool)], objs := [.row .addr 28 false, .row .lease 42 false, .row .lease 42 true, .blk [.fl .addr] 28 true] }⟩, ⟨some 0, { keep := [11], vals := [.one (.cst (.ptr 2 0))], objs := [.row .addr 28 false, .row .lease 42 false, .blk [.fl .addr] 28 true] }⟩] }
noncomputable def R_GrantOf_env : Env := mkEnv ty fnB [(27, R_LiveOf_con), (14, R_WhoAt_con), (25, R_HasAddr_con), (23, R_hasAddr_con), (24, R_IsAhead_con), (53, R_NextOf_con)] [(13, (loopTr R_GrantOf_L13_S (loopN R_GrantOf_L13 FUEL))), (20, (loopTr R_GrantOf_L20_S (loopN R_GrantOf_L20 FUEL))), (9, (loopTr R_GrantOf_L9_S (loopN R_GrantOf_L9 FUEL)))]
theorem R_GrantOf_envOk : EnvOk Tryz.prog R_GrantOf_env := envOk tyOk fn_ok (callsCons R_LiveOf_ok (callsCons R_WhoAt_ok (callsCons R_HasAddr_ok (callsCons R_hasAddr_ok (callsCons R_IsAhead_ok (callsCons R_NextOf_ok callsNil)))))) _
theorem R_GrantOf_L20_ok : LOk Tryz.prog (nthLoop (nthLoop (codeOf Tryz.f26) 0) 1) (loopTr R_GrantOf_L20_S (loopN R_GrantOf_L20 FUEL)) := by
 have h : loopsOf (nthLoop (nthLoop (codeOf Tryz.f26) 0) 1) = [] := by kernel_rfl
 refine loop_ok R_GrantOf_envOk (loopsOk h lsNil) R_GrantOf_L20_S R_GrantOf_L20 FUEL (fun rec x => ?_)
 kernel_rfl
theorem R_GrantOf_L13_ok : LOk Tryz.prog (nthLoop (nthLoop (codeOf Tryz.f26) 0) 0) (loopTr R_GrantOf_L13_S (loopN R_GrantOf_L13 FUEL)) := by
 have h : loopsOf (nthLoop (nthLoop (codeOf Tryz.f26) 0) 0) = [] := by kernel_rfl
 refine loop_ok R_GrantOf_envOk (loopsOk h lsNil) R_GrantOf_L13_S R_GrantOf_L13 FUEL (fun rec x => ?_)
 kernel_rfl
theorem R_GrantOf_L9_ok : LOk Tryz.prog (nthLoop (codeOf Tryz.f26) 0) (loopTr R_GrantOf_L9_S (loopN R_GrantOf_L9 FUEL)) := by
 have h : loopsOf (nthLoop (codeOf Tryz.f26) 0) = [(nthLoop (nthLoop (codeOf Tryz.f26) 0) 0), (nthLoop (nthLoop (codeOf Tryz.f26) 0) 1)] := by kernel_rfl
 refine loop_ok R_GrantOf_envOk (loopsOk h (lsCons (one_loop (t := (loopTr R_GrantOf_L13_S (loopN R_GrantOf_L13 FUEL))) (by kernel_rfl) R_GrantOf_L13_ok) (lsCons (one_loop (t := (loopTr R_GrantOf_L20_S (loopN R_GrantOf_L20 FUEL))) (by kernel_rfl) R_GrantOf_L20_ok) lsNil))) R_GrantOf_L9_S R_GrantOf_L9 FUEL (fun rec x => ?_)
 kernel_rfl
noncomputable def R_GrantOf_con : Con := con [.agg [.fl .pfx, .row .addr 28], .one (.row .lease 42), .one (.fl .str), .one (.fl .int), .one (.fl .int)] [.one (.row .lease 42), .one (.fl .addr), .one (.fl .bool)] (fun x => R_GrantOf_t x.1.1 x.1.2.1 x.2.1 x.2.2.1 x.2.2.2.1 x.2.2.2.2.1)
theorem R_GrantOf_ok : TrOk Tryz.prog 26 R_GrantOf_con := by
 have h : loopsOf (codeOf Tryz.f26) = [(nthLoop (codeOf Tryz.f26) 0)] := by kernel_rfl
 refine con_ok R_GrantOf_envOk Tryz.func26 (bodyOk h (lsCons (one_loop (t := (loopTr R_GrantOf_L9_S (loopN R_GrantOf_L9 FUEL))) (by kernel_rfl) R_GrantOf_L9_ok) lsNil)) [.agg [.fl .pfx, .row .addr 28], .one (.row .lease 42), .one (.fl .str), .one (.fl .int), .one (.fl .int)] [.one (.row .lease 42), .one (.fl .addr), .one (.fl .bool)] _ (fun x => ?_)
 kernel_rfl
def R_DoOf_L10_S : LoopS := { n := 421, base := 4, head := { keep := [2, 3, 4, 5, 8, 9, 10], vals := [.one (.cst (.ptr 4 0)), .one (.cst (.ptr 5 0)), .one (.cst (.ptr 6 0)), .one (.cst (.ptr 7 0)), .one (.cst (.ptr 8 0)), .one (.fl .bool), .one (.fl .int)], objs := [.bag .addr 28 false false, .nest .pfx 0 46 false, .row .lease 42 false, .ghost, .blk [.cst (.row 1), .cst (.row 2), .fl .int] 25 true, .blk [.fl .op] 32 true, .blk [.cst (.row 9), .cst (.row 10), .fl .int] 25 true, .blk [.fl .addr] 28 true, .blk [.cst (.row 11), .cst (.row 2), .fl .int] 25 true, .nest .pfx 12 46 true, .row .lease 42 true, .nest .pfx 13 46 true, .bag .addr 28 true true, .bag .addr 28 false false] }, exits := [⟨none, { keep := [4, 5, 6], vals := [.one (.cst (.ptr 4 0)), .one (.cst (.ptr 5 0)), .one (.fl .int)], objs := [.bag .addr 28 false false, .nest .pfx 0 46 false, .row .lease 42 false, .ghost, .blk [.cst (.row 6), .cst (.row 7), .fl .int] 25 true, .blk [.fl .addr] 28 true, .nest .pfx 8 46 true, .row .lease 42 true, .bag .addr 28 true true] }⟩, ⟨some 1, { keep := [3, 4, 5, 8, 9], vals := [.one (.cst (.ptr 4 0)), .one (.cst (.ptr 5 0)), .one (.cst (.ptr 6 0)), .one (.cst (.ptr 7 0)), .one (.fl .bool)], objs := [.bag .addr 28 false false, .nest .pfx 0 46 false, .row .lease 42 false, .ghost, .blk [.fl .op] 32 true, .blk [.cst (.row 8), .cst (.row 9), .fl .int] 25 true, .blk [.fl .addr] 28 true, .blk [.cst (.row 10), .cst (.row 2), .fl .int] 25 true, .nest .pfx 11 46 true, .row .lease 42 true, .nest .pfx 12 46 true, .bag .addr 28 true true, .bag .addr 28 false false] }⟩] }
def R_DoOf_L33_S : LoopS := { n := 421, base := 4, head := { keep := [2, 4, 5, 8, 11, 12, 13], vals := [.one (.cst (.ptr 4 0)), .one (.cst (.ptr 5 0)), .one (.cst (.ptr 6 0)), .one (.cst (.ptr 7 0)), .one (.fl .int), .one (.cst (.row 8)), .one (.fl .int)], objs := [.bag .addr 28 false false, .nest .pfx 0 46 false, .row .lease 42 false, .ghost, .blk [.cst (.row 1), .cst (.row 2), .fl .int] 25 true, .blk [.cst (.row 9), .cst (.row 10), .fl .int] 25 true, .blk [.fl .addr] 28 true, .blk [.cst (.row 1), .cst (.row 2), .fl .int] 25 true, .row .addr 28 true, .nest .pfx 11 46 true, .row .lease 42 true, .bag .addr 28 true true] }, exits := [⟨some 4, { keep := [2, 4, 5, 8, 11, 12], vals := [.one (.cst (.ptr 4 0)), .one (.cst (.ptr 5 0)), .one (.cst (.ptr 6 0)), .one (.cst (.ptr 7 0)), .one (.fl .int), .one (.cst (.row 8))], objs := [.bag .addr 28 false false, .nest .pfx 0 46 false, .row .lease 42 false, .ghost, .blk [.cst (.row 1), .cst (.row 2), .fl .int] 25 true, .blk [.cst (.row 9), .cst (.row 10), .fl .int] 25 true, .blk [.fl .addr] 28 true, .blk [.cst (.row 1), .cst (.row 2), .fl .int] 25 true, .row .addr 28 true, .nest .pfx 11 46 true, .row .lease 42 true, .bag .addr 28 true true] }⟩] }
def R_DoOf_L48_S : LoopS := { n := 421, base := 4, head := { keep := [2, 3, 4, 5, 8, 14, 16, 17], vals := [.one (.cst (.ptr 4 0)), .one (.cst (.ptr 5 0)), .one (.cst (.ptr 6 0)), .one (.cst (.ptr 7 0)), .one (.cst (.ptr 8 0)), .one (.cst (.ptr 9 0)), .one (.cst (.row 10)), .one (.fl .int)], objs := [.bag .addr 28 false false, .nest .pfx 0 46 false, .row .lease 42 false, .ghost, .blk [.cst (.row 1), .cst (.row 2), .fl .int] 25 true, .blk [.fl .op] 32 true, .blk [.cst (.row 11), .cst (.row 12), .fl .int] 25 true, .blk [.fl .addr] 28 true, .blk [.cst (.row 1), .cst (.row 2), .fl .int] 25 true, .blk [.fl .bool, .fl .u64, .fl .u64, .fl .int, .inn 0] 46 true, .row .lease 42 true, .nest .pfx 13 46 true, .row .lease 42 true, .bag .addr 28 true true] }, exits := [⟨some 6, { keep := [2, 3, 4, 5, 8, 14, 16], vals := [.one (.cst (.ptr 4 0)), .one (.cst (.ptr 5 0)), .one (.cst (.ptr 6 0)), .one (.cst (.ptr 7 0)), .one (.cst (.ptr 8 0)), .one (.cst (.ptr 9 0)), .one (.cst (.row 10))], objs := [.bag .addr 28 false false, .nest .pfx 0 46 false, .row .lease 42 false, .ghost, .blk [.cst (.row 1), .cst (.row 2), .fl .int] 25 true, .blk [.fl .op] 32 true, .blk [.cst (.row 11), .cst (.row 12), .fl .int] 25 true, .blk [.fl .addr] 28 true, .blk [.cst (.row 1), .cst (.row 2), .fl .int] 25 true, .blk [.fl .bool, .fl .u64, .fl .u64, .fl .int, .inn 0] 46 true, .row .lease 42 true, .nest .pfx 13 46 true, .row .lease 42 true, .bag .addr 28 true true] }⟩] }
def R_DoOf_L57_S : LoopS := { n := 421, base := 4, head := { keep := [2, 4, 5, 8, 14, 18, 19, 21], vals := [.one (.cst (.ptr 4 0)), .one (.cst (.ptr 5 0)), .one (.cst (.ptr 6 0)), .one (.cst (.ptr 7 0)), .one (.cst (.ptr 8 0)), .one (.cst (.row 9)), .one (.cst (.ptr 10 0)), .one (.fl .int)], objs := [.bag .addr 28 false false, .nest .pfx 0 46 false, .row .lease 42 false, .ghost, .blk [.cst (.row 1), .cst (.row 2), .fl .int] 25 true, .blk [.cst (.row 11), .cst (.row 12), .fl .int] 25 true, .blk [.fl .addr] 28 true, .blk [.cst (.row 1), .cst (.row 13), .fl .int] 25 true, .blk [.fl .bool, .fl .u64, .fl .u64, .fl .int, .inn 0] 46 true, .row .lease 42 true, .blk [.fl .addr] 28 true, .nest .pfx 14 46 true, .row .lease 42 true, .row .lease 42 true, .bag .addr 28 true true] }, exits := [⟨some 8, { keep := [4, 5, 8, 18, 19], vals := [.one (.cst (.ptr 4 0)), .one (.cst (.ptr 5 0)), .one (.cst (.ptr 6 0)), .one (.cst (.row 7)), .one (.cst (.ptr 8 0))], objs := [.bag .addr 28 false false, .nest .pfx 0 46 false, .row .lease 42 false, .ghost, .blk [.cst (.row 9), .cst (.row 10), .fl .int] 25 true, .blk [.fl .addr] 28 true, .blk [.cst (.row 1), .cst (.row 11), .fl .int] 25 true, .row .lease 42 true, .blk [.fl .addr] 28 true, .nest .pfx 12 46 true, .row .lease 42 true, .row .lease 42 true, .bag .addr 28 true true] }⟩] }
def R_DoOf_L66_S : LoopS := { n := 421, base := 4, head := { keep := [4, 5, 8, 18, 19, 22, 23], vals := [.one (.cst (.ptr 4 0)), .one (.cst (.ptr 5 0)), .one (.cst (.ptr 6 0)), .one (.cst (.row 7)), .one (.cst (.ptr 8 0)), .one (.fl .int), .one (.fl .int)], objs := [.bag .addr 28 false false, .nest .pfx 0 46 false, .row .lease 42 false, .ghost, .blk [.cst (.row 9), .cst (.row 10), .fl .int] 25 true, .blk [.fl .addr] 28 true, .blk [.cst (.row 1), .cst (.row 11), .fl .int] 25 true, .row .lease 42 true, .blk [.fl .addr] 28 true, .nest .pfx 12 46 true, .row .lease 42 true, .row .lease 42 true, .bag .addr 28 true true] }, exits := [⟨some 12, { keep := [4, 5, 8, 18, 19, 22], vals := [.one (.cst (.ptr 4 0)), .one (.cst (.ptr 5 0)), .one (.cst (.ptr 6 0)), .one (.cst (.row 7)), .one (.cst (.ptr 8 0)), .one (.fl .int)], objs := [.bag .addr 28 false false, .nest .pfx 0 46 false, .row .lease 42 false, .ghost, .blk [.cst (.row 9), .cst (.row 10), .fl .int] 25 true, .blk [.fl .addr] 28 true, .blk [.cst (.row 1), .cst (.row 11), .fl .int] 25 true, .row .lease 42 true, .blk [.fl .addr] 28 true, .nest .pfx 12 46 true, .row .lease 42 true, .row .lease 42 true, .bag .addr 28 true true] }⟩] }
def R_DoOf_L62_S : LoopS := { n := 421, base := 4, head := { keep := [4, 5, 8, 18, 19, 22], vals := [.one (.cst (.ptr 4 0)), .one (.cst (.ptr 5 0)), .one (.cst (.ptr 6 0)), .one (.cst (.row 7)), .one (.cst (.ptr 8 0)), .one (.fl .int)], objs := [.bag .addr 28 false false, .nest .pfx 0 46 false, .row .lease 42 false, .ghost, .blk [.cst (.row 9), .cst (.row 10), .fl .int] 25 true, .blk [.fl .addr] 28 true, .blk [.cst (.row 1), .cst (.row 11), .fl .int] 25 true, .row .lease 42 true, .blk [.fl .addr] 28 true, .nest .pfx 12 46 true, .row .lease 42 true, .row .lease 42 true, .bag .addr 28 true true] }, exits := [⟨some 10, { keep := [4, 5, 8, 19], vals := [.one (.cst (.ptr 4 0)), .one (.cst (.ptr 5 0)), .one (.cst (.ptr 6 0)), .one (.cst (.ptr 7 0))], objs := [.bag .addr 28 false false, .nest .pfx 0 46 false, .row .lease 42 false, .ghost, .blk [.cst (.row 8), .cst (.row 9), .fl .int] 25 true, .blk [.fl .addr] 28 true, .blk [.cst (.row 1), .cst (.row 10), .fl .int] 25 true, .blk [.fl .addr] 28 true, .nest .pfx 11 46 true, .row .lease 42 true, .row .lease 42 true, .bag .addr 28 true true] }⟩] }
noncomputable def R_DoOf_env : Env := mkEnv ty fnB [(12, R_CheckOp_con), (20, R_DoMeet_con), (19, R_PrefixAhead_con), (15, R_PoolAt_con), (23, R_hasAddr_con), (24, R_IsAhead_con), (14, R_WhoAt_con), (25, R_HasAddr_con), (26, R_GrantOf_con), (27, R_LiveOf_con)] [(10, (loopTr R_DoOf_L10_S (loopN R_DoOf_L10 FUEL))), (33, (loopTr R_DoOf_L33_S (loopN R_DoOf_L33 FUEL))), (48, (loopTr R_DoOf_L48_S (loopN R_DoOf_L48 FUEL))), (57, (loopTr R_DoOf_L57_S (loopN R_DoOf_L57 FUEL))), (66, (loopTr R_DoOf_L66_S (loopN R_DoOf_L66 FUEL))), (62, (loopTr R_DoOf_L62_S (loopN R_DoOf_L62 FUEL)))]
theorem R_DoOf_envOk : EnvOk Tryz.prog R_DoOf_env := envOk tyOk fn_ok (callsCons R_CheckOp_ok (callsCons R_DoMeet_ok (callsCons R_PrefixAhead_ok (callsCons R_PoolAt_ok (callsCons R_hasAddr_ok (callsCons R_IsAhead_ok (callsCons R_WhoAt_ok (callsCons R_HasAddr_ok (callsCons R_GrantOf_ok (callsCons R_LiveOf_ok callsNil)))))))))) _
theorem R_DoOf_L66_ok : LOk Tryz.prog (nthLoop (nthLoop (codeOf Tryz.f8) 4) 0) (loopTr R_DoOf_L66_S (loopN R_DoOf_L66 FUEL)) := by
 have h : loopsOf (nthLoop (nthLoop (codeOf Tryz.f8) 4) 0) = [] := by kernel_rfl
 refine loop_ok R_DoOf_envOk (loopsOk h lsNil) R_DoOf_L66_S R_DoOf_L66 FUEL (fun rec x => ?_)
 kernel_rfl
theorem R_DoOf_L62_ok : LOk Tryz.prog (nthLoop (codeOf Tryz.f8) 4) (loopTr R_DoOf_L62_S (loopN R_DoOf_L62 FUEL)) := by
 have h : loopsOf (nthLoop (codeOf Tryz.f8) 4) = [(nthLoop (nthLoop (codeOf Tryz.f8) 4) 0)] := by kernel_rfl
 refine loop_ok R_DoOf_envOk (loopsOk h (lsCons (one_loop (t := (loopTr R_DoOf_L66_S (loopN R_DoOf_L66 FUEL))) (by kernel_rfl) R_DoOf_L66_ok) lsNil)) R_DoOf_L62_S R_DoOf_L62 FUEL (fun rec x => ?_)
 kernel_rfl
theorem R_DoOf_L33_ok : LOk Tryz.prog (nthLoop (codeOf Tryz.f8) 1) (loopTr R_DoOf_L33_S (loopN R_DoOf_L33 FUEL)) := by
 have h : loopsOf (nthLoop (codeOf Tryz.f8) 1) = [] := by kernel_rfl
 refine loop_ok R_DoOf_envOk (loopsOk h lsNil) R_DoOf_L33_S R_DoOf_L33 FUEL (fun rec x => ?_)
 kernel_rfl
theorem R_DoOf_L48_ok : LOk Tryz.prog (nthLoop (codeOf Tryz.f8) 2) (loopTr R_DoOf_L48_S (loopN R_DoOf_L48 FUEL)) := by
 have h : loopsOf (nthLoop (codeOf Tryz.f8) 2) = [] := by kernel_rfl
 refine loop_ok R_DoOf_envOk (loopsOk h lsNil) R_DoOf_L48_S R_DoOf_L48 FUEL (fun rec x => ?_)
 kernel_rfl
theorem R_DoOf_L57_ok : LOk Tryz.prog (nthLoop (codeOf Tryz.f8) 3) (loopTr R_DoOf_L57_S (loopN R_DoOf_L57 FUEL)) := by
 have h : loopsOf (nthLoop (codeOf Tryz.f8) 3) = [] := by kernel_rfl
 refine loop_ok R_DoOf_envOk (loopsOk h lsNil) R_DoOf_L57_S R_DoOf_L57 FUEL (fun rec x => ?_)
 kernel_rfl
theorem R_DoOf_L10_ok : LOk Tryz.prog (nthLoop (codeOf Tryz.f8) 0) (loopTr R_DoOf_L10_S (loopN R_DoOf_L10 FUEL)) := by
 have h : loopsOf (nthLoop (codeOf Tryz.f8) 0) = [] := by kernel_rfl
 refine loop_ok R_DoOf_envOk (loopsOk h lsNil) R_DoOf_L10_S R_DoOf_L10 FUEL (fun rec x => ?_)
 kernel_rfl
noncomputable def R_DoOf_con : Con := lcon [.agg [.nest .pfx .addr 46 28 true, .row .lease 42, .fl .int], .one (.fl .op)] [.agg [.nest .pfx .addr 46 28 false, .row .lease 42, .fl .int], .one (.fl .addr), .one (.fl .int)] (fun x => R_DoOf_t x.1.1 x.1.2.1 x.1.2.2.1 x.2.1)
theorem R_DoOf_ok : TrOk Tryz.prog 8 R_DoOf_con := by
 have h : loopsOf (codeOf Tryz.f8) = [(nthLoop (codeOf Tryz.f8) 0), (nthLoop (codeOf Tryz.f8) 1), (nthLoop (codeOf Tryz.f8) 2), (nthLoop (codeOf Tryz.f8) 3), (nthLoop (codeOf Tryz.f8) 4)] := by kernel_rfl
 refine lcon_ok R_DoOf_envOk Tryz.func8 (bodyOk h (lsCons (one_loop (t := (loopTr R_DoOf_L10_S (loopN R_DoOf_L10 FUEL))) (by kernel_rfl) R_DoOf_L10_ok) (lsCons (one_loop (t := (loopTr R_DoOf_L33_S (loopN R_DoOf_L33 FUEL))) (by kernel_rfl) R_DoOf_L33_ok) (lsCons (one_loop (t := (loopTr R_DoOf_L48_S (loopN R_DoOf_L48 FUEL))) (by kernel_rfl) R_DoOf_L48_ok) (lsCons (one_loop (t := (loopTr R_DoOf_L57_S (loopN R_DoOf_L57 FUEL))) (by kernel_rfl) R_DoOf_L57_ok) (lsCons (one_loop (t := (loopTr R_DoOf_L62_S (loopN R_DoOf_L62 FUEL))) (by kernel_rfl) R_DoOf_L62_ok) lsNil)))))) [.agg [.nest .pfx .addr 46 28 true, .row .lease 42, .fl .int], .one (.fl .op)] [.agg [.nest .pfx .addr 46 28 false, .row .lease 42, .fl .int], .one (.fl .addr), .one (.fl .int)] rfl rfl _ (fun x => ?_)
 kernel_rfl
def law_do_L4_S : LoopS := { n := 36, base := 1, head := { keep := [0, 2, 3, 5, 6, 7], vals := [.one (.cst (.row 0)), .one (.cst (.ptr 1 0)), .one (.cst (.ptr 2 0)), .one (.cst (.ptr 3 0)), .one (.cst (.ptr 4 0)), .one (.fl .int)], objs := [.row .op 32 false, .blk [.cst (.row 5), .cst (.row 6), .fl .int] 25 true, .blk [.fl .addr] 28 true, .blk [.cst (.row 7), .cst (.row 8), .fl .int] 25 true, .blk [.fl .addr] 28 true, .nest .pfx 9 46 true, .row .lease 42 true, .nest .pfx 10 46 true, .row .lease 42 true, .bag .addr 28 true true, .bag .addr 28 true true] }, exits := [⟨none, { keep := [2, 3, 4], vals := [.one (.cst (.ptr 1 0)), .one (.cst (.ptr 2 0)), .one (.fl .int)], objs := [.row .op 32 false, .blk [.cst (.row 3), .cst (.row 4), .fl .int] 25 true, .blk [.fl .addr] 28 true, .nest .pfx 5 46 true, .row .lease 42 true, .bag .addr 28 true true] }⟩, ⟨some 0, { keep := [2, 3, 5, 6], vals := [.one (.cst (.ptr 1 0)), .one (.cst (.ptr 2 0)), .one (.cst (.ptr 3 0)), .one (.cst (.ptr 4 0))], objs := [.row .op 32 false, .blk [.cst (.row 5), .cst (.row 6), .fl .int] 25 true, .blk [.fl .addr] 28 true, .blk [.cst (.row 7), .cst (.row 8), .fl .int] 25 true, .blk [.fl .addr] 28 true, .nest .pfx 9 46 true, .row .lease 42 true, .nest .pfx 10 46 true, .row .lease 42 true, .bag .addr 28 true true, .bag .addr 28 true true] }⟩] }
noncomputable def law_do_env : Env := mkEnv ty fnB [(6, state_Do_con)] [(4, (loopTr law_do_L4_S (loopN law_do_L4 FUEL)))]
theorem law_do_envOk : EnvOk Tryz.prog law_do_env := envOk tyOk fn_ok (callsCons state_Do_ok callsNil) _
theorem law_do_L4_ok : LOk Tryz.prog (nthLoop (codeOf Tryz.f28) 0) (loopTr law_do_L4_S (loopN law_do_L4 FUEL)) := by
 have h : loopsOf (nthLoop (codeOf Tryz.f28) 0) = [] := by kernel_rfl
 refine loop_ok law_do_envOk (loopsOk h lsNil) law_do_L4_S law_do_L4 FUEL (fun rec x => ?_)
 kernel_rfl
noncomputable def law_do_con : Con := con [.one (.row .op 32)] [.agg [.nest .pfx .addr 46 28 true, .row .lease 42, .fl .int], .one (.fl .addr), .one (.fl .int)] (fun x => law_do_t x.1)
theorem law_do_ok : TrOk Tryz.prog 28 law_do_con := by
 have h : loopsOf (codeOf Tryz.f28) = [(nthLoop (codeOf Tryz.f28) 0)] := by kernel_rfl
 refine con_ok law_do_envOk Tryz.func28 (bodyOk h (lsCons (one_loop (t := (loopTr law_do_L4_S (loopN law_do_L4 FUEL))) (by kernel_rfl) law_do_L4_ok) lsNil)) [.one (.row .op 32)] [.agg [.nest .pfx .addr 46 28 true, .row .lease 42, .fl .int], .one (.fl .addr), .one (.fl .int)] _ (fun x => ?_)
 kernel_rfl
noncomputable def law_stateBegun_env : Env := mkEnv ty fnB [(29, law_some_con), (28, law_do_con), (6, state_Do_con), (10, state_Check_con), (11, state_Form_con), (30, law_v4_con)] []
theorem law_stateBegun_envOk : EnvOk Tryz.prog law_stateBegun_env := envOk tyOk fn_ok (callsCons law_some_ok (callsCons law_do_ok (callsCons state_Do_ok (callsCons state_Check_ok (callsCons state_Form_ok (callsCons law_v4_ok callsNil)))))) _
noncomputable def law_stateBegun_con : Con := con [] [.one (.fl .bool)] (fun x => law_stateBegun_t)
theorem law_stateBegun_ok : TrOk Tryz.prog 9 law_stateBegun_con := by
 have h : loopsOf (codeOf Tryz.f9) = [] := by kernel_rfl
 refine con_ok law_stateBegun_envOk Tryz.func9 (bodyOk h lsNil) [] [.one (.fl .bool)] _ (fun x => ?_)
 kernel_rfl
noncomputable def law_StateTells_env : Env := mkEnv ty fnB [(6, state_Do_con), (7, R_CheckState_con), (8, R_DoOf_con), (9, law_stateBegun_con), (10, state_Check_con), (11, state_Form_con), (12, R_CheckOp_con), (13, law_stateIs_con)] []
theorem law_StateTells_envOk : EnvOk Tryz.prog law_StateTells_env := envOk tyOk fn_ok (callsCons state_Do_ok (callsCons R_CheckState_ok (callsCons R_DoOf_ok (callsCons law_stateBegun_ok (callsCons state_Check_ok (callsCons state_Form_ok (callsCons R_CheckOp_ok (callsCons law_stateIs_ok callsNil)))))))) _
noncomputable def law_StateTells_con : Con := con [.agg [.nest .pfx .addr 46 28 true, .row .lease 42, .fl .int], .one (.fl .op)] [.one (.fl .bool)] (fun x => law_StateTells_t x.1.1 x.1.2.1 x.1.2.2.1 x.2.1)
theorem law_StateTells_ok : TrOk Tryz.prog 3 law_StateTells_con := by
 have h : loopsOf (codeOf Tryz.f3) = [] := by kernel_rfl
 refine con_ok law_StateTells_envOk Tryz.func3 (bodyOk h lsNil) [.agg [.nest .pfx .addr 46 28 true, .row .lease 42, .fl .int], .one (.fl .op)] [.one (.fl .bool)] _ (fun x => ?_)
 kernel_rfl
end Go.Proofs.YtbajhmdekihagaaGreat
namespace Go.Proofs.YtbajhmdekihagaaGreat
open Go Go.Ma Go.ChangeShapes Go.WideShapes Go.ChangeAt Go.RowKit
set_option linter.unusedVariables false
theorem stateTells_own : ownKnob Tryz.prog.godebug = none := by kernel_rfl
theorem stateTells_laidOut : laidOutB Tryz.prog = true := by kernel_rfl
theorem stateTells_plain : ∀ x, PsIn [.agg [.nest .pfx .addr 46 28 true, .row .lease 42, .fl .int], .one (.fl .op)] x → (fun x => law_StateTells_t x.1.1 x.1.2.1 x.1.2.2.1 x.2.1) x = some ((true : Bool), ()) := fun x hx => StateTells_eq ⟨hx.1.1.1, hx.1.1.2.1, hx.1.1.2.2, hx.1.2.1⟩ x.1.2.2.1 hx.2.1
set_option maxRecDepth 100000 in
theorem stateTells_lifted (os : Os) (started : os.Started) (H : Type) (enc : TypeId × Value → H) :
  ReturnsInHanded {} Tryz.checked os 3 .any (Rows.stateTellsSpec.pre6 enc Tryz.prog Tryz.f3 Rows.stateTellsRow.domain false) (Rows.stateTellsSpec.post enc Tryz.prog Tryz.f3 false true false false) := by
 refine returnsInHanded_of_change (C := Tryz.checked) stateTells_own started (by kernel_rfl) Tryz.func3
  (ChangeSpec.witness6 (enc := enc) (C := Tryz.checked) false ⟨#[], #[.agg #[.slice none 0 0, .slice none 0 0, .int .i64 0], .agg #[.int .i64 0, .bool false, .int .u64 0, .int .u64 0, .int .i64 0, .bool false, .int .u64 0, .int .u64 0, .string ByteArray.empty, .int .i64 0, .int .i64 0]], []⟩ 8 (by kernel_rfl) (by kernel_rfl) (by kernel_rfl) (by kernel_rfl)) ?_
 intro W base args ds gs before hval0 hW hcnd _
 have hval : ∀ (j : Nat) t v, Tryz.f3.params[j]? = some t → args[j]? = some v → Value.okWide Tryz.prog W .any base t v := hval0
 have hW' := hW
 obtain ⟨p, q, hA0, hV, rfl, hfz, hnd⟩ := hW
 have hA : DataW.TrodAll enc Tryz.prog W 0 (fun _ => true) true Tryz.f3.params.toList args.toList ds p := hA0
 rw [Tryz.params3] at hA hval
 have hA2 := hA
 obtain ⟨v0, vs0, d0, ds0, p0, q0, hargs, rfl, rfl, h0, r0⟩ := trodAll_cons hA
 obtain ⟨v1, vs1, d1, ds1, p1, q1, rfl, rfl, rfl, h1, r1⟩ := trodAll_cons r0
 obtain ⟨rfl, rfl, rfl⟩ := trodAll_nil r1
 obtain rfl : args = #[v0, v1] := by cases args; simp_all
 obtain ⟨rfl, rfl⟩ := trodVars_none hV
 have call := law_calls (enc := enc) (Glob.none (by kernel_rfl) (by kernel_rfl) (by kernel_rfl) (by kernel_rfl) (by kernel_rfl)) law_StateTells_ok stateTells_plain (fun x => rfl) (fun x => rfl) (ts := [25, 32]) (vs := [v0, v1]) (by kernel_rfl) (fun j t v h1 h2 => hval j t v (by simpa using h1) (by simpa using h2)) hA2
 refine call.mono fun e W' ⟨he, bel⟩ => ?_
 subst he
 exact ⟨_, rfl, _, _, _, [], _, [], hW', trodAll_mk1 (shut_bool Tryz.underlying4 _), all_back stateTells_laidOut bel _ _ _ _ (by kernel_rfl) hA2, rfl, bel.frame _, fun h => by cases h⟩
theorem stateTells_over : Rows.stateTellsRow.holds Tryz.pinned (OpenSpec.ofChange Rows.stateTellsSpec) :=
 OpenClaim.holds_of_wide 3 Tryz.f3 rfl rfl rfl rfl rfl rfl rfl ⟨rfl, rfl, rfl, rfl, rfl⟩ rfl rfl rfl rfl rfl (by kernel_rfl) Tryz.func3 (by kernel_rfl)
  (of_decide_eq_true (by kernel_rfl)) (by unfold Func.isWrapper; rw [if_neg (of_decide_eq_false (by kernel_rfl))]; exact ⟨rfl, rfl⟩)
  (fun os started H enc _ => stateTells_lifted os started H enc)
theorem stateTells_said : Rows.StateTellsSaid := stateTells_over
end Go.Proofs.YtbajhmdekihagaaGreat
