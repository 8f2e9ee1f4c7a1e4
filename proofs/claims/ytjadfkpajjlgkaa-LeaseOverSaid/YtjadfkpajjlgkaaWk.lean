/-
  The program's functions come to their plain forms. Written by a program of mine.
-/
import Derived.Test.YtjadfkpajjlgkaaTy
import Derived.Test.YtjadfkpajjlgkaaPl
namespace Go.Proofs.Ytjadfkpajjlgkaa
open Go Go.Ma
noncomputable def addr_Check_env : Env := mkEnv ty fnB [] []
theorem addr_Check_envOk : EnvOk Try.prog addr_Check_env := envOk tyOk fn_ok callsNil _
noncomputable def addr_Check_con : Con := con [.one (.fl .addr)] [.one (.fl .int)] (fun x => addr_Check_t x.1)
theorem addr_Check_ok : TrOk Try.prog 34 addr_Check_con := by
  have h : loopsOf (codeOf Try.f34) = [] := by kernel_rfl
  refine con_ok addr_Check_envOk Try.func34 (bodyOk h lsNil) [.one (.fl .addr)] [.one (.fl .int)] _ (fun x => ?_)
  kernel_rfl

noncomputable def prefix_Wide_env : Env := mkEnv ty fnB [] []
theorem prefix_Wide_envOk : EnvOk Try.prog prefix_Wide_env := envOk tyOk fn_ok callsNil _
noncomputable def prefix_Wide_con : Con := con [.one (.fl .addr)] [.one (.fl .int)] (fun x => prefix_Wide_t x.1)
theorem prefix_Wide_ok : TrOk Try.prog 53 prefix_Wide_con := by
  have h : loopsOf (codeOf Try.f53) = [] := by kernel_rfl
  refine con_ok prefix_Wide_envOk Try.func53 (bodyOk h lsNil) [.one (.fl .addr)] [.one (.fl .int)] _ (fun x => ?_)
  kernel_rfl

noncomputable def prefix_mask_env : Env := mkEnv ty fnB [(53, prefix_Wide_con)] []
theorem prefix_mask_envOk : EnvOk Try.prog prefix_mask_env := envOk tyOk fn_ok (callsCons prefix_Wide_ok callsNil) _
noncomputable def prefix_mask_con : Con := con [.one (.fl .addr), .one (.fl .int)] [.one (.fl .addr)] (fun x => prefix_mask_t x.1 x.2.1)
theorem prefix_mask_ok : TrOk Try.prog 63 prefix_mask_con := by
  have h : loopsOf (codeOf Try.f63) = [] := by kernel_rfl
  refine con_ok prefix_mask_envOk Try.func63 (bodyOk h lsNil) [.one (.fl .addr), .one (.fl .int)] [.one (.fl .addr)] _ (fun x => ?_)
  kernel_rfl

noncomputable def prefix_Cut_env : Env := mkEnv ty fnB [(63, prefix_mask_con)] []
theorem prefix_Cut_envOk : EnvOk Try.prog prefix_Cut_env := envOk tyOk fn_ok (callsCons prefix_mask_ok callsNil) _
noncomputable def prefix_Cut_con : Con := con [.one (.fl .addr), .one (.fl .int)] [.one (.fl .addr)] (fun x => prefix_Cut_t x.1 x.2.1)
theorem prefix_Cut_ok : TrOk Try.prog 54 prefix_Cut_con := by
  have h : loopsOf (codeOf Try.f54) = [] := by kernel_rfl
  refine con_ok prefix_Cut_envOk Try.func54 (bodyOk h lsNil) [.one (.fl .addr), .one (.fl .int)] [.one (.fl .addr)] _ (fun x => ?_)
  kernel_rfl

noncomputable def prefix_Check_env : Env := mkEnv ty fnB [(34, addr_Check_con), (53, prefix_Wide_con), (54, prefix_Cut_con)] []
theorem prefix_Check_envOk : EnvOk Try.prog prefix_Check_env := envOk tyOk fn_ok (callsCons addr_Check_ok (callsCons prefix_Wide_ok (callsCons prefix_Cut_ok callsNil))) _
noncomputable def prefix_Check_con : Con := con [.one (.fl .pfx)] [.one (.fl .int)] (fun x => prefix_Check_t x.1)
theorem prefix_Check_ok : TrOk Try.prog 32 prefix_Check_con := by
  have h : loopsOf (codeOf Try.f32) = [] := by kernel_rfl
  refine con_ok prefix_Check_envOk Try.func32 (bodyOk h lsNil) [.one (.fl .pfx)] [.one (.fl .int)] _ (fun x => ?_)
  kernel_rfl

noncomputable def lease_Narrow_env : Env := mkEnv ty fnB [(53, prefix_Wide_con)] []
theorem lease_Narrow_envOk : EnvOk Try.prog lease_Narrow_env := envOk tyOk fn_ok (callsCons prefix_Wide_ok callsNil) _
noncomputable def lease_Narrow_con : Con := con [.one (.fl .pfx)] [.one (.fl .bool)] (fun x => lease_Narrow_t x.1)
theorem lease_Narrow_ok : TrOk Try.prog 33 lease_Narrow_con := by
  have h : loopsOf (codeOf Try.f33) = [] := by kernel_rfl
  refine con_ok lease_Narrow_envOk Try.func33 (bodyOk h lsNil) [.one (.fl .pfx)] [.one (.fl .bool)] _ (fun x => ?_)
  kernel_rfl

noncomputable def prefix_Holds_env : Env := mkEnv ty fnB [(54, prefix_Cut_con)] []
theorem prefix_Holds_envOk : EnvOk Try.prog prefix_Holds_env := envOk tyOk fn_ok (callsCons prefix_Cut_ok callsNil) _
noncomputable def prefix_Holds_con : Con := con [.one (.fl .pfx), .one (.fl .addr)] [.one (.fl .bool)] (fun x => prefix_Holds_t x.1 x.2.1)
theorem prefix_Holds_ok : TrOk Try.prog 35 prefix_Holds_con := by
  have h : loopsOf (codeOf Try.f35) = [] := by kernel_rfl
  refine con_ok prefix_Holds_envOk Try.func35 (bodyOk h lsNil) [.one (.fl .pfx), .one (.fl .addr)] [.one (.fl .bool)] _ (fun x => ?_)
  kernel_rfl

noncomputable def addr_Order_1_env : Env := mkEnv ty fnB [] []
theorem addr_Order_1_envOk : EnvOk Try.prog addr_Order_1_env := envOk tyOk fn_ok callsNil _
noncomputable def addr_Order_1_con : Con := con [.one (.fl .u64), .one (.fl .u64)] [.one (.fl .int)] (fun x => addr_Order_1_t x.1 x.2.1)
theorem addr_Order_1_ok : TrOk Try.prog 55 addr_Order_1_con := by
  have h : loopsOf (codeOf Try.f55) = [] := by kernel_rfl
  refine con_ok addr_Order_1_envOk Try.func55 (bodyOk h lsNil) [.one (.fl .u64), .one (.fl .u64)] [.one (.fl .int)] _ (fun x => ?_)
  kernel_rfl

noncomputable def addr_Order_env : Env := mkEnv ty fnB [(55, addr_Order_1_con)] []
theorem addr_Order_envOk : EnvOk Try.prog addr_Order_env := envOk tyOk fn_ok (callsCons addr_Order_1_ok callsNil) _
noncomputable def addr_Order_con : Con := con [.one (.fl .addr), .one (.fl .addr)] [.one (.fl .int)] (fun x => addr_Order_t x.1 x.2.1)
theorem addr_Order_ok : TrOk Try.prog 36 addr_Order_con := by
  have h : loopsOf (codeOf Try.f36) = [] := by kernel_rfl
  refine con_ok addr_Order_envOk Try.func36 (bodyOk h lsNil) [.one (.fl .addr), .one (.fl .addr)] [.one (.fl .int)] _ (fun x => ?_)
  kernel_rfl

def lease_Pool_L7_S : LoopS := { n := 57, base := 1, head := { keep := [1, 24, 25, 26], vals := [.one (.cst (.ptr 1 0)), .one (.cst (.row 0)), .one (.fl .int), .one (.fl .int)], objs := [.row .addr 24 false, .blk [.fl .bool, .fl .u64, .fl .u64, .fl .int, .cst (.row 0)] 29 true] }, exits := [⟨none, { keep := [2], vals := [.one (.fl .int)], objs := [.row .addr 24 false] }⟩, ⟨some 0, { keep := [], vals := [], objs := [.row .addr 24 false] }⟩] }
noncomputable def lease_Pool_env : Env := mkEnv ty fnB [(32, prefix_Check_con), (33, lease_Narrow_con), (34, addr_Check_con), (35, prefix_Holds_con), (36, addr_Order_con)] [(7, (loopTr lease_Pool_L7_S (loopN lease_Pool_L7 FUEL)))]
theorem lease_Pool_envOk : EnvOk Try.prog lease_Pool_env := envOk tyOk fn_ok (callsCons prefix_Check_ok (callsCons lease_Narrow_ok (callsCons addr_Check_ok (callsCons prefix_Holds_ok (callsCons addr_Order_ok callsNil))))) _
theorem lease_Pool_L7_ok : LOk Try.prog (nthLoop (codeOf Try.f13) 0) (loopTr lease_Pool_L7_S (loopN lease_Pool_L7 FUEL)) := by
  have h : loopsOf (nthLoop (codeOf Try.f13) 0) = [] := by kernel_rfl
  refine loop_ok lease_Pool_envOk (loopsOk h lsNil) lease_Pool_L7_S lease_Pool_L7 FUEL (fun rec x => ?_)
  kernel_rfl
noncomputable def lease_Pool_con : Con := con [.agg [.fl .pfx, .row .addr 24]] [.one (.fl .int)] (fun x => lease_Pool_t x.1.1 x.1.2.1)
theorem lease_Pool_ok : TrOk Try.prog 13 lease_Pool_con := by
  have h : loopsOf (codeOf Try.f13) = [(nthLoop (codeOf Try.f13) 0)] := by kernel_rfl
  refine con_ok lease_Pool_envOk Try.func13 (bodyOk h (lsCons (one_loop (t := (loopTr lease_Pool_L7_S (loopN lease_Pool_L7 FUEL))) (by kernel_rfl) lease_Pool_L7_ok) lsNil)) [.agg [.fl .pfx, .row .addr 24]] [.one (.fl .int)] _ (fun x => ?_)
  kernel_rfl

noncomputable def lease_within_env : Env := mkEnv ty fnB [] []
theorem lease_within_envOk : EnvOk Try.prog lease_within_env := envOk tyOk fn_ok callsNil _
noncomputable def lease_within_con : Con := con [.one (.fl .int), .one (.fl .int), .one (.fl .int)] [.one (.fl .bool)] (fun x => lease_within_t x.1 x.2.1 x.2.2.1)
theorem lease_within_ok : TrOk Try.prog 20 lease_within_con := by
  have h : loopsOf (codeOf Try.f20) = [] := by kernel_rfl
  refine con_ok lease_within_envOk Try.func20 (bodyOk h lsNil) [.one (.fl .int), .one (.fl .int), .one (.fl .int)] [.one (.fl .bool)] _ (fun x => ?_)
  kernel_rfl

def lease_Who_L2_S : LoopS := { n := 33, base := 0, head := { keep := [0, 6, 7], vals := [.one (.fl .str), .one (.fl .int), .one (.fl .int)], objs := [] }, exits := [⟨none, { keep := [2], vals := [.one (.fl .bool)], objs := [] }⟩, ⟨some 0, { keep := [0], vals := [.one (.fl .str)], objs := [] }⟩] }
noncomputable def lease_Who_env : Env := mkEnv ty fnB [(20, lease_within_con)] [(2, (loopTr lease_Who_L2_S (loopN lease_Who_L2 FUEL)))]
theorem lease_Who_envOk : EnvOk Try.prog lease_Who_env := envOk tyOk fn_ok (callsCons lease_within_ok callsNil) _
theorem lease_Who_L2_ok : LOk Try.prog (nthLoop (codeOf Try.f19) 0) (loopTr lease_Who_L2_S (loopN lease_Who_L2 FUEL)) := by
  have h : loopsOf (nthLoop (codeOf Try.f19) 0) = [] := by kernel_rfl
  refine loop_ok lease_Who_envOk (loopsOk h lsNil) lease_Who_L2_S lease_Who_L2 FUEL (fun rec x => ?_)
  kernel_rfl
noncomputable def lease_Who_con : Con := con [.one (.fl .str)] [.one (.fl .bool)] (fun x => lease_Who_t x.1)
theorem lease_Who_ok : TrOk Try.prog 19 lease_Who_con := by
  have h : loopsOf (codeOf Try.f19) = [(nthLoop (codeOf Try.f19) 0)] := by kernel_rfl
  refine con_ok lease_Who_envOk Try.func19 (bodyOk h (lsCons (one_loop (t := (loopTr lease_Who_L2_S (loopN lease_Who_L2 FUEL))) (by kernel_rfl) lease_Who_L2_ok) lsNil)) [.one (.fl .str)] [.one (.fl .bool)] _ (fun x => ?_)
  kernel_rfl

noncomputable def lease_one_env : Env := mkEnv ty fnB [(34, addr_Check_con), (19, lease_Who_con), (20, lease_within_con)] []
theorem lease_one_envOk : EnvOk Try.prog lease_one_env := envOk tyOk fn_ok (callsCons addr_Check_ok (callsCons lease_Who_ok (callsCons lease_within_ok callsNil))) _
noncomputable def lease_one_con : Con := con [.one (.fl .lease)] [.one (.fl .int)] (fun x => lease_one_t x.1)
theorem lease_one_ok : TrOk Try.prog 46 lease_one_con := by
  have h : loopsOf (codeOf Try.f46) = [] := by kernel_rfl
  refine con_ok lease_one_envOk Try.func46 (bodyOk h lsNil) [.one (.fl .lease)] [.one (.fl .int)] _ (fun x => ?_)
  kernel_rfl

def lease_All_L4_S : LoopS := { n := 46, base := 1, head := { keep := [0, 1, 12, 13, 14], vals := [.one (.cst (.row 0)), .one (.fl .int), .one (.cst (.row 0)), .one (.fl .int), .one (.fl .int)], objs := [.row .lease 49 false] }, exits := [⟨none, { keep := [4], vals := [.one (.fl .int)], objs := [.row .lease 49 false] }⟩, ⟨some 0, { keep := [0, 1], vals := [.one (.cst (.row 0)), .one (.fl .int)], objs := [.row .lease 49 false] }⟩] }
def lease_All_L11_S : LoopS := { n := 46, base := 1, head := { keep := [0, 1, 8], vals := [.one (.cst (.row 0)), .one (.fl .int), .one (.fl .int)], objs := [.row .lease 49 false] }, exits := [⟨none, { keep := [4], vals := [.one (.fl .int)], objs := [.row .lease 49 false] }⟩, ⟨some 2, { keep := [1], vals := [.one (.fl .int)], objs := [.row .lease 49 false] }⟩] }
noncomputable def lease_All_env : Env := mkEnv ty fnB [(46, lease_one_con), (36, addr_Order_con), (20, lease_within_con)] [(4, (loopTr lease_All_L4_S (loopN lease_All_L4 FUEL))), (11, (loopTr lease_All_L11_S (loopN lease_All_L11 FUEL)))]
theorem lease_All_envOk : EnvOk Try.prog lease_All_env := envOk tyOk fn_ok (callsCons lease_one_ok (callsCons addr_Order_ok (callsCons lease_within_ok callsNil))) _
theorem lease_All_L11_ok : LOk Try.prog (nthLoop (codeOf Try.f22) 1) (loopTr lease_All_L11_S (loopN lease_All_L11 FUEL)) := by
  have h : loopsOf (nthLoop (codeOf Try.f22) 1) = [] := by kernel_rfl
  refine loop_ok lease_All_envOk (loopsOk h lsNil) lease_All_L11_S lease_All_L11 FUEL (fun rec x => ?_)
  kernel_rfl
theorem lease_All_L4_ok : LOk Try.prog (nthLoop (codeOf Try.f22) 0) (loopTr lease_All_L4_S (loopN lease_All_L4 FUEL)) := by
  have h : loopsOf (nthLoop (codeOf Try.f22) 0) = [] := by kernel_rfl
  refine loop_ok lease_All_envOk (loopsOk h lsNil) lease_All_L4_S lease_All_L4 FUEL (fun rec x => ?_)
  kernel_rfl
noncomputable def lease_All_con : Con := con [.one (.row .lease 49), .one (.fl .int)] [.one (.fl .int)] (fun x => lease_All_t x.1 x.2.1)
theorem lease_All_ok : TrOk Try.prog 22 lease_All_con := by
  have h : loopsOf (codeOf Try.f22) = [(nthLoop (codeOf Try.f22) 0), (nthLoop (codeOf Try.f22) 1)] := by kernel_rfl
  refine con_ok lease_All_envOk Try.func22 (bodyOk h (lsCons (one_loop (t := (loopTr lease_All_L4_S (loopN lease_All_L4 FUEL))) (by kernel_rfl) lease_All_L4_ok) (lsCons (one_loop (t := (loopTr lease_All_L11_S (loopN lease_All_L11 FUEL))) (by kernel_rfl) lease_All_L11_ok) lsNil))) [.one (.row .lease 49), .one (.fl .int)] [.one (.fl .int)] _ (fun x => ?_)
  kernel_rfl

noncomputable def slices_Clone___api_Lease_api_Lease__env : Env := mkEnv ty fnB [] []
theorem slices_Clone___api_Lease_api_Lease__envOk : EnvOk Try.prog slices_Clone___api_Lease_api_Lease__env := envOk tyOk fn_ok callsNil _
noncomputable def slices_Clone___api_Lease_api_Lease__con : Con := con [.one (.row .lease 49)] [.one (.row .lease 49)] (fun x => slices_Clone___api_Lease_api_Lease__t x.1)
theorem slices_Clone___api_Lease_api_Lease__ok : TrOk Try.prog 48 slices_Clone___api_Lease_api_Lease__con := by
  have h : loopsOf (codeOf Try.f48) = [] := by kernel_rfl
  refine con_ok slices_Clone___api_Lease_api_Lease__envOk Try.func48 (bodyOk h lsNil) [.one (.row .lease 49)] [.one (.row .lease 49)] _ (fun x => ?_)
  kernel_rfl

noncomputable def lease_Live_1_env : Env := mkEnv ty fnB [] []
theorem lease_Live_1_envOk : EnvOk Try.prog lease_Live_1_env := envOk tyOk fn_ok callsNil _
noncomputable def lease_Live_1_con : Con := con [.one (.fl .lease), .ref [.fl .int] 3] [.one (.fl .bool)] (fun x => lease_Live_1_t x.1 x.2.1.1)
theorem lease_Live_1_ok : TrOk Try.prog 49 lease_Live_1_con := by
  have h : loopsOf (codeOf Try.f49) = [] := by kernel_rfl
  refine con_ok lease_Live_1_envOk Try.func49 (bodyOk h lsNil) [.one (.fl .lease), .ref [.fl .int] 3] [.one (.fl .bool)] _ (fun x => ?_)
  kernel_rfl

def lease_Live_slices_DeleteFunc___api_Lease_api_Lease__slices_IndexFunc___api_Lease_api_Lease__L2_S : LoopS := { n := 19, base := 5, head := { keep := [0, 1, 7, 8], vals := [.one (.cst (.row 3)), .one (.cst (.fn 49 [.ptr 1 0])), .one (.fl .int), .one (.fl .int)], objs := [.row .lease 49 false, .blk [.fl .int] 3 true, .row .lease 49 true, .row .lease 49 true, .row .lease 49 true] }, exits := [⟨none, { keep := [4], vals := [.one (.fl .int)], objs := [.row .lease 49 false, .blk [.fl .int] 3 true, .row .lease 49 true, .row .lease 49 true, .row .lease 49 true] }⟩, ⟨some 0, { keep := [], vals := [], objs := [.row .lease 49 false, .blk [.fl .int] 3 true, .row .lease 49 true, .row .lease 49 true, .row .lease 49 true] }⟩] }
noncomputable def lease_Live_slices_DeleteFunc___api_Lease_api_Lease__slices_IndexFunc___api_Lease_api_Lease__env : Env := mkEnv ty fnB [(49, lease_Live_1_con)] [(2, (loopTr lease_Live_slices_DeleteFunc___api_Lease_api_Lease__slices_IndexFunc___api_Lease_api_Lease__L2_S (loopN lease_Live_slices_DeleteFunc___api_Lease_api_Lease__slices_IndexFunc___api_Lease_api_Lease__L2 FUEL)))]
theorem lease_Live_slices_DeleteFunc___api_Lease_api_Lease__slices_IndexFunc___api_Lease_api_Lease__envOk : EnvOk Try.prog lease_Live_slices_DeleteFunc___api_Lease_api_Lease__slices_IndexFunc___api_Lease_api_Lease__env := envOk tyOk fn_ok (callsCons lease_Live_1_ok callsNil) _
theorem lease_Live_slices_DeleteFunc___api_Lease_api_Lease__slices_IndexFunc___api_Lease_api_Lease__L2_ok : LOk Try.prog (nthLoop (codeOf Try.f40) 0) (loopTr lease_Live_slices_DeleteFunc___api_Lease_api_Lease__slices_IndexFunc___api_Lease_api_Lease__L2_S (loopN lease_Live_slices_DeleteFunc___api_Lease_api_Lease__slices_IndexFunc___api_Lease_api_Lease__L2 FUEL)) := by
  have h : loopsOf (nthLoop (codeOf Try.f40) 0) = [] := by kernel_rfl
  refine loop_ok lease_Live_slices_DeleteFunc___api_Lease_api_Lease__slices_IndexFunc___api_Lease_api_Lease__envOk (loopsOk h lsNil) lease_Live_slices_DeleteFunc___api_Lease_api_Lease__slices_IndexFunc___api_Lease_api_Lease__L2_S lease_Live_slices_DeleteFunc___api_Lease_api_Lease__slices_IndexFunc___api_Lease_api_Lease__L2 FUEL (fun rec x => ?_)
  kernel_rfl
theorem lease_Live_slices_DeleteFunc___api_Lease_api_Lease__slices_IndexFunc___api_Lease_api_Lease__inl : TrOk Try.prog 40 (inlCon lease_Live_slices_DeleteFunc___api_Lease_api_Lease__slices_IndexFunc___api_Lease_api_Lease__env Try.f40) := by
  have h : loopsOf (codeOf Try.f40) = [(nthLoop (codeOf Try.f40) 0)] := by kernel_rfl
  exact inl_ok lease_Live_slices_DeleteFunc___api_Lease_api_Lease__slices_IndexFunc___api_Lease_api_Lease__envOk Try.func40 (bodyOk h (lsCons (one_loop (t := (loopTr lease_Live_slices_DeleteFunc___api_Lease_api_Lease__slices_IndexFunc___api_Lease_api_Lease__L2_S (loopN lease_Live_slices_DeleteFunc___api_Lease_api_Lease__slices_IndexFunc___api_Lease_api_Lease__L2 FUEL))) (by kernel_rfl) lease_Live_slices_DeleteFunc___api_Lease_api_Lease__slices_IndexFunc___api_Lease_api_Lease__L2_ok) lsNil))

def lease_Live_slices_DeleteFunc___api_Lease_api_Lease__L5_S : LoopS := { n := 42, base := 4, head := { keep := [0, 1, 5, 6], vals := [.one (.cst (.row 3)), .one (.cst (.fn 49 [.ptr 1 0])), .one (.fl .int), .one (.fl .int)], objs := [.row .lease 49 false, .blk [.fl .int] 3 true, .row .lease 49 true, .row .lease 49 true] }, exits := [⟨some 0, { keep := [0, 5], vals := [.one (.cst (.row 3)), .one (.fl .int)], objs := [.row .lease 49 false, .blk [.fl .int] 3 true, .row .lease 49 true, .row .lease 49 true] }⟩] }
noncomputable def lease_Live_slices_DeleteFunc___api_Lease_api_Lease__env : Env := mkEnv ty fnB [(49, lease_Live_1_con), (40, (inlCon lease_Live_slices_DeleteFunc___api_Lease_api_Lease__slices_IndexFunc___api_Lease_api_Lease__env Try.f40))] [(5, (loopTr lease_Live_slices_DeleteFunc___api_Lease_api_Lease__L5_S (loopN lease_Live_slices_DeleteFunc___api_Lease_api_Lease__L5 FUEL)))]
theorem lease_Live_slices_DeleteFunc___api_Lease_api_Lease__envOk : EnvOk Try.prog lease_Live_slices_DeleteFunc___api_Lease_api_Lease__env := envOk tyOk fn_ok (callsCons lease_Live_1_ok (callsCons lease_Live_slices_DeleteFunc___api_Lease_api_Lease__slices_IndexFunc___api_Lease_api_Lease__inl callsNil)) _
theorem lease_Live_slices_DeleteFunc___api_Lease_api_Lease__L5_ok : LOk Try.prog (nthLoop (codeOf Try.f47) 0) (loopTr lease_Live_slices_DeleteFunc___api_Lease_api_Lease__L5_S (loopN lease_Live_slices_DeleteFunc___api_Lease_api_Lease__L5 FUEL)) := by
  have h : loopsOf (nthLoop (codeOf Try.f47) 0) = [] := by kernel_rfl
  refine loop_ok lease_Live_slices_DeleteFunc___api_Lease_api_Lease__envOk (loopsOk h lsNil) lease_Live_slices_DeleteFunc___api_Lease_api_Lease__L5_S lease_Live_slices_DeleteFunc___api_Lease_api_Lease__L5 FUEL (fun rec x => ?_)
  kernel_rfl
theorem lease_Live_slices_DeleteFunc___api_Lease_api_Lease__inl : TrOk Try.prog 47 (inlCon lease_Live_slices_DeleteFunc___api_Lease_api_Lease__env Try.f47) := by
  have h : loopsOf (codeOf Try.f47) = [(nthLoop (codeOf Try.f47) 0)] := by kernel_rfl
  exact inl_ok lease_Live_slices_DeleteFunc___api_Lease_api_Lease__envOk Try.func47 (bodyOk h (lsCons (one_loop (t := (loopTr lease_Live_slices_DeleteFunc___api_Lease_api_Lease__L5_S (loopN lease_Live_slices_DeleteFunc___api_Lease_api_Lease__L5 FUEL))) (by kernel_rfl) lease_Live_slices_DeleteFunc___api_Lease_api_Lease__L5_ok) lsNil))

noncomputable def lease_Live_env : Env := mkEnv ty fnB [(48, slices_Clone___api_Lease_api_Lease__con), (47, (inlCon lease_Live_slices_DeleteFunc___api_Lease_api_Lease__env Try.f47))] []
theorem lease_Live_envOk : EnvOk Try.prog lease_Live_env := envOk tyOk fn_ok (callsCons slices_Clone___api_Lease_api_Lease__ok (callsCons lease_Live_slices_DeleteFunc___api_Lease_api_Lease__inl callsNil)) _
noncomputable def lease_Live_con : Con := con [.one (.row .lease 49), .one (.fl .int)] [.one (.row .lease 49)] (fun x => lease_Live_t x.1 x.2.1)
theorem lease_Live_ok : TrOk Try.prog 23 lease_Live_con := by
  have h : loopsOf (codeOf Try.f23) = [] := by kernel_rfl
  refine con_ok lease_Live_envOk Try.func23 (bodyOk h lsNil) [.one (.row .lease 49), .one (.fl .int)] [.one (.row .lease 49)] _ (fun x => ?_)
  kernel_rfl

noncomputable def lease_Raw_1_env : Env := mkEnv ty fnB [] []
theorem lease_Raw_1_envOk : EnvOk Try.prog lease_Raw_1_env := envOk tyOk fn_ok callsNil _
noncomputable def lease_Raw_1_con : Con := con [.one (.fl .lease), .ref [.fl .str] 9] [.one (.fl .bool)] (fun x => lease_Raw_1_t x.1 x.2.1.1)
theorem lease_Raw_1_ok : TrOk Try.prog 41 lease_Raw_1_con := by
  have h : loopsOf (codeOf Try.f41) = [] := by kernel_rfl
  refine con_ok lease_Raw_1_envOk Try.func41 (bodyOk h lsNil) [.one (.fl .lease), .ref [.fl .str] 9] [.one (.fl .bool)] _ (fun x => ?_)
  kernel_rfl

noncomputable def prefix_Last_env : Env := mkEnv ty fnB [(63, prefix_mask_con)] []
theorem prefix_Last_envOk : EnvOk Try.prog prefix_Last_env := envOk tyOk fn_ok (callsCons prefix_mask_ok callsNil) _
noncomputable def prefix_Last_con : Con := con [.one (.fl .pfx)] [.one (.fl .addr)] (fun x => prefix_Last_t x.1)
theorem prefix_Last_ok : TrOk Try.prog 65 prefix_Last_con := by
  have h : loopsOf (codeOf Try.f65) = [] := by kernel_rfl
  refine con_ok prefix_Last_envOk Try.func65 (bodyOk h lsNil) [.one (.fl .pfx)] [.one (.fl .addr)] _ (fun x => ?_)
  kernel_rfl

noncomputable def addr_After_env : Env := mkEnv ty fnB [] []
theorem addr_After_envOk : EnvOk Try.prog addr_After_env := envOk tyOk fn_ok callsNil _
noncomputable def addr_After_con : Con := con [.one (.fl .addr)] [.one (.fl .addr), .one (.fl .bool)] (fun x => addr_After_t x.1)
theorem addr_After_ok : TrOk Try.prog 66 addr_After_con := by
  have h : loopsOf (codeOf Try.f66) = [] := by kernel_rfl
  refine con_ok addr_After_envOk Try.func66 (bodyOk h lsNil) [.one (.fl .addr)] [.one (.fl .addr), .one (.fl .bool)] _ (fun x => ?_)
  kernel_rfl

def slices_Index___api_Addr_api_Addr__L2_S : LoopS := { n := 19, base := 1, head := { keep := [0, 3, 7, 8], vals := [.one (.cst (.row 0)), .one (.cst (.ptr 1 0)), .one (.fl .int), .one (.fl .int)], objs := [.row .addr 24 false, .blk [.fl .addr] 24 true] }, exits := [⟨none, { keep := [4], vals := [.one (.fl .int)], objs := [.row .addr 24 false] }⟩, ⟨some 0, { keep := [], vals := [], objs := [.row .addr 24 false] }⟩] }
noncomputable def slices_Index___api_Addr_api_Addr__env : Env := mkEnv ty fnB [] [(2, (loopTr slices_Index___api_Addr_api_Addr__L2_S (loopN slices_Index___api_Addr_api_Addr__L2 FUEL)))]
theorem slices_Index___api_Addr_api_Addr__envOk : EnvOk Try.prog slices_Index___api_Addr_api_Addr__env := envOk tyOk fn_ok callsNil _
theorem slices_Index___api_Addr_api_Addr__L2_ok : LOk Try.prog (nthLoop (codeOf Try.f70) 0) (loopTr slices_Index___api_Addr_api_Addr__L2_S (loopN slices_Index___api_Addr_api_Addr__L2 FUEL)) := by
  have h : loopsOf (nthLoop (codeOf Try.f70) 0) = [] := by kernel_rfl
  refine loop_ok slices_Index___api_Addr_api_Addr__envOk (loopsOk h lsNil) slices_Index___api_Addr_api_Addr__L2_S slices_Index___api_Addr_api_Addr__L2 FUEL (fun rec x => ?_)
  kernel_rfl
noncomputable def slices_Index___api_Addr_api_Addr__con : Con := con [.one (.row .addr 24), .one (.fl .addr)] [.one (.fl .int)] (fun x => slices_Index___api_Addr_api_Addr__t x.1 x.2.1)
theorem slices_Index___api_Addr_api_Addr__ok : TrOk Try.prog 70 slices_Index___api_Addr_api_Addr__con := by
  have h : loopsOf (codeOf Try.f70) = [(nthLoop (codeOf Try.f70) 0)] := by kernel_rfl
  refine con_ok slices_Index___api_Addr_api_Addr__envOk Try.func70 (bodyOk h (lsCons (one_loop (t := (loopTr slices_Index___api_Addr_api_Addr__L2_S (loopN slices_Index___api_Addr_api_Addr__L2 FUEL))) (by kernel_rfl) slices_Index___api_Addr_api_Addr__L2_ok) lsNil)) [.one (.row .addr 24), .one (.fl .addr)] [.one (.fl .int)] _ (fun x => ?_)
  kernel_rfl

noncomputable def slices_Contains___api_Addr_api_Addr__env : Env := mkEnv ty fnB [(70, slices_Index___api_Addr_api_Addr__con)] []
theorem slices_Contains___api_Addr_api_Addr__envOk : EnvOk Try.prog slices_Contains___api_Addr_api_Addr__env := envOk tyOk fn_ok (callsCons slices_Index___api_Addr_api_Addr__ok callsNil) _
noncomputable def slices_Contains___api_Addr_api_Addr__con : Con := con [.one (.row .addr 24), .one (.fl .addr)] [.one (.fl .bool)] (fun x => slices_Contains___api_Addr_api_Addr__t x.1 x.2.1)
theorem slices_Contains___api_Addr_api_Addr__ok : TrOk Try.prog 67 slices_Contains___api_Addr_api_Addr__con := by
  have h : loopsOf (codeOf Try.f67) = [] := by kernel_rfl
  refine con_ok slices_Contains___api_Addr_api_Addr__envOk Try.func67 (bodyOk h lsNil) [.one (.row .addr 24), .one (.fl .addr)] [.one (.fl .bool)] _ (fun x => ?_)
  kernel_rfl

noncomputable def m_lease_book__taken_1_env : Env := mkEnv ty fnB [] []
theorem m_lease_book__taken_1_envOk : EnvOk Try.prog m_lease_book__taken_1_env := envOk tyOk fn_ok callsNil _
noncomputable def m_lease_book__taken_1_con : Con := con [.one (.fl .lease), .ref [.fl .addr] 24] [.one (.fl .bool)] (fun x => m_lease_book__taken_1_t x.1 x.2.1.1)
theorem m_lease_book__taken_1_ok : TrOk Try.prog 68 m_lease_book__taken_1_con := by
  have h : loopsOf (codeOf Try.f68) = [] := by kernel_rfl
  refine con_ok m_lease_book__taken_1_envOk Try.func68 (bodyOk h lsNil) [.one (.fl .lease), .ref [.fl .addr] 24] [.one (.fl .bool)] _ (fun x => ?_)
  kernel_rfl

def m_lease_book__taken_slices_ContainsFunc___api_Lease_api_Lease__slices_IndexFunc___api_Lease_api_Lease__L2_S : LoopS := { n := 19, base := 4, head := { keep := [0, 1, 7, 8], vals := [.one (.cst (.row 2)), .one (.cst (.fn 68 [.ptr 3 0])), .one (.fl .int), .one (.fl .int)], objs := [.blk [.fl .bool, .fl .u64, .fl .u64, .fl .int, .cst (.row 1), .cst (.row 2)] 66 false, .row .addr 24 false, .row .lease 49 false, .blk [.fl .addr] 24 false] }, exits := [⟨none, { keep := [4], vals := [.one (.fl .int)], objs := [.blk [.fl .bool, .fl .u64, .fl .u64, .fl .int, .cst (.row 1), .cst (.row 2)] 66 false, .row .addr 24 false, .row .lease 49 false, .blk [.fl .addr] 24 false] }⟩, ⟨some 0, { keep := [], vals := [], objs := [.blk [.fl .bool, .fl .u64, .fl .u64, .fl .int, .cst (.row 1), .cst (.row 2)] 66 false, .row .addr 24 false, .row .lease 49 false, .blk [.fl .addr] 24 false] }⟩] }
noncomputable def m_lease_book__taken_slices_ContainsFunc___api_Lease_api_Lease__slices_IndexFunc___api_Lease_api_Lease__env : Env := mkEnv ty fnB [(68, m_lease_book__taken_1_con)] [(2, (loopTr m_lease_book__taken_slices_ContainsFunc___api_Lease_api_Lease__slices_IndexFunc___api_Lease_api_Lease__L2_S (loopN m_lease_book__taken_slices_ContainsFunc___api_Lease_api_Lease__slices_IndexFunc___api_Lease_api_Lease__L2 FUEL)))]
theorem m_lease_book__taken_slices_ContainsFunc___api_Lease_api_Lease__slices_IndexFunc___api_Lease_api_Lease__envOk : EnvOk Try.prog m_lease_book__taken_slices_ContainsFunc___api_Lease_api_Lease__slices_IndexFunc___api_Lease_api_Lease__env := envOk tyOk fn_ok (callsCons m_lease_book__taken_1_ok callsNil) _
theorem m_lease_book__taken_slices_ContainsFunc___api_Lease_api_Lease__slices_IndexFunc___api_Lease_api_Lease__L2_ok : LOk Try.prog (nthLoop (codeOf Try.f40) 0) (loopTr m_lease_book__taken_slices_ContainsFunc___api_Lease_api_Lease__slices_IndexFunc___api_Lease_api_Lease__L2_S (loopN m_lease_book__taken_slices_ContainsFunc___api_Lease_api_Lease__slices_IndexFunc___api_Lease_api_Lease__L2 FUEL)) := by
  have h : loopsOf (nthLoop (codeOf Try.f40) 0) = [] := by kernel_rfl
  refine loop_ok m_lease_book__taken_slices_ContainsFunc___api_Lease_api_Lease__slices_IndexFunc___api_Lease_api_Lease__envOk (loopsOk h lsNil) m_lease_book__taken_slices_ContainsFunc___api_Lease_api_Lease__slices_IndexFunc___api_Lease_api_Lease__L2_S m_lease_book__taken_slices_ContainsFunc___api_Lease_api_Lease__slices_IndexFunc___api_Lease_api_Lease__L2 FUEL (fun rec x => ?_)
  kernel_rfl
theorem m_lease_book__taken_slices_ContainsFunc___api_Lease_api_Lease__slices_IndexFunc___api_Lease_api_Lease__inl : TrOk Try.prog 40 (inlCon m_lease_book__taken_slices_ContainsFunc___api_Lease_api_Lease__slices_IndexFunc___api_Lease_api_Lease__env Try.f40) := by
  have h : loopsOf (codeOf Try.f40) = [(nthLoop (codeOf Try.f40) 0)] := by kernel_rfl
  exact inl_ok m_lease_book__taken_slices_ContainsFunc___api_Lease_api_Lease__slices_IndexFunc___api_Lease_api_Lease__envOk Try.func40 (bodyOk h (lsCons (one_loop (t := (loopTr m_lease_book__taken_slices_ContainsFunc___api_Lease_api_Lease__slices_IndexFunc___api_Lease_api_Lease__L2_S (loopN m_lease_book__taken_slices_ContainsFunc___api_Lease_api_Lease__slices_IndexFunc___api_Lease_api_Lease__L2 FUEL))) (by kernel_rfl) m_lease_book__taken_slices_ContainsFunc___api_Lease_api_Lease__slices_IndexFunc___api_Lease_api_Lease__L2_ok) lsNil))

noncomputable def m_lease_book__taken_slices_ContainsFunc___api_Lease_api_Lease__env : Env := mkEnv ty fnB [(40, (inlCon m_lease_book__taken_slices_ContainsFunc___api_Lease_api_Lease__slices_IndexFunc___api_Lease_api_Lease__env Try.f40))] []
theorem m_lease_book__taken_slices_ContainsFunc___api_Lease_api_Lease__envOk : EnvOk Try.prog m_lease_book__taken_slices_ContainsFunc___api_Lease_api_Lease__env := envOk tyOk fn_ok (callsCons m_lease_book__taken_slices_ContainsFunc___api_Lease_api_Lease__slices_IndexFunc___api_Lease_api_Lease__inl callsNil) _
theorem m_lease_book__taken_slices_ContainsFunc___api_Lease_api_Lease__fl : TrOk Try.prog 57 (flCon m_lease_book__taken_slices_ContainsFunc___api_Lease_api_Lease__env Try.f57 [.one (.fl .bool)]) := by
  have h : loopsOf (codeOf Try.f57) = [] := by kernel_rfl
  exact flCon_ok m_lease_book__taken_slices_ContainsFunc___api_Lease_api_Lease__envOk Try.func57 (bodyOk h lsNil) [.one (.fl .bool)] rfl

noncomputable def m_lease_book__taken_env : Env := mkEnv ty fnB [(67, slices_Contains___api_Addr_api_Addr__con), (57, (flCon m_lease_book__taken_slices_ContainsFunc___api_Lease_api_Lease__env Try.f57 [.one (.fl .bool)]))] []
theorem m_lease_book__taken_envOk : EnvOk Try.prog m_lease_book__taken_env := envOk tyOk fn_ok (callsCons slices_Contains___api_Addr_api_Addr__ok (callsCons m_lease_book__taken_slices_ContainsFunc___api_Lease_api_Lease__fl callsNil)) _
noncomputable def m_lease_book__taken_con : Con := con [.ref [.fl .pfx, .row .addr 24, .row .lease 49] 66, .one (.fl .addr)] [.one (.fl .bool)] (fun x => m_lease_book__taken_t x.1.1 x.1.2.1 x.1.2.2.1 x.2.1)
theorem m_lease_book__taken_ok : TrOk Try.prog 60 m_lease_book__taken_con := by
  have h : loopsOf (codeOf Try.f60) = [] := by kernel_rfl
  refine con_ok m_lease_book__taken_envOk Try.func60 (bodyOk h lsNil) [.ref [.fl .pfx, .row .addr 24, .row .lease 49] 66, .one (.fl .addr)] [.one (.fl .bool)] _ (fun x => ?_)
  kernel_rfl

noncomputable def lease_Raw_2_env : Env := mkEnv ty fnB [(36, addr_Order_con)] []
theorem lease_Raw_2_envOk : EnvOk Try.prog lease_Raw_2_env := envOk tyOk fn_ok (callsCons addr_Order_ok callsNil) _
noncomputable def lease_Raw_2_con : Con := con [.one (.fl .lease), .one (.fl .lease)] [.one (.fl .int)] (fun x => lease_Raw_2_t x.1 x.2.1)
theorem lease_Raw_2_ok : TrOk Try.prog 44 lease_Raw_2_con := by
  have h : loopsOf (codeOf Try.f44) = [] := by kernel_rfl
  refine con_ok lease_Raw_2_envOk Try.func44 (bodyOk h lsNil) [.one (.fl .lease), .one (.fl .lease)] [.one (.fl .int)] _ (fun x => ?_)
  kernel_rfl

noncomputable def lease_Drop_env : Env := mkEnv ty fnB [(22, lease_All_con), (23, lease_Live_con)] []
theorem lease_Drop_envOk : EnvOk Try.prog lease_Drop_env := envOk tyOk fn_ok (callsCons lease_All_ok (callsCons lease_Live_ok callsNil)) _
noncomputable def lease_Drop_con : Con := con [.one (.row .lease 49), .one (.fl .int)] [.one (.row .lease 49), .one (.fl .int), .one (.fl .int)] (fun x => lease_Drop_t x.1 x.2.1)
theorem lease_Drop_ok : TrOk Try.prog 6 lease_Drop_con := by
  have h : loopsOf (codeOf Try.f6) = [] := by kernel_rfl
  refine con_ok lease_Drop_envOk Try.func6 (bodyOk h lsNil) [.one (.row .lease 49), .one (.fl .int)] [.one (.row .lease 49), .one (.fl .int), .one (.fl .int)] _ (fun x => ?_)
  kernel_rfl

noncomputable def R_CheckAddr_env : Env := mkEnv ty fnB [] []
theorem R_CheckAddr_envOk : EnvOk Try.prog R_CheckAddr_env := envOk tyOk fn_ok callsNil _
noncomputable def R_CheckAddr_con : Con := con [.one (.fl .addr)] [.one (.fl .int)] (fun x => R_CheckAddr_t x.1)
theorem R_CheckAddr_ok : TrOk Try.prog 24 R_CheckAddr_con := by
  have h : loopsOf (codeOf Try.f24) = [] := by kernel_rfl
  refine con_ok R_CheckAddr_envOk Try.func24 (bodyOk h lsNil) [.one (.fl .addr)] [.one (.fl .int)] _ (fun x => ?_)
  kernel_rfl

noncomputable def R_between_env : Env := mkEnv ty fnB [] []
theorem R_between_envOk : EnvOk Try.prog R_between_env := envOk tyOk fn_ok callsNil _
noncomputable def R_between_con : Con := con [.one (.fl .int), .one (.fl .int), .one (.fl .int)] [.one (.fl .bool)] (fun x => R_between_t x.1 x.2.1 x.2.2.1)
theorem R_between_ok : TrOk Try.prog 25 R_between_con := by
  have h : loopsOf (codeOf Try.f25) = [] := by kernel_rfl
  refine con_ok R_between_envOk Try.func25 (bodyOk h lsNil) [.one (.fl .int), .one (.fl .int), .one (.fl .int)] [.one (.fl .bool)] _ (fun x => ?_)
  kernel_rfl

def R_IsWho_L2_S : LoopS := { n := 27, base := 0, head := { keep := [0, 3], vals := [.one (.fl .str), .one (.fl .int)], objs := [] }, exits := [⟨none, { keep := [2], vals := [.one (.fl .bool)], objs := [] }⟩, ⟨some 0, { keep := [0], vals := [.one (.fl .str)], objs := [] }⟩] }
noncomputable def R_IsWho_env : Env := mkEnv ty fnB [(25, R_between_con)] [(2, (loopTr R_IsWho_L2_S (loopN R_IsWho_L2 FUEL)))]
theorem R_IsWho_envOk : EnvOk Try.prog R_IsWho_env := envOk tyOk fn_ok (callsCons R_between_ok callsNil) _
theorem R_IsWho_L2_ok : LOk Try.prog (nthLoop (codeOf Try.f9) 0) (loopTr R_IsWho_L2_S (loopN R_IsWho_L2 FUEL)) := by
  have h : loopsOf (nthLoop (codeOf Try.f9) 0) = [] := by kernel_rfl
  refine loop_ok R_IsWho_envOk (loopsOk h lsNil) R_IsWho_L2_S R_IsWho_L2 FUEL (fun rec x => ?_)
  kernel_rfl
noncomputable def R_IsWho_con : Con := con [.one (.fl .str)] [.one (.fl .bool)] (fun x => R_IsWho_t x.1)
theorem R_IsWho_ok : TrOk Try.prog 9 R_IsWho_con := by
  have h : loopsOf (codeOf Try.f9) = [(nthLoop (codeOf Try.f9) 0)] := by kernel_rfl
  refine con_ok R_IsWho_envOk Try.func9 (bodyOk h (lsCons (one_loop (t := (loopTr R_IsWho_L2_S (loopN R_IsWho_L2 FUEL))) (by kernel_rfl) R_IsWho_L2_ok) lsNil)) [.one (.fl .str)] [.one (.fl .bool)] _ (fun x => ?_)
  kernel_rfl

def R_Bits_L3_S : LoopS := { n := 42, base := 0, head := { keep := [1, 3, 4], vals := [.one (.cst (.ptr 0 0)), .one (.cst (.row 1)), .one (.fl .int)], objs := [.blk [.fl .addr] 24 true, .row .u8 5 true] }, exits := [⟨some 0, { keep := [1, 3], vals := [.one (.cst (.ptr 0 0)), .one (.cst (.row 1))], objs := [.blk [.fl .addr] 24 true, .row .u8 5 true] }⟩] }
def R_Bits_L7_S : LoopS := { n := 42, base := 0, head := { keep := [1, 3, 5], vals := [.one (.cst (.ptr 0 0)), .one (.cst (.row 1)), .one (.fl .int)], objs := [.blk [.fl .addr] 24 true, .row .u8 5 true] }, exits := [⟨some 2, { keep := [1, 3], vals := [.one (.cst (.ptr 0 0)), .one (.cst (.row 1))], objs := [.blk [.fl .addr] 24 true, .row .u8 5 true] }⟩] }
noncomputable def R_Bits_env : Env := mkEnv ty fnB [] [(3, (loopTr R_Bits_L3_S (loopN R_Bits_L3 FUEL))), (7, (loopTr R_Bits_L7_S (loopN R_Bits_L7 FUEL)))]
theorem R_Bits_envOk : EnvOk Try.prog R_Bits_env := envOk tyOk fn_ok callsNil _
theorem R_Bits_L7_ok : LOk Try.prog (nthLoop (codeOf Try.f50) 1) (loopTr R_Bits_L7_S (loopN R_Bits_L7 FUEL)) := by
  have h : loopsOf (nthLoop (codeOf Try.f50) 1) = [] := by kernel_rfl
  refine loop_ok R_Bits_envOk (loopsOk h lsNil) R_Bits_L7_S R_Bits_L7 FUEL (fun rec x => ?_)
  kernel_rfl
theorem R_Bits_L3_ok : LOk Try.prog (nthLoop (codeOf Try.f50) 0) (loopTr R_Bits_L3_S (loopN R_Bits_L3 FUEL)) := by
  have h : loopsOf (nthLoop (codeOf Try.f50) 0) = [] := by kernel_rfl
  refine loop_ok R_Bits_envOk (loopsOk h lsNil) R_Bits_L3_S R_Bits_L3 FUEL (fun rec x => ?_)
  kernel_rfl
noncomputable def R_Bits_con : Con := con [.one (.fl .addr)] [.one (.fl .str)] (fun x => R_Bits_t x.1)
theorem R_Bits_ok : TrOk Try.prog 50 R_Bits_con := by
  have h : loopsOf (codeOf Try.f50) = [(nthLoop (codeOf Try.f50) 0), (nthLoop (codeOf Try.f50) 1)] := by kernel_rfl
  refine con_ok R_Bits_envOk Try.func50 (bodyOk h (lsCons (one_loop (t := (loopTr R_Bits_L3_S (loopN R_Bits_L3 FUEL))) (by kernel_rfl) R_Bits_L3_ok) (lsCons (one_loop (t := (loopTr R_Bits_L7_S (loopN R_Bits_L7 FUEL))) (by kernel_rfl) R_Bits_L7_ok) lsNil))) [.one (.fl .addr)] [.one (.fl .str)] _ (fun x => ?_)
  kernel_rfl

def R_IsAhead_L5_S : LoopS := { n := 39, base := 0, head := { keep := [5, 6, 7], vals := [.one (.fl .str), .one (.fl .str), .one (.fl .int)], objs := [] }, exits := [⟨none, { keep := [4], vals := [.one (.fl .bool)], objs := [] }⟩, ⟨some 0, { keep := [], vals := [], objs := [] }⟩] }
noncomputable def R_IsAhead_env : Env := mkEnv ty fnB [(50, R_Bits_con)] [(5, (loopTr R_IsAhead_L5_S (loopN R_IsAhead_L5 FUEL)))]
theorem R_IsAhead_envOk : EnvOk Try.prog R_IsAhead_env := envOk tyOk fn_ok (callsCons R_Bits_ok callsNil) _
theorem R_IsAhead_L5_ok : LOk Try.prog (nthLoop (codeOf Try.f26) 0) (loopTr R_IsAhead_L5_S (loopN R_IsAhead_L5 FUEL)) := by
  have h : loopsOf (nthLoop (codeOf Try.f26) 0) = [] := by kernel_rfl
  refine loop_ok R_IsAhead_envOk (loopsOk h lsNil) R_IsAhead_L5_S R_IsAhead_L5 FUEL (fun rec x => ?_)
  kernel_rfl
noncomputable def R_IsAhead_con : Con := con [.one (.fl .addr), .one (.fl .addr)] [.one (.fl .bool)] (fun x => R_IsAhead_t x.1 x.2.1)
theorem R_IsAhead_ok : TrOk Try.prog 26 R_IsAhead_con := by
  have h : loopsOf (codeOf Try.f26) = [(nthLoop (codeOf Try.f26) 0)] := by kernel_rfl
  refine con_ok R_IsAhead_envOk Try.func26 (bodyOk h (lsCons (one_loop (t := (loopTr R_IsAhead_L5_S (loopN R_IsAhead_L5 FUEL))) (by kernel_rfl) R_IsAhead_L5_ok) lsNil)) [.one (.fl .addr), .one (.fl .addr)] [.one (.fl .bool)] _ (fun x => ?_)
  kernel_rfl

def R_CheckLeases_L4_S : LoopS := { n := 62, base := 1, head := { keep := [0, 1, 5], vals := [.one (.cst (.row 0)), .one (.fl .int), .one (.fl .int)], objs := [.row .lease 49 false] }, exits := [⟨none, { keep := [4], vals := [.one (.fl .int)], objs := [.row .lease 49 false] }⟩, ⟨some 0, { keep := [0, 1], vals := [.one (.cst (.row 0)), .one (.fl .int)], objs := [.row .lease 49 false] }⟩] }
def R_CheckLeases_L14_S : LoopS := { n := 62, base := 1, head := { keep := [0, 1, 7], vals := [.one (.cst (.row 0)), .one (.fl .int), .one (.fl .int)], objs := [.row .lease 49 false] }, exits := [⟨none, { keep := [4], vals := [.one (.fl .int)], objs := [.row .lease 49 false] }⟩, ⟨some 2, { keep := [1], vals := [.one (.fl .int)], objs := [.row .lease 49 false] }⟩] }
noncomputable def R_CheckLeases_env : Env := mkEnv ty fnB [(24, R_CheckAddr_con), (9, R_IsWho_con), (25, R_between_con), (26, R_IsAhead_con)] [(4, (loopTr R_CheckLeases_L4_S (loopN R_CheckLeases_L4 FUEL))), (14, (loopTr R_CheckLeases_L14_S (loopN R_CheckLeases_L14 FUEL)))]
theorem R_CheckLeases_envOk : EnvOk Try.prog R_CheckLeases_env := envOk tyOk fn_ok (callsCons R_CheckAddr_ok (callsCons R_IsWho_ok (callsCons R_between_ok (callsCons R_IsAhead_ok callsNil)))) _
theorem R_CheckLeases_L14_ok : LOk Try.prog (nthLoop (codeOf Try.f7) 1) (loopTr R_CheckLeases_L14_S (loopN R_CheckLeases_L14 FUEL)) := by
  have h : loopsOf (nthLoop (codeOf Try.f7) 1) = [] := by kernel_rfl
  refine loop_ok R_CheckLeases_envOk (loopsOk h lsNil) R_CheckLeases_L14_S R_CheckLeases_L14 FUEL (fun rec x => ?_)
  kernel_rfl
theorem R_CheckLeases_L4_ok : LOk Try.prog (nthLoop (codeOf Try.f7) 0) (loopTr R_CheckLeases_L4_S (loopN R_CheckLeases_L4 FUEL)) := by
  have h : loopsOf (nthLoop (codeOf Try.f7) 0) = [] := by kernel_rfl
  refine loop_ok R_CheckLeases_envOk (loopsOk h lsNil) R_CheckLeases_L4_S R_CheckLeases_L4 FUEL (fun rec x => ?_)
  kernel_rfl
noncomputable def R_CheckLeases_con : Con := con [.one (.row .lease 49), .one (.fl .int)] [.one (.fl .int)] (fun x => R_CheckLeases_t x.1 x.2.1)
theorem R_CheckLeases_ok : TrOk Try.prog 7 R_CheckLeases_con := by
  have h : loopsOf (codeOf Try.f7) = [(nthLoop (codeOf Try.f7) 0), (nthLoop (codeOf Try.f7) 1)] := by kernel_rfl
  refine con_ok R_CheckLeases_envOk Try.func7 (bodyOk h (lsCons (one_loop (t := (loopTr R_CheckLeases_L4_S (loopN R_CheckLeases_L4 FUEL))) (by kernel_rfl) R_CheckLeases_L4_ok) (lsCons (one_loop (t := (loopTr R_CheckLeases_L14_S (loopN R_CheckLeases_L14 FUEL))) (by kernel_rfl) R_CheckLeases_L14_ok) lsNil))) [.one (.row .lease 49), .one (.fl .int)] [.one (.fl .int)] _ (fun x => ?_)
  kernel_rfl

noncomputable def R_wide_env : Env := mkEnv ty fnB [] []
theorem R_wide_envOk : EnvOk Try.prog R_wide_env := envOk tyOk fn_ok callsNil _
noncomputable def R_wide_con : Con := con [.one (.fl .addr)] [.one (.fl .int)] (fun x => R_wide_t x.1)
theorem R_wide_ok : TrOk Try.prog 56 R_wide_con := by
  have h : loopsOf (codeOf Try.f56) = [] := by kernel_rfl
  refine con_ok R_wide_envOk Try.func56 (bodyOk h lsNil) [.one (.fl .addr)] [.one (.fl .int)] _ (fun x => ?_)
  kernel_rfl

def R_CheckPrefix_L8_S : LoopS := { n := 34, base := 0, head := { keep := [4, 5], vals := [.one (.fl .str), .one (.fl .int)], objs := [] }, exits := [⟨none, { keep := [2], vals := [.one (.fl .int)], objs := [] }⟩, ⟨some 0, { keep := [], vals := [], objs := [] }⟩] }
noncomputable def R_CheckPrefix_env : Env := mkEnv ty fnB [(24, R_CheckAddr_con), (56, R_wide_con), (25, R_between_con), (50, R_Bits_con)] [(8, (loopTr R_CheckPrefix_L8_S (loopN R_CheckPrefix_L8 FUEL)))]
theorem R_CheckPrefix_envOk : EnvOk Try.prog R_CheckPrefix_env := envOk tyOk fn_ok (callsCons R_CheckAddr_ok (callsCons R_wide_ok (callsCons R_between_ok (callsCons R_Bits_ok callsNil)))) _
theorem R_CheckPrefix_L8_ok : LOk Try.prog (nthLoop (codeOf Try.f37) 0) (loopTr R_CheckPrefix_L8_S (loopN R_CheckPrefix_L8 FUEL)) := by
  have h : loopsOf (nthLoop (codeOf Try.f37) 0) = [] := by kernel_rfl
  refine loop_ok R_CheckPrefix_envOk (loopsOk h lsNil) R_CheckPrefix_L8_S R_CheckPrefix_L8 FUEL (fun rec x => ?_)
  kernel_rfl
noncomputable def R_CheckPrefix_con : Con := con [.one (.fl .pfx)] [.one (.fl .int)] (fun x => R_CheckPrefix_t x.1)
theorem R_CheckPrefix_ok : TrOk Try.prog 37 R_CheckPrefix_con := by
  have h : loopsOf (codeOf Try.f37) = [(nthLoop (codeOf Try.f37) 0)] := by kernel_rfl
  refine con_ok R_CheckPrefix_envOk Try.func37 (bodyOk h (lsCons (one_loop (t := (loopTr R_CheckPrefix_L8_S (loopN R_CheckPrefix_L8 FUEL))) (by kernel_rfl) R_CheckPrefix_L8_ok) lsNil)) [.one (.fl .pfx)] [.one (.fl .int)] _ (fun x => ?_)
  kernel_rfl

noncomputable def R_IsNarrow_env : Env := mkEnv ty fnB [(56, R_wide_con)] []
theorem R_IsNarrow_envOk : EnvOk Try.prog R_IsNarrow_env := envOk tyOk fn_ok (callsCons R_wide_ok callsNil) _
noncomputable def R_IsNarrow_con : Con := con [.one (.fl .pfx)] [.one (.fl .bool)] (fun x => R_IsNarrow_t x.1)
theorem R_IsNarrow_ok : TrOk Try.prog 38 R_IsNarrow_con := by
  have h : loopsOf (codeOf Try.f38) = [] := by kernel_rfl
  refine con_ok R_IsNarrow_envOk Try.func38 (bodyOk h lsNil) [.one (.fl .pfx)] [.one (.fl .bool)] _ (fun x => ?_)
  kernel_rfl

noncomputable def R_HasAddr_env : Env := mkEnv ty fnB [(50, R_Bits_con)] []
theorem R_HasAddr_envOk : EnvOk Try.prog R_HasAddr_env := envOk tyOk fn_ok (callsCons R_Bits_ok callsNil) _
noncomputable def R_HasAddr_con : Con := con [.one (.fl .pfx), .one (.fl .addr)] [.one (.fl .bool)] (fun x => R_HasAddr_t x.1 x.2.1)
theorem R_HasAddr_ok : TrOk Try.prog 27 R_HasAddr_con := by
  have h : loopsOf (codeOf Try.f27) = [] := by kernel_rfl
  refine con_ok R_HasAddr_envOk Try.func27 (bodyOk h lsNil) [.one (.fl .pfx), .one (.fl .addr)] [.one (.fl .bool)] _ (fun x => ?_)
  kernel_rfl

def R_CheckPool_L7_S : LoopS := { n := 64, base := 1, head := { keep := [1, 4], vals := [.one (.cst (.ptr 1 0)), .one (.fl .int)], objs := [.row .addr 24 false, .blk [.fl .bool, .fl .u64, .fl .u64, .fl .int, .cst (.row 0)] 29 true] }, exits := [⟨none, { keep := [2], vals := [.one (.fl .int)], objs := [.row .addr 24 false] }⟩, ⟨some 0, { keep := [], vals := [], objs := [.row .addr 24 false] }⟩] }
noncomputable def R_CheckPool_env : Env := mkEnv ty fnB [(37, R_CheckPrefix_con), (38, R_IsNarrow_con), (24, R_CheckAddr_con), (27, R_HasAddr_con), (26, R_IsAhead_con)] [(7, (loopTr R_CheckPool_L7_S (loopN R_CheckPool_L7 FUEL)))]
theorem R_CheckPool_envOk : EnvOk Try.prog R_CheckPool_env := envOk tyOk fn_ok (callsCons R_CheckPrefix_ok (callsCons R_IsNarrow_ok (callsCons R_CheckAddr_ok (callsCons R_HasAddr_ok (callsCons R_IsAhead_ok callsNil))))) _
theorem R_CheckPool_L7_ok : LOk Try.prog (nthLoop (codeOf Try.f14) 0) (loopTr R_CheckPool_L7_S (loopN R_CheckPool_L7 FUEL)) := by
  have h : loopsOf (nthLoop (codeOf Try.f14) 0) = [] := by kernel_rfl
  refine loop_ok R_CheckPool_envOk (loopsOk h lsNil) R_CheckPool_L7_S R_CheckPool_L7 FUEL (fun rec x => ?_)
  kernel_rfl
noncomputable def R_CheckPool_con : Con := con [.agg [.fl .pfx, .row .addr 24]] [.one (.fl .int)] (fun x => R_CheckPool_t x.1.1 x.1.2.1)
theorem R_CheckPool_ok : TrOk Try.prog 14 R_CheckPool_con := by
  have h : loopsOf (codeOf Try.f14) = [(nthLoop (codeOf Try.f14) 0)] := by kernel_rfl
  refine con_ok R_CheckPool_envOk Try.func14 (bodyOk h (lsCons (one_loop (t := (loopTr R_CheckPool_L7_S (loopN R_CheckPool_L7 FUEL))) (by kernel_rfl) R_CheckPool_L7_ok) lsNil)) [.agg [.fl .pfx, .row .addr 24]] [.one (.fl .int)] _ (fun x => ?_)
  kernel_rfl

def R_WhoAt_L2_S : LoopS := { n := 20, base := 1, head := { keep := [0, 1, 5], vals := [.one (.cst (.row 0)), .one (.fl .str), .one (.fl .int)], objs := [.row .lease 49 false] }, exits := [⟨none, { keep := [4], vals := [.one (.fl .int)], objs := [.row .lease 49 false] }⟩, ⟨some 0, { keep := [], vals := [], objs := [.row .lease 49 false] }⟩] }
noncomputable def R_WhoAt_env : Env := mkEnv ty fnB [] [(2, (loopTr R_WhoAt_L2_S (loopN R_WhoAt_L2 FUEL)))]
theorem R_WhoAt_envOk : EnvOk Try.prog R_WhoAt_env := envOk tyOk fn_ok callsNil _
theorem R_WhoAt_L2_ok : LOk Try.prog (nthLoop (codeOf Try.f18) 0) (loopTr R_WhoAt_L2_S (loopN R_WhoAt_L2 FUEL)) := by
  have h : loopsOf (nthLoop (codeOf Try.f18) 0) = [] := by kernel_rfl
  refine loop_ok R_WhoAt_envOk (loopsOk h lsNil) R_WhoAt_L2_S R_WhoAt_L2 FUEL (fun rec x => ?_)
  kernel_rfl
noncomputable def R_WhoAt_con : Con := con [.one (.row .lease 49), .one (.fl .str)] [.one (.fl .int)] (fun x => R_WhoAt_t x.1 x.2.1)
theorem R_WhoAt_ok : TrOk Try.prog 18 R_WhoAt_con := by
  have h : loopsOf (codeOf Try.f18) = [(nthLoop (codeOf Try.f18) 0)] := by kernel_rfl
  refine con_ok R_WhoAt_envOk Try.func18 (bodyOk h (lsCons (one_loop (t := (loopTr R_WhoAt_L2_S (loopN R_WhoAt_L2 FUEL))) (by kernel_rfl) R_WhoAt_L2_ok) lsNil)) [.one (.row .lease 49), .one (.fl .str)] [.one (.fl .int)] _ (fun x => ?_)
  kernel_rfl

def R_CheckOf_L5_S : LoopS := { n := 46, base := 2, head := { keep := [1, 3, 7, 8], vals := [.one (.cst (.row 1)), .one (.cst (.ptr 2 0)), .one (.fl .int), .one (.fl .int)], objs := [.row .addr 24 false, .row .lease 49 false, .blk [.fl .bool, .fl .u64, .fl .u64, .fl .int, .cst (.row 0)] 29 true] }, exits := [⟨some 0, { keep := [7], vals := [.one (.fl .int)], objs := [.row .addr 24 false, .row .lease 49 false] }⟩] }
noncomputable def R_CheckOf_env : Env := mkEnv ty fnB [(14, R_CheckPool_con), (7, R_CheckLeases_con), (27, R_HasAddr_con), (18, R_WhoAt_con)] [(5, (loopTr R_CheckOf_L5_S (loopN R_CheckOf_L5 FUEL)))]
theorem R_CheckOf_envOk : EnvOk Try.prog R_CheckOf_env := envOk tyOk fn_ok (callsCons R_CheckPool_ok (callsCons R_CheckLeases_ok (callsCons R_HasAddr_ok (callsCons R_WhoAt_ok callsNil)))) _
theorem R_CheckOf_L5_ok : LOk Try.prog (nthLoop (codeOf Try.f8) 0) (loopTr R_CheckOf_L5_S (loopN R_CheckOf_L5 FUEL)) := by
  have h : loopsOf (nthLoop (codeOf Try.f8) 0) = [] := by kernel_rfl
  refine loop_ok R_CheckOf_envOk (loopsOk h lsNil) R_CheckOf_L5_S R_CheckOf_L5 FUEL (fun rec x => ?_)
  kernel_rfl
noncomputable def R_CheckOf_con : Con := con [.agg [.fl .pfx, .row .addr 24], .one (.row .lease 49), .one (.fl .int)] [.one (.fl .int)] (fun x => R_CheckOf_t x.1.1 x.1.2.1 x.2.1 x.2.2.1)
theorem R_CheckOf_ok : TrOk Try.prog 8 R_CheckOf_con := by
  have h : loopsOf (codeOf Try.f8) = [(nthLoop (codeOf Try.f8) 0)] := by kernel_rfl
  refine con_ok R_CheckOf_envOk Try.func8 (bodyOk h (lsCons (one_loop (t := (loopTr R_CheckOf_L5_S (loopN R_CheckOf_L5 FUEL))) (by kernel_rfl) R_CheckOf_L5_ok) lsNil)) [.agg [.fl .pfx, .row .addr 24], .one (.row .lease 49), .one (.fl .int)] [.one (.fl .int)] _ (fun x => ?_)
  kernel_rfl

def R_LiveOf_L3_S : LoopS := { n := 28, base := 1, head := { keep := [0, 1, 5, 6], vals := [.one (.cst (.row 0)), .one (.fl .int), .one (.cst (.row 1)), .one (.fl .int)], objs := [.row .lease 49 false, .row .lease 49 true] }, exits := [⟨some 0, { keep := [5], vals := [.one (.cst (.row 1))], objs := [.row .lease 49 false, .row .lease 49 true] }⟩] }
noncomputable def R_LiveOf_env : Env := mkEnv ty fnB [] [(3, (loopTr R_LiveOf_L3_S (loopN R_LiveOf_L3 FUEL)))]
theorem R_LiveOf_envOk : EnvOk Try.prog R_LiveOf_env := envOk tyOk fn_ok callsNil _
theorem R_LiveOf_L3_ok : LOk Try.prog (nthLoop (codeOf Try.f10) 0) (loopTr R_LiveOf_L3_S (loopN R_LiveOf_L3 FUEL)) := by
  have h : loopsOf (nthLoop (codeOf Try.f10) 0) = [] := by kernel_rfl
  refine loop_ok R_LiveOf_envOk (loopsOk h lsNil) R_LiveOf_L3_S R_LiveOf_L3 FUEL (fun rec x => ?_)
  kernel_rfl
noncomputable def R_LiveOf_con : Con := con [.one (.row .lease 49), .one (.fl .int)] [.one (.row .lease 49)] (fun x => R_LiveOf_t x.1 x.2.1)
theorem R_LiveOf_ok : TrOk Try.prog 10 R_LiveOf_con := by
  have h : loopsOf (codeOf Try.f10) = [(nthLoop (codeOf Try.f10) 0)] := by kernel_rfl
  refine con_ok R_LiveOf_envOk Try.func10 (bodyOk h (lsCons (one_loop (t := (loopTr R_LiveOf_L3_S (loopN R_LiveOf_L3 FUEL))) (by kernel_rfl) R_LiveOf_L3_ok) lsNil)) [.one (.row .lease 49), .one (.fl .int)] [.one (.row .lease 49)] _ (fun x => ?_)
  kernel_rfl

def R_hasAddr_L2_S : LoopS := { n := 18, base := 1, head := { keep := [0, 3, 5], vals := [.one (.cst (.row 0)), .one (.cst (.ptr 1 0)), .one (.fl .int)], objs := [.row .addr 24 false, .blk [.fl .addr] 24 true] }, exits := [⟨none, { keep := [4], vals := [.one (.fl .bool)], objs := [.row .addr 24 false] }⟩, ⟨some 0, { keep := [], vals := [], objs := [.row .addr 24 false] }⟩] }
noncomputable def R_hasAddr_env : Env := mkEnv ty fnB [] [(2, (loopTr R_hasAddr_L2_S (loopN R_hasAddr_L2 FUEL)))]
theorem R_hasAddr_envOk : EnvOk Try.prog R_hasAddr_env := envOk tyOk fn_ok callsNil _
theorem R_hasAddr_L2_ok : LOk Try.prog (nthLoop (codeOf Try.f28) 0) (loopTr R_hasAddr_L2_S (loopN R_hasAddr_L2 FUEL)) := by
  have h : loopsOf (nthLoop (codeOf Try.f28) 0) = [] := by kernel_rfl
  refine loop_ok R_hasAddr_envOk (loopsOk h lsNil) R_hasAddr_L2_S R_hasAddr_L2 FUEL (fun rec x => ?_)
  kernel_rfl
noncomputable def R_hasAddr_con : Con := con [.one (.row .addr 24), .one (.fl .addr)] [.one (.fl .bool)] (fun x => R_hasAddr_t x.1 x.2.1)
theorem R_hasAddr_ok : TrOk Try.prog 28 R_hasAddr_con := by
  have h : loopsOf (codeOf Try.f28) = [(nthLoop (codeOf Try.f28) 0)] := by kernel_rfl
  refine con_ok R_hasAddr_envOk Try.func28 (bodyOk h (lsCons (one_loop (t := (loopTr R_hasAddr_L2_S (loopN R_hasAddr_L2 FUEL))) (by kernel_rfl) R_hasAddr_L2_ok) lsNil)) [.one (.row .addr 24), .one (.fl .addr)] [.one (.fl .bool)] _ (fun x => ?_)
  kernel_rfl

def R_AddrOf_L3_S : LoopS := { n := 39, base := 0, head := { keep := [0, 2, 3, 4], vals := [.one (.fl .str), .one (.cst (.ptr 0 0)), .one (.cst (.ptr 1 0)), .one (.fl .int)], objs := [.blk [.fl .addr] 24 true, .blk [.fl .addr] 24 true] }, exits := [⟨some 0, { keep := [2, 3], vals := [.one (.cst (.ptr 0 0)), .one (.cst (.ptr 1 0))], objs := [.blk [.fl .addr] 24 true, .blk [.fl .addr] 24 true] }⟩] }
noncomputable def R_AddrOf_env : Env := mkEnv ty fnB [] [(3, (loopTr R_AddrOf_L3_S (loopN R_AddrOf_L3 FUEL)))]
theorem R_AddrOf_envOk : EnvOk Try.prog R_AddrOf_env := envOk tyOk fn_ok callsNil _
theorem R_AddrOf_L3_ok : LOk Try.prog (nthLoop (codeOf Try.f51) 0) (loopTr R_AddrOf_L3_S (loopN R_AddrOf_L3 FUEL)) := by
  have h : loopsOf (nthLoop (codeOf Try.f51) 0) = [] := by kernel_rfl
  refine loop_ok R_AddrOf_envOk (loopsOk h lsNil) R_AddrOf_L3_S R_AddrOf_L3 FUEL (fun rec x => ?_)
  kernel_rfl
noncomputable def R_AddrOf_con : Con := con [.one (.fl .str)] [.one (.fl .addr)] (fun x => R_AddrOf_t x.1)
theorem R_AddrOf_ok : TrOk Try.prog 51 R_AddrOf_con := by
  have h : loopsOf (codeOf Try.f51) = [(nthLoop (codeOf Try.f51) 0)] := by kernel_rfl
  refine con_ok R_AddrOf_envOk Try.func51 (bodyOk h (lsCons (one_loop (t := (loopTr R_AddrOf_L3_S (loopN R_AddrOf_L3 FUEL))) (by kernel_rfl) R_AddrOf_L3_ok) lsNil)) [.one (.fl .str)] [.one (.fl .addr)] _ (fun x => ?_)
  kernel_rfl

noncomputable def law_v4_env : Env := mkEnv ty fnB [] []
theorem law_v4_envOk : EnvOk Try.prog law_v4_env := envOk tyOk fn_ok callsNil _
noncomputable def law_v4_con : Con := con [.one (.fl .u64)] [.one (.fl .addr)] (fun x => law_v4_t x.1)
theorem law_v4_ok : TrOk Try.prog 31 law_v4_con := by
  have h : loopsOf (codeOf Try.f31) = [] := by kernel_rfl
  refine con_ok law_v4_envOk Try.func31 (bodyOk h lsNil) [.one (.fl .u64)] [.one (.fl .addr)] _ (fun x => ?_)
  kernel_rfl

noncomputable def law_net_env : Env := mkEnv ty fnB [(31, law_v4_con)] []
theorem law_net_envOk : EnvOk Try.prog law_net_env := envOk tyOk fn_ok (callsCons law_v4_ok callsNil) _
noncomputable def law_net_con : Con := con [.one (.fl .u64), .one (.fl .int)] [.one (.fl .pfx)] (fun x => law_net_t x.1 x.2.1)
theorem law_net_ok : TrOk Try.prog 52 law_net_con := by
  have h : loopsOf (codeOf Try.f52) = [] := by kernel_rfl
  refine con_ok law_net_envOk Try.func52 (bodyOk h lsNil) [.one (.fl .u64), .one (.fl .int)] [.one (.fl .pfx)] _ (fun x => ?_)
  kernel_rfl

noncomputable def law_quad_env : Env := mkEnv ty fnB [(52, law_net_con), (31, law_v4_con)] []
theorem law_quad_envOk : EnvOk Try.prog law_quad_env := envOk tyOk fn_ok (callsCons law_net_ok (callsCons law_v4_ok callsNil)) _
noncomputable def law_quad_con : Con := con [] [.agg [.fl .pfx, .row .addr 24]] (fun x => law_quad_t)
theorem law_quad_ok : TrOk Try.prog 30 law_quad_con := by
  have h : loopsOf (codeOf Try.f30) = [] := by kernel_rfl
  refine con_ok law_quad_envOk Try.func30 (bodyOk h lsNil) [] [.agg [.fl .pfx, .row .addr 24]] _ (fun x => ?_)
  kernel_rfl

def R_SameLeases_L4_S : LoopS := { n := 26, base := 2, head := { keep := [0, 1, 5], vals := [.one (.cst (.row 0)), .one (.cst (.row 1)), .one (.fl .int)], objs := [.row .lease 49 false, .row .lease 49 false] }, exits := [⟨none, { keep := [4], vals := [.one (.fl .bool)], objs := [.row .lease 49 false, .row .lease 49 false] }⟩, ⟨some 0, { keep := [], vals := [], objs := [.row .lease 49 false, .row .lease 49 false] }⟩] }
noncomputable def R_SameLeases_env : Env := mkEnv ty fnB [] [(4, (loopTr R_SameLeases_L4_S (loopN R_SameLeases_L4 FUEL)))]
theorem R_SameLeases_envOk : EnvOk Try.prog R_SameLeases_env := envOk tyOk fn_ok callsNil _
theorem R_SameLeases_L4_ok : LOk Try.prog (nthLoop (codeOf Try.f17) 0) (loopTr R_SameLeases_L4_S (loopN R_SameLeases_L4 FUEL)) := by
  have h : loopsOf (nthLoop (codeOf Try.f17) 0) = [] := by kernel_rfl
  refine loop_ok R_SameLeases_envOk (loopsOk h lsNil) R_SameLeases_L4_S R_SameLeases_L4 FUEL (fun rec x => ?_)
  kernel_rfl
noncomputable def R_SameLeases_con : Con := con [.one (.row .lease 49), .one (.row .lease 49)] [.one (.fl .bool)] (fun x => R_SameLeases_t x.1 x.2.1)
theorem R_SameLeases_ok : TrOk Try.prog 17 R_SameLeases_con := by
  have h : loopsOf (codeOf Try.f17) = [(nthLoop (codeOf Try.f17) 0)] := by kernel_rfl
  refine con_ok R_SameLeases_envOk Try.func17 (bodyOk h (lsCons (one_loop (t := (loopTr R_SameLeases_L4_S (loopN R_SameLeases_L4 FUEL))) (by kernel_rfl) R_SameLeases_L4_ok) lsNil)) [.one (.row .lease 49), .one (.row .lease 49)] [.one (.fl .bool)] _ (fun x => ?_)
  kernel_rfl

noncomputable def law_leasesAre_env : Env := mkEnv ty fnB [(17, R_SameLeases_con)] []
theorem law_leasesAre_envOk : EnvOk Try.prog law_leasesAre_env := envOk tyOk fn_ok (callsCons R_SameLeases_ok callsNil) _
noncomputable def law_leasesAre_con : Con := con [.one (.row .lease 49), .one (.fl .int), .one (.fl .int), .one (.row .lease 49)] [.one (.fl .bool)] (fun x => law_leasesAre_t x.1 x.2.1 x.2.2.1 x.2.2.2.1)
theorem law_leasesAre_ok : TrOk Try.prog 16 law_leasesAre_con := by
  have h : loopsOf (codeOf Try.f16) = [] := by kernel_rfl
  refine con_ok law_leasesAre_envOk Try.func16 (bodyOk h lsNil) [.one (.row .lease 49), .one (.fl .int), .one (.fl .int), .one (.row .lease 49)] [.one (.fl .bool)] _ (fun x => ?_)
  kernel_rfl

end Go.Proofs.Ytjadfkpajjlgkaa
