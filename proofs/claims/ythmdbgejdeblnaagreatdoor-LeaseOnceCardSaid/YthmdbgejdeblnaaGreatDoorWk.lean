/-
  The program's functions come to their plain forms. Written by a program of mine.
-/
import Derived.Test.YthmdbgejdeblnaaGreatDoorTy
import Derived.Test.YthmdbgejdeblnaaGreatDoorPl
namespace Go.Proofs.YthmdbgejdeblnaaGreatDoor
open Go Go.Ma
noncomputable def law_v4_env : Env := mkEnv ty fnB [] []
theorem law_v4_envOk : EnvOk Tryz.prog law_v4_env := envOk tyOk fn_ok callsNil _
noncomputable def law_v4_con : Con := con [.one (.fl .u64)] [.one (.fl .addr)] (fun x => law_v4_t x.1)
theorem law_v4_ok : TrOk Tryz.prog 18 law_v4_con := by
  have h : loopsOf (codeOf Tryz.f18) = [] := by kernel_rfl
  refine con_ok law_v4_envOk Tryz.func18 (bodyOk h lsNil) [.one (.fl .u64)] [.one (.fl .addr)] _ (fun x => ?_)
  kernel_rfl

noncomputable def law_net_env : Env := mkEnv ty fnB [(18, law_v4_con)] []
theorem law_net_envOk : EnvOk Tryz.prog law_net_env := envOk tyOk fn_ok (callsCons law_v4_ok callsNil) _
noncomputable def law_net_con : Con := con [.one (.fl .u64), .one (.fl .int)] [.one (.fl .pfx)] (fun x => law_net_t x.1 x.2.1)
theorem law_net_ok : TrOk Tryz.prog 35 law_net_con := by
  have h : loopsOf (codeOf Tryz.f35) = [] := by kernel_rfl
  refine con_ok law_net_envOk Tryz.func35 (bodyOk h lsNil) [.one (.fl .u64), .one (.fl .int)] [.one (.fl .pfx)] _ (fun x => ?_)
  kernel_rfl

noncomputable def law_quad_env : Env := mkEnv ty fnB [(35, law_net_con), (18, law_v4_con)] []
theorem law_quad_envOk : EnvOk Tryz.prog law_quad_env := envOk tyOk fn_ok (callsCons law_net_ok (callsCons law_v4_ok callsNil)) _
noncomputable def law_quad_con : Con := con [] [.agg [.fl .pfx, .row .addr 24]] (fun x => law_quad_t)
theorem law_quad_ok : TrOk Tryz.prog 15 law_quad_con := by
  have h : loopsOf (codeOf Tryz.f15) = [] := by kernel_rfl
  refine con_ok law_quad_envOk Tryz.func15 (bodyOk h lsNil) [] [.agg [.fl .pfx, .row .addr 24]] _ (fun x => ?_)
  kernel_rfl

noncomputable def addr_Check_env : Env := mkEnv ty fnB [] []
theorem addr_Check_envOk : EnvOk Tryz.prog addr_Check_env := envOk tyOk fn_ok callsNil _
noncomputable def addr_Check_con : Con := con [.one (.fl .addr)] [.one (.fl .int)] (fun x => addr_Check_t x.1)
theorem addr_Check_ok : TrOk Tryz.prog 43 addr_Check_con := by
  have h : loopsOf (codeOf Tryz.f43) = [] := by kernel_rfl
  refine con_ok addr_Check_envOk Tryz.func43 (bodyOk h lsNil) [.one (.fl .addr)] [.one (.fl .int)] _ (fun x => ?_)
  kernel_rfl

noncomputable def prefix_Wide_env : Env := mkEnv ty fnB [] []
theorem prefix_Wide_envOk : EnvOk Tryz.prog prefix_Wide_env := envOk tyOk fn_ok callsNil _
noncomputable def prefix_Wide_con : Con := con [.one (.fl .addr)] [.one (.fl .int)] (fun x => prefix_Wide_t x.1)
theorem prefix_Wide_ok : TrOk Tryz.prog 64 prefix_Wide_con := by
  have h : loopsOf (codeOf Tryz.f64) = [] := by kernel_rfl
  refine con_ok prefix_Wide_envOk Tryz.func64 (bodyOk h lsNil) [.one (.fl .addr)] [.one (.fl .int)] _ (fun x => ?_)
  kernel_rfl

noncomputable def prefix_mask_env : Env := mkEnv ty fnB [(64, prefix_Wide_con)] []
theorem prefix_mask_envOk : EnvOk Tryz.prog prefix_mask_env := envOk tyOk fn_ok (callsCons prefix_Wide_ok callsNil) _
noncomputable def prefix_mask_con : Con := con [.one (.fl .addr), .one (.fl .int)] [.one (.fl .addr)] (fun x => prefix_mask_t x.1 x.2.1)
theorem prefix_mask_ok : TrOk Tryz.prog 80 prefix_mask_con := by
  have h : loopsOf (codeOf Tryz.f80) = [] := by kernel_rfl
  refine con_ok prefix_mask_envOk Tryz.func80 (bodyOk h lsNil) [.one (.fl .addr), .one (.fl .int)] [.one (.fl .addr)] _ (fun x => ?_)
  kernel_rfl

noncomputable def prefix_Cut_env : Env := mkEnv ty fnB [(80, prefix_mask_con)] []
theorem prefix_Cut_envOk : EnvOk Tryz.prog prefix_Cut_env := envOk tyOk fn_ok (callsCons prefix_mask_ok callsNil) _
noncomputable def prefix_Cut_con : Con := con [.one (.fl .addr), .one (.fl .int)] [.one (.fl .addr)] (fun x => prefix_Cut_t x.1 x.2.1)
theorem prefix_Cut_ok : TrOk Tryz.prog 49 prefix_Cut_con := by
  have h : loopsOf (codeOf Tryz.f49) = [] := by kernel_rfl
  refine con_ok prefix_Cut_envOk Tryz.func49 (bodyOk h lsNil) [.one (.fl .addr), .one (.fl .int)] [.one (.fl .addr)] _ (fun x => ?_)
  kernel_rfl

noncomputable def prefix_Check_env : Env := mkEnv ty fnB [(43, addr_Check_con), (64, prefix_Wide_con), (49, prefix_Cut_con)] []
theorem prefix_Check_envOk : EnvOk Tryz.prog prefix_Check_env := envOk tyOk fn_ok (callsCons addr_Check_ok (callsCons prefix_Wide_ok (callsCons prefix_Cut_ok callsNil))) _
noncomputable def prefix_Check_con : Con := con [.one (.fl .pfx)] [.one (.fl .int)] (fun x => prefix_Check_t x.1)
theorem prefix_Check_ok : TrOk Tryz.prog 40 prefix_Check_con := by
  have h : loopsOf (codeOf Tryz.f40) = [] := by kernel_rfl
  refine con_ok prefix_Check_envOk Tryz.func40 (bodyOk h lsNil) [.one (.fl .pfx)] [.one (.fl .int)] _ (fun x => ?_)
  kernel_rfl

noncomputable def lease_Narrow_env : Env := mkEnv ty fnB [(64, prefix_Wide_con)] []
theorem lease_Narrow_envOk : EnvOk Tryz.prog lease_Narrow_env := envOk tyOk fn_ok (callsCons prefix_Wide_ok callsNil) _
noncomputable def lease_Narrow_con : Con := con [.one (.fl .pfx)] [.one (.fl .bool)] (fun x => lease_Narrow_t x.1)
theorem lease_Narrow_ok : TrOk Tryz.prog 42 lease_Narrow_con := by
  have h : loopsOf (codeOf Tryz.f42) = [] := by kernel_rfl
  refine con_ok lease_Narrow_envOk Tryz.func42 (bodyOk h lsNil) [.one (.fl .pfx)] [.one (.fl .bool)] _ (fun x => ?_)
  kernel_rfl

noncomputable def prefix_Holds_env : Env := mkEnv ty fnB [(49, prefix_Cut_con)] []
theorem prefix_Holds_envOk : EnvOk Tryz.prog prefix_Holds_env := envOk tyOk fn_ok (callsCons prefix_Cut_ok callsNil) _
noncomputable def prefix_Holds_con : Con := con [.one (.fl .pfx), .one (.fl .addr)] [.one (.fl .bool)] (fun x => prefix_Holds_t x.1 x.2.1)
theorem prefix_Holds_ok : TrOk Tryz.prog 24 prefix_Holds_con := by
  have h : loopsOf (codeOf Tryz.f24) = [] := by kernel_rfl
  refine con_ok prefix_Holds_envOk Tryz.func24 (bodyOk h lsNil) [.one (.fl .pfx), .one (.fl .addr)] [.one (.fl .bool)] _ (fun x => ?_)
  kernel_rfl

noncomputable def addr_Order_1_env : Env := mkEnv ty fnB [] []
theorem addr_Order_1_envOk : EnvOk Tryz.prog addr_Order_1_env := envOk tyOk fn_ok callsNil _
noncomputable def addr_Order_1_con : Con := con [.one (.fl .u64), .one (.fl .u64)] [.one (.fl .int)] (fun x => addr_Order_1_t x.1 x.2.1)
theorem addr_Order_1_ok : TrOk Tryz.prog 71 addr_Order_1_con := by
  have h : loopsOf (codeOf Tryz.f71) = [] := by kernel_rfl
  refine con_ok addr_Order_1_envOk Tryz.func71 (bodyOk h lsNil) [.one (.fl .u64), .one (.fl .u64)] [.one (.fl .int)] _ (fun x => ?_)
  kernel_rfl

noncomputable def addr_Order_env : Env := mkEnv ty fnB [(71, addr_Order_1_con)] []
theorem addr_Order_envOk : EnvOk Tryz.prog addr_Order_env := envOk tyOk fn_ok (callsCons addr_Order_1_ok callsNil) _
noncomputable def addr_Order_con : Con := con [.one (.fl .addr), .one (.fl .addr)] [.one (.fl .int)] (fun x => addr_Order_t x.1 x.2.1)
theorem addr_Order_ok : TrOk Tryz.prog 44 addr_Order_con := by
  have h : loopsOf (codeOf Tryz.f44) = [] := by kernel_rfl
  refine con_ok addr_Order_envOk Tryz.func44 (bodyOk h lsNil) [.one (.fl .addr), .one (.fl .addr)] [.one (.fl .int)] _ (fun x => ?_)
  kernel_rfl

def lease_Pool_L7_S : LoopS := { n := 57, base := 1, head := { keep := [1, 24, 25, 26], vals := [.one (.cst (.ptr 1 0)), .one (.cst (.row 0)), .one (.fl .int), .one (.fl .int)], objs := [.row .addr 24 false, .blk [.fl .bool, .fl .u64, .fl .u64, .fl .int, .cst (.row 0)] 29 true] }, exits := [⟨none, { keep := [2], vals := [.one (.fl .int)], objs := [.row .addr 24 false] }⟩, ⟨some 0, { keep := [], vals := [], objs := [.row .addr 24 false] }⟩] }
noncomputable def lease_Pool_env : Env := mkEnv ty fnB [(40, prefix_Check_con), (42, lease_Narrow_con), (43, addr_Check_con), (24, prefix_Holds_con), (44, addr_Order_con)] [(7, (loopTr lease_Pool_L7_S (loopN lease_Pool_L7 FUEL)))]
theorem lease_Pool_envOk : EnvOk Tryz.prog lease_Pool_env := envOk tyOk fn_ok (callsCons prefix_Check_ok (callsCons lease_Narrow_ok (callsCons addr_Check_ok (callsCons prefix_Holds_ok (callsCons addr_Order_ok callsNil))))) _
theorem lease_Pool_L7_ok : LOk Tryz.prog (nthLoop (codeOf Tryz.f17) 0) (loopTr lease_Pool_L7_S (loopN lease_Pool_L7 FUEL)) := by
  have h : loopsOf (nthLoop (codeOf Tryz.f17) 0) = [] := by kernel_rfl
  refine loop_ok lease_Pool_envOk (loopsOk h lsNil) lease_Pool_L7_S lease_Pool_L7 FUEL (fun rec x => ?_)
  kernel_rfl
noncomputable def lease_Pool_con : Con := con [.agg [.fl .pfx, .row .addr 24]] [.one (.fl .int)] (fun x => lease_Pool_t x.1.1 x.1.2.1)
theorem lease_Pool_ok : TrOk Tryz.prog 17 lease_Pool_con := by
  have h : loopsOf (codeOf Tryz.f17) = [(nthLoop (codeOf Tryz.f17) 0)] := by kernel_rfl
  refine con_ok lease_Pool_envOk Tryz.func17 (bodyOk h (lsCons (one_loop (t := (loopTr lease_Pool_L7_S (loopN lease_Pool_L7 FUEL))) (by kernel_rfl) lease_Pool_L7_ok) lsNil)) [.agg [.fl .pfx, .row .addr 24]] [.one (.fl .int)] _ (fun x => ?_)
  kernel_rfl

noncomputable def lease_within_env : Env := mkEnv ty fnB [] []
theorem lease_within_envOk : EnvOk Tryz.prog lease_within_env := envOk tyOk fn_ok callsNil _
noncomputable def lease_within_con : Con := con [.one (.fl .int), .one (.fl .int), .one (.fl .int)] [.one (.fl .bool)] (fun x => lease_within_t x.1 x.2.1 x.2.2.1)
theorem lease_within_ok : TrOk Tryz.prog 28 lease_within_con := by
  have h : loopsOf (codeOf Tryz.f28) = [] := by kernel_rfl
  refine con_ok lease_within_envOk Tryz.func28 (bodyOk h lsNil) [.one (.fl .int), .one (.fl .int), .one (.fl .int)] [.one (.fl .bool)] _ (fun x => ?_)
  kernel_rfl

def lease_Who_L2_S : LoopS := { n := 33, base := 0, head := { keep := [0, 6, 7], vals := [.one (.fl .str), .one (.fl .int), .one (.fl .int)], objs := [] }, exits := [⟨none, { keep := [2], vals := [.one (.fl .bool)], objs := [] }⟩, ⟨some 0, { keep := [0], vals := [.one (.fl .str)], objs := [] }⟩] }
noncomputable def lease_Who_env : Env := mkEnv ty fnB [(28, lease_within_con)] [(2, (loopTr lease_Who_L2_S (loopN lease_Who_L2 FUEL)))]
theorem lease_Who_envOk : EnvOk Tryz.prog lease_Who_env := envOk tyOk fn_ok (callsCons lease_within_ok callsNil) _
theorem lease_Who_L2_ok : LOk Tryz.prog (nthLoop (codeOf Tryz.f27) 0) (loopTr lease_Who_L2_S (loopN lease_Who_L2 FUEL)) := by
  have h : loopsOf (nthLoop (codeOf Tryz.f27) 0) = [] := by kernel_rfl
  refine loop_ok lease_Who_envOk (loopsOk h lsNil) lease_Who_L2_S lease_Who_L2 FUEL (fun rec x => ?_)
  kernel_rfl
noncomputable def lease_Who_con : Con := con [.one (.fl .str)] [.one (.fl .bool)] (fun x => lease_Who_t x.1)
theorem lease_Who_ok : TrOk Tryz.prog 27 lease_Who_con := by
  have h : loopsOf (codeOf Tryz.f27) = [(nthLoop (codeOf Tryz.f27) 0)] := by kernel_rfl
  refine con_ok lease_Who_envOk Tryz.func27 (bodyOk h (lsCons (one_loop (t := (loopTr lease_Who_L2_S (loopN lease_Who_L2 FUEL))) (by kernel_rfl) lease_Who_L2_ok) lsNil)) [.one (.fl .str)] [.one (.fl .bool)] _ (fun x => ?_)
  kernel_rfl

noncomputable def lease_one_env : Env := mkEnv ty fnB [(43, addr_Check_con), (27, lease_Who_con), (28, lease_within_con)] []
theorem lease_one_envOk : EnvOk Tryz.prog lease_one_env := envOk tyOk fn_ok (callsCons addr_Check_ok (callsCons lease_Who_ok (callsCons lease_within_ok callsNil))) _
noncomputable def lease_one_con : Con := con [.one (.fl .lease)] [.one (.fl .int)] (fun x => lease_one_t x.1)
theorem lease_one_ok : TrOk Tryz.prog 48 lease_one_con := by
  have h : loopsOf (codeOf Tryz.f48) = [] := by kernel_rfl
  refine con_ok lease_one_envOk Tryz.func48 (bodyOk h lsNil) [.one (.fl .lease)] [.one (.fl .int)] _ (fun x => ?_)
  kernel_rfl

def lease_All_L4_S : LoopS := { n := 46, base := 1, head := { keep := [0, 1, 12, 13, 14], vals := [.one (.cst (.row 0)), .one (.fl .int), .one (.cst (.row 0)), .one (.fl .int), .one (.fl .int)], objs := [.row .lease 40 false] }, exits := [⟨none, { keep := [4], vals := [.one (.fl .int)], objs := [.row .lease 40 false] }⟩, ⟨some 0, { keep := [0, 1], vals := [.one (.cst (.row 0)), .one (.fl .int)], objs := [.row .lease 40 false] }⟩] }
def lease_All_L11_S : LoopS := { n := 46, base := 1, head := { keep := [0, 1, 8], vals := [.one (.cst (.row 0)), .one (.fl .int), .one (.fl .int)], objs := [.row .lease 40 false] }, exits := [⟨none, { keep := [4], vals := [.one (.fl .int)], objs := [.row .lease 40 false] }⟩, ⟨some 2, { keep := [1], vals := [.one (.fl .int)], objs := [.row .lease 40 false] }⟩] }
noncomputable def lease_All_env : Env := mkEnv ty fnB [(48, lease_one_con), (44, addr_Order_con), (28, lease_within_con)] [(4, (loopTr lease_All_L4_S (loopN lease_All_L4 FUEL))), (11, (loopTr lease_All_L11_S (loopN lease_All_L11 FUEL)))]
theorem lease_All_envOk : EnvOk Tryz.prog lease_All_env := envOk tyOk fn_ok (callsCons lease_one_ok (callsCons addr_Order_ok (callsCons lease_within_ok callsNil))) _
theorem lease_All_L11_ok : LOk Tryz.prog (nthLoop (codeOf Tryz.f23) 1) (loopTr lease_All_L11_S (loopN lease_All_L11 FUEL)) := by
  have h : loopsOf (nthLoop (codeOf Tryz.f23) 1) = [] := by kernel_rfl
  refine loop_ok lease_All_envOk (loopsOk h lsNil) lease_All_L11_S lease_All_L11 FUEL (fun rec x => ?_)
  kernel_rfl
theorem lease_All_L4_ok : LOk Tryz.prog (nthLoop (codeOf Tryz.f23) 0) (loopTr lease_All_L4_S (loopN lease_All_L4 FUEL)) := by
  have h : loopsOf (nthLoop (codeOf Tryz.f23) 0) = [] := by kernel_rfl
  refine loop_ok lease_All_envOk (loopsOk h lsNil) lease_All_L4_S lease_All_L4 FUEL (fun rec x => ?_)
  kernel_rfl
noncomputable def lease_All_con : Con := con [.one (.row .lease 40), .one (.fl .int)] [.one (.fl .int)] (fun x => lease_All_t x.1 x.2.1)
theorem lease_All_ok : TrOk Tryz.prog 23 lease_All_con := by
  have h : loopsOf (codeOf Tryz.f23) = [(nthLoop (codeOf Tryz.f23) 0), (nthLoop (codeOf Tryz.f23) 1)] := by kernel_rfl
  refine con_ok lease_All_envOk Tryz.func23 (bodyOk h (lsCons (one_loop (t := (loopTr lease_All_L4_S (loopN lease_All_L4 FUEL))) (by kernel_rfl) lease_All_L4_ok) (lsCons (one_loop (t := (loopTr lease_All_L11_S (loopN lease_All_L11 FUEL))) (by kernel_rfl) lease_All_L11_ok) lsNil))) [.one (.row .lease 40), .one (.fl .int)] [.one (.fl .int)] _ (fun x => ?_)
  kernel_rfl

noncomputable def slices_Clone___api_Lease_api_Lease__env : Env := mkEnv ty fnB [] []
theorem slices_Clone___api_Lease_api_Lease__envOk : EnvOk Tryz.prog slices_Clone___api_Lease_api_Lease__env := envOk tyOk fn_ok callsNil _
noncomputable def slices_Clone___api_Lease_api_Lease__con : Con := con [.one (.row .lease 40)] [.one (.row .lease 40)] (fun x => slices_Clone___api_Lease_api_Lease__t x.1)
theorem slices_Clone___api_Lease_api_Lease__ok : TrOk Tryz.prog 69 slices_Clone___api_Lease_api_Lease__con := by
  have h : loopsOf (codeOf Tryz.f69) = [] := by kernel_rfl
  refine con_ok slices_Clone___api_Lease_api_Lease__envOk Tryz.func69 (bodyOk h lsNil) [.one (.row .lease 40)] [.one (.row .lease 40)] _ (fun x => ?_)
  kernel_rfl

noncomputable def lease_Live_1_env : Env := mkEnv ty fnB [] []
theorem lease_Live_1_envOk : EnvOk Tryz.prog lease_Live_1_env := envOk tyOk fn_ok callsNil _
noncomputable def lease_Live_1_con : Con := con [.one (.fl .lease), .ref [.fl .int] 3] [.one (.fl .bool)] (fun x => lease_Live_1_t x.1 x.2.1.1)
theorem lease_Live_1_ok : TrOk Tryz.prog 70 lease_Live_1_con := by
  have h : loopsOf (codeOf Tryz.f70) = [] := by kernel_rfl
  refine con_ok lease_Live_1_envOk Tryz.func70 (bodyOk h lsNil) [.one (.fl .lease), .ref [.fl .int] 3] [.one (.fl .bool)] _ (fun x => ?_)
  kernel_rfl

def lease_Live_slices_DeleteFunc___api_Lease_api_Lease__slices_IndexFunc___api_Lease_api_Lease__L2_S : LoopS := { n := 19, base := 5, head := { keep := [0, 1, 7, 8], vals := [.one (.cst (.row 3)), .one (.cst (.fn 70 [.ptr 1 0])), .one (.fl .int), .one (.fl .int)], objs := [.row .lease 40 false, .blk [.fl .int] 3 true, .row .lease 40 true, .row .lease 40 true, .row .lease 40 true] }, exits := [⟨none, { keep := [4], vals := [.one (.fl .int)], objs := [.row .lease 40 false, .blk [.fl .int] 3 true, .row .lease 40 true, .row .lease 40 true, .row .lease 40 true] }⟩, ⟨some 0, { keep := [], vals := [], objs := [.row .lease 40 false, .blk [.fl .int] 3 true, .row .lease 40 true, .row .lease 40 true, .row .lease 40 true] }⟩] }
noncomputable def lease_Live_slices_DeleteFunc___api_Lease_api_Lease__slices_IndexFunc___api_Lease_api_Lease__env : Env := mkEnv ty fnB [(70, lease_Live_1_con)] [(2, (loopTr lease_Live_slices_DeleteFunc___api_Lease_api_Lease__slices_IndexFunc___api_Lease_api_Lease__L2_S (loopN lease_Live_slices_DeleteFunc___api_Lease_api_Lease__slices_IndexFunc___api_Lease_api_Lease__L2 FUEL)))]
theorem lease_Live_slices_DeleteFunc___api_Lease_api_Lease__slices_IndexFunc___api_Lease_api_Lease__envOk : EnvOk Tryz.prog lease_Live_slices_DeleteFunc___api_Lease_api_Lease__slices_IndexFunc___api_Lease_api_Lease__env := envOk tyOk fn_ok (callsCons lease_Live_1_ok callsNil) _
theorem lease_Live_slices_DeleteFunc___api_Lease_api_Lease__slices_IndexFunc___api_Lease_api_Lease__L2_ok : LOk Tryz.prog (nthLoop (codeOf Tryz.f52) 0) (loopTr lease_Live_slices_DeleteFunc___api_Lease_api_Lease__slices_IndexFunc___api_Lease_api_Lease__L2_S (loopN lease_Live_slices_DeleteFunc___api_Lease_api_Lease__slices_IndexFunc___api_Lease_api_Lease__L2 FUEL)) := by
  have h : loopsOf (nthLoop (codeOf Tryz.f52) 0) = [] := by kernel_rfl
  refine loop_ok lease_Live_slices_DeleteFunc___api_Lease_api_Lease__slices_IndexFunc___api_Lease_api_Lease__envOk (loopsOk h lsNil) lease_Live_slices_DeleteFunc___api_Lease_api_Lease__slices_IndexFunc___api_Lease_api_Lease__L2_S lease_Live_slices_DeleteFunc___api_Lease_api_Lease__slices_IndexFunc___api_Lease_api_Lease__L2 FUEL (fun rec x => ?_)
  kernel_rfl
theorem lease_Live_slices_DeleteFunc___api_Lease_api_Lease__slices_IndexFunc___api_Lease_api_Lease__inl : TrOk Tryz.prog 52 (inlCon lease_Live_slices_DeleteFunc___api_Lease_api_Lease__slices_IndexFunc___api_Lease_api_Lease__env Tryz.f52) := by
  have h : loopsOf (codeOf Tryz.f52) = [(nthLoop (codeOf Tryz.f52) 0)] := by kernel_rfl
  exact inl_ok lease_Live_slices_DeleteFunc___api_Lease_api_Lease__slices_IndexFunc___api_Lease_api_Lease__envOk Tryz.func52 (bodyOk h (lsCons (one_loop (t := (loopTr lease_Live_slices_DeleteFunc___api_Lease_api_Lease__slices_IndexFunc___api_Lease_api_Lease__L2_S (loopN lease_Live_slices_DeleteFunc___api_Lease_api_Lease__slices_IndexFunc___api_Lease_api_Lease__L2 FUEL))) (by kernel_rfl) lease_Live_slices_DeleteFunc___api_Lease_api_Lease__slices_IndexFunc___api_Lease_api_Lease__L2_ok) lsNil))

def lease_Live_slices_DeleteFunc___api_Lease_api_Lease__L5_S : LoopS := { n := 42, base := 4, head := { keep := [0, 1, 5, 6], vals := [.one (.cst (.row 3)), .one (.cst (.fn 70 [.ptr 1 0])), .one (.fl .int), .one (.fl .int)], objs := [.row .lease 40 false, .blk [.fl .int] 3 true, .row .lease 40 true, .row .lease 40 true] }, exits := [⟨some 0, { keep := [0, 5], vals := [.one (.cst (.row 3)), .one (.fl .int)], objs := [.row .lease 40 false, .blk [.fl .int] 3 true, .row .lease 40 true, .row .lease 40 true] }⟩] }
noncomputable def lease_Live_slices_DeleteFunc___api_Lease_api_Lease__env : Env := mkEnv ty fnB [(70, lease_Live_1_con), (52, (inlCon lease_Live_slices_DeleteFunc___api_Lease_api_Lease__slices_IndexFunc___api_Lease_api_Lease__env Tryz.f52))] [(5, (loopTr lease_Live_slices_DeleteFunc___api_Lease_api_Lease__L5_S (loopN lease_Live_slices_DeleteFunc___api_Lease_api_Lease__L5 FUEL)))]
theorem lease_Live_slices_DeleteFunc___api_Lease_api_Lease__envOk : EnvOk Tryz.prog lease_Live_slices_DeleteFunc___api_Lease_api_Lease__env := envOk tyOk fn_ok (callsCons lease_Live_1_ok (callsCons lease_Live_slices_DeleteFunc___api_Lease_api_Lease__slices_IndexFunc___api_Lease_api_Lease__inl callsNil)) _
theorem lease_Live_slices_DeleteFunc___api_Lease_api_Lease__L5_ok : LOk Tryz.prog (nthLoop (codeOf Tryz.f68) 0) (loopTr lease_Live_slices_DeleteFunc___api_Lease_api_Lease__L5_S (loopN lease_Live_slices_DeleteFunc___api_Lease_api_Lease__L5 FUEL)) := by
  have h : loopsOf (nthLoop (codeOf Tryz.f68) 0) = [] := by kernel_rfl
  refine loop_ok lease_Live_slices_DeleteFunc___api_Lease_api_Lease__envOk (loopsOk h lsNil) lease_Live_slices_DeleteFunc___api_Lease_api_Lease__L5_S lease_Live_slices_DeleteFunc___api_Lease_api_Lease__L5 FUEL (fun rec x => ?_)
  kernel_rfl
theorem lease_Live_slices_DeleteFunc___api_Lease_api_Lease__inl : TrOk Tryz.prog 68 (inlCon lease_Live_slices_DeleteFunc___api_Lease_api_Lease__env Tryz.f68) := by
  have h : loopsOf (codeOf Tryz.f68) = [(nthLoop (codeOf Tryz.f68) 0)] := by kernel_rfl
  exact inl_ok lease_Live_slices_DeleteFunc___api_Lease_api_Lease__envOk Tryz.func68 (bodyOk h (lsCons (one_loop (t := (loopTr lease_Live_slices_DeleteFunc___api_Lease_api_Lease__L5_S (loopN lease_Live_slices_DeleteFunc___api_Lease_api_Lease__L5 FUEL))) (by kernel_rfl) lease_Live_slices_DeleteFunc___api_Lease_api_Lease__L5_ok) lsNil))

noncomputable def lease_Live_env : Env := mkEnv ty fnB [(69, slices_Clone___api_Lease_api_Lease__con), (68, (inlCon lease_Live_slices_DeleteFunc___api_Lease_api_Lease__env Tryz.f68))] []
theorem lease_Live_envOk : EnvOk Tryz.prog lease_Live_env := envOk tyOk fn_ok (callsCons slices_Clone___api_Lease_api_Lease__ok (callsCons lease_Live_slices_DeleteFunc___api_Lease_api_Lease__inl callsNil)) _
noncomputable def lease_Live_con : Con := con [.one (.row .lease 40), .one (.fl .int)] [.one (.row .lease 40)] (fun x => lease_Live_t x.1 x.2.1)
theorem lease_Live_ok : TrOk Tryz.prog 41 lease_Live_con := by
  have h : loopsOf (codeOf Tryz.f41) = [] := by kernel_rfl
  refine con_ok lease_Live_envOk Tryz.func41 (bodyOk h lsNil) [.one (.row .lease 40), .one (.fl .int)] [.one (.row .lease 40)] _ (fun x => ?_)
  kernel_rfl

noncomputable def lease_Raw_1_env : Env := mkEnv ty fnB [] []
theorem lease_Raw_1_envOk : EnvOk Tryz.prog lease_Raw_1_env := envOk tyOk fn_ok callsNil _
noncomputable def lease_Raw_1_con : Con := con [.one (.fl .lease), .ref [.fl .str] 9] [.one (.fl .bool)] (fun x => lease_Raw_1_t x.1 x.2.1.1)
theorem lease_Raw_1_ok : TrOk Tryz.prog 53 lease_Raw_1_con := by
  have h : loopsOf (codeOf Tryz.f53) = [] := by kernel_rfl
  refine con_ok lease_Raw_1_envOk Tryz.func53 (bodyOk h lsNil) [.one (.fl .lease), .ref [.fl .str] 9] [.one (.fl .bool)] _ (fun x => ?_)
  kernel_rfl

noncomputable def prefix_Last_env : Env := mkEnv ty fnB [(80, prefix_mask_con)] []
theorem prefix_Last_envOk : EnvOk Tryz.prog prefix_Last_env := envOk tyOk fn_ok (callsCons prefix_mask_ok callsNil) _
noncomputable def prefix_Last_con : Con := con [.one (.fl .pfx)] [.one (.fl .addr)] (fun x => prefix_Last_t x.1)
theorem prefix_Last_ok : TrOk Tryz.prog 63 prefix_Last_con := by
  have h : loopsOf (codeOf Tryz.f63) = [] := by kernel_rfl
  refine con_ok prefix_Last_envOk Tryz.func63 (bodyOk h lsNil) [.one (.fl .pfx)] [.one (.fl .addr)] _ (fun x => ?_)
  kernel_rfl

noncomputable def addr_After_env : Env := mkEnv ty fnB [] []
theorem addr_After_envOk : EnvOk Tryz.prog addr_After_env := envOk tyOk fn_ok callsNil _
noncomputable def addr_After_con : Con := con [.one (.fl .addr)] [.one (.fl .addr), .one (.fl .bool)] (fun x => addr_After_t x.1)
theorem addr_After_ok : TrOk Tryz.prog 47 addr_After_con := by
  have h : loopsOf (codeOf Tryz.f47) = [] := by kernel_rfl
  refine con_ok addr_After_envOk Tryz.func47 (bodyOk h lsNil) [.one (.fl .addr)] [.one (.fl .addr), .one (.fl .bool)] _ (fun x => ?_)
  kernel_rfl

def slices_Index___api_Addr_api_Addr__L2_S : LoopS := { n := 19, base := 1, head := { keep := [0, 3, 7, 8], vals := [.one (.cst (.row 0)), .one (.cst (.ptr 1 0)), .one (.fl .int), .one (.fl .int)], objs := [.row .addr 24 false, .blk [.fl .addr] 24 true] }, exits := [⟨none, { keep := [4], vals := [.one (.fl .int)], objs := [.row .addr 24 false] }⟩, ⟨some 0, { keep := [], vals := [], objs := [.row .addr 24 false] }⟩] }
noncomputable def slices_Index___api_Addr_api_Addr__env : Env := mkEnv ty fnB [] [(2, (loopTr slices_Index___api_Addr_api_Addr__L2_S (loopN slices_Index___api_Addr_api_Addr__L2 FUEL)))]
theorem slices_Index___api_Addr_api_Addr__envOk : EnvOk Tryz.prog slices_Index___api_Addr_api_Addr__env := envOk tyOk fn_ok callsNil _
theorem slices_Index___api_Addr_api_Addr__L2_ok : LOk Tryz.prog (nthLoop (codeOf Tryz.f114) 0) (loopTr slices_Index___api_Addr_api_Addr__L2_S (loopN slices_Index___api_Addr_api_Addr__L2 FUEL)) := by
  have h : loopsOf (nthLoop (codeOf Tryz.f114) 0) = [] := by kernel_rfl
  refine loop_ok slices_Index___api_Addr_api_Addr__envOk (loopsOk h lsNil) slices_Index___api_Addr_api_Addr__L2_S slices_Index___api_Addr_api_Addr__L2 FUEL (fun rec x => ?_)
  kernel_rfl
noncomputable def slices_Index___api_Addr_api_Addr__con : Con := con [.one (.row .addr 24), .one (.fl .addr)] [.one (.fl .int)] (fun x => slices_Index___api_Addr_api_Addr__t x.1 x.2.1)
theorem slices_Index___api_Addr_api_Addr__ok : TrOk Tryz.prog 114 slices_Index___api_Addr_api_Addr__con := by
  have h : loopsOf (codeOf Tryz.f114) = [(nthLoop (codeOf Tryz.f114) 0)] := by kernel_rfl
  refine con_ok slices_Index___api_Addr_api_Addr__envOk Tryz.func114 (bodyOk h (lsCons (one_loop (t := (loopTr slices_Index___api_Addr_api_Addr__L2_S (loopN slices_Index___api_Addr_api_Addr__L2 FUEL))) (by kernel_rfl) slices_Index___api_Addr_api_Addr__L2_ok) lsNil)) [.one (.row .addr 24), .one (.fl .addr)] [.one (.fl .int)] _ (fun x => ?_)
  kernel_rfl

noncomputable def slices_Contains___api_Addr_api_Addr__env : Env := mkEnv ty fnB [(114, slices_Index___api_Addr_api_Addr__con)] []
theorem slices_Contains___api_Addr_api_Addr__envOk : EnvOk Tryz.prog slices_Contains___api_Addr_api_Addr__env := envOk tyOk fn_ok (callsCons slices_Index___api_Addr_api_Addr__ok callsNil) _
noncomputable def slices_Contains___api_Addr_api_Addr__con : Con := con [.one (.row .addr 24), .one (.fl .addr)] [.one (.fl .bool)] (fun x => slices_Contains___api_Addr_api_Addr__t x.1 x.2.1)
theorem slices_Contains___api_Addr_api_Addr__ok : TrOk Tryz.prog 99 slices_Contains___api_Addr_api_Addr__con := by
  have h : loopsOf (codeOf Tryz.f99) = [] := by kernel_rfl
  refine con_ok slices_Contains___api_Addr_api_Addr__envOk Tryz.func99 (bodyOk h lsNil) [.one (.row .addr 24), .one (.fl .addr)] [.one (.fl .bool)] _ (fun x => ?_)
  kernel_rfl

noncomputable def m_lease_book__taken_1_env : Env := mkEnv ty fnB [] []
theorem m_lease_book__taken_1_envOk : EnvOk Tryz.prog m_lease_book__taken_1_env := envOk tyOk fn_ok callsNil _
noncomputable def m_lease_book__taken_1_con : Con := con [.one (.fl .lease), .ref [.fl .addr] 24] [.one (.fl .bool)] (fun x => m_lease_book__taken_1_t x.1 x.2.1.1)
theorem m_lease_book__taken_1_ok : TrOk Tryz.prog 100 m_lease_book__taken_1_con := by
  have h : loopsOf (codeOf Tryz.f100) = [] := by kernel_rfl
  refine con_ok m_lease_book__taken_1_envOk Tryz.func100 (bodyOk h lsNil) [.one (.fl .lease), .ref [.fl .addr] 24] [.one (.fl .bool)] _ (fun x => ?_)
  kernel_rfl

def m_lease_book__taken_slices_ContainsFunc___api_Lease_api_Lease__slices_IndexFunc___api_Lease_api_Lease__L2_S : LoopS := { n := 19, base := 4, head := { keep := [0, 1, 7, 8], vals := [.one (.cst (.row 2)), .one (.cst (.fn 100 [.ptr 3 0])), .one (.fl .int), .one (.fl .int)], objs := [.blk [.fl .bool, .fl .u64, .fl .u64, .fl .int, .cst (.row 1), .cst (.row 2)] 91 false, .row .addr 24 false, .row .lease 40 false, .blk [.fl .addr] 24 false] }, exits := [⟨none, { keep := [4], vals := [.one (.fl .int)], objs := [.blk [.fl .bool, .fl .u64, .fl .u64, .fl .int, .cst (.row 1), .cst (.row 2)] 91 false, .row .addr 24 false, .row .lease 40 false, .blk [.fl .addr] 24 false] }⟩, ⟨some 0, { keep := [], vals := [], objs := [.blk [.fl .bool, .fl .u64, .fl .u64, .fl .int, .cst (.row 1), .cst (.row 2)] 91 false, .row .addr 24 false, .row .lease 40 false, .blk [.fl .addr] 24 false] }⟩] }
noncomputable def m_lease_book__taken_slices_ContainsFunc___api_Lease_api_Lease__slices_IndexFunc___api_Lease_api_Lease__env : Env := mkEnv ty fnB [(100, m_lease_book__taken_1_con)] [(2, (loopTr m_lease_book__taken_slices_ContainsFunc___api_Lease_api_Lease__slices_IndexFunc___api_Lease_api_Lease__L2_S (loopN m_lease_book__taken_slices_ContainsFunc___api_Lease_api_Lease__slices_IndexFunc___api_Lease_api_Lease__L2 FUEL)))]
theorem m_lease_book__taken_slices_ContainsFunc___api_Lease_api_Lease__slices_IndexFunc___api_Lease_api_Lease__envOk : EnvOk Tryz.prog m_lease_book__taken_slices_ContainsFunc___api_Lease_api_Lease__slices_IndexFunc___api_Lease_api_Lease__env := envOk tyOk fn_ok (callsCons m_lease_book__taken_1_ok callsNil) _
theorem m_lease_book__taken_slices_ContainsFunc___api_Lease_api_Lease__slices_IndexFunc___api_Lease_api_Lease__L2_ok : LOk Tryz.prog (nthLoop (codeOf Tryz.f52) 0) (loopTr m_lease_book__taken_slices_ContainsFunc___api_Lease_api_Lease__slices_IndexFunc___api_Lease_api_Lease__L2_S (loopN m_lease_book__taken_slices_ContainsFunc___api_Lease_api_Lease__slices_IndexFunc___api_Lease_api_Lease__L2 FUEL)) := by
  have h : loopsOf (nthLoop (codeOf Tryz.f52) 0) = [] := by kernel_rfl
  refine loop_ok m_lease_book__taken_slices_ContainsFunc___api_Lease_api_Lease__slices_IndexFunc___api_Lease_api_Lease__envOk (loopsOk h lsNil) m_lease_book__taken_slices_ContainsFunc___api_Lease_api_Lease__slices_IndexFunc___api_Lease_api_Lease__L2_S m_lease_book__taken_slices_ContainsFunc___api_Lease_api_Lease__slices_IndexFunc___api_Lease_api_Lease__L2 FUEL (fun rec x => ?_)
  kernel_rfl
theorem m_lease_book__taken_slices_ContainsFunc___api_Lease_api_Lease__slices_IndexFunc___api_Lease_api_Lease__inl : TrOk Tryz.prog 52 (inlCon m_lease_book__taken_slices_ContainsFunc___api_Lease_api_Lease__slices_IndexFunc___api_Lease_api_Lease__env Tryz.f52) := by
  have h : loopsOf (codeOf Tryz.f52) = [(nthLoop (codeOf Tryz.f52) 0)] := by kernel_rfl
  exact inl_ok m_lease_book__taken_slices_ContainsFunc___api_Lease_api_Lease__slices_IndexFunc___api_Lease_api_Lease__envOk Tryz.func52 (bodyOk h (lsCons (one_loop (t := (loopTr m_lease_book__taken_slices_ContainsFunc___api_Lease_api_Lease__slices_IndexFunc___api_Lease_api_Lease__L2_S (loopN m_lease_book__taken_slices_ContainsFunc___api_Lease_api_Lease__slices_IndexFunc___api_Lease_api_Lease__L2 FUEL))) (by kernel_rfl) m_lease_book__taken_slices_ContainsFunc___api_Lease_api_Lease__slices_IndexFunc___api_Lease_api_Lease__L2_ok) lsNil))

noncomputable def m_lease_book__taken_slices_ContainsFunc___api_Lease_api_Lease__env : Env := mkEnv ty fnB [(52, (inlCon m_lease_book__taken_slices_ContainsFunc___api_Lease_api_Lease__slices_IndexFunc___api_Lease_api_Lease__env Tryz.f52))] []
theorem m_lease_book__taken_slices_ContainsFunc___api_Lease_api_Lease__envOk : EnvOk Tryz.prog m_lease_book__taken_slices_ContainsFunc___api_Lease_api_Lease__env := envOk tyOk fn_ok (callsCons m_lease_book__taken_slices_ContainsFunc___api_Lease_api_Lease__slices_IndexFunc___api_Lease_api_Lease__inl callsNil) _
theorem m_lease_book__taken_slices_ContainsFunc___api_Lease_api_Lease__fl : TrOk Tryz.prog 50 (flCon m_lease_book__taken_slices_ContainsFunc___api_Lease_api_Lease__env Tryz.f50 [.one (.fl .bool)]) := by
  have h : loopsOf (codeOf Tryz.f50) = [] := by kernel_rfl
  exact flCon_ok m_lease_book__taken_slices_ContainsFunc___api_Lease_api_Lease__envOk Tryz.func50 (bodyOk h lsNil) [.one (.fl .bool)] rfl

noncomputable def m_lease_book__taken_env : Env := mkEnv ty fnB [(99, slices_Contains___api_Addr_api_Addr__con), (50, (flCon m_lease_book__taken_slices_ContainsFunc___api_Lease_api_Lease__env Tryz.f50 [.one (.fl .bool)]))] []
theorem m_lease_book__taken_envOk : EnvOk Tryz.prog m_lease_book__taken_env := envOk tyOk fn_ok (callsCons slices_Contains___api_Addr_api_Addr__ok (callsCons m_lease_book__taken_slices_ContainsFunc___api_Lease_api_Lease__fl callsNil)) _
noncomputable def m_lease_book__taken_con : Con := con [.ref [.fl .pfx, .row .addr 24, .row .lease 40] 91, .one (.fl .addr)] [.one (.fl .bool)] (fun x => m_lease_book__taken_t x.1.1 x.1.2.1 x.1.2.2.1 x.2.1)
theorem m_lease_book__taken_ok : TrOk Tryz.prog 82 m_lease_book__taken_con := by
  have h : loopsOf (codeOf Tryz.f82) = [] := by kernel_rfl
  refine con_ok m_lease_book__taken_envOk Tryz.func82 (bodyOk h lsNil) [.ref [.fl .pfx, .row .addr 24, .row .lease 40] 91, .one (.fl .addr)] [.one (.fl .bool)] _ (fun x => ?_)
  kernel_rfl

noncomputable def lease_Raw_2_env : Env := mkEnv ty fnB [(44, addr_Order_con)] []
theorem lease_Raw_2_envOk : EnvOk Tryz.prog lease_Raw_2_env := envOk tyOk fn_ok (callsCons addr_Order_ok callsNil) _
noncomputable def lease_Raw_2_con : Con := con [.one (.fl .lease), .one (.fl .lease)] [.one (.fl .int)] (fun x => lease_Raw_2_t x.1 x.2.1)
theorem lease_Raw_2_ok : TrOk Tryz.prog 56 lease_Raw_2_con := by
  have h : loopsOf (codeOf Tryz.f56) = [] := by kernel_rfl
  refine con_ok lease_Raw_2_envOk Tryz.func56 (bodyOk h lsNil) [.one (.fl .lease), .one (.fl .lease)] [.one (.fl .int)] _ (fun x => ?_)
  kernel_rfl

noncomputable def lease_Drop_env : Env := mkEnv ty fnB [(23, lease_All_con), (41, lease_Live_con)] []
theorem lease_Drop_envOk : EnvOk Tryz.prog lease_Drop_env := envOk tyOk fn_ok (callsCons lease_All_ok (callsCons lease_Live_ok callsNil)) _
noncomputable def lease_Drop_con : Con := con [.one (.row .lease 40), .one (.fl .int)] [.one (.row .lease 40), .one (.fl .int), .one (.fl .int)] (fun x => lease_Drop_t x.1 x.2.1)
theorem lease_Drop_ok : TrOk Tryz.prog 16 lease_Drop_con := by
  have h : loopsOf (codeOf Tryz.f16) = [] := by kernel_rfl
  refine con_ok lease_Drop_envOk Tryz.func16 (bodyOk h lsNil) [.one (.row .lease 40), .one (.fl .int)] [.one (.row .lease 40), .one (.fl .int), .one (.fl .int)] _ (fun x => ?_)
  kernel_rfl

noncomputable def internal_bytealg_Cutover_env : Env := mkEnv ty fnB [] []
theorem internal_bytealg_Cutover_envOk : EnvOk Tryz.prog internal_bytealg_Cutover_env := envOk tyOk fn_ok callsNil _
noncomputable def internal_bytealg_Cutover_con : Con := con [.one (.fl .int)] [.one (.fl .int)] (fun x => internal_bytealg_Cutover_t x.1)
theorem internal_bytealg_Cutover_ok : TrOk Tryz.prog 118 internal_bytealg_Cutover_con := by
  have h : loopsOf (codeOf Tryz.f118) = [] := by kernel_rfl
  refine con_ok internal_bytealg_Cutover_envOk Tryz.func118 (bodyOk h lsNil) [.one (.fl .int)] [.one (.fl .int)] _ (fun x => ?_)
  kernel_rfl

noncomputable def internal_strconv_lower_env : Env := mkEnv ty fnB [] []
theorem internal_strconv_lower_envOk : EnvOk Tryz.prog internal_strconv_lower_env := envOk tyOk fn_ok callsNil _
noncomputable def internal_strconv_lower_con : Con := con [.one (.fl .u8)] [.one (.fl .u8)] (fun x => internal_strconv_lower_t x.1)
theorem internal_strconv_lower_ok : TrOk Tryz.prog 143 internal_strconv_lower_con := by
  have h : loopsOf (codeOf Tryz.f143) = [] := by kernel_rfl
  refine con_ok internal_strconv_lower_envOk Tryz.func143 (bodyOk h lsNil) [.one (.fl .u8)] [.one (.fl .u8)] _ (fun x => ?_)
  kernel_rfl

noncomputable def math_bits_Len64_env : Env := mkEnv ty fnB [] []
theorem math_bits_Len64_envOk : EnvOk Tryz.prog math_bits_Len64_env := envOk tyOk fn_ok callsNil _
noncomputable def math_bits_Len64_con : Con := con [.one (.fl .u64)] [.one (.fl .int)] (fun x => math_bits_Len64_t x.1)
theorem math_bits_Len64_ok : TrOk Tryz.prog 130 math_bits_Len64_con := by
  have h : loopsOf (codeOf Tryz.f130) = [] := by kernel_rfl
  refine con_ok math_bits_Len64_envOk Tryz.func130 (bodyOk h lsNil) [.one (.fl .u64)] [.one (.fl .int)] _ (fun x => ?_)
  kernel_rfl

noncomputable def internal_strconv_log10Pow2_env : Env := mkEnv ty fnB [] []
theorem internal_strconv_log10Pow2_envOk : EnvOk Tryz.prog internal_strconv_log10Pow2_env := envOk tyOk fn_ok callsNil _
noncomputable def internal_strconv_log10Pow2_con : Con := con [.one (.fl .int)] [.one (.fl .int)] (fun x => internal_strconv_log10Pow2_t x.1)
theorem internal_strconv_log10Pow2_ok : TrOk Tryz.prog 129 internal_strconv_log10Pow2_con := by
  have h : loopsOf (codeOf Tryz.f129) = [] := by kernel_rfl
  refine con_ok internal_strconv_log10Pow2_envOk Tryz.func129 (bodyOk h lsNil) [.one (.fl .int)] [.one (.fl .int)] _ (fun x => ?_)
  kernel_rfl

noncomputable def internal_strconv_bool2_int__env : Env := mkEnv ty fnB [] []
theorem internal_strconv_bool2_int__envOk : EnvOk Tryz.prog internal_strconv_bool2_int__env := envOk tyOk fn_ok callsNil _
noncomputable def internal_strconv_bool2_int__con : Con := con [.one (.fl .bool)] [.one (.fl .int)] (fun x => internal_strconv_bool2_int__t x.1)
theorem internal_strconv_bool2_int__ok : TrOk Tryz.prog 131 internal_strconv_bool2_int__con := by
  have h : loopsOf (codeOf Tryz.f131) = [] := by kernel_rfl
  refine con_ok internal_strconv_bool2_int__envOk Tryz.func131 (bodyOk h lsNil) [.one (.fl .bool)] [.one (.fl .int)] _ (fun x => ?_)
  kernel_rfl

noncomputable def internal_strconv_isPowerOfTwo_env : Env := mkEnv ty fnB [] []
theorem internal_strconv_isPowerOfTwo_envOk : EnvOk Tryz.prog internal_strconv_isPowerOfTwo_env := envOk tyOk fn_ok callsNil _
noncomputable def internal_strconv_isPowerOfTwo_con : Con := con [.one (.fl .int)] [.one (.fl .bool)] (fun x => internal_strconv_isPowerOfTwo_t x.1)
theorem internal_strconv_isPowerOfTwo_ok : TrOk Tryz.prog 132 internal_strconv_isPowerOfTwo_con := by
  have h : loopsOf (codeOf Tryz.f132) = [] := by kernel_rfl
  refine con_ok internal_strconv_isPowerOfTwo_envOk Tryz.func132 (bodyOk h lsNil) [.one (.fl .int)] [.one (.fl .bool)] _ (fun x => ?_)
  kernel_rfl

noncomputable def addr_group_env : Env := mkEnv ty fnB [] []
theorem addr_group_envOk : EnvOk Tryz.prog addr_group_env := envOk tyOk fn_ok callsNil _
noncomputable def addr_group_con : Con := con [.one (.fl .addr), .one (.fl .int)] [.one (.fl .u64)] (fun x => addr_group_t x.1 x.2.1)
theorem addr_group_ok : TrOk Tryz.prog 97 addr_group_con := by
  have h : loopsOf (codeOf Tryz.f97) = [] := by kernel_rfl
  refine con_ok addr_group_envOk Tryz.func97 (bodyOk h lsNil) [.one (.fl .addr), .one (.fl .int)] [.one (.fl .u64)] _ (fun x => ?_)
  kernel_rfl

def addr_row_L2_S : LoopS := { n := 21, base := 0, head := { keep := [1, 2, 5], vals := [.one (.fl .int), .one (.cst (.ptr 0 0)), .one (.fl .int)], objs := [.blk [.fl .addr] 24 true] }, exits := [⟨some 0, { keep := [5], vals := [.one (.fl .int)], objs := [] }⟩] }
noncomputable def addr_row_env : Env := mkEnv ty fnB [(97, addr_group_con)] [(2, (loopTr addr_row_L2_S (loopN addr_row_L2 FUEL)))]
theorem addr_row_envOk : EnvOk Tryz.prog addr_row_env := envOk tyOk fn_ok (callsCons addr_group_ok callsNil) _
theorem addr_row_L2_ok : LOk Tryz.prog (nthLoop (codeOf Tryz.f96) 0) (loopTr addr_row_L2_S (loopN addr_row_L2 FUEL)) := by
  have h : loopsOf (nthLoop (codeOf Tryz.f96) 0) = [] := by kernel_rfl
  refine loop_ok addr_row_envOk (loopsOk h lsNil) addr_row_L2_S addr_row_L2 FUEL (fun rec x => ?_)
  kernel_rfl
noncomputable def addr_row_con : Con := con [.one (.fl .addr), .one (.fl .int)] [.one (.fl .int)] (fun x => addr_row_t x.1 x.2.1)
theorem addr_row_ok : TrOk Tryz.prog 96 addr_row_con := by
  have h : loopsOf (codeOf Tryz.f96) = [(nthLoop (codeOf Tryz.f96) 0)] := by kernel_rfl
  refine con_ok addr_row_envOk Tryz.func96 (bodyOk h (lsCons (one_loop (t := (loopTr addr_row_L2_S (loopN addr_row_L2 FUEL))) (by kernel_rfl) addr_row_L2_ok) lsNil)) [.one (.fl .addr), .one (.fl .int)] [.one (.fl .int)] _ (fun x => ?_)
  kernel_rfl

def addr_longest_L3_S : LoopS := { n := 24, base := 0, head := { keep := [1, 4, 5, 8], vals := [.one (.cst (.ptr 0 0)), .one (.fl .int), .one (.fl .int), .one (.fl .int)], objs := [.blk [.fl .addr] 24 true] }, exits := [⟨some 0, { keep := [4, 5], vals := [.one (.fl .int), .one (.fl .int)], objs := [] }⟩] }
noncomputable def addr_longest_env : Env := mkEnv ty fnB [(96, addr_row_con)] [(3, (loopTr addr_longest_L3_S (loopN addr_longest_L3 FUEL)))]
theorem addr_longest_envOk : EnvOk Tryz.prog addr_longest_env := envOk tyOk fn_ok (callsCons addr_row_ok callsNil) _
theorem addr_longest_L3_ok : LOk Tryz.prog (nthLoop (codeOf Tryz.f78) 0) (loopTr addr_longest_L3_S (loopN addr_longest_L3 FUEL)) := by
  have h : loopsOf (nthLoop (codeOf Tryz.f78) 0) = [] := by kernel_rfl
  refine loop_ok addr_longest_envOk (loopsOk h lsNil) addr_longest_L3_S addr_longest_L3 FUEL (fun rec x => ?_)
  kernel_rfl
noncomputable def addr_longest_con : Con := con [.one (.fl .addr)] [.one (.fl .int), .one (.fl .int)] (fun x => addr_longest_t x.1)
theorem addr_longest_ok : TrOk Tryz.prog 78 addr_longest_con := by
  have h : loopsOf (codeOf Tryz.f78) = [(nthLoop (codeOf Tryz.f78) 0)] := by kernel_rfl
  refine con_ok addr_longest_envOk Tryz.func78 (bodyOk h (lsCons (one_loop (t := (loopTr addr_longest_L3_S (loopN addr_longest_L3 FUEL))) (by kernel_rfl) addr_longest_L3_ok) lsNil)) [.one (.fl .addr)] [.one (.fl .int), .one (.fl .int)] _ (fun x => ?_)
  kernel_rfl

noncomputable def addr_Next_env : Env := mkEnv ty fnB [(43, addr_Check_con), (47, addr_After_con)] []
theorem addr_Next_envOk : EnvOk Tryz.prog addr_Next_env := envOk tyOk fn_ok (callsCons addr_Check_ok (callsCons addr_After_ok callsNil)) _
noncomputable def addr_Next_con : Con := con [.one (.fl .addr)] [.one (.fl .addr), .one (.fl .bool), .one (.fl .int)] (fun x => addr_Next_t x.1)
theorem addr_Next_ok : TrOk Tryz.prog 21 addr_Next_con := by
  have h : loopsOf (codeOf Tryz.f21) = [] := by kernel_rfl
  refine con_ok addr_Next_envOk Tryz.func21 (bodyOk h lsNil) [.one (.fl .addr)] [.one (.fl .addr), .one (.fl .bool), .one (.fl .int)] _ (fun x => ?_)
  kernel_rfl

def addr_Less_L2_S : LoopS := { n := 27, base := 0, head := { keep := [2, 3, 11, 12, 13], vals := [.one (.cst (.ptr 0 0)), .one (.cst (.ptr 1 0)), .one (.cst (.row 2)), .one (.fl .int), .one (.fl .int)], objs := [.blk [.fl .addr] 24 true, .blk [.fl .addr] 24 true, .row .addr 24 true] }, exits := [⟨none, { keep := [4, 5], vals := [.one (.fl .bool), .one (.fl .int)], objs := [] }⟩, ⟨some 0, { keep := [2, 3], vals := [.one (.cst (.ptr 0 0)), .one (.cst (.ptr 1 0))], objs := [.blk [.fl .addr] 24 true, .blk [.fl .addr] 24 true] }⟩] }
noncomputable def addr_Less_env : Env := mkEnv ty fnB [(43, addr_Check_con), (44, addr_Order_con)] [(2, (loopTr addr_Less_L2_S (loopN addr_Less_L2 FUEL)))]
theorem addr_Less_envOk : EnvOk Tryz.prog addr_Less_env := envOk tyOk fn_ok (callsCons addr_Check_ok (callsCons addr_Order_ok callsNil)) _
theorem addr_Less_L2_ok : LOk Tryz.prog (nthLoop (codeOf Tryz.f22) 0) (loopTr addr_Less_L2_S (loopN addr_Less_L2 FUEL)) := by
  have h : loopsOf (nthLoop (codeOf Tryz.f22) 0) = [] := by kernel_rfl
  refine loop_ok addr_Less_envOk (loopsOk h lsNil) addr_Less_L2_S addr_Less_L2 FUEL (fun rec x => ?_)
  kernel_rfl
noncomputable def addr_Less_con : Con := con [.one (.fl .addr), .one (.fl .addr)] [.one (.fl .bool), .one (.fl .int)] (fun x => addr_Less_t x.1 x.2.1)
theorem addr_Less_ok : TrOk Tryz.prog 22 addr_Less_con := by
  have h : loopsOf (codeOf Tryz.f22) = [(nthLoop (codeOf Tryz.f22) 0)] := by kernel_rfl
  refine con_ok addr_Less_envOk Tryz.func22 (bodyOk h (lsCons (one_loop (t := (loopTr addr_Less_L2_S (loopN addr_Less_L2 FUEL))) (by kernel_rfl) addr_Less_L2_ok) lsNil)) [.one (.fl .addr), .one (.fl .addr)] [.one (.fl .bool), .one (.fl .int)] _ (fun x => ?_)
  kernel_rfl

noncomputable def R_between_env : Env := mkEnv ty fnB [] []
theorem R_between_envOk : EnvOk Tryz.prog R_between_env := envOk tyOk fn_ok callsNil _
noncomputable def R_between_con : Con := con [.one (.fl .int), .one (.fl .int), .one (.fl .int)] [.one (.fl .bool)] (fun x => R_between_t x.1 x.2.1 x.2.2.1)
theorem R_between_ok : TrOk Tryz.prog 26 R_between_con := by
  have h : loopsOf (codeOf Tryz.f26) = [] := by kernel_rfl
  refine con_ok R_between_envOk Tryz.func26 (bodyOk h lsNil) [.one (.fl .int), .one (.fl .int), .one (.fl .int)] [.one (.fl .bool)] _ (fun x => ?_)
  kernel_rfl

def R_IsWho_L2_S : LoopS := { n := 27, base := 0, head := { keep := [0, 3], vals := [.one (.fl .str), .one (.fl .int)], objs := [] }, exits := [⟨none, { keep := [2], vals := [.one (.fl .bool)], objs := [] }⟩, ⟨some 0, { keep := [0], vals := [.one (.fl .str)], objs := [] }⟩] }
noncomputable def R_IsWho_env : Env := mkEnv ty fnB [(26, R_between_con)] [(2, (loopTr R_IsWho_L2_S (loopN R_IsWho_L2 FUEL)))]
theorem R_IsWho_envOk : EnvOk Tryz.prog R_IsWho_env := envOk tyOk fn_ok (callsCons R_between_ok callsNil) _
theorem R_IsWho_L2_ok : LOk Tryz.prog (nthLoop (codeOf Tryz.f8) 0) (loopTr R_IsWho_L2_S (loopN R_IsWho_L2 FUEL)) := by
  have h : loopsOf (nthLoop (codeOf Tryz.f8) 0) = [] := by kernel_rfl
  refine loop_ok R_IsWho_envOk (loopsOk h lsNil) R_IsWho_L2_S R_IsWho_L2 FUEL (fun rec x => ?_)
  kernel_rfl
noncomputable def R_IsWho_con : Con := con [.one (.fl .str)] [.one (.fl .bool)] (fun x => R_IsWho_t x.1)
theorem R_IsWho_ok : TrOk Tryz.prog 8 R_IsWho_con := by
  have h : loopsOf (codeOf Tryz.f8) = [(nthLoop (codeOf Tryz.f8) 0)] := by kernel_rfl
  refine con_ok R_IsWho_envOk Tryz.func8 (bodyOk h (lsCons (one_loop (t := (loopTr R_IsWho_L2_S (loopN R_IsWho_L2 FUEL))) (by kernel_rfl) R_IsWho_L2_ok) lsNil)) [.one (.fl .str)] [.one (.fl .bool)] _ (fun x => ?_)
  kernel_rfl

def R_WhoAt_L2_S : LoopS := { n := 20, base := 1, head := { keep := [0, 1, 5], vals := [.one (.cst (.row 0)), .one (.fl .str), .one (.fl .int)], objs := [.row .lease 40 false] }, exits := [⟨none, { keep := [4], vals := [.one (.fl .int)], objs := [.row .lease 40 false] }⟩, ⟨some 0, { keep := [], vals := [], objs := [.row .lease 40 false] }⟩] }
noncomputable def R_WhoAt_env : Env := mkEnv ty fnB [] [(2, (loopTr R_WhoAt_L2_S (loopN R_WhoAt_L2 FUEL)))]
theorem R_WhoAt_envOk : EnvOk Tryz.prog R_WhoAt_env := envOk tyOk fn_ok callsNil _
theorem R_WhoAt_L2_ok : LOk Tryz.prog (nthLoop (codeOf Tryz.f9) 0) (loopTr R_WhoAt_L2_S (loopN R_WhoAt_L2 FUEL)) := by
  have h : loopsOf (nthLoop (codeOf Tryz.f9) 0) = [] := by kernel_rfl
  refine loop_ok R_WhoAt_envOk (loopsOk h lsNil) R_WhoAt_L2_S R_WhoAt_L2 FUEL (fun rec x => ?_)
  kernel_rfl
noncomputable def R_WhoAt_con : Con := con [.one (.row .lease 40), .one (.fl .str)] [.one (.fl .int)] (fun x => R_WhoAt_t x.1 x.2.1)
theorem R_WhoAt_ok : TrOk Tryz.prog 9 R_WhoAt_con := by
  have h : loopsOf (codeOf Tryz.f9) = [(nthLoop (codeOf Tryz.f9) 0)] := by kernel_rfl
  refine con_ok R_WhoAt_envOk Tryz.func9 (bodyOk h (lsCons (one_loop (t := (loopTr R_WhoAt_L2_S (loopN R_WhoAt_L2 FUEL))) (by kernel_rfl) R_WhoAt_L2_ok) lsNil)) [.one (.row .lease 40), .one (.fl .str)] [.one (.fl .int)] _ (fun x => ?_)
  kernel_rfl

def R_Bits_L3_S : LoopS := { n := 42, base := 0, head := { keep := [1, 3, 4], vals := [.one (.cst (.ptr 0 0)), .one (.cst (.row 1)), .one (.fl .int)], objs := [.blk [.fl .addr] 24 true, .row .u8 5 true] }, exits := [⟨some 0, { keep := [1, 3], vals := [.one (.cst (.ptr 0 0)), .one (.cst (.row 1))], objs := [.blk [.fl .addr] 24 true, .row .u8 5 true] }⟩] }
def R_Bits_L7_S : LoopS := { n := 42, base := 0, head := { keep := [1, 3, 5], vals := [.one (.cst (.ptr 0 0)), .one (.cst (.row 1)), .one (.fl .int)], objs := [.blk [.fl .addr] 24 true, .row .u8 5 true] }, exits := [⟨some 2, { keep := [1, 3], vals := [.one (.cst (.ptr 0 0)), .one (.cst (.row 1))], objs := [.blk [.fl .addr] 24 true, .row .u8 5 true] }⟩] }
noncomputable def R_Bits_env : Env := mkEnv ty fnB [] [(3, (loopTr R_Bits_L3_S (loopN R_Bits_L3 FUEL))), (7, (loopTr R_Bits_L7_S (loopN R_Bits_L7 FUEL)))]
theorem R_Bits_envOk : EnvOk Tryz.prog R_Bits_env := envOk tyOk fn_ok callsNil _
theorem R_Bits_L7_ok : LOk Tryz.prog (nthLoop (codeOf Tryz.f31) 1) (loopTr R_Bits_L7_S (loopN R_Bits_L7 FUEL)) := by
  have h : loopsOf (nthLoop (codeOf Tryz.f31) 1) = [] := by kernel_rfl
  refine loop_ok R_Bits_envOk (loopsOk h lsNil) R_Bits_L7_S R_Bits_L7 FUEL (fun rec x => ?_)
  kernel_rfl
theorem R_Bits_L3_ok : LOk Tryz.prog (nthLoop (codeOf Tryz.f31) 0) (loopTr R_Bits_L3_S (loopN R_Bits_L3 FUEL)) := by
  have h : loopsOf (nthLoop (codeOf Tryz.f31) 0) = [] := by kernel_rfl
  refine loop_ok R_Bits_envOk (loopsOk h lsNil) R_Bits_L3_S R_Bits_L3 FUEL (fun rec x => ?_)
  kernel_rfl
noncomputable def R_Bits_con : Con := con [.one (.fl .addr)] [.one (.fl .str)] (fun x => R_Bits_t x.1)
theorem R_Bits_ok : TrOk Tryz.prog 31 R_Bits_con := by
  have h : loopsOf (codeOf Tryz.f31) = [(nthLoop (codeOf Tryz.f31) 0), (nthLoop (codeOf Tryz.f31) 1)] := by kernel_rfl
  refine con_ok R_Bits_envOk Tryz.func31 (bodyOk h (lsCons (one_loop (t := (loopTr R_Bits_L3_S (loopN R_Bits_L3 FUEL))) (by kernel_rfl) R_Bits_L3_ok) (lsCons (one_loop (t := (loopTr R_Bits_L7_S (loopN R_Bits_L7 FUEL))) (by kernel_rfl) R_Bits_L7_ok) lsNil))) [.one (.fl .addr)] [.one (.fl .str)] _ (fun x => ?_)
  kernel_rfl

noncomputable def R_wide_env : Env := mkEnv ty fnB [] []
theorem R_wide_envOk : EnvOk Tryz.prog R_wide_env := envOk tyOk fn_ok callsNil _
noncomputable def R_wide_con : Con := con [.one (.fl .addr)] [.one (.fl .int)] (fun x => R_wide_t x.1)
theorem R_wide_ok : TrOk Tryz.prog 58 R_wide_con := by
  have h : loopsOf (codeOf Tryz.f58) = [] := by kernel_rfl
  refine con_ok R_wide_envOk Tryz.func58 (bodyOk h lsNil) [.one (.fl .addr)] [.one (.fl .int)] _ (fun x => ?_)
  kernel_rfl

def R_AddrOf_L3_S : LoopS := { n := 39, base := 0, head := { keep := [0, 2, 3, 4], vals := [.one (.fl .str), .one (.cst (.ptr 0 0)), .one (.cst (.ptr 1 0)), .one (.fl .int)], objs := [.blk [.fl .addr] 24 true, .blk [.fl .addr] 24 true] }, exits := [⟨some 0, { keep := [2, 3], vals := [.one (.cst (.ptr 0 0)), .one (.cst (.ptr 1 0))], objs := [.blk [.fl .addr] 24 true, .blk [.fl .addr] 24 true] }⟩] }
noncomputable def R_AddrOf_env : Env := mkEnv ty fnB [] [(3, (loopTr R_AddrOf_L3_S (loopN R_AddrOf_L3 FUEL)))]
theorem R_AddrOf_envOk : EnvOk Tryz.prog R_AddrOf_env := envOk tyOk fn_ok callsNil _
theorem R_AddrOf_L3_ok : LOk Tryz.prog (nthLoop (codeOf Tryz.f32) 0) (loopTr R_AddrOf_L3_S (loopN R_AddrOf_L3 FUEL)) := by
  have h : loopsOf (nthLoop (codeOf Tryz.f32) 0) = [] := by kernel_rfl
  refine loop_ok R_AddrOf_envOk (loopsOk h lsNil) R_AddrOf_L3_S R_AddrOf_L3 FUEL (fun rec x => ?_)
  kernel_rfl
noncomputable def R_AddrOf_con : Con := con [.one (.fl .str)] [.one (.fl .addr)] (fun x => R_AddrOf_t x.1)
theorem R_AddrOf_ok : TrOk Tryz.prog 32 R_AddrOf_con := by
  have h : loopsOf (codeOf Tryz.f32) = [(nthLoop (codeOf Tryz.f32) 0)] := by kernel_rfl
  refine con_ok R_AddrOf_envOk Tryz.func32 (bodyOk h (lsCons (one_loop (t := (loopTr R_AddrOf_L3_S (loopN R_AddrOf_L3 FUEL))) (by kernel_rfl) R_AddrOf_L3_ok) lsNil)) [.one (.fl .str)] [.one (.fl .addr)] _ (fun x => ?_)
  kernel_rfl

def R_filled_L2_S : LoopS := { n := 23, base := 0, head := { keep := [1, 2, 4, 5], vals := [.one (.fl .str), .one (.cst (.ptr 0 0)), .one (.cst (.ptr 1 0)), .one (.fl .str)], objs := [.blk [.fl .pfx] 26 true, .blk [.fl .addr] 24 true] }, exits := [⟨some 0, { keep := [4, 5], vals := [.one (.cst (.ptr 0 0)), .one (.fl .str)], objs := [.blk [.fl .addr] 24 true] }⟩] }
noncomputable def R_filled_env : Env := mkEnv ty fnB [(31, R_Bits_con), (58, R_wide_con), (32, R_AddrOf_con)] [(2, (loopTr R_filled_L2_S (loopN R_filled_L2 FUEL)))]
theorem R_filled_envOk : EnvOk Tryz.prog R_filled_env := envOk tyOk fn_ok (callsCons R_Bits_ok (callsCons R_wide_ok (callsCons R_AddrOf_ok callsNil))) _
theorem R_filled_L2_ok : LOk Tryz.prog (nthLoop (codeOf Tryz.f30) 0) (loopTr R_filled_L2_S (loopN R_filled_L2 FUEL)) := by
  have h : loopsOf (nthLoop (codeOf Tryz.f30) 0) = [] := by kernel_rfl
  refine loop_ok R_filled_envOk (loopsOk h lsNil) R_filled_L2_S R_filled_L2 FUEL (fun rec x => ?_)
  kernel_rfl
noncomputable def R_filled_con : Con := con [.one (.fl .pfx), .one (.fl .str)] [.one (.fl .addr)] (fun x => R_filled_t x.1 x.2.1)
theorem R_filled_ok : TrOk Tryz.prog 30 R_filled_con := by
  have h : loopsOf (codeOf Tryz.f30) = [(nthLoop (codeOf Tryz.f30) 0)] := by kernel_rfl
  refine con_ok R_filled_envOk Tryz.func30 (bodyOk h (lsCons (one_loop (t := (loopTr R_filled_L2_S (loopN R_filled_L2 FUEL))) (by kernel_rfl) R_filled_L2_ok) lsNil)) [.one (.fl .pfx), .one (.fl .str)] [.one (.fl .addr)] _ (fun x => ?_)
  kernel_rfl

noncomputable def R_LastOf_env : Env := mkEnv ty fnB [(30, R_filled_con)] []
theorem R_LastOf_envOk : EnvOk Tryz.prog R_LastOf_env := envOk tyOk fn_ok (callsCons R_filled_ok callsNil) _
noncomputable def R_LastOf_con : Con := con [.one (.fl .pfx)] [.one (.fl .addr)] (fun x => R_LastOf_t x.1)
theorem R_LastOf_ok : TrOk Tryz.prog 11 R_LastOf_con := by
  have h : loopsOf (codeOf Tryz.f11) = [] := by kernel_rfl
  refine con_ok R_LastOf_envOk Tryz.func11 (bodyOk h lsNil) [.one (.fl .pfx)] [.one (.fl .addr)] _ (fun x => ?_)
  kernel_rfl

def prefix_two_L2_S : LoopS := { n := 18, base := 1, head := { keep := [6, 7, 8], vals := [.one (.cst (.row 0)), .one (.fl .int), .one (.fl .int)], objs := [.row .pfx 26 false] }, exits := [⟨none, { keep := [2], vals := [.one (.fl .int)], objs := [.row .pfx 26 false] }⟩, ⟨some 0, { keep := [], vals := [], objs := [.row .pfx 26 false] }⟩] }
noncomputable def prefix_two_env : Env := mkEnv ty fnB [(40, prefix_Check_con)] [(2, (loopTr prefix_two_L2_S (loopN prefix_two_L2 FUEL)))]
theorem prefix_two_envOk : EnvOk Tryz.prog prefix_two_env := envOk tyOk fn_ok (callsCons prefix_Check_ok callsNil) _
theorem prefix_two_L2_ok : LOk Tryz.prog (nthLoop (codeOf Tryz.f61) 0) (loopTr prefix_two_L2_S (loopN prefix_two_L2 FUEL)) := by
  have h : loopsOf (nthLoop (codeOf Tryz.f61) 0) = [] := by kernel_rfl
  refine loop_ok prefix_two_envOk (loopsOk h lsNil) prefix_two_L2_S prefix_two_L2 FUEL (fun rec x => ?_)
  kernel_rfl
noncomputable def prefix_two_con : Con := con [.one (.row .pfx 26)] [.one (.fl .int)] (fun x => prefix_two_t x.1)
theorem prefix_two_ok : TrOk Tryz.prog 61 prefix_two_con := by
  have h : loopsOf (codeOf Tryz.f61) = [(nthLoop (codeOf Tryz.f61) 0)] := by kernel_rfl
  refine con_ok prefix_two_envOk Tryz.func61 (bodyOk h (lsCons (one_loop (t := (loopTr prefix_two_L2_S (loopN prefix_two_L2 FUEL))) (by kernel_rfl) prefix_two_L2_ok) lsNil)) [.one (.row .pfx 26)] [.one (.fl .int)] _ (fun x => ?_)
  kernel_rfl

noncomputable def prefix_Over_env : Env := mkEnv ty fnB [(24, prefix_Holds_con)] []
theorem prefix_Over_envOk : EnvOk Tryz.prog prefix_Over_env := envOk tyOk fn_ok (callsCons prefix_Holds_ok callsNil) _
noncomputable def prefix_Over_con : Con := con [.one (.fl .pfx), .one (.fl .pfx)] [.one (.fl .bool)] (fun x => prefix_Over_t x.1 x.2.1)
theorem prefix_Over_ok : TrOk Tryz.prog 62 prefix_Over_con := by
  have h : loopsOf (codeOf Tryz.f62) = [] := by kernel_rfl
  refine con_ok prefix_Over_envOk Tryz.func62 (bodyOk h lsNil) [.one (.fl .pfx), .one (.fl .pfx)] [.one (.fl .bool)] _ (fun x => ?_)
  kernel_rfl

noncomputable def prefix_Has_env : Env := mkEnv ty fnB [(61, prefix_two_con), (62, prefix_Over_con)] []
theorem prefix_Has_envOk : EnvOk Tryz.prog prefix_Has_env := envOk tyOk fn_ok (callsCons prefix_two_ok (callsCons prefix_Over_ok callsNil)) _
noncomputable def prefix_Has_con : Con := con [.one (.fl .pfx), .one (.fl .pfx)] [.one (.fl .bool), .one (.fl .int)] (fun x => prefix_Has_t x.1 x.2.1)
theorem prefix_Has_ok : TrOk Tryz.prog 34 prefix_Has_con := by
  have h : loopsOf (codeOf Tryz.f34) = [] := by kernel_rfl
  refine con_ok prefix_Has_envOk Tryz.func34 (bodyOk h lsNil) [.one (.fl .pfx), .one (.fl .pfx)] [.one (.fl .bool), .one (.fl .int)] _ (fun x => ?_)
  kernel_rfl

noncomputable def prefix_Ends_env : Env := mkEnv ty fnB [(40, prefix_Check_con), (63, prefix_Last_con)] []
theorem prefix_Ends_envOk : EnvOk Tryz.prog prefix_Ends_env := envOk tyOk fn_ok (callsCons prefix_Check_ok (callsCons prefix_Last_ok callsNil)) _
noncomputable def prefix_Ends_con : Con := con [.one (.fl .pfx)] [.one (.fl .addr), .one (.fl .addr), .one (.fl .int)] (fun x => prefix_Ends_t x.1)
theorem prefix_Ends_ok : TrOk Tryz.prog 36 prefix_Ends_con := by
  have h : loopsOf (codeOf Tryz.f36) = [] := by kernel_rfl
  refine con_ok prefix_Ends_envOk Tryz.func36 (bodyOk h lsNil) [.one (.fl .pfx)] [.one (.fl .addr), .one (.fl .addr), .one (.fl .int)] _ (fun x => ?_)
  kernel_rfl

noncomputable def prefix_Split_env : Env := mkEnv ty fnB [(63, prefix_Last_con), (47, addr_After_con)] []
theorem prefix_Split_envOk : EnvOk Tryz.prog prefix_Split_env := envOk tyOk fn_ok (callsCons prefix_Last_ok (callsCons addr_After_ok callsNil)) _
noncomputable def prefix_Split_con : Con := con [.one (.fl .pfx)] [.one (.fl .pfx), .one (.fl .pfx)] (fun x => prefix_Split_t x.1)
theorem prefix_Split_ok : TrOk Tryz.prog 65 prefix_Split_con := by
  have h : loopsOf (codeOf Tryz.f65) = [] := by kernel_rfl
  refine con_ok prefix_Split_envOk Tryz.func65 (bodyOk h lsNil) [.one (.fl .pfx)] [.one (.fl .pfx), .one (.fl .pfx)] _ (fun x => ?_)
  kernel_rfl

noncomputable def prefix_Halves_env : Env := mkEnv ty fnB [(40, prefix_Check_con), (64, prefix_Wide_con), (65, prefix_Split_con)] []
theorem prefix_Halves_envOk : EnvOk Tryz.prog prefix_Halves_env := envOk tyOk fn_ok (callsCons prefix_Check_ok (callsCons prefix_Wide_ok (callsCons prefix_Split_ok callsNil))) _
noncomputable def prefix_Halves_con : Con := con [.one (.fl .pfx)] [.one (.fl .pfx), .one (.fl .pfx), .one (.fl .int)] (fun x => prefix_Halves_t x.1)
theorem prefix_Halves_ok : TrOk Tryz.prog 37 prefix_Halves_con := by
  have h : loopsOf (codeOf Tryz.f37) = [] := by kernel_rfl
  refine con_ok prefix_Halves_envOk Tryz.func37 (bodyOk h lsNil) [.one (.fl .pfx)] [.one (.fl .pfx), .one (.fl .pfx), .one (.fl .int)] _ (fun x => ?_)
  kernel_rfl

noncomputable def prefix_Joined_env : Env := mkEnv ty fnB [(49, prefix_Cut_con), (65, prefix_Split_con)] []
theorem prefix_Joined_envOk : EnvOk Tryz.prog prefix_Joined_env := envOk tyOk fn_ok (callsCons prefix_Cut_ok (callsCons prefix_Split_ok callsNil)) _
noncomputable def prefix_Joined_con : Con := con [.one (.fl .pfx), .one (.fl .pfx)] [.one (.fl .pfx), .one (.fl .bool)] (fun x => prefix_Joined_t x.1 x.2.1)
theorem prefix_Joined_ok : TrOk Tryz.prog 66 prefix_Joined_con := by
  have h : loopsOf (codeOf Tryz.f66) = [] := by kernel_rfl
  refine con_ok prefix_Joined_envOk Tryz.func66 (bodyOk h lsNil) [.one (.fl .pfx), .one (.fl .pfx)] [.one (.fl .pfx), .one (.fl .bool)] _ (fun x => ?_)
  kernel_rfl

noncomputable def prefix_Whole_env : Env := mkEnv ty fnB [(61, prefix_two_con), (66, prefix_Joined_con)] []
theorem prefix_Whole_envOk : EnvOk Tryz.prog prefix_Whole_env := envOk tyOk fn_ok (callsCons prefix_two_ok (callsCons prefix_Joined_ok callsNil)) _
noncomputable def prefix_Whole_con : Con := con [.one (.fl .pfx), .one (.fl .pfx)] [.one (.fl .pfx), .one (.fl .int)] (fun x => prefix_Whole_t x.1 x.2.1)
theorem prefix_Whole_ok : TrOk Tryz.prog 38 prefix_Whole_con := by
  have h : loopsOf (codeOf Tryz.f38) = [] := by kernel_rfl
  refine con_ok prefix_Whole_envOk Tryz.func38 (bodyOk h lsNil) [.one (.fl .pfx), .one (.fl .pfx)] [.one (.fl .pfx), .one (.fl .int)] _ (fun x => ?_)
  kernel_rfl

noncomputable def R_HasAddr_env : Env := mkEnv ty fnB [(31, R_Bits_con)] []
theorem R_HasAddr_envOk : EnvOk Tryz.prog R_HasAddr_env := envOk tyOk fn_ok (callsCons R_Bits_ok callsNil) _
noncomputable def R_HasAddr_con : Con := con [.one (.fl .pfx), .one (.fl .addr)] [.one (.fl .bool)] (fun x => R_HasAddr_t x.1 x.2.1)
theorem R_HasAddr_ok : TrOk Tryz.prog 14 R_HasAddr_con := by
  have h : loopsOf (codeOf Tryz.f14) = [] := by kernel_rfl
  refine con_ok R_HasAddr_envOk Tryz.func14 (bodyOk h lsNil) [.one (.fl .pfx), .one (.fl .addr)] [.one (.fl .bool)] _ (fun x => ?_)
  kernel_rfl

end Go.Proofs.YthmdbgejdeblnaaGreatDoor
