/-
  The program's functions come to their plain forms. Written by a program of mine.
-/
import Derived.Test.YtghbkkmelbobcaaTy
import Derived.Test.YtghbkkmelbobcaaPl
namespace Go.Proofs.Ytghbkkmelbobcaa
open Go Go.Ma
noncomputable def addr_Check_env : Env := mkEnv ty fnB [] []
theorem addr_Check_envOk : EnvOk Try.prog addr_Check_env := envOk tyOk fn_ok callsNil _
noncomputable def addr_Check_con : Con := con [.one (.fl .addr)] [.one (.fl .int)] (fun x => addr_Check_t x.1)
theorem addr_Check_ok : TrOk Try.prog 13 addr_Check_con := by
  have h : loopsOf (codeOf Try.f13) = [] := by kernel_rfl
  refine con_ok addr_Check_envOk Try.func13 (bodyOk h lsNil) [.one (.fl .addr)] [.one (.fl .int)] _ (fun x => ?_)
  kernel_rfl

noncomputable def prefix_Wide_env : Env := mkEnv ty fnB [] []
theorem prefix_Wide_envOk : EnvOk Try.prog prefix_Wide_env := envOk tyOk fn_ok callsNil _
noncomputable def prefix_Wide_con : Con := con [.one (.fl .addr)] [.one (.fl .int)] (fun x => prefix_Wide_t x.1)
theorem prefix_Wide_ok : TrOk Try.prog 35 prefix_Wide_con := by
  have h : loopsOf (codeOf Try.f35) = [] := by kernel_rfl
  refine con_ok prefix_Wide_envOk Try.func35 (bodyOk h lsNil) [.one (.fl .addr)] [.one (.fl .int)] _ (fun x => ?_)
  kernel_rfl

noncomputable def prefix_mask_env : Env := mkEnv ty fnB [(35, prefix_Wide_con)] []
theorem prefix_mask_envOk : EnvOk Try.prog prefix_mask_env := envOk tyOk fn_ok (callsCons prefix_Wide_ok callsNil) _
noncomputable def prefix_mask_con : Con := con [.one (.fl .addr), .one (.fl .int)] [.one (.fl .addr)] (fun x => prefix_mask_t x.1 x.2.1)
theorem prefix_mask_ok : TrOk Try.prog 37 prefix_mask_con := by
  have h : loopsOf (codeOf Try.f37) = [] := by kernel_rfl
  refine con_ok prefix_mask_envOk Try.func37 (bodyOk h lsNil) [.one (.fl .addr), .one (.fl .int)] [.one (.fl .addr)] _ (fun x => ?_)
  kernel_rfl

noncomputable def prefix_Cut_env : Env := mkEnv ty fnB [(37, prefix_mask_con)] []
theorem prefix_Cut_envOk : EnvOk Try.prog prefix_Cut_env := envOk tyOk fn_ok (callsCons prefix_mask_ok callsNil) _
noncomputable def prefix_Cut_con : Con := con [.one (.fl .addr), .one (.fl .int)] [.one (.fl .addr)] (fun x => prefix_Cut_t x.1 x.2.1)
theorem prefix_Cut_ok : TrOk Try.prog 27 prefix_Cut_con := by
  have h : loopsOf (codeOf Try.f27) = [] := by kernel_rfl
  refine con_ok prefix_Cut_envOk Try.func27 (bodyOk h lsNil) [.one (.fl .addr), .one (.fl .int)] [.one (.fl .addr)] _ (fun x => ?_)
  kernel_rfl

noncomputable def prefix_Check_env : Env := mkEnv ty fnB [(13, addr_Check_con), (35, prefix_Wide_con), (27, prefix_Cut_con)] []
theorem prefix_Check_envOk : EnvOk Try.prog prefix_Check_env := envOk tyOk fn_ok (callsCons addr_Check_ok (callsCons prefix_Wide_ok (callsCons prefix_Cut_ok callsNil))) _
noncomputable def prefix_Check_con : Con := con [.one (.fl .pfx)] [.one (.fl .int)] (fun x => prefix_Check_t x.1)
theorem prefix_Check_ok : TrOk Try.prog 25 prefix_Check_con := by
  have h : loopsOf (codeOf Try.f25) = [] := by kernel_rfl
  refine con_ok prefix_Check_envOk Try.func25 (bodyOk h lsNil) [.one (.fl .pfx)] [.one (.fl .int)] _ (fun x => ?_)
  kernel_rfl

noncomputable def addr_Order_1_env : Env := mkEnv ty fnB [] []
theorem addr_Order_1_envOk : EnvOk Try.prog addr_Order_1_env := envOk tyOk fn_ok callsNil _
noncomputable def addr_Order_1_con : Con := con [.one (.fl .u64), .one (.fl .u64)] [.one (.fl .int)] (fun x => addr_Order_1_t x.1 x.2.1)
theorem addr_Order_1_ok : TrOk Try.prog 38 addr_Order_1_con := by
  have h : loopsOf (codeOf Try.f38) = [] := by kernel_rfl
  refine con_ok addr_Order_1_envOk Try.func38 (bodyOk h lsNil) [.one (.fl .u64), .one (.fl .u64)] [.one (.fl .int)] _ (fun x => ?_)
  kernel_rfl

noncomputable def addr_Order_env : Env := mkEnv ty fnB [(38, addr_Order_1_con)] []
theorem addr_Order_envOk : EnvOk Try.prog addr_Order_env := envOk tyOk fn_ok (callsCons addr_Order_1_ok callsNil) _
noncomputable def addr_Order_con : Con := con [.one (.fl .addr), .one (.fl .addr)] [.one (.fl .int)] (fun x => addr_Order_t x.1 x.2.1)
theorem addr_Order_ok : TrOk Try.prog 36 addr_Order_con := by
  have h : loopsOf (codeOf Try.f36) = [] := by kernel_rfl
  refine con_ok addr_Order_envOk Try.func36 (bodyOk h lsNil) [.one (.fl .addr), .one (.fl .addr)] [.one (.fl .int)] _ (fun x => ?_)
  kernel_rfl

noncomputable def prefix_Order_env : Env := mkEnv ty fnB [(36, addr_Order_con)] []
theorem prefix_Order_envOk : EnvOk Try.prog prefix_Order_env := envOk tyOk fn_ok (callsCons addr_Order_ok callsNil) _
noncomputable def prefix_Order_con : Con := con [.one (.fl .pfx), .one (.fl .pfx)] [.one (.fl .int)] (fun x => prefix_Order_t x.1 x.2.1)
theorem prefix_Order_ok : TrOk Try.prog 26 prefix_Order_con := by
  have h : loopsOf (codeOf Try.f26) = [] := by kernel_rfl
  refine con_ok prefix_Order_envOk Try.func26 (bodyOk h lsNil) [.one (.fl .pfx), .one (.fl .pfx)] [.one (.fl .int)] _ (fun x => ?_)
  kernel_rfl

def table_Check_L4_S : LoopS := { n := 47, base := 1, head := { keep := [0, 9, 10, 11], vals := [.one (.cst (.row 0)), .one (.cst (.row 0)), .one (.fl .int), .one (.fl .int)], objs := [.row .pfx 37 false] }, exits := [⟨none, { keep := [2], vals := [.one (.fl .int)], objs := [.row .pfx 37 false] }⟩, ⟨some 0, { keep := [], vals := [], objs := [.row .pfx 37 false] }⟩] }
noncomputable def table_Check_env : Env := mkEnv ty fnB [(25, prefix_Check_con), (26, prefix_Order_con)] [(4, loopTr table_Check_L4_S (loopN table_Check_L4 FUEL))]
theorem table_Check_envOk : EnvOk Try.prog table_Check_env := envOk tyOk fn_ok (callsCons prefix_Check_ok (callsCons prefix_Order_ok callsNil)) _
theorem table_Check_L4_ok : LOk Try.prog (nthLoop (codeOf Try.f12) 0) (loopTr table_Check_L4_S (loopN table_Check_L4 FUEL)) := by
  have h : loopsOf (nthLoop (codeOf Try.f12) 0) = [] := by kernel_rfl
  refine loop_ok table_Check_envOk (loopsOk h lsNil) table_Check_L4_S table_Check_L4 FUEL (fun rec x => ?_)
  kernel_rfl
noncomputable def table_Check_con : Con := con [.one (.row .pfx 37)] [.one (.fl .int)] (fun x => table_Check_t x.1)
theorem table_Check_ok : TrOk Try.prog 12 table_Check_con := by
  have h : loopsOf (codeOf Try.f12) = [(nthLoop (codeOf Try.f12) 0)] := by kernel_rfl
  refine con_ok table_Check_envOk Try.func12 (bodyOk h (lsCons (one_loop (t := loopTr table_Check_L4_S (loopN table_Check_L4 FUEL)) (by kernel_rfl) table_Check_L4_ok) lsNil)) [.one (.row .pfx 37)] [.one (.fl .int)] _ (fun x => ?_)
  kernel_rfl

noncomputable def prefix_Holds_env : Env := mkEnv ty fnB [(27, prefix_Cut_con)] []
theorem prefix_Holds_envOk : EnvOk Try.prog prefix_Holds_env := envOk tyOk fn_ok (callsCons prefix_Cut_ok callsNil) _
noncomputable def prefix_Holds_con : Con := con [.one (.fl .pfx), .one (.fl .addr)] [.one (.fl .bool)] (fun x => prefix_Holds_t x.1 x.2.1)
theorem prefix_Holds_ok : TrOk Try.prog 16 prefix_Holds_con := by
  have h : loopsOf (codeOf Try.f16) = [] := by kernel_rfl
  refine con_ok prefix_Holds_envOk Try.func16 (bodyOk h lsNil) [.one (.fl .pfx), .one (.fl .addr)] [.one (.fl .bool)] _ (fun x => ?_)
  kernel_rfl

noncomputable def table_Find_1_env : Env := mkEnv ty fnB [(16, prefix_Holds_con)] []
theorem table_Find_1_envOk : EnvOk Try.prog table_Find_1_env := envOk tyOk fn_ok (callsCons prefix_Holds_ok callsNil) _
noncomputable def table_Find_1_con : Con := con [.one (.fl .int), .ref [.row .pfx 37] 22, .ref [.fl .addr] 25] [.one (.fl .bool)] (fun x => table_Find_1_t x.1 x.2.1.1 x.2.2.1.1)
theorem table_Find_1_ok : TrOk Try.prog 15 table_Find_1_con := by
  have h : loopsOf (codeOf Try.f15) = [] := by kernel_rfl
  refine con_ok table_Find_1_envOk Try.func15 (bodyOk h lsNil) [.one (.fl .int), .ref [.row .pfx 37] 22, .ref [.fl .addr] 25] [.one (.fl .bool)] _ (fun x => ?_)
  kernel_rfl

def table_Find_table_nearest_L3_S : LoopS := { n := 35, base := 3, head := { keep := [0, 1, 5, 8, 9, 10], vals := [.one (.cst (.row 0)), .one (.cst (.fn 15 [.ptr 1 0, .ptr 2 0])), .one (.fl .int), .one (.cst (.row 0)), .one (.fl .int), .one (.fl .int)], objs := [.row .pfx 37 false, .blk [.cst (.row 0)] 22 true, .blk [.fl .addr] 25 true] }, exits := [⟨some 0, { keep := [5], vals := [.one (.fl .int)], objs := [.row .pfx 37 false, .blk [.cst (.row 0)] 22 true, .blk [.fl .addr] 25 true] }⟩] }
noncomputable def table_Find_table_nearest_env : Env := mkEnv ty fnB [(15, table_Find_1_con)] [(3, loopTr table_Find_table_nearest_L3_S (loopN table_Find_table_nearest_L3 FUEL))]
theorem table_Find_table_nearest_envOk : EnvOk Try.prog table_Find_table_nearest_env := envOk tyOk fn_ok (callsCons table_Find_1_ok callsNil) _
theorem table_Find_table_nearest_L3_ok : LOk Try.prog (nthLoop (codeOf Try.f14) 0) (loopTr table_Find_table_nearest_L3_S (loopN table_Find_table_nearest_L3 FUEL)) := by
  have h : loopsOf (nthLoop (codeOf Try.f14) 0) = [] := by kernel_rfl
  refine loop_ok table_Find_table_nearest_envOk (loopsOk h lsNil) table_Find_table_nearest_L3_S table_Find_table_nearest_L3 FUEL (fun rec x => ?_)
  kernel_rfl
theorem table_Find_table_nearest_inl : TrOk Try.prog 14 (inlCon table_Find_table_nearest_env Try.f14) := by
  have h : loopsOf (codeOf Try.f14) = [(nthLoop (codeOf Try.f14) 0)] := by kernel_rfl
  exact inl_ok table_Find_table_nearest_envOk Try.func14 (bodyOk h (lsCons (one_loop (t := loopTr table_Find_table_nearest_L3_S (loopN table_Find_table_nearest_L3 FUEL)) (by kernel_rfl) table_Find_table_nearest_L3_ok) lsNil))

def table_Find_table_nearest_1_L3_S : LoopS := { n := 35, base := 3, head := { keep := [0, 1, 5, 8, 9, 10], vals := [.one (.cst (.row 0)), .one (.cst (.fn 15 [.ptr 1 0, .ptr 2 0])), .one (.fl .int), .one (.cst (.row 0)), .one (.fl .int), .one (.fl .int)], objs := [.row .pfx 37 false, .blk [.cst (.row 0)] 22 true, .blk [.fl .addr] 25 true] }, exits := [⟨some 0, { keep := [5], vals := [.one (.fl .int)], objs := [.row .pfx 37 false, .blk [.cst (.row 0)] 22 true, .blk [.fl .addr] 25 true] }⟩] }
noncomputable def table_Find_table_nearest_1_env : Env := mkEnv ty fnB [(15, table_Find_1_con)] [(3, loopTr table_Find_table_nearest_1_L3_S (loopN table_Find_table_nearest_1_L3 FUEL))]
theorem table_Find_table_nearest_1_envOk : EnvOk Try.prog table_Find_table_nearest_1_env := envOk tyOk fn_ok (callsCons table_Find_1_ok callsNil) _
theorem table_Find_table_nearest_1_L3_ok : LOk Try.prog (nthLoop (codeOf Try.f14) 0) (loopTr table_Find_table_nearest_1_L3_S (loopN table_Find_table_nearest_1_L3 FUEL)) := by
  have h : loopsOf (nthLoop (codeOf Try.f14) 0) = [] := by kernel_rfl
  refine loop_ok table_Find_table_nearest_1_envOk (loopsOk h lsNil) table_Find_table_nearest_1_L3_S table_Find_table_nearest_1_L3 FUEL (fun rec x => ?_)
  kernel_rfl
theorem table_Find_table_nearest_1_inl : TrOk Try.prog 14 (inlCon table_Find_table_nearest_1_env Try.f14) := by
  have h : loopsOf (codeOf Try.f14) = [(nthLoop (codeOf Try.f14) 0)] := by kernel_rfl
  exact inl_ok table_Find_table_nearest_1_envOk Try.func14 (bodyOk h (lsCons (one_loop (t := loopTr table_Find_table_nearest_1_L3_S (loopN table_Find_table_nearest_1_L3 FUEL)) (by kernel_rfl) table_Find_table_nearest_1_L3_ok) lsNil))

noncomputable def table_Find_env : Env := mkEnv ty fnB [(12, table_Check_con), (13, addr_Check_con), (14, (inlCon table_Find_table_nearest_env Try.f14))] []
theorem table_Find_envOk : EnvOk Try.prog table_Find_env := envOk tyOk fn_ok (callsCons table_Check_ok (callsCons addr_Check_ok (callsCons table_Find_table_nearest_inl callsNil))) _
noncomputable def table_Find_con : Con := con [.one (.row .pfx 37), .one (.fl .addr)] [.one (.fl .int), .one (.fl .int)] (fun x => table_Find_t x.1 x.2.1)
theorem table_Find_ok : TrOk Try.prog 4 table_Find_con := by
  have h : loopsOf (codeOf Try.f4) = [] := by kernel_rfl
  refine con_ok table_Find_envOk Try.func4 (bodyOk h lsNil) [.one (.row .pfx 37), .one (.fl .addr)] [.one (.fl .int), .one (.fl .int)] _ (fun x => ?_)
  kernel_rfl

noncomputable def table_ready_env : Env := mkEnv ty fnB [(12, table_Check_con)] []
theorem table_ready_envOk : EnvOk Try.prog table_ready_env := envOk tyOk fn_ok (callsCons table_Check_ok callsNil) _
noncomputable def table_ready_con : Con := con [.one (.row .pfx 37), .one (.fl .int)] [.one (.fl .int)] (fun x => table_ready_t x.1 x.2.1)
theorem table_ready_ok : TrOk Try.prog 17 table_ready_con := by
  have h : loopsOf (codeOf Try.f17) = [] := by kernel_rfl
  refine con_ok table_ready_envOk Try.func17 (bodyOk h lsNil) [.one (.row .pfx 37), .one (.fl .int)] [.one (.fl .int)] _ (fun x => ?_)
  kernel_rfl

noncomputable def prefix_Over_env : Env := mkEnv ty fnB [(16, prefix_Holds_con)] []
theorem prefix_Over_envOk : EnvOk Try.prog prefix_Over_env := envOk tyOk fn_ok (callsCons prefix_Holds_ok callsNil) _
noncomputable def prefix_Over_con : Con := con [.one (.fl .pfx), .one (.fl .pfx)] [.one (.fl .bool)] (fun x => prefix_Over_t x.1 x.2.1)
theorem prefix_Over_ok : TrOk Try.prog 29 prefix_Over_con := by
  have h : loopsOf (codeOf Try.f29) = [] := by kernel_rfl
  refine con_ok prefix_Over_envOk Try.func29 (bodyOk h lsNil) [.one (.fl .pfx), .one (.fl .pfx)] [.one (.fl .bool)] _ (fun x => ?_)
  kernel_rfl

noncomputable def table_above_1_env : Env := mkEnv ty fnB [(29, prefix_Over_con)] []
theorem table_above_1_envOk : EnvOk Try.prog table_above_1_env := envOk tyOk fn_ok (callsCons prefix_Over_ok callsNil) _
noncomputable def table_above_1_con : Con := con [.one (.fl .int), .ref [.fl .int] 3, .ref [.row .pfx 37] 22] [.one (.fl .bool)] (fun x => table_above_1_t x.1 x.2.1.1 x.2.2.1.1)
theorem table_above_1_ok : TrOk Try.prog 28 table_above_1_con := by
  have h : loopsOf (codeOf Try.f28) = [] := by kernel_rfl
  refine con_ok table_above_1_envOk Try.func28 (bodyOk h lsNil) [.one (.fl .int), .ref [.fl .int] 3, .ref [.row .pfx 37] 22] [.one (.fl .bool)] _ (fun x => ?_)
  kernel_rfl

def table_above_table_nearest_L3_S : LoopS := { n := 35, base := 3, head := { keep := [0, 1, 5, 8, 9, 10], vals := [.one (.cst (.row 0)), .one (.cst (.fn 28 [.ptr 2 0, .ptr 1 0])), .one (.fl .int), .one (.cst (.row 0)), .one (.fl .int), .one (.fl .int)], objs := [.row .pfx 37 false, .blk [.cst (.row 0)] 22 true, .blk [.fl .int] 3 true] }, exits := [⟨some 0, { keep := [5], vals := [.one (.fl .int)], objs := [.row .pfx 37 false, .blk [.cst (.row 0)] 22 true, .blk [.fl .int] 3 true] }⟩] }
noncomputable def table_above_table_nearest_env : Env := mkEnv ty fnB [(28, table_above_1_con)] [(3, loopTr table_above_table_nearest_L3_S (loopN table_above_table_nearest_L3 FUEL))]
theorem table_above_table_nearest_envOk : EnvOk Try.prog table_above_table_nearest_env := envOk tyOk fn_ok (callsCons table_above_1_ok callsNil) _
theorem table_above_table_nearest_L3_ok : LOk Try.prog (nthLoop (codeOf Try.f14) 0) (loopTr table_above_table_nearest_L3_S (loopN table_above_table_nearest_L3 FUEL)) := by
  have h : loopsOf (nthLoop (codeOf Try.f14) 0) = [] := by kernel_rfl
  refine loop_ok table_above_table_nearest_envOk (loopsOk h lsNil) table_above_table_nearest_L3_S table_above_table_nearest_L3 FUEL (fun rec x => ?_)
  kernel_rfl
theorem table_above_table_nearest_inl : TrOk Try.prog 14 (inlCon table_above_table_nearest_env Try.f14) := by
  have h : loopsOf (codeOf Try.f14) = [(nthLoop (codeOf Try.f14) 0)] := by kernel_rfl
  exact inl_ok table_above_table_nearest_envOk Try.func14 (bodyOk h (lsCons (one_loop (t := loopTr table_above_table_nearest_L3_S (loopN table_above_table_nearest_L3 FUEL)) (by kernel_rfl) table_above_table_nearest_L3_ok) lsNil))

noncomputable def table_above_env : Env := mkEnv ty fnB [(14, (inlCon table_above_table_nearest_env Try.f14))] []
theorem table_above_envOk : EnvOk Try.prog table_above_env := envOk tyOk fn_ok (callsCons table_above_table_nearest_inl callsNil) _
noncomputable def table_above_con : Con := con [.one (.row .pfx 37), .one (.fl .int)] [.one (.fl .int)] (fun x => table_above_t x.1 x.2.1)
theorem table_above_ok : TrOk Try.prog 18 table_above_con := by
  have h : loopsOf (codeOf Try.f18) = [] := by kernel_rfl
  refine con_ok table_above_envOk Try.func18 (bodyOk h lsNil) [.one (.row .pfx 37), .one (.fl .int)] [.one (.fl .int)] _ (fun x => ?_)
  kernel_rfl

noncomputable def table_Above_env : Env := mkEnv ty fnB [(17, table_ready_con), (18, table_above_con)] []
theorem table_Above_envOk : EnvOk Try.prog table_Above_env := envOk tyOk fn_ok (callsCons table_ready_ok (callsCons table_above_ok callsNil)) _
noncomputable def table_Above_con : Con := con [.one (.row .pfx 37), .one (.fl .int)] [.one (.fl .int), .one (.fl .int)] (fun x => table_Above_t x.1 x.2.1)
theorem table_Above_ok : TrOk Try.prog 5 table_Above_con := by
  have h : loopsOf (codeOf Try.f5) = [] := by kernel_rfl
  refine con_ok table_Above_envOk Try.func5 (bodyOk h lsNil) [.one (.row .pfx 37), .one (.fl .int)] [.one (.fl .int), .one (.fl .int)] _ (fun x => ?_)
  kernel_rfl

noncomputable def R_CheckAddr_env : Env := mkEnv ty fnB [] []
theorem R_CheckAddr_envOk : EnvOk Try.prog R_CheckAddr_env := envOk tyOk fn_ok callsNil _
noncomputable def R_CheckAddr_con : Con := con [.one (.fl .addr)] [.one (.fl .int)] (fun x => R_CheckAddr_t x.1)
theorem R_CheckAddr_ok : TrOk Try.prog 8 R_CheckAddr_con := by
  have h : loopsOf (codeOf Try.f8) = [] := by kernel_rfl
  refine con_ok R_CheckAddr_envOk Try.func8 (bodyOk h lsNil) [.one (.fl .addr)] [.one (.fl .int)] _ (fun x => ?_)
  kernel_rfl

noncomputable def R_wide_env : Env := mkEnv ty fnB [] []
theorem R_wide_envOk : EnvOk Try.prog R_wide_env := envOk tyOk fn_ok callsNil _
noncomputable def R_wide_con : Con := con [.one (.fl .addr)] [.one (.fl .int)] (fun x => R_wide_t x.1)
theorem R_wide_ok : TrOk Try.prog 22 R_wide_con := by
  have h : loopsOf (codeOf Try.f22) = [] := by kernel_rfl
  refine con_ok R_wide_envOk Try.func22 (bodyOk h lsNil) [.one (.fl .addr)] [.one (.fl .int)] _ (fun x => ?_)
  kernel_rfl

noncomputable def R_between_env : Env := mkEnv ty fnB [] []
theorem R_between_envOk : EnvOk Try.prog R_between_env := envOk tyOk fn_ok callsNil _
noncomputable def R_between_con : Con := con [.one (.fl .int), .one (.fl .int), .one (.fl .int)] [.one (.fl .bool)] (fun x => R_between_t x.1 x.2.1 x.2.2.1)
theorem R_between_ok : TrOk Try.prog 30 R_between_con := by
  have h : loopsOf (codeOf Try.f30) = [] := by kernel_rfl
  refine con_ok R_between_envOk Try.func30 (bodyOk h lsNil) [.one (.fl .int), .one (.fl .int), .one (.fl .int)] [.one (.fl .bool)] _ (fun x => ?_)
  kernel_rfl

def R_Bits_L3_S : LoopS := { n := 42, base := 0, head := { keep := [1, 3, 4], vals := [.one (.cst (.ptr 0 0)), .one (.cst (.row 1)), .one (.fl .int)], objs := [.blk [.fl .addr] 25 true, .row .u8 5 true] }, exits := [⟨some 0, { keep := [1, 3], vals := [.one (.cst (.ptr 0 0)), .one (.cst (.row 1))], objs := [.blk [.fl .addr] 25 true, .row .u8 5 true] }⟩] }
def R_Bits_L7_S : LoopS := { n := 42, base := 0, head := { keep := [1, 3, 5], vals := [.one (.cst (.ptr 0 0)), .one (.cst (.row 1)), .one (.fl .int)], objs := [.blk [.fl .addr] 25 true, .row .u8 5 true] }, exits := [⟨some 2, { keep := [1, 3], vals := [.one (.cst (.ptr 0 0)), .one (.cst (.row 1))], objs := [.blk [.fl .addr] 25 true, .row .u8 5 true] }⟩] }
noncomputable def R_Bits_env : Env := mkEnv ty fnB [] [(3, loopTr R_Bits_L3_S (loopN R_Bits_L3 FUEL)), (7, loopTr R_Bits_L7_S (loopN R_Bits_L7 FUEL))]
theorem R_Bits_envOk : EnvOk Try.prog R_Bits_env := envOk tyOk fn_ok callsNil _
theorem R_Bits_L7_ok : LOk Try.prog (nthLoop (codeOf Try.f31) 1) (loopTr R_Bits_L7_S (loopN R_Bits_L7 FUEL)) := by
  have h : loopsOf (nthLoop (codeOf Try.f31) 1) = [] := by kernel_rfl
  refine loop_ok R_Bits_envOk (loopsOk h lsNil) R_Bits_L7_S R_Bits_L7 FUEL (fun rec x => ?_)
  kernel_rfl
theorem R_Bits_L3_ok : LOk Try.prog (nthLoop (codeOf Try.f31) 0) (loopTr R_Bits_L3_S (loopN R_Bits_L3 FUEL)) := by
  have h : loopsOf (nthLoop (codeOf Try.f31) 0) = [] := by kernel_rfl
  refine loop_ok R_Bits_envOk (loopsOk h lsNil) R_Bits_L3_S R_Bits_L3 FUEL (fun rec x => ?_)
  kernel_rfl
noncomputable def R_Bits_con : Con := con [.one (.fl .addr)] [.one (.fl .str)] (fun x => R_Bits_t x.1)
theorem R_Bits_ok : TrOk Try.prog 31 R_Bits_con := by
  have h : loopsOf (codeOf Try.f31) = [(nthLoop (codeOf Try.f31) 0), (nthLoop (codeOf Try.f31) 1)] := by kernel_rfl
  refine con_ok R_Bits_envOk Try.func31 (bodyOk h (lsCons (one_loop (t := loopTr R_Bits_L3_S (loopN R_Bits_L3 FUEL)) (by kernel_rfl) R_Bits_L3_ok) (lsCons (one_loop (t := loopTr R_Bits_L7_S (loopN R_Bits_L7 FUEL)) (by kernel_rfl) R_Bits_L7_ok) lsNil))) [.one (.fl .addr)] [.one (.fl .str)] _ (fun x => ?_)
  kernel_rfl

def R_CheckPrefix_L8_S : LoopS := { n := 34, base := 0, head := { keep := [4, 5], vals := [.one (.fl .str), .one (.fl .int)], objs := [] }, exits := [⟨none, { keep := [2], vals := [.one (.fl .int)], objs := [] }⟩, ⟨some 0, { keep := [], vals := [], objs := [] }⟩] }
noncomputable def R_CheckPrefix_env : Env := mkEnv ty fnB [(8, R_CheckAddr_con), (22, R_wide_con), (30, R_between_con), (31, R_Bits_con)] [(8, loopTr R_CheckPrefix_L8_S (loopN R_CheckPrefix_L8 FUEL))]
theorem R_CheckPrefix_envOk : EnvOk Try.prog R_CheckPrefix_env := envOk tyOk fn_ok (callsCons R_CheckAddr_ok (callsCons R_wide_ok (callsCons R_between_ok (callsCons R_Bits_ok callsNil)))) _
theorem R_CheckPrefix_L8_ok : LOk Try.prog (nthLoop (codeOf Try.f19) 0) (loopTr R_CheckPrefix_L8_S (loopN R_CheckPrefix_L8 FUEL)) := by
  have h : loopsOf (nthLoop (codeOf Try.f19) 0) = [] := by kernel_rfl
  refine loop_ok R_CheckPrefix_envOk (loopsOk h lsNil) R_CheckPrefix_L8_S R_CheckPrefix_L8 FUEL (fun rec x => ?_)
  kernel_rfl
noncomputable def R_CheckPrefix_con : Con := con [.one (.fl .pfx)] [.one (.fl .int)] (fun x => R_CheckPrefix_t x.1)
theorem R_CheckPrefix_ok : TrOk Try.prog 19 R_CheckPrefix_con := by
  have h : loopsOf (codeOf Try.f19) = [(nthLoop (codeOf Try.f19) 0)] := by kernel_rfl
  refine con_ok R_CheckPrefix_envOk Try.func19 (bodyOk h (lsCons (one_loop (t := loopTr R_CheckPrefix_L8_S (loopN R_CheckPrefix_L8 FUEL)) (by kernel_rfl) R_CheckPrefix_L8_ok) lsNil)) [.one (.fl .pfx)] [.one (.fl .int)] _ (fun x => ?_)
  kernel_rfl

def R_IsAhead_L5_S : LoopS := { n := 39, base := 0, head := { keep := [5, 6, 7], vals := [.one (.fl .str), .one (.fl .str), .one (.fl .int)], objs := [] }, exits := [⟨none, { keep := [4], vals := [.one (.fl .bool)], objs := [] }⟩, ⟨some 0, { keep := [], vals := [], objs := [] }⟩] }
noncomputable def R_IsAhead_env : Env := mkEnv ty fnB [(31, R_Bits_con)] [(5, loopTr R_IsAhead_L5_S (loopN R_IsAhead_L5 FUEL))]
theorem R_IsAhead_envOk : EnvOk Try.prog R_IsAhead_env := envOk tyOk fn_ok (callsCons R_Bits_ok callsNil) _
theorem R_IsAhead_L5_ok : LOk Try.prog (nthLoop (codeOf Try.f32) 0) (loopTr R_IsAhead_L5_S (loopN R_IsAhead_L5 FUEL)) := by
  have h : loopsOf (nthLoop (codeOf Try.f32) 0) = [] := by kernel_rfl
  refine loop_ok R_IsAhead_envOk (loopsOk h lsNil) R_IsAhead_L5_S R_IsAhead_L5 FUEL (fun rec x => ?_)
  kernel_rfl
noncomputable def R_IsAhead_con : Con := con [.one (.fl .addr), .one (.fl .addr)] [.one (.fl .bool)] (fun x => R_IsAhead_t x.1 x.2.1)
theorem R_IsAhead_ok : TrOk Try.prog 32 R_IsAhead_con := by
  have h : loopsOf (codeOf Try.f32) = [(nthLoop (codeOf Try.f32) 0)] := by kernel_rfl
  refine con_ok R_IsAhead_envOk Try.func32 (bodyOk h (lsCons (one_loop (t := loopTr R_IsAhead_L5_S (loopN R_IsAhead_L5 FUEL)) (by kernel_rfl) R_IsAhead_L5_ok) lsNil)) [.one (.fl .addr), .one (.fl .addr)] [.one (.fl .bool)] _ (fun x => ?_)
  kernel_rfl

noncomputable def R_PrefixAhead_env : Env := mkEnv ty fnB [(32, R_IsAhead_con)] []
theorem R_PrefixAhead_envOk : EnvOk Try.prog R_PrefixAhead_env := envOk tyOk fn_ok (callsCons R_IsAhead_ok callsNil) _
noncomputable def R_PrefixAhead_con : Con := con [.one (.fl .pfx), .one (.fl .pfx)] [.one (.fl .bool)] (fun x => R_PrefixAhead_t x.1 x.2.1)
theorem R_PrefixAhead_ok : TrOk Try.prog 20 R_PrefixAhead_con := by
  have h : loopsOf (codeOf Try.f20) = [] := by kernel_rfl
  refine con_ok R_PrefixAhead_envOk Try.func20 (bodyOk h lsNil) [.one (.fl .pfx), .one (.fl .pfx)] [.one (.fl .bool)] _ (fun x => ?_)
  kernel_rfl

def R_CheckTable_L4_S : LoopS := { n := 50, base := 1, head := { keep := [0, 3], vals := [.one (.cst (.row 0)), .one (.fl .int)], objs := [.row .pfx 37 false] }, exits := [⟨none, { keep := [2], vals := [.one (.fl .int)], objs := [.row .pfx 37 false] }⟩, ⟨some 0, { keep := [], vals := [], objs := [.row .pfx 37 false] }⟩] }
noncomputable def R_CheckTable_env : Env := mkEnv ty fnB [(19, R_CheckPrefix_con), (20, R_PrefixAhead_con)] [(4, loopTr R_CheckTable_L4_S (loopN R_CheckTable_L4 FUEL))]
theorem R_CheckTable_envOk : EnvOk Try.prog R_CheckTable_env := envOk tyOk fn_ok (callsCons R_CheckPrefix_ok (callsCons R_PrefixAhead_ok callsNil)) _
theorem R_CheckTable_L4_ok : LOk Try.prog (nthLoop (codeOf Try.f7) 0) (loopTr R_CheckTable_L4_S (loopN R_CheckTable_L4 FUEL)) := by
  have h : loopsOf (nthLoop (codeOf Try.f7) 0) = [] := by kernel_rfl
  refine loop_ok R_CheckTable_envOk (loopsOk h lsNil) R_CheckTable_L4_S R_CheckTable_L4 FUEL (fun rec x => ?_)
  kernel_rfl
noncomputable def R_CheckTable_con : Con := con [.one (.row .pfx 37)] [.one (.fl .int)] (fun x => R_CheckTable_t x.1)
theorem R_CheckTable_ok : TrOk Try.prog 7 R_CheckTable_con := by
  have h : loopsOf (codeOf Try.f7) = [(nthLoop (codeOf Try.f7) 0)] := by kernel_rfl
  refine con_ok R_CheckTable_envOk Try.func7 (bodyOk h (lsCons (one_loop (t := loopTr R_CheckTable_L4_S (loopN R_CheckTable_L4 FUEL)) (by kernel_rfl) R_CheckTable_L4_ok) lsNil)) [.one (.row .pfx 37)] [.one (.fl .int)] _ (fun x => ?_)
  kernel_rfl

noncomputable def R_Host_env : Env := mkEnv ty fnB [(22, R_wide_con)] []
theorem R_Host_envOk : EnvOk Try.prog R_Host_env := envOk tyOk fn_ok (callsCons R_wide_ok callsNil) _
noncomputable def R_Host_con : Con := con [.one (.fl .addr)] [.one (.fl .pfx)] (fun x => R_Host_t x.1)
theorem R_Host_ok : TrOk Try.prog 10 R_Host_con := by
  have h : loopsOf (codeOf Try.f10) = [] := by kernel_rfl
  refine con_ok R_Host_envOk Try.func10 (bodyOk h lsNil) [.one (.fl .addr)] [.one (.fl .pfx)] _ (fun x => ?_)
  kernel_rfl

noncomputable def R_HasAddr_env : Env := mkEnv ty fnB [(31, R_Bits_con)] []
theorem R_HasAddr_envOk : EnvOk Try.prog R_HasAddr_env := envOk tyOk fn_ok (callsCons R_Bits_ok callsNil) _
noncomputable def R_HasAddr_con : Con := con [.one (.fl .pfx), .one (.fl .addr)] [.one (.fl .bool)] (fun x => R_HasAddr_t x.1 x.2.1)
theorem R_HasAddr_ok : TrOk Try.prog 33 R_HasAddr_con := by
  have h : loopsOf (codeOf Try.f33) = [] := by kernel_rfl
  refine con_ok R_HasAddr_envOk Try.func33 (bodyOk h lsNil) [.one (.fl .pfx), .one (.fl .addr)] [.one (.fl .bool)] _ (fun x => ?_)
  kernel_rfl

noncomputable def R_HasPrefix_env : Env := mkEnv ty fnB [(33, R_HasAddr_con)] []
theorem R_HasPrefix_envOk : EnvOk Try.prog R_HasPrefix_env := envOk tyOk fn_ok (callsCons R_HasAddr_ok callsNil) _
noncomputable def R_HasPrefix_con : Con := con [.one (.fl .pfx), .one (.fl .pfx)] [.one (.fl .bool)] (fun x => R_HasPrefix_t x.1 x.2.1)
theorem R_HasPrefix_ok : TrOk Try.prog 21 R_HasPrefix_con := by
  have h : loopsOf (codeOf Try.f21) = [] := by kernel_rfl
  refine con_ok R_HasPrefix_envOk Try.func21 (bodyOk h lsNil) [.one (.fl .pfx), .one (.fl .pfx)] [.one (.fl .bool)] _ (fun x => ?_)
  kernel_rfl

def R_NearestOf_L5_S : LoopS := { n := 40, base := 1, head := { keep := [0, 2, 4, 7, 8], vals := [.one (.cst (.row 0)), .one (.fl .int), .one (.cst (.ptr 1 0)), .one (.fl .int), .one (.fl .int)], objs := [.row .pfx 37 false, .blk [.fl .pfx] 37 true] }, exits := [⟨none, { keep := [6], vals := [.one (.fl .int)], objs := [.row .pfx 37 false] }⟩, ⟨some 2, { keep := [0, 2, 4, 7], vals := [.one (.cst (.row 0)), .one (.fl .int), .one (.cst (.ptr 1 0)), .one (.fl .int)], objs := [.row .pfx 37 false, .blk [.fl .pfx] 37 true] }⟩] }
def R_NearestOf_L2_S : LoopS := { n := 40, base := 1, head := { keep := [0, 2, 4, 7], vals := [.one (.cst (.row 0)), .one (.fl .int), .one (.cst (.ptr 1 0)), .one (.fl .int)], objs := [.row .pfx 37 false, .blk [.fl .pfx] 37 true] }, exits := [⟨none, { keep := [6], vals := [.one (.fl .int)], objs := [.row .pfx 37 false] }⟩, ⟨some 0, { keep := [], vals := [], objs := [.row .pfx 37 false] }⟩] }
noncomputable def R_NearestOf_env : Env := mkEnv ty fnB [(21, R_HasPrefix_con)] [(5, loopTr R_NearestOf_L5_S (loopN R_NearestOf_L5 FUEL)), (2, loopTr R_NearestOf_L2_S (loopN R_NearestOf_L2 FUEL))]
theorem R_NearestOf_envOk : EnvOk Try.prog R_NearestOf_env := envOk tyOk fn_ok (callsCons R_HasPrefix_ok callsNil) _
theorem R_NearestOf_L5_ok : LOk Try.prog (nthLoop (nthLoop (codeOf Try.f9) 0) 0) (loopTr R_NearestOf_L5_S (loopN R_NearestOf_L5 FUEL)) := by
  have h : loopsOf (nthLoop (nthLoop (codeOf Try.f9) 0) 0) = [] := by kernel_rfl
  refine loop_ok R_NearestOf_envOk (loopsOk h lsNil) R_NearestOf_L5_S R_NearestOf_L5 FUEL (fun rec x => ?_)
  kernel_rfl
theorem R_NearestOf_L2_ok : LOk Try.prog (nthLoop (codeOf Try.f9) 0) (loopTr R_NearestOf_L2_S (loopN R_NearestOf_L2 FUEL)) := by
  have h : loopsOf (nthLoop (codeOf Try.f9) 0) = [(nthLoop (nthLoop (codeOf Try.f9) 0) 0)] := by kernel_rfl
  refine loop_ok R_NearestOf_envOk (loopsOk h (lsCons (one_loop (t := loopTr R_NearestOf_L5_S (loopN R_NearestOf_L5 FUEL)) (by kernel_rfl) R_NearestOf_L5_ok) lsNil)) R_NearestOf_L2_S R_NearestOf_L2 FUEL (fun rec x => ?_)
  kernel_rfl
noncomputable def R_NearestOf_con : Con := con [.one (.row .pfx 37), .one (.fl .pfx), .one (.fl .int)] [.one (.fl .int)] (fun x => R_NearestOf_t x.1 x.2.1 x.2.2.1)
theorem R_NearestOf_ok : TrOk Try.prog 9 R_NearestOf_con := by
  have h : loopsOf (codeOf Try.f9) = [(nthLoop (codeOf Try.f9) 0)] := by kernel_rfl
  refine con_ok R_NearestOf_envOk Try.func9 (bodyOk h (lsCons (one_loop (t := loopTr R_NearestOf_L2_S (loopN R_NearestOf_L2 FUEL)) (by kernel_rfl) R_NearestOf_L2_ok) lsNil)) [.one (.row .pfx 37), .one (.fl .pfx), .one (.fl .int)] [.one (.fl .int)] _ (fun x => ?_)
  kernel_rfl

noncomputable def law_v4_env : Env := mkEnv ty fnB [] []
theorem law_v4_envOk : EnvOk Try.prog law_v4_env := envOk tyOk fn_ok callsNil _
noncomputable def law_v4_con : Con := con [.one (.fl .u64)] [.one (.fl .addr)] (fun x => law_v4_t x.1)
theorem law_v4_ok : TrOk Try.prog 24 law_v4_con := by
  have h : loopsOf (codeOf Try.f24) = [] := by kernel_rfl
  refine con_ok law_v4_envOk Try.func24 (bodyOk h lsNil) [.one (.fl .u64)] [.one (.fl .addr)] _ (fun x => ?_)
  kernel_rfl

noncomputable def law_net_env : Env := mkEnv ty fnB [(24, law_v4_con)] []
theorem law_net_envOk : EnvOk Try.prog law_net_env := envOk tyOk fn_ok (callsCons law_v4_ok callsNil) _
noncomputable def law_net_con : Con := con [.one (.fl .u64), .one (.fl .int)] [.one (.fl .pfx)] (fun x => law_net_t x.1 x.2.1)
theorem law_net_ok : TrOk Try.prog 34 law_net_con := by
  have h : loopsOf (codeOf Try.f34) = [] := by kernel_rfl
  refine con_ok law_net_envOk Try.func34 (bodyOk h lsNil) [.one (.fl .u64), .one (.fl .int)] [.one (.fl .pfx)] _ (fun x => ?_)
  kernel_rfl

noncomputable def law_routes_env : Env := mkEnv ty fnB [(34, law_net_con)] []
theorem law_routes_envOk : EnvOk Try.prog law_routes_env := envOk tyOk fn_ok (callsCons law_net_ok callsNil) _
noncomputable def law_routes_con : Con := con [] [.one (.row .pfx 37)] (fun x => law_routes_t)
theorem law_routes_ok : TrOk Try.prog 23 law_routes_con := by
  have h : loopsOf (codeOf Try.f23) = [] := by kernel_rfl
  refine con_ok law_routes_envOk Try.func23 (bodyOk h lsNil) [] [.one (.row .pfx 37)] _ (fun x => ?_)
  kernel_rfl

end Go.Proofs.Ytghbkkmelbobcaa
