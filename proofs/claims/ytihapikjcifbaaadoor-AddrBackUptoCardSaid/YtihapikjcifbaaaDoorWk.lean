/-
  The program's functions come to their plain forms. Written by a program of mine.
-/
import Derived.Test.YtihapikjcifbaaaDoorTy
import Derived.Test.YtihapikjcifbaaaDoorPl
namespace Go.Proofs.YtihapikjcifbaaaDoor
open Go Go.Ma
noncomputable def addr_Check_env : Env := mkEnv ty fnB [] []
theorem addr_Check_envOk : EnvOk Tryd.prog addr_Check_env := envOk tyOk fn_ok callsNil _
noncomputable def addr_Check_con : Con := con [.one (.fl .addr)] [.one (.fl .int)] (fun x => addr_Check_t x.1)
theorem addr_Check_ok : TrOk Tryd.prog 15 addr_Check_con := by
  have h : loopsOf (codeOf Tryd.f15) = [] := by kernel_rfl
  refine con_ok addr_Check_envOk Tryd.func15 (bodyOk h lsNil) [.one (.fl .addr)] [.one (.fl .int)] _ (fun x => ?_)
  kernel_rfl

noncomputable def addr_group_env : Env := mkEnv ty fnB [] []
theorem addr_group_envOk : EnvOk Tryd.prog addr_group_env := envOk tyOk fn_ok callsNil _
noncomputable def addr_group_con : Con := con [.one (.fl .addr), .one (.fl .int)] [.one (.fl .u64)] (fun x => addr_group_t x.1 x.2.1)
theorem addr_group_ok : TrOk Tryd.prog 46 addr_group_con := by
  have h : loopsOf (codeOf Tryd.f46) = [] := by kernel_rfl
  refine con_ok addr_group_envOk Tryd.func46 (bodyOk h lsNil) [.one (.fl .addr), .one (.fl .int)] [.one (.fl .u64)] _ (fun x => ?_)
  kernel_rfl

def addr_row_L2_S : LoopS := { n := 21, base := 0, head := { keep := [1, 2, 5], vals := [.one (.fl .int), .one (.cst (.ptr 0 0)), .one (.fl .int)], objs := [.blk [.fl .addr] 24 true] }, exits := [⟨some 0, { keep := [5], vals := [.one (.fl .int)], objs := [] }⟩] }
noncomputable def addr_row_env : Env := mkEnv ty fnB [(46, addr_group_con)] [(2, (loopTr addr_row_L2_S (loopN addr_row_L2 FUEL)))]
theorem addr_row_envOk : EnvOk Tryd.prog addr_row_env := envOk tyOk fn_ok (callsCons addr_group_ok callsNil) _
theorem addr_row_L2_ok : LOk Tryd.prog (nthLoop (codeOf Tryd.f45) 0) (loopTr addr_row_L2_S (loopN addr_row_L2 FUEL)) := by
  have h : loopsOf (nthLoop (codeOf Tryd.f45) 0) = [] := by kernel_rfl
  refine loop_ok addr_row_envOk (loopsOk h lsNil) addr_row_L2_S addr_row_L2 FUEL (fun rec x => ?_)
  kernel_rfl
noncomputable def addr_row_con : Con := con [.one (.fl .addr), .one (.fl .int)] [.one (.fl .int)] (fun x => addr_row_t x.1 x.2.1)
theorem addr_row_ok : TrOk Tryd.prog 45 addr_row_con := by
  have h : loopsOf (codeOf Tryd.f45) = [(nthLoop (codeOf Tryd.f45) 0)] := by kernel_rfl
  refine con_ok addr_row_envOk Tryd.func45 (bodyOk h (lsCons (one_loop (t := (loopTr addr_row_L2_S (loopN addr_row_L2 FUEL))) (by kernel_rfl) addr_row_L2_ok) lsNil)) [.one (.fl .addr), .one (.fl .int)] [.one (.fl .int)] _ (fun x => ?_)
  kernel_rfl

def addr_longest_L3_S : LoopS := { n := 24, base := 0, head := { keep := [1, 4, 5, 8], vals := [.one (.cst (.ptr 0 0)), .one (.fl .int), .one (.fl .int), .one (.fl .int)], objs := [.blk [.fl .addr] 24 true] }, exits := [⟨some 0, { keep := [4, 5], vals := [.one (.fl .int), .one (.fl .int)], objs := [] }⟩] }
noncomputable def addr_longest_env : Env := mkEnv ty fnB [(45, addr_row_con)] [(3, (loopTr addr_longest_L3_S (loopN addr_longest_L3 FUEL)))]
theorem addr_longest_envOk : EnvOk Tryd.prog addr_longest_env := envOk tyOk fn_ok (callsCons addr_row_ok callsNil) _
theorem addr_longest_L3_ok : LOk Tryd.prog (nthLoop (codeOf Tryd.f30) 0) (loopTr addr_longest_L3_S (loopN addr_longest_L3 FUEL)) := by
  have h : loopsOf (nthLoop (codeOf Tryd.f30) 0) = [] := by kernel_rfl
  refine loop_ok addr_longest_envOk (loopsOk h lsNil) addr_longest_L3_S addr_longest_L3 FUEL (fun rec x => ?_)
  kernel_rfl
noncomputable def addr_longest_con : Con := con [.one (.fl .addr)] [.one (.fl .int), .one (.fl .int)] (fun x => addr_longest_t x.1)
theorem addr_longest_ok : TrOk Tryd.prog 30 addr_longest_con := by
  have h : loopsOf (codeOf Tryd.f30) = [(nthLoop (codeOf Tryd.f30) 0)] := by kernel_rfl
  refine con_ok addr_longest_envOk Tryd.func30 (bodyOk h (lsCons (one_loop (t := (loopTr addr_longest_L3_S (loopN addr_longest_L3 FUEL))) (by kernel_rfl) addr_longest_L3_ok) lsNil)) [.one (.fl .addr)] [.one (.fl .int), .one (.fl .int)] _ (fun x => ?_)
  kernel_rfl

noncomputable def addr_Order_1_env : Env := mkEnv ty fnB [] []
theorem addr_Order_1_envOk : EnvOk Tryd.prog addr_Order_1_env := envOk tyOk fn_ok callsNil _
noncomputable def addr_Order_1_con : Con := con [.one (.fl .u64), .one (.fl .u64)] [.one (.fl .int)] (fun x => addr_Order_1_t x.1 x.2.1)
theorem addr_Order_1_ok : TrOk Tryd.prog 36 addr_Order_1_con := by
  have h : loopsOf (codeOf Tryd.f36) = [] := by kernel_rfl
  refine con_ok addr_Order_1_envOk Tryd.func36 (bodyOk h lsNil) [.one (.fl .u64), .one (.fl .u64)] [.one (.fl .int)] _ (fun x => ?_)
  kernel_rfl

noncomputable def addr_Order_env : Env := mkEnv ty fnB [(36, addr_Order_1_con)] []
theorem addr_Order_envOk : EnvOk Tryd.prog addr_Order_env := envOk tyOk fn_ok (callsCons addr_Order_1_ok callsNil) _
noncomputable def addr_Order_con : Con := con [.one (.fl .addr), .one (.fl .addr)] [.one (.fl .int)] (fun x => addr_Order_t x.1 x.2.1)
theorem addr_Order_ok : TrOk Tryd.prog 20 addr_Order_con := by
  have h : loopsOf (codeOf Tryd.f20) = [] := by kernel_rfl
  refine con_ok addr_Order_envOk Tryd.func20 (bodyOk h lsNil) [.one (.fl .addr), .one (.fl .addr)] [.one (.fl .int)] _ (fun x => ?_)
  kernel_rfl

def addr_Less_L2_S : LoopS := { n := 27, base := 0, head := { keep := [2, 3, 11, 12, 13], vals := [.one (.cst (.ptr 0 0)), .one (.cst (.ptr 1 0)), .one (.cst (.row 2)), .one (.fl .int), .one (.fl .int)], objs := [.blk [.fl .addr] 24 true, .blk [.fl .addr] 24 true, .row .addr 24 true] }, exits := [⟨none, { keep := [4, 5], vals := [.one (.fl .bool), .one (.fl .int)], objs := [] }⟩, ⟨some 0, { keep := [2, 3], vals := [.one (.cst (.ptr 0 0)), .one (.cst (.ptr 1 0))], objs := [.blk [.fl .addr] 24 true, .blk [.fl .addr] 24 true] }⟩] }
noncomputable def addr_Less_env : Env := mkEnv ty fnB [(15, addr_Check_con), (20, addr_Order_con)] [(2, (loopTr addr_Less_L2_S (loopN addr_Less_L2 FUEL)))]
theorem addr_Less_envOk : EnvOk Tryd.prog addr_Less_env := envOk tyOk fn_ok (callsCons addr_Check_ok (callsCons addr_Order_ok callsNil)) _
theorem addr_Less_L2_ok : LOk Tryd.prog (nthLoop (codeOf Tryd.f9) 0) (loopTr addr_Less_L2_S (loopN addr_Less_L2 FUEL)) := by
  have h : loopsOf (nthLoop (codeOf Tryd.f9) 0) = [] := by kernel_rfl
  refine loop_ok addr_Less_envOk (loopsOk h lsNil) addr_Less_L2_S addr_Less_L2 FUEL (fun rec x => ?_)
  kernel_rfl
noncomputable def addr_Less_con : Con := con [.one (.fl .addr), .one (.fl .addr)] [.one (.fl .bool), .one (.fl .int)] (fun x => addr_Less_t x.1 x.2.1)
theorem addr_Less_ok : TrOk Tryd.prog 9 addr_Less_con := by
  have h : loopsOf (codeOf Tryd.f9) = [(nthLoop (codeOf Tryd.f9) 0)] := by kernel_rfl
  refine con_ok addr_Less_envOk Tryd.func9 (bodyOk h (lsCons (one_loop (t := (loopTr addr_Less_L2_S (loopN addr_Less_L2 FUEL))) (by kernel_rfl) addr_Less_L2_ok) lsNil)) [.one (.fl .addr), .one (.fl .addr)] [.one (.fl .bool), .one (.fl .int)] _ (fun x => ?_)
  kernel_rfl

noncomputable def addr_After_env : Env := mkEnv ty fnB [] []
theorem addr_After_envOk : EnvOk Tryd.prog addr_After_env := envOk tyOk fn_ok callsNil _
noncomputable def addr_After_con : Con := con [.one (.fl .addr)] [.one (.fl .addr), .one (.fl .bool)] (fun x => addr_After_t x.1)
theorem addr_After_ok : TrOk Tryd.prog 19 addr_After_con := by
  have h : loopsOf (codeOf Tryd.f19) = [] := by kernel_rfl
  refine con_ok addr_After_envOk Tryd.func19 (bodyOk h lsNil) [.one (.fl .addr)] [.one (.fl .addr), .one (.fl .bool)] _ (fun x => ?_)
  kernel_rfl

noncomputable def addr_Next_env : Env := mkEnv ty fnB [(15, addr_Check_con), (19, addr_After_con)] []
theorem addr_Next_envOk : EnvOk Tryd.prog addr_Next_env := envOk tyOk fn_ok (callsCons addr_Check_ok (callsCons addr_After_ok callsNil)) _
noncomputable def addr_Next_con : Con := con [.one (.fl .addr)] [.one (.fl .addr), .one (.fl .bool), .one (.fl .int)] (fun x => addr_Next_t x.1)
theorem addr_Next_ok : TrOk Tryd.prog 8 addr_Next_con := by
  have h : loopsOf (codeOf Tryd.f8) = [] := by kernel_rfl
  refine con_ok addr_Next_envOk Tryd.func8 (bodyOk h lsNil) [.one (.fl .addr)] [.one (.fl .addr), .one (.fl .bool), .one (.fl .int)] _ (fun x => ?_)
  kernel_rfl

noncomputable def law_v4_env : Env := mkEnv ty fnB [] []
theorem law_v4_envOk : EnvOk Tryd.prog law_v4_env := envOk tyOk fn_ok callsNil _
noncomputable def law_v4_con : Con := con [.one (.fl .u64)] [.one (.fl .addr)] (fun x => law_v4_t x.1)
theorem law_v4_ok : TrOk Tryd.prog 27 law_v4_con := by
  have h : loopsOf (codeOf Tryd.f27) = [] := by kernel_rfl
  refine con_ok law_v4_envOk Tryd.func27 (bodyOk h lsNil) [.one (.fl .u64)] [.one (.fl .addr)] _ (fun x => ?_)
  kernel_rfl

end Go.Proofs.YtihapikjcifbaaaDoor
