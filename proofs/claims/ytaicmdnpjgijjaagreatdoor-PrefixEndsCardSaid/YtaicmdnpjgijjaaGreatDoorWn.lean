/-
  The program's functions come to their plain forms: those that hang on the second contracts made by hand. Written by a program of mine.
-/
import Derived.Test.YtaicmdnpjgijjaaGreatDoorHb
import Derived.Test.YtaicmdnpjgijjaaGreatDoorWm
import Derived.Test.YtaicmdnpjgijjaaGreatDoorPn
namespace Go.Proofs.YtaicmdnpjgijjaaGreatDoor
open Go Go.Ma
noncomputable def law_tableBegun_env : Env := mkEnv ty fnB [(42, law_routes_con), (29, law_v4_con), (24, table_Find_con), (23, table_Above_con), (22, table_Below_con), (21, table_Check_con)] []
theorem law_tableBegun_envOk : EnvOk Tryz.prog law_tableBegun_env := envOk tyOk fn_ok (callsCons law_routes_ok (callsCons law_v4_ok (callsCons table_Find_ok (callsCons table_Above_ok (callsCons table_Below_ok (callsCons table_Check_ok callsNil)))))) _
noncomputable def law_tableBegun_con : Con := con [] [.one (.fl .bool)] (fun x => law_tableBegun_t)
theorem law_tableBegun_ok : TrOk Tryz.prog 20 law_tableBegun_con := by
  have h : loopsOf (codeOf Tryz.f20) = [] := by kernel_rfl
  refine con_ok law_tableBegun_envOk Tryz.func20 (bodyOk h lsNil) [] [.one (.fl .bool)] _ (fun x => ?_)
  kernel_rfl

def law_TableTree_L14_S : LoopS := { n := 160, base := 1, head := { keep := [0, 3, 5, 6, 7, 9], vals := [.one (.cst (.row 0)), .one (.cst (.ptr 1 0)), .one (.fl .int), .one (.fl .int), .one (.cst (.row 2)), .one (.fl .int)], objs := [.row .pfx 26 false, .blk [.fl .addr] 24 true, .row .int 3 true] }, exits := [⟨none, { keep := [4], vals := [.one (.fl .bool)], objs := [.row .pfx 26 false] }⟩, ⟨some 2, { keep := [0, 3, 5, 6], vals := [.one (.cst (.row 0)), .one (.cst (.ptr 1 0)), .one (.fl .int), .one (.fl .int)], objs := [.row .pfx 26 false, .blk [.fl .addr] 24 true] }⟩] }
def law_TableTree_L7_S : LoopS := { n := 160, base := 1, head := { keep := [0, 3, 5, 6], vals := [.one (.cst (.row 0)), .one (.cst (.ptr 1 0)), .one (.fl .int), .one (.fl .int)], objs := [.row .pfx 26 false, .blk [.fl .addr] 24 true] }, exits := [⟨none, { keep := [4], vals := [.one (.fl .bool)], objs := [.row .pfx 26 false] }⟩, ⟨some 0, { keep := [0, 3, 5], vals := [.one (.cst (.row 0)), .one (.cst (.ptr 1 0)), .one (.fl .int)], objs := [.row .pfx 26 false, .blk [.fl .addr] 24 true] }⟩] }
def law_TableTree_L29_S : LoopS := { n := 160, base := 1, head := { keep := [0, 3, 16, 18], vals := [.one (.cst (.row 0)), .one (.cst (.ptr 1 0)), .one (.fl .int), .one (.fl .int)], objs := [.row .pfx 26 false, .blk [.fl .addr] 24 true] }, exits := [⟨none, { keep := [4], vals := [.one (.fl .bool)], objs := [.row .pfx 26 false] }⟩, ⟨some 4, { keep := [], vals := [], objs := [.row .pfx 26 false] }⟩] }
noncomputable def law_TableTree_env : Env := mkEnv ty fnB [(20, law_tableBegun_con), (9, law_prefixBegun_con), (21, table_Check_con), (22, table_Below_con), (23, table_Above_con), (8, prefix_Has_con), (24, table_Find_con), (19, R_Host_con)] [(14, (loopTr law_TableTree_L14_S (loopN law_TableTree_L14 FUEL))), (7, (loopTr law_TableTree_L7_S (loopN law_TableTree_L7 FUEL))), (29, (loopTr law_TableTree_L29_S (loopN law_TableTree_L29 FUEL)))]
theorem law_TableTree_envOk : EnvOk Tryz.prog law_TableTree_env := envOk tyOk fn_ok (callsCons law_tableBegun_ok (callsCons law_prefixBegun_ok (callsCons table_Check_ok (callsCons table_Below_ok (callsCons table_Above_ok (callsCons prefix_Has_ok (callsCons table_Find_ok (callsCons R_Host_ok callsNil)))))))) _
theorem law_TableTree_L14_ok : LOk Tryz.prog (nthLoop (nthLoop (codeOf Tryz.f6) 0) 0) (loopTr law_TableTree_L14_S (loopN law_TableTree_L14 FUEL)) := by
  have h : loopsOf (nthLoop (nthLoop (codeOf Tryz.f6) 0) 0) = [] := by kernel_rfl
  refine loop_ok law_TableTree_envOk (loopsOk h lsNil) law_TableTree_L14_S law_TableTree_L14 FUEL (fun rec x => ?_)
  kernel_rfl
theorem law_TableTree_L29_ok : LOk Tryz.prog (nthLoop (codeOf Tryz.f6) 1) (loopTr law_TableTree_L29_S (loopN law_TableTree_L29 FUEL)) := by
  have h : loopsOf (nthLoop (codeOf Tryz.f6) 1) = [] := by kernel_rfl
  refine loop_ok law_TableTree_envOk (loopsOk h lsNil) law_TableTree_L29_S law_TableTree_L29 FUEL (fun rec x => ?_)
  kernel_rfl
theorem law_TableTree_L7_ok : LOk Tryz.prog (nthLoop (codeOf Tryz.f6) 0) (loopTr law_TableTree_L7_S (loopN law_TableTree_L7 FUEL)) := by
  have h : loopsOf (nthLoop (codeOf Tryz.f6) 0) = [(nthLoop (nthLoop (codeOf Tryz.f6) 0) 0)] := by kernel_rfl
  refine loop_ok law_TableTree_envOk (loopsOk h (lsCons (one_loop (t := (loopTr law_TableTree_L14_S (loopN law_TableTree_L14 FUEL))) (by kernel_rfl) law_TableTree_L14_ok) lsNil)) law_TableTree_L7_S law_TableTree_L7 FUEL (fun rec x => ?_)
  kernel_rfl
noncomputable def law_TableTree_con : Con := con [.one (.row .pfx 26), .one (.fl .addr)] [.one (.fl .bool)] (fun x => law_TableTree_t x.1 x.2.1)
theorem law_TableTree_ok : TrOk Tryz.prog 6 law_TableTree_con := by
  have h : loopsOf (codeOf Tryz.f6) = [(nthLoop (codeOf Tryz.f6) 0), (nthLoop (codeOf Tryz.f6) 1)] := by kernel_rfl
  refine con_ok law_TableTree_envOk Tryz.func6 (bodyOk h (lsCons (one_loop (t := (loopTr law_TableTree_L7_S (loopN law_TableTree_L7 FUEL))) (by kernel_rfl) law_TableTree_L7_ok) (lsCons (one_loop (t := (loopTr law_TableTree_L29_S (loopN law_TableTree_L29 FUEL))) (by kernel_rfl) law_TableTree_L29_ok) lsNil))) [.one (.row .pfx 26), .one (.fl .addr)] [.one (.fl .bool)] _ (fun x => ?_)
  kernel_rfl

noncomputable def law_TableMore_env : Env := mkEnv ty fnB [(20, law_tableBegun_con), (9, law_prefixBegun_con), (24, table_Find_con), (23, table_Above_con)] []
theorem law_TableMore_envOk : EnvOk Tryz.prog law_TableMore_env := envOk tyOk fn_ok (callsCons law_tableBegun_ok (callsCons law_prefixBegun_ok (callsCons table_Find_ok (callsCons table_Above_ok callsNil)))) _
noncomputable def law_TableMore_con : Con := con [.one (.row .pfx 26), .one (.fl .addr), .one (.fl .int)] [.one (.fl .bool)] (fun x => law_TableMore_t x.1 x.2.1 x.2.2.1)
theorem law_TableMore_ok : TrOk Tryz.prog 7 law_TableMore_con := by
  have h : loopsOf (codeOf Tryz.f7) = [] := by kernel_rfl
  refine con_ok law_TableMore_envOk Tryz.func7 (bodyOk h lsNil) [.one (.row .pfx 26), .one (.fl .addr), .one (.fl .int)] [.one (.fl .bool)] _ (fun x => ?_)
  kernel_rfl

end Go.Proofs.YtaicmdnpjgijjaaGreatDoor
