/-
  The program's functions come to their plain forms: those that hang on the contracts made by hand. Written by a program of mine.
-/
import Derived.Test.YtghbkkmelbobcaaHb
import Derived.Test.YtghbkkmelbobcaaPm
namespace Go.Proofs.Ytghbkkmelbobcaa
open Go Go.Ma
noncomputable def law_tableBegun_env : Env := mkEnv ty fnB [(23, law_routes_con), (24, law_v4_con), (4, table_Find_con), (5, table_Above_con), (6, table_Below_con), (12, table_Check_con)] []
theorem law_tableBegun_envOk : EnvOk Try.prog law_tableBegun_env := envOk tyOk fn_ok (callsCons law_routes_ok (callsCons law_v4_ok (callsCons table_Find_ok (callsCons table_Above_ok (callsCons table_Below_ok (callsCons table_Check_ok callsNil)))))) _
noncomputable def law_tableBegun_con : Con := con [] [.one (.fl .bool)] (fun x => law_tableBegun_t)
theorem law_tableBegun_ok : TrOk Try.prog 11 law_tableBegun_con := by
  have h : loopsOf (codeOf Try.f11) = [] := by kernel_rfl
  refine con_ok law_tableBegun_envOk Try.func11 (bodyOk h lsNil) [] [.one (.fl .bool)] _ (fun x => ?_)
  kernel_rfl

def law_TableTells_L29_S : LoopS := { n := 151, base := 1, head := { keep := [0, 7, 8, 9, 10, 11, 13, 14, 15, 17, 18, 19, 21], vals := [.one (.cst (.row 0)), .one (.fl .int), .one (.fl .int), .one (.fl .int), .one (.fl .int), .one (.cst (.row 1)), .one (.fl .int), .one (.fl .int), .one (.fl .int), .one (.fl .int), .one (.fl .int), .one (.cst (.row 2)), .one (.fl .int)], objs := [.row .pfx 37 false, .row .int 3 true, .row .int 3 true] }, exits := [⟨none, { keep := [6], vals := [.one (.fl .bool)], objs := [.row .pfx 37 false] }⟩, ⟨some 2, { keep := [0, 7, 8, 9, 10, 13, 14, 15, 17, 18], vals := [.one (.cst (.row 0)), .one (.fl .int), .one (.fl .int), .one (.fl .int), .one (.fl .int), .one (.fl .int), .one (.fl .int), .one (.fl .int), .one (.fl .int), .one (.fl .int)], objs := [.row .pfx 37 false] }⟩] }
def law_TableTells_L20_S : LoopS := { n := 151, base := 1, head := { keep := [0, 2, 7, 8, 9, 10, 11, 12, 13, 14, 15, 16, 17, 18, 19, 20], vals := [.one (.cst (.row 0)), .one (.fl .int), .one (.fl .int), .one (.fl .int), .one (.fl .int), .one (.fl .int), .one (.cst (.row 1)), .one (.fl .int), .one (.fl .int), .one (.fl .int), .one (.fl .int), .one (.fl .int), .one (.fl .int), .one (.fl .int), .one (.cst (.row 2)), .one (.fl .int)], objs := [.row .pfx 37 false, .row .int 3 true, .row .int 3 true] }, exits := [⟨some 0, { keep := [0, 7, 8, 9, 10, 11, 12, 13, 14, 15, 16, 17, 18, 19], vals := [.one (.cst (.row 0)), .one (.fl .int), .one (.fl .int), .one (.fl .int), .one (.fl .int), .one (.cst (.row 1)), .one (.fl .int), .one (.fl .int), .one (.fl .int), .one (.fl .int), .one (.fl .int), .one (.fl .int), .one (.fl .int), .one (.cst (.row 2))], objs := [.row .pfx 37 false, .row .int 3 true, .row .int 3 true] }⟩] }
noncomputable def law_TableTells_env : Env := mkEnv ty fnB [(4, table_Find_con), (5, table_Above_con), (6, table_Below_con), (7, R_CheckTable_con), (8, R_CheckAddr_con), (10, R_Host_con), (9, R_NearestOf_con), (11, law_tableBegun_con), (12, table_Check_con)] [(29, loopTr law_TableTells_L29_S (loopN law_TableTells_L29 FUEL)), (20, loopTr law_TableTells_L20_S (loopN law_TableTells_L20 FUEL))]
theorem law_TableTells_envOk : EnvOk Try.prog law_TableTells_env := envOk tyOk fn_ok (callsCons table_Find_ok (callsCons table_Above_ok (callsCons table_Below_ok (callsCons R_CheckTable_ok (callsCons R_CheckAddr_ok (callsCons R_Host_ok (callsCons R_NearestOf_ok (callsCons law_tableBegun_ok (callsCons table_Check_ok callsNil))))))))) _
theorem law_TableTells_L20_ok : LOk Try.prog (nthLoop (codeOf Try.f3) 0) (loopTr law_TableTells_L20_S (loopN law_TableTells_L20 FUEL)) := by
  have h : loopsOf (nthLoop (codeOf Try.f3) 0) = [] := by kernel_rfl
  refine loop_ok law_TableTells_envOk (loopsOk h lsNil) law_TableTells_L20_S law_TableTells_L20 FUEL (fun rec x => ?_)
  kernel_rfl
theorem law_TableTells_L29_ok : LOk Try.prog (nthLoop (codeOf Try.f3) 1) (loopTr law_TableTells_L29_S (loopN law_TableTells_L29 FUEL)) := by
  have h : loopsOf (nthLoop (codeOf Try.f3) 1) = [] := by kernel_rfl
  refine loop_ok law_TableTells_envOk (loopsOk h lsNil) law_TableTells_L29_S law_TableTells_L29 FUEL (fun rec x => ?_)
  kernel_rfl
noncomputable def law_TableTells_con : Con := con [.one (.row .pfx 37), .one (.fl .addr), .one (.fl .int)] [.one (.fl .bool)] (fun x => law_TableTells_t x.1 x.2.1 x.2.2.1)
theorem law_TableTells_ok : TrOk Try.prog 3 law_TableTells_con := by
  have h : loopsOf (codeOf Try.f3) = [(nthLoop (codeOf Try.f3) 0), (nthLoop (codeOf Try.f3) 1)] := by kernel_rfl
  refine con_ok law_TableTells_envOk Try.func3 (bodyOk h (lsCons (one_loop (t := loopTr law_TableTells_L20_S (loopN law_TableTells_L20 FUEL)) (by kernel_rfl) law_TableTells_L20_ok) (lsCons (one_loop (t := loopTr law_TableTells_L29_S (loopN law_TableTells_L29 FUEL)) (by kernel_rfl) law_TableTells_L29_ok) lsNil))) [.one (.row .pfx 37), .one (.fl .addr), .one (.fl .int)] [.one (.fl .bool)] _ (fun x => ?_)
  kernel_rfl

end Go.Proofs.Ytghbkkmelbobcaa
