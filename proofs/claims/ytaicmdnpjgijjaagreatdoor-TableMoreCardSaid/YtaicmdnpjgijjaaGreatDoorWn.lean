/-
  The program's functions come to their plain forms: those that hang on the second contracts made by hand. Written by a program of mine.
-/
import Derived.Test.YtaicmdnpjgijjaaGreatDoorQd
import Derived.Test.YtaicmdnpjgijjaaGreatDoorHb
import Derived.Test.YtaicmdnpjgijjaaGreatDoorWm
import Derived.Test.YtaicmdnpjgijjaaGreatDoorPn
namespace Go.Proofs.YtaicmdnpjgijjaaGreatDoor
open Go Go.Ma
noncomputable def addr_Parse_env : Env := mkEnv ty fnB [(50, addr_told_con)] []
theorem addr_Parse_envOk : EnvOk Tryz.prog addr_Parse_env := envOk tyOk fn_ok (callsCons addr_told_ok callsNil) _
noncomputable def addr_Parse_con : Con := con [.one (.fl .str)] [.one (.fl .addr), .one (.fl .int)] (fun x => addr_Parse_t x.1)
theorem addr_Parse_ok : TrOk Tryz.prog 30 addr_Parse_con := by
  have h : loopsOf (codeOf Tryz.f30) = [] := by kernel_rfl
  refine con_ok addr_Parse_envOk Tryz.func30 (bodyOk h lsNil) [.one (.fl .str)] [.one (.fl .addr), .one (.fl .int)] _ (fun x => ?_)
  kernel_rfl

noncomputable def prefix_Parse_env : Env := mkEnv ty fnB [(37, strings_Cut_con), (30, addr_Parse_con), (38, prefix_Digits_con), (28, prefix_Check_con)] []
theorem prefix_Parse_envOk : EnvOk Tryz.prog prefix_Parse_env := envOk tyOk fn_ok (callsCons strings_Cut_ok (callsCons addr_Parse_ok (callsCons prefix_Digits_ok (callsCons prefix_Check_ok callsNil)))) _
noncomputable def prefix_Parse_con : Con := con [.one (.fl .str)] [.one (.fl .pfx), .one (.fl .int)] (fun x => prefix_Parse_t x.1)
theorem prefix_Parse_ok : TrOk Tryz.prog 15 prefix_Parse_con := by
  have h : loopsOf (codeOf Tryz.f15) = [] := by kernel_rfl
  refine con_ok prefix_Parse_envOk Tryz.func15 (bodyOk h lsNil) [.one (.fl .str)] [.one (.fl .pfx), .one (.fl .int)] _ (fun x => ?_)
  kernel_rfl

noncomputable def law_prefixBegun_env : Env := mkEnv ty fnB [(15, prefix_Parse_con), (27, law_net_con), (8, prefix_Has_con), (11, prefix_Ends_con), (13, prefix_Halves_con), (16, prefix_Whole_con), (14, prefix_Print_con), (28, prefix_Check_con), (29, law_v4_con)] []
theorem law_prefixBegun_envOk : EnvOk Tryz.prog law_prefixBegun_env := envOk tyOk fn_ok (callsCons prefix_Parse_ok (callsCons law_net_ok (callsCons prefix_Has_ok (callsCons prefix_Ends_ok (callsCons prefix_Halves_ok (callsCons prefix_Whole_ok (callsCons prefix_Print_ok (callsCons prefix_Check_ok (callsCons law_v4_ok callsNil))))))))) _
noncomputable def law_prefixBegun_con : Con := con [] [.one (.fl .bool)] (fun x => law_prefixBegun_t)
theorem law_prefixBegun_ok : TrOk Tryz.prog 9 law_prefixBegun_con := by
  have h : loopsOf (codeOf Tryz.f9) = [] := by kernel_rfl
  refine con_ok law_prefixBegun_envOk Tryz.func9 (bodyOk h lsNil) [] [.one (.fl .bool)] _ (fun x => ?_)
  kernel_rfl

noncomputable def law_addrBegun_env : Env := mkEnv ty fnB [(30, addr_Parse_con), (31, addr_Print_con), (17, addr_Next_con), (12, addr_Less_con), (29, law_v4_con)] []
theorem law_addrBegun_envOk : EnvOk Tryz.prog law_addrBegun_env := envOk tyOk fn_ok (callsCons addr_Parse_ok (callsCons addr_Print_ok (callsCons addr_Next_ok (callsCons addr_Less_ok (callsCons law_v4_ok callsNil))))) _
noncomputable def law_addrBegun_con : Con := con [] [.one (.fl .bool)] (fun x => law_addrBegun_t)
theorem law_addrBegun_ok : TrOk Tryz.prog 10 law_addrBegun_con := by
  have h : loopsOf (codeOf Tryz.f10) = [] := by kernel_rfl
  refine con_ok law_addrBegun_envOk Tryz.func10 (bodyOk h lsNil) [] [.one (.fl .bool)] _ (fun x => ?_)
  kernel_rfl

noncomputable def law_PrefixApart_env : Env := mkEnv ty fnB [(8, prefix_Has_con), (9, law_prefixBegun_con), (10, law_addrBegun_con), (11, prefix_Ends_con), (12, addr_Less_con)] []
theorem law_PrefixApart_envOk : EnvOk Tryz.prog law_PrefixApart_env := envOk tyOk fn_ok (callsCons prefix_Has_ok (callsCons law_prefixBegun_ok (callsCons law_addrBegun_ok (callsCons prefix_Ends_ok (callsCons addr_Less_ok callsNil))))) _
noncomputable def law_PrefixApart_con : Con := con [.one (.fl .pfx), .one (.fl .pfx), .one (.fl .pfx)] [.one (.fl .bool)] (fun x => law_PrefixApart_t x.1 x.2.1 x.2.2.1)
theorem law_PrefixApart_ok : TrOk Tryz.prog 3 law_PrefixApart_con := by
  have h : loopsOf (codeOf Tryz.f3) = [] := by kernel_rfl
  refine con_ok law_PrefixApart_envOk Tryz.func3 (bodyOk h lsNil) [.one (.fl .pfx), .one (.fl .pfx), .one (.fl .pfx)] [.one (.fl .bool)] _ (fun x => ?_)
  kernel_rfl

noncomputable def law_PrefixHalves_env : Env := mkEnv ty fnB [(13, prefix_Halves_con), (9, law_prefixBegun_con), (10, law_addrBegun_con), (14, prefix_Print_con), (15, prefix_Parse_con), (16, prefix_Whole_con), (11, prefix_Ends_con), (17, addr_Next_con)] []
theorem law_PrefixHalves_envOk : EnvOk Tryz.prog law_PrefixHalves_env := envOk tyOk fn_ok (callsCons prefix_Halves_ok (callsCons law_prefixBegun_ok (callsCons law_addrBegun_ok (callsCons prefix_Print_ok (callsCons prefix_Parse_ok (callsCons prefix_Whole_ok (callsCons prefix_Ends_ok (callsCons addr_Next_ok callsNil)))))))) _
noncomputable def law_PrefixHalves_con : Con := con [.one (.fl .pfx)] [.one (.fl .bool)] (fun x => law_PrefixHalves_t x.1)
theorem law_PrefixHalves_ok : TrOk Tryz.prog 4 law_PrefixHalves_con := by
  have h : loopsOf (codeOf Tryz.f4) = [] := by kernel_rfl
  refine con_ok law_PrefixHalves_envOk Tryz.func4 (bodyOk h lsNil) [.one (.fl .pfx)] [.one (.fl .bool)] _ (fun x => ?_)
  kernel_rfl

noncomputable def law_PrefixEnds_env : Env := mkEnv ty fnB [(9, law_prefixBegun_con), (10, law_addrBegun_con), (11, prefix_Ends_con), (18, addr_Check_con), (19, R_Host_con), (8, prefix_Has_con), (12, addr_Less_con)] []
theorem law_PrefixEnds_envOk : EnvOk Tryz.prog law_PrefixEnds_env := envOk tyOk fn_ok (callsCons law_prefixBegun_ok (callsCons law_addrBegun_ok (callsCons prefix_Ends_ok (callsCons addr_Check_ok (callsCons R_Host_ok (callsCons prefix_Has_ok (callsCons addr_Less_ok callsNil))))))) _
noncomputable def law_PrefixEnds_con : Con := con [.one (.fl .pfx), .one (.fl .addr)] [.one (.fl .bool)] (fun x => law_PrefixEnds_t x.1 x.2.1)
theorem law_PrefixEnds_ok : TrOk Tryz.prog 5 law_PrefixEnds_con := by
  have h : loopsOf (codeOf Tryz.f5) = [] := by kernel_rfl
  refine con_ok law_PrefixEnds_envOk Tryz.func5 (bodyOk h lsNil) [.one (.fl .pfx), .one (.fl .addr)] [.one (.fl .bool)] _ (fun x => ?_)
  kernel_rfl

noncomputable def law_tableBegun_env : Env := mkEnv ty fnB [(42, law_routes_con), (29, law_v4_con), (24, table_Find_con), (23, table_Above_con), (22, table_Below_con), (21, table_Check_con)] []
theorem law_tableBegun_envOk : EnvOk Tryz.prog law_tableBegun_env := envOk tyOk fn_ok (callsCons law_routes_ok (callsCons law_v4_ok (callsCons table_Find_ok (callsCons table_Above_ok (callsCons table_Below_ok (callsCons table_Check_ok callsNil)))))) _
noncomputable def law_tableBegun_con : Con := con [] [.one (.fl .bool)] (fun x => law_tableBegun_t)
theorem law_tableBegun_ok : TrOk Tryz.prog 20 law_tableBegun_con := by
  have h : loopsOf (codeOf Tryz.f20) = [] := by kernel_rfl
  refine con_ok law_tableBegun_envOk Tryz.func20 (bodyOk h lsNil) [] [.one (.fl .bool)] _ (fun x => ?_)
  kernel_rfl

def law_TableTree_L14_S : LoopS := { n := 160, base := 1, head := { keep := [0, 3, 5, 6, 7, 9], vals := [.one (.cst (.row 0)), .one (.cst (.ptr 1 0)), .one (.fl .int), .one (.fl .int), .one (.cst (.row 2)), .one (.fl .int)], objs := [.row .pfx 26 false, .blk [.fl .addr] 24 true, .row .int 3 true] }, exits := [⟨none, { keep := [4], vals := [.one (.fl .bool)], objs := [.row .pfx 26 false] }⟩, ⟨some 2, { keep := [0, 3, 5, 6], vals := [.one (.cst (.row 0)), .one (.cst (.ptr 1 0)), .one (.fl .int), .one (.fl .int)], objs := [.row .pfx 26 false, .blk [.fl .addr] 24 true] }⟩] }
def law_TableTree_L7_S : LoopS := { n := 160, base := 1, head := { keep := [0, 3, 5, 6], vals := [.one (.cst (.row 0)), .one (.cst (.ptr 1 0)), .one (.fl .int), .one (.fl .int)], objs := [.row .pfx 26 false, .blk [.fl .addr] 24 true] }, exits := [⟨none, { keep := [4], vals := [.one (.fl .bool)], objs := [.row .pfx 26 false] }⟩, ⟨some 0, { keep := [0, 3, 5], vals := [.one (.cst (.row 0)), .one (.cst (.ptr 1 0)), .one (.fl .int)], objs := [.row .pfx 26 false, .blk [.fl .addr] 24 true] }⟩] }
def law_TableTree_L29_S : LoopS := { n := 160, base := 1, head := { keep := [0, 3, 16, 18], vals := [.one (.cst (.row 0)), .one (.cst (.ptr 1 0)), .one (.fl .int), .one (.fl .int)], objs := [.row .pfx 26 false, .blk [.fl .addr] 24 true] }, exits := [⟨none, { keep := [4], vals := [.one (.fl .bool)], objs := [.row .pfx 26 false] }⟩, ⟨some 4, { keep := [], vals := [], objs := [.row .pfx 26 false] }⟩] }
noncomputable def law_TableTree_env : Env := mkEnv ty fnB [(20, law_tableBegun_con), (9, law_prefixBegun_con), (21, table_Check_con), (22, table_Below_con), (23, table_Above_con), (8, prefix_Has_con), (24, table_Find_con), (19, R_Host_con)] [(14, (loopTr law_TableTree_L14_S (loopN law_TableTree_L14 FUEL))), (7, (loopTr law_TableTree_L7_S (loopN law_TableTree_L7 FUEL))), (29, (loopTr law_TableTree_L29_S (loopN law_TableTree_L29 FUEL)))]
theorem law_TableTree_envOk : EnvOk Tryz.prog law_TableTree_env := envOk tyOk fn_ok (callsCons law_tableBegun_ok (callsCons law_prefixBegun_ok (callsCons table_Check_ok (callsCons table_Below_ok (callsCons table_Above_ok (callsCons prefix_Has_ok (callsCons table_Find_ok (callsCons R_Host_ok callsNil)))))))) _
theorem law_TableTree_L14_ok : LOk Tryz.prog (nthLoop (nthLoop (codeOf Tryz.f6) 0) 0) (loopTr law_TableTree_L14_S (loopN law_TableTree_L14 FUEL)) := by
  have h : loopsOf (nthLoop (nthLoop (codeOf Tryz.f6) 0) 0) = [] := by kernel_rfl
  refine loop_ok law_TableTree_envOk (loopsOk h lsNil) law_TableTree_L14_S law_TableTree_L14 FUEL (fun rec x => ?_)
  kernel_rfl
theorem law_TableTree_L29_ok : LOk Tryz.prog (nthLoop (codeOf Tryz.f6) 1) (loopTr law_TableTree_L29_S (loopN law_TableTree_L29 FUEL)) := by
  have h : loopsOf (nthLoop (codeOf Tryz.f6) 1) = [] := by kernel_rfl
  refine loop_ok law_TableTree_envOk (loopsOk h lsNil) law_TableTree_L29_S law_TableTree_L29 FUEL (fun rec x => ?_)
  kernel_rfl
theorem law_TableTree_L7_ok : LOk Tryz.prog (nthLoop (codeOf Tryz.f6) 0) (loopTr law_TableTree_L7_S (loopN law_TableTree_L7 FUEL)) := by
  have h : loopsOf (nthLoop (codeOf Tryz.f6) 0) = [(nthLoop (nthLoop (codeOf Tryz.f6) 0) 0)] := by kernel_rfl
  refine loop_ok law_TableTree_envOk (loopsOk h (lsCons (one_loop (t := (loopTr law_TableTree_L14_S (loopN law_TableTree_L14 FUEL))) (by kernel_rfl) law_TableTree_L14_ok) lsNil)) law_TableTree_L7_S law_TableTree_L7 FUEL (fun rec x => ?_)
  kernel_rfl
noncomputable def law_TableTree_con : Con := con [.one (.row .pfx 26), .one (.fl .addr)] [.one (.fl .bool)] (fun x => law_TableTree_t x.1 x.2.1)
theorem law_TableTree_ok : TrOk Tryz.prog 6 law_TableTree_con := by
  have h : loopsOf (codeOf Tryz.f6) = [(nthLoop (codeOf Tryz.f6) 0), (nthLoop (codeOf Tryz.f6) 1)] := by kernel_rfl
  refine con_ok law_TableTree_envOk Tryz.func6 (bodyOk h (lsCons (one_loop (t := (loopTr law_TableTree_L7_S (loopN law_TableTree_L7 FUEL))) (by kernel_rfl) law_TableTree_L7_ok) (lsCons (one_loop (t := (loopTr law_TableTree_L29_S (loopN law_TableTree_L29 FUEL))) (by kernel_rfl) law_TableTree_L29_ok) lsNil))) [.one (.row .pfx 26), .one (.fl .addr)] [.one (.fl .bool)] _ (fun x => ?_)
  kernel_rfl

noncomputable def law_TableMore_env : Env := mkEnv ty fnB [(20, law_tableBegun_con), (9, law_prefixBegun_con), (24, table_Find_con), (23, table_Above_con)] []
theorem law_TableMore_envOk : EnvOk Tryz.prog law_TableMore_env := envOk tyOk fn_ok (callsCons law_tableBegun_ok (callsCons law_prefixBegun_ok (callsCons table_Find_ok (callsCons table_Above_ok callsNil)))) _
noncomputable def law_TableMore_con : Con := con [.one (.row .pfx 26), .one (.fl .addr), .one (.fl .int)] [.one (.fl .bool)] (fun x => law_TableMore_t x.1 x.2.1 x.2.2.1)
theorem law_TableMore_ok : TrOk Tryz.prog 7 law_TableMore_con := by
  have h : loopsOf (codeOf Tryz.f7) = [] := by kernel_rfl
  refine con_ok law_TableMore_envOk Tryz.func7 (bodyOk h lsNil) [.one (.row .pfx 26), .one (.fl .addr), .one (.fl .int)] [.one (.fl .bool)] _ (fun x => ?_)
  kernel_rfl

end Go.Proofs.YtaicmdnpjgijjaaGreatDoor
