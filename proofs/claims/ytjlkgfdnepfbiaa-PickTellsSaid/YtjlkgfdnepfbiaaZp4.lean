/-
  For every input PickTells of the package yardarmlaw returns true, and each of its arguments reads behind the call as it read before. No condition.
-/
import Derived.WalkKit
import Derived.ProofKit
import Derived.Laws.IdiomStrings
import Derived.Deep.Cut
import Derived.Shelf.SlSortCmp.WholeK
import Derived.Test.YtjlkgfdnepfbiaaProg
import Derived.Lib.Walk
import Derived.Laws.AppendOwn
import Derived.Shelf.SlSortCmp.NoneTotal
import Derived.Test.YtjlkgfdnepfbiaaRows
import Derived.OpenShut
import Derived.ShutString
import Derived.ChangeOld
import Derived.Below
import Derived.Test.YtjlkgfdnepfbiaaZp3
set_option linter.unusedVariables false
set_option linter.unusedSimpArgs false
namespace Go.Proofs.Ytjlkgfdnepfbiaa
open Go Go.Ma
noncomputable def addr_Check_env : Env := mkEnv ty fnB [] []
theorem addr_Check_envOk : EnvOk Try.prog addr_Check_env := envOk tyOk fn_ok callsNil _
noncomputable def addr_Check_con : Con := con [.one (.fl .addr)] [.one (.fl .int)] (fun x => addr_Check_t x.1)
theorem addr_Check_ok : TrOk Try.prog 22 addr_Check_con := by
 have h : loopsOf (codeOf Try.f22) = [] := by kernel_rfl
 refine con_ok addr_Check_envOk Try.func22 (bodyOk h lsNil) _ _ _ (fun x => ?_)
 kernel_rfl
noncomputable def prefix_Wide_env : Env := mkEnv ty fnB [] []
theorem prefix_Wide_envOk : EnvOk Try.prog prefix_Wide_env := envOk tyOk fn_ok callsNil _
noncomputable def prefix_Wide_con : Con := con [.one (.fl .addr)] [.one (.fl .int)] (fun x => prefix_Wide_t x.1)
theorem prefix_Wide_ok : TrOk Try.prog 36 prefix_Wide_con := by
 have h : loopsOf (codeOf Try.f36) = [] := by kernel_rfl
 refine con_ok prefix_Wide_envOk Try.func36 (bodyOk h lsNil) _ _ _ (fun x => ?_)
 kernel_rfl
noncomputable def prefix_mask_env : Env := mkEnv ty fnB [(36, prefix_Wide_con)] []
theorem prefix_mask_envOk : EnvOk Try.prog prefix_mask_env := envOk tyOk fn_ok (callsCons prefix_Wide_ok callsNil) _
noncomputable def prefix_mask_con : Con := con [.one (.fl .addr), .one (.fl .int)] [.one (.fl .addr)] (fun x => prefix_mask_t x.1 x.2.1)
theorem prefix_mask_ok : TrOk Try.prog 54 prefix_mask_con := by
 have h : loopsOf (codeOf Try.f54) = [] := by kernel_rfl
 refine con_ok prefix_mask_envOk Try.func54 (bodyOk h lsNil) _ _ _ (fun x => ?_)
 kernel_rfl
noncomputable def prefix_Cut_env : Env := mkEnv ty fnB [(54, prefix_mask_con)] []
theorem prefix_Cut_envOk : EnvOk Try.prog prefix_Cut_env := envOk tyOk fn_ok (callsCons prefix_mask_ok callsNil) _
noncomputable def prefix_Cut_con : Con := con [.one (.fl .addr), .one (.fl .int)] [.one (.fl .addr)] (fun x => prefix_Cut_t x.1 x.2.1)
theorem prefix_Cut_ok : TrOk Try.prog 46 prefix_Cut_con := by
 have h : loopsOf (codeOf Try.f46) = [] := by kernel_rfl
 refine con_ok prefix_Cut_envOk Try.func46 (bodyOk h lsNil) _ _ _ (fun x => ?_)
 kernel_rfl
noncomputable def prefix_Check_env : Env := mkEnv ty fnB [(22, addr_Check_con), (36, prefix_Wide_con), (46, prefix_Cut_con)] []
theorem prefix_Check_envOk : EnvOk Try.prog prefix_Check_env := envOk tyOk fn_ok (callsCons addr_Check_ok (callsCons prefix_Wide_ok (callsCons prefix_Cut_ok callsNil))) _
noncomputable def prefix_Check_con : Con := con [.one (.fl .pfx)] [.one (.fl .int)] (fun x => prefix_Check_t x.1)
theorem prefix_Check_ok : TrOk Try.prog 26 prefix_Check_con := by
 have h : loopsOf (codeOf Try.f26) = [] := by kernel_rfl
 refine con_ok prefix_Check_envOk Try.func26 (bodyOk h lsNil) _ _ _ (fun x => ?_)
 kernel_rfl
def span_Right_L4_S : LoopS := { n := 21, base := 1, head := { keep := [9, 10, 11], vals := [.one (.cst (.row 0)), .one (.fl .int), .one (.fl .int)], objs := [.row .pfx 27 false] }, exits := [⟨none, { keep := [2], vals := [.one (.fl .int)], objs := [.row .pfx 27 false] }⟩, ⟨some 0, { keep := [], vals := [], objs := [.row .pfx 27 false] }⟩] }
noncomputable def span_Right_env : Env := mkEnv ty fnB [(26, prefix_Check_con)] [(4, (loopTr span_Right_L4_S (loopN span_Right_L4 FUEL)))]
theorem span_Right_envOk : EnvOk Try.prog span_Right_env := envOk tyOk fn_ok (callsCons prefix_Check_ok callsNil) _
theorem span_Right_L4_ok : LOk Try.prog (nthLoop (codeOf Try.f20) 0) (loopTr span_Right_L4_S (loopN span_Right_L4 FUEL)) := by
 have h : loopsOf (nthLoop (codeOf Try.f20) 0) = [] := by kernel_rfl
 refine loop_ok span_Right_envOk (loopsOk h lsNil) span_Right_L4_S span_Right_L4 FUEL (fun rec x => ?_)
 kernel_rfl
noncomputable def span_Right_con : Con := con [.one (.row .pfx 27)] [.one (.fl .int)] (fun x => span_Right_t x.1)
theorem span_Right_ok : TrOk Try.prog 20 span_Right_con := by
 have h : loopsOf (codeOf Try.f20) = [(nthLoop (codeOf Try.f20) 0)] := by kernel_rfl
 refine con_ok span_Right_envOk Try.func20 (bodyOk h (lsCons (one_loop (t := (loopTr span_Right_L4_S (loopN span_Right_L4 FUEL))) (by kernel_rfl) span_Right_L4_ok) lsNil)) _ _ _ (fun x => ?_)
 kernel_rfl
noncomputable def slices_Clone___api_Prefix_api_Prefix__env : Env := mkEnv ty fnB [] []
theorem slices_Clone___api_Prefix_api_Prefix__envOk : EnvOk Try.prog slices_Clone___api_Prefix_api_Prefix__env := envOk tyOk fn_ok callsNil _
noncomputable def slices_Clone___api_Prefix_api_Prefix__con : Con := con [.one (.row .pfx 27)] [.one (.row .pfx 27)] (fun x => zq6 x.1)
theorem slices_Clone___api_Prefix_api_Prefix__ok : TrOk Try.prog 42 slices_Clone___api_Prefix_api_Prefix__con := by
 have h : loopsOf (codeOf Try.f42) = [] := by kernel_rfl
 refine con_ok slices_Clone___api_Prefix_api_Prefix__envOk Try.func42 (bodyOk h lsNil) _ _ _ (fun x => ?_)
 kernel_rfl
noncomputable def prefix_Holds_env : Env := mkEnv ty fnB [(46, prefix_Cut_con)] []
theorem prefix_Holds_envOk : EnvOk Try.prog prefix_Holds_env := envOk tyOk fn_ok (callsCons prefix_Cut_ok callsNil) _
noncomputable def prefix_Holds_con : Con := con [.one (.fl .pfx), .one (.fl .addr)] [.one (.fl .bool)] (fun x => prefix_Holds_t x.1 x.2.1)
theorem prefix_Holds_ok : TrOk Try.prog 25 prefix_Holds_con := by
 have h : loopsOf (codeOf Try.f25) = [] := by kernel_rfl
 refine con_ok prefix_Holds_envOk Try.func25 (bodyOk h lsNil) _ _ _ (fun x => ?_)
 kernel_rfl
noncomputable def prefix_Over_env : Env := mkEnv ty fnB [(25, prefix_Holds_con)] []
theorem prefix_Over_envOk : EnvOk Try.prog prefix_Over_env := envOk tyOk fn_ok (callsCons prefix_Holds_ok callsNil) _
noncomputable def prefix_Over_con : Con := con [.one (.fl .pfx), .one (.fl .pfx)] [.one (.fl .bool)] (fun x => prefix_Over_t x.1 x.2.1)
theorem prefix_Over_ok : TrOk Try.prog 52 prefix_Over_con := by
 have h : loopsOf (codeOf Try.f52) = [] := by kernel_rfl
 refine con_ok prefix_Over_envOk Try.func52 (bodyOk h lsNil) _ _ _ (fun x => ?_)
 kernel_rfl
noncomputable def prefix_Last_env : Env := mkEnv ty fnB [(54, prefix_mask_con)] []
theorem prefix_Last_envOk : EnvOk Try.prog prefix_Last_env := envOk tyOk fn_ok (callsCons prefix_mask_ok callsNil) _
noncomputable def prefix_Last_con : Con := con [.one (.fl .pfx)] [.one (.fl .addr)] (fun x => prefix_Last_t x.1)
theorem prefix_Last_ok : TrOk Try.prog 68 prefix_Last_con := by
 have h : loopsOf (codeOf Try.f68) = [] := by kernel_rfl
 refine con_ok prefix_Last_envOk Try.func68 (bodyOk h lsNil) _ _ _ (fun x => ?_)
 kernel_rfl
noncomputable def addr_After_env : Env := mkEnv ty fnB [] []
theorem addr_After_envOk : EnvOk Try.prog addr_After_env := envOk tyOk fn_ok callsNil _
noncomputable def addr_After_con : Con := con [.one (.fl .addr)] [.one (.fl .addr), .one (.fl .bool)] (fun x => addr_After_t x.1)
theorem addr_After_ok : TrOk Try.prog 67 addr_After_con := by
 have h : loopsOf (codeOf Try.f67) = [] := by kernel_rfl
 refine con_ok addr_After_envOk Try.func67 (bodyOk h lsNil) _ _ _ (fun x => ?_)
 kernel_rfl
noncomputable def prefix_Split_env : Env := mkEnv ty fnB [(68, prefix_Last_con), (67, addr_After_con)] []
theorem prefix_Split_envOk : EnvOk Try.prog prefix_Split_env := envOk tyOk fn_ok (callsCons prefix_Last_ok (callsCons addr_After_ok callsNil)) _
noncomputable def prefix_Split_con : Con := con [.one (.fl .pfx)] [.one (.fl .pfx), .one (.fl .pfx)] (fun x => prefix_Split_t x.1)
theorem prefix_Split_ok : TrOk Try.prog 55 prefix_Split_con := by
 have h : loopsOf (codeOf Try.f55) = [] := by kernel_rfl
 refine con_ok prefix_Split_envOk Try.func55 (bodyOk h lsNil) _ _ _ (fun x => ?_)
 kernel_rfl
noncomputable def prefix_Joined_env : Env := mkEnv ty fnB [(46, prefix_Cut_con), (55, prefix_Split_con)] []
theorem prefix_Joined_envOk : EnvOk Try.prog prefix_Joined_env := envOk tyOk fn_ok (callsCons prefix_Cut_ok (callsCons prefix_Split_ok callsNil)) _
noncomputable def prefix_Joined_con : Con := con [.one (.fl .pfx), .one (.fl .pfx)] [.one (.fl .pfx), .one (.fl .bool)] (fun x => prefix_Joined_t x.1 x.2.1)
theorem prefix_Joined_ok : TrOk Try.prog 53 prefix_Joined_con := by
 have h : loopsOf (codeOf Try.f53) = [] := by kernel_rfl
 refine con_ok prefix_Joined_envOk Try.func53 (bodyOk h lsNil) _ _ _ (fun x => ?_)
 kernel_rfl
noncomputable def span_rest_env (span_rest_rec_con : Con) : Env := mkEnv ty fnB [(52, prefix_Over_con), (55, prefix_Split_con), (47, span_rest_rec_con)] []
theorem span_rest_envOk {span_rest_rec_con : Con} (span_rest_rec_ok : TrOk Try.prog 47 span_rest_rec_con) : EnvOk Try.prog (span_rest_env span_rest_rec_con) := envOk tyOk fn_ok (callsCons prefix_Over_ok (callsCons prefix_Split_ok (callsCons span_rest_rec_ok callsNil))) _
theorem span_rest_step_ok (span_rest_rec_t : Pf → Pf → Option ((List Pf) × Unit)) (span_rest_rec_ok : TrOk Try.prog 47 (con [.one (.fl .pfx), .one (.fl .pfx)] [.one (.row .pfx 27)] (fun x => span_rest_rec_t x.1 x.2.1))) : TrOk Try.prog 47 (con [.one (.fl .pfx), .one (.fl .pfx)] [.one (.row .pfx 27)] (fun x => span_rest_step span_rest_rec_t x.1 x.2.1)) := by
 have h : loopsOf (codeOf Try.f47) = [] := by kernel_rfl
 refine con_ok (span_rest_envOk span_rest_rec_ok) Try.func47 (bodyOk h lsNil) _ _ _ (fun x => ?_)
 kernel_rfl
theorem span_rest_fuel_ok : ∀ n, TrOk Try.prog 47 (con [.one (.fl .pfx), .one (.fl .pfx)] [.one (.row .pfx 27)] (fun x => span_rest_fuel n x.1 x.2.1))
 | 0 => con_none Try.prog 47 [.one (.fl .pfx), .one (.fl .pfx)] [.one (.row .pfx 27)]
 | n + 1 => span_rest_step_ok _ (span_rest_fuel_ok n)
noncomputable def span_rest_con : Con := con [.one (.fl .pfx), .one (.fl .pfx)] [.one (.row .pfx 27)] (fun x => span_rest_t x.1 x.2.1)
theorem span_rest_ok : TrOk Try.prog 47 span_rest_con := span_rest_fuel_ok RECN
noncomputable def R_CheckAddr_env : Env := mkEnv ty fnB [] []
theorem R_CheckAddr_envOk : EnvOk Try.prog R_CheckAddr_env := envOk tyOk fn_ok callsNil _
noncomputable def R_CheckAddr_con : Con := con [.one (.fl .addr)] [.one (.fl .int)] (fun x => R_CheckAddr_t x.1)
theorem R_CheckAddr_ok : TrOk Try.prog 9 R_CheckAddr_con := by
 have h : loopsOf (codeOf Try.f9) = [] := by kernel_rfl
 refine con_ok R_CheckAddr_envOk Try.func9 (bodyOk h lsNil) _ _ _ (fun x => ?_)
 kernel_rfl
noncomputable def R_wide_env : Env := mkEnv ty fnB [] []
theorem R_wide_envOk : EnvOk Try.prog R_wide_env := envOk tyOk fn_ok callsNil _
noncomputable def R_wide_con : Con := con [.one (.fl .addr)] [.one (.fl .int)] (fun x => R_wide_t x.1)
theorem R_wide_ok : TrOk Try.prog 29 R_wide_con := by
 have h : loopsOf (codeOf Try.f29) = [] := by kernel_rfl
 refine con_ok R_wide_envOk Try.func29 (bodyOk h lsNil) _ _ _ (fun x => ?_)
 kernel_rfl
noncomputable def R_between_env : Env := mkEnv ty fnB [] []
theorem R_between_envOk : EnvOk Try.prog R_between_env := envOk tyOk fn_ok callsNil _
noncomputable def R_between_con : Con := con [.one (.fl .int), .one (.fl .int), .one (.fl .int)] [.one (.fl .bool)] (fun x => R_between_t x.1 x.2.1 x.2.2.1)
theorem R_between_ok : TrOk Try.prog 28 R_between_con := by
 have h : loopsOf (codeOf Try.f28) = [] := by kernel_rfl
 refine con_ok R_between_envOk Try.func28 (bodyOk h lsNil) _ _ _ (fun x => ?_)
 kernel_rfl
def R_Bits_L3_S : LoopS := { n := 42, base := 0, head := { keep := [1, 3, 4], vals := [.one (.cst (.ptr 0 0)), .one (.cst (.row 1)), .one (.fl .int)], objs := [.blk [.fl .addr] 25 true, .row .u8 5 true] }, exits := [⟨some 0, { keep := [1, 3], vals := [.one (.cst (.ptr 0 0)), .one (.cst (.row 1))], objs := [.blk [.fl .addr] 25 true, .row .u8 5 true] }⟩] }
def R_Bits_L7_S : LoopS := { n := 42, base := 0, head := { keep := [1, 3, 5], vals := [.one (.cst (.ptr 0 0)), .one (.cst (.row 1)), .one (.fl .int)], objs := [.blk [.fl .addr] 25 true, .row .u8 5 true] }, exits := [⟨some 2, { keep := [1, 3], vals := [.one (.cst (.ptr 0 0)), .one (.cst (.row 1))], objs := [.blk [.fl .addr] 25 true, .row .u8 5 true] }⟩] }
noncomputable def R_Bits_env : Env := mkEnv ty fnB [] [(3, (loopTr R_Bits_L3_S (loopN R_Bits_L3 FUEL))), (7, (loopTr R_Bits_L7_S (loopN R_Bits_L7 FUEL)))]
theorem R_Bits_envOk : EnvOk Try.prog R_Bits_env := envOk tyOk fn_ok callsNil _
theorem R_Bits_L7_ok : LOk Try.prog (nthLoop (codeOf Try.f17) 1) (loopTr R_Bits_L7_S (loopN R_Bits_L7 FUEL)) := by
 have h : loopsOf (nthLoop (codeOf Try.f17) 1) = [] := by kernel_rfl
 refine loop_ok R_Bits_envOk (loopsOk h lsNil) R_Bits_L7_S R_Bits_L7 FUEL (fun rec x => ?_)
 kernel_rfl
theorem R_Bits_L3_ok : LOk Try.prog (nthLoop (codeOf Try.f17) 0) (loopTr R_Bits_L3_S (loopN R_Bits_L3 FUEL)) := by
 have h : loopsOf (nthLoop (codeOf Try.f17) 0) = [] := by kernel_rfl
 refine loop_ok R_Bits_envOk (loopsOk h lsNil) R_Bits_L3_S R_Bits_L3 FUEL (fun rec x => ?_)
 kernel_rfl
noncomputable def R_Bits_con : Con := con [.one (.fl .addr)] [.one (.fl .str)] (fun x => R_Bits_t x.1)
theorem R_Bits_ok : TrOk Try.prog 17 R_Bits_con := by
 have h : loopsOf (codeOf Try.f17) = [(nthLoop (codeOf Try.f17) 0), (nthLoop (codeOf Try.f17) 1)] := by kernel_rfl
 refine con_ok R_Bits_envOk Try.func17 (bodyOk h (lsCons (one_loop (t := (loopTr R_Bits_L3_S (loopN R_Bits_L3 FUEL))) (by kernel_rfl) R_Bits_L3_ok) (lsCons (one_loop (t := (loopTr R_Bits_L7_S (loopN R_Bits_L7 FUEL))) (by kernel_rfl) R_Bits_L7_ok) lsNil))) _ _ _ (fun x => ?_)
 kernel_rfl
def R_CheckPrefix_L8_S : LoopS := { n := 34, base := 0, head := { keep := [4, 5], vals := [.one (.fl .str), .one (.fl .int)], objs := [] }, exits := [⟨none, { keep := [2], vals := [.one (.fl .int)], objs := [] }⟩, ⟨some 0, { keep := [], vals := [], objs := [] }⟩] }
noncomputable def R_CheckPrefix_env : Env := mkEnv ty fnB [(9, R_CheckAddr_con), (29, R_wide_con), (28, R_between_con), (17, R_Bits_con)] [(8, (loopTr R_CheckPrefix_L8_S (loopN R_CheckPrefix_L8 FUEL)))]
theorem R_CheckPrefix_envOk : EnvOk Try.prog R_CheckPrefix_env := envOk tyOk fn_ok (callsCons R_CheckAddr_ok (callsCons R_wide_ok (callsCons R_between_ok (callsCons R_Bits_ok callsNil)))) _
theorem R_CheckPrefix_L8_ok : LOk Try.prog (nthLoop (codeOf Try.f10) 0) (loopTr R_CheckPrefix_L8_S (loopN R_CheckPrefix_L8 FUEL)) := by
 have h : loopsOf (nthLoop (codeOf Try.f10) 0) = [] := by kernel_rfl
 refine loop_ok R_CheckPrefix_envOk (loopsOk h lsNil) R_CheckPrefix_L8_S R_CheckPrefix_L8 FUEL (fun rec x => ?_)
 kernel_rfl
noncomputable def R_CheckPrefix_con : Con := con [.one (.fl .pfx)] [.one (.fl .int)] (fun x => R_CheckPrefix_t x.1)
theorem R_CheckPrefix_ok : TrOk Try.prog 10 R_CheckPrefix_con := by
 have h : loopsOf (codeOf Try.f10) = [(nthLoop (codeOf Try.f10) 0)] := by kernel_rfl
 refine con_ok R_CheckPrefix_envOk Try.func10 (bodyOk h (lsCons (one_loop (t := (loopTr R_CheckPrefix_L8_S (loopN R_CheckPrefix_L8 FUEL))) (by kernel_rfl) R_CheckPrefix_L8_ok) lsNil)) _ _ _ (fun x => ?_)
 kernel_rfl
def R_CheckList_L4_S : LoopS := { n := 22, base := 1, head := { keep := [0, 3], vals := [.one (.cst (.row 0)), .one (.fl .int)], objs := [.row .pfx 27 false] }, exits := [⟨none, { keep := [2], vals := [.one (.fl .int)], objs := [.row .pfx 27 false] }⟩, ⟨some 0, { keep := [], vals := [], objs := [.row .pfx 27 false] }⟩] }
noncomputable def R_CheckList_env : Env := mkEnv ty fnB [(10, R_CheckPrefix_con)] [(4, (loopTr R_CheckList_L4_S (loopN R_CheckList_L4 FUEL)))]
theorem R_CheckList_envOk : EnvOk Try.prog R_CheckList_env := envOk tyOk fn_ok (callsCons R_CheckPrefix_ok callsNil) _
theorem R_CheckList_L4_ok : LOk Try.prog (nthLoop (codeOf Try.f8) 0) (loopTr R_CheckList_L4_S (loopN R_CheckList_L4 FUEL)) := by
 have h : loopsOf (nthLoop (codeOf Try.f8) 0) = [] := by kernel_rfl
 refine loop_ok R_CheckList_envOk (loopsOk h lsNil) R_CheckList_L4_S R_CheckList_L4 FUEL (fun rec x => ?_)
 kernel_rfl
noncomputable def R_CheckList_con : Con := con [.one (.row .pfx 27)] [.one (.fl .int)] (fun x => R_CheckList_t x.1)
theorem R_CheckList_ok : TrOk Try.prog 8 R_CheckList_con := by
 have h : loopsOf (codeOf Try.f8) = [(nthLoop (codeOf Try.f8) 0)] := by kernel_rfl
 refine con_ok R_CheckList_envOk Try.func8 (bodyOk h (lsCons (one_loop (t := (loopTr R_CheckList_L4_S (loopN R_CheckList_L4 FUEL))) (by kernel_rfl) R_CheckList_L4_ok) lsNil)) _ _ _ (fun x => ?_)
 kernel_rfl
noncomputable def R_HasAddr_env : Env := mkEnv ty fnB [(17, R_Bits_con)] []
theorem R_HasAddr_envOk : EnvOk Try.prog R_HasAddr_env := envOk tyOk fn_ok (callsCons R_Bits_ok callsNil) _
noncomputable def R_HasAddr_con : Con := con [.one (.fl .pfx), .one (.fl .addr)] [.one (.fl .bool)] (fun x => R_HasAddr_t x.1 x.2.1)
theorem R_HasAddr_ok : TrOk Try.prog 12 R_HasAddr_con := by
 have h : loopsOf (codeOf Try.f12) = [] := by kernel_rfl
 refine con_ok R_HasAddr_envOk Try.func12 (bodyOk h lsNil) _ _ _ (fun x => ?_)
 kernel_rfl
noncomputable def R_HasPrefix_env : Env := mkEnv ty fnB [(12, R_HasAddr_con)] []
theorem R_HasPrefix_envOk : EnvOk Try.prog R_HasPrefix_env := envOk tyOk fn_ok (callsCons R_HasAddr_ok callsNil) _
noncomputable def R_HasPrefix_con : Con := con [.one (.fl .pfx), .one (.fl .pfx)] [.one (.fl .bool)] (fun x => R_HasPrefix_t x.1 x.2.1)
theorem R_HasPrefix_ok : TrOk Try.prog 39 R_HasPrefix_con := by
 have h : loopsOf (codeOf Try.f39) = [] := by kernel_rfl
 refine con_ok R_HasPrefix_envOk Try.func39 (bodyOk h lsNil) _ _ _ (fun x => ?_)
 kernel_rfl
noncomputable def R_DoMeet_env : Env := mkEnv ty fnB [(39, R_HasPrefix_con)] []
theorem R_DoMeet_envOk : EnvOk Try.prog R_DoMeet_env := envOk tyOk fn_ok (callsCons R_HasPrefix_ok callsNil) _
noncomputable def R_DoMeet_con : Con := con [.one (.fl .pfx), .one (.fl .pfx)] [.one (.fl .bool)] (fun x => R_DoMeet_t x.1 x.2.1)
theorem R_DoMeet_ok : TrOk Try.prog 40 R_DoMeet_con := by
 have h : loopsOf (codeOf Try.f40) = [] := by kernel_rfl
 refine con_ok R_DoMeet_envOk Try.func40 (bodyOk h lsNil) _ _ _ (fun x => ?_)
 kernel_rfl
def R_AddrOf_L3_S : LoopS := { n := 39, base := 0, head := { keep := [0, 2, 3, 4], vals := [.one (.fl .str), .one (.cst (.ptr 0 0)), .one (.cst (.ptr 1 0)), .one (.fl .int)], objs := [.blk [.fl .addr] 25 true, .blk [.fl .addr] 25 true] }, exits := [⟨some 0, { keep := [2, 3], vals := [.one (.cst (.ptr 0 0)), .one (.cst (.ptr 1 0))], objs := [.blk [.fl .addr] 25 true, .blk [.fl .addr] 25 true] }⟩] }
noncomputable def R_AddrOf_env : Env := mkEnv ty fnB [] [(3, (loopTr R_AddrOf_L3_S (loopN R_AddrOf_L3 FUEL)))]
theorem R_AddrOf_envOk : EnvOk Try.prog R_AddrOf_env := envOk tyOk fn_ok callsNil _
theorem R_AddrOf_L3_ok : LOk Try.prog (nthLoop (codeOf Try.f48) 0) (loopTr R_AddrOf_L3_S (loopN R_AddrOf_L3 FUEL)) := by
 have h : loopsOf (nthLoop (codeOf Try.f48) 0) = [] := by kernel_rfl
 refine loop_ok R_AddrOf_envOk (loopsOk h lsNil) R_AddrOf_L3_S R_AddrOf_L3 FUEL (fun rec x => ?_)
 kernel_rfl
noncomputable def R_AddrOf_con : Con := con [.one (.fl .str)] [.one (.fl .addr)] (fun x => R_AddrOf_t x.1)
theorem R_AddrOf_ok : TrOk Try.prog 48 R_AddrOf_con := by
 have h : loopsOf (codeOf Try.f48) = [(nthLoop (codeOf Try.f48) 0)] := by kernel_rfl
 refine con_ok R_AddrOf_envOk Try.func48 (bodyOk h (lsCons (one_loop (t := (loopTr R_AddrOf_L3_S (loopN R_AddrOf_L3 FUEL))) (by kernel_rfl) R_AddrOf_L3_ok) lsNil)) _ _ _ (fun x => ?_)
 kernel_rfl
noncomputable def law_v4_env : Env := mkEnv ty fnB [] []
theorem law_v4_envOk : EnvOk Try.prog law_v4_env := envOk tyOk fn_ok callsNil _
noncomputable def law_v4_con : Con := con [.one (.fl .u64)] [.one (.fl .addr)] (fun x => law_v4_t x.1)
theorem law_v4_ok : TrOk Try.prog 32 law_v4_con := by
 have h : loopsOf (codeOf Try.f32) = [] := by kernel_rfl
 refine con_ok law_v4_envOk Try.func32 (bodyOk h lsNil) _ _ _ (fun x => ?_)
 kernel_rfl
noncomputable def law_net_env : Env := mkEnv ty fnB [(32, law_v4_con)] []
theorem law_net_envOk : EnvOk Try.prog law_net_env := envOk tyOk fn_ok (callsCons law_v4_ok callsNil) _
noncomputable def law_net_con : Con := con [.one (.fl .u64), .one (.fl .int)] [.one (.fl .pfx)] (fun x => law_net_t x.1 x.2.1)
theorem law_net_ok : TrOk Try.prog 31 law_net_con := by
 have h : loopsOf (codeOf Try.f31) = [] := by kernel_rfl
 refine con_ok law_net_envOk Try.func31 (bodyOk h lsNil) _ _ _ (fun x => ?_)
 kernel_rfl
def R_SamePrefixes_L4_S : LoopS := { n := 26, base := 2, head := { keep := [0, 1, 5], vals := [.one (.cst (.row 0)), .one (.cst (.row 1)), .one (.fl .int)], objs := [.row .pfx 27 false, .row .pfx 27 false] }, exits := [⟨none, { keep := [4], vals := [.one (.fl .bool)], objs := [.row .pfx 27 false, .row .pfx 27 false] }⟩, ⟨some 0, { keep := [], vals := [], objs := [.row .pfx 27 false, .row .pfx 27 false] }⟩] }
noncomputable def R_SamePrefixes_env : Env := mkEnv ty fnB [] [(4, (loopTr R_SamePrefixes_L4_S (loopN zq0 FUEL)))]
theorem R_SamePrefixes_envOk : EnvOk Try.prog R_SamePrefixes_env := envOk tyOk fn_ok callsNil _
theorem R_SamePrefixes_L4_ok : LOk Try.prog (nthLoop (codeOf Try.f33) 0) (loopTr R_SamePrefixes_L4_S (loopN zq0 FUEL)) := by
 have h : loopsOf (nthLoop (codeOf Try.f33) 0) = [] := by kernel_rfl
 refine loop_ok R_SamePrefixes_envOk (loopsOk h lsNil) R_SamePrefixes_L4_S zq0 FUEL (fun rec x => ?_)
 kernel_rfl
noncomputable def R_SamePrefixes_con : Con := con [.one (.row .pfx 27), .one (.row .pfx 27)] [.one (.fl .bool)] (fun x => R_SamePrefixes_t x.1 x.2.1)
theorem R_SamePrefixes_ok : TrOk Try.prog 33 R_SamePrefixes_con := by
 have h : loopsOf (codeOf Try.f33) = [(nthLoop (codeOf Try.f33) 0)] := by kernel_rfl
 refine con_ok R_SamePrefixes_envOk Try.func33 (bodyOk h (lsCons (one_loop (t := (loopTr R_SamePrefixes_L4_S (loopN zq0 FUEL))) (by kernel_rfl) R_SamePrefixes_L4_ok) lsNil)) _ _ _ (fun x => ?_)
 kernel_rfl
noncomputable def law_prefixesAre_env : Env := mkEnv ty fnB [(33, R_SamePrefixes_con)] []
theorem law_prefixesAre_envOk : EnvOk Try.prog law_prefixesAre_env := envOk tyOk fn_ok (callsCons R_SamePrefixes_ok callsNil) _
noncomputable def law_prefixesAre_con : Con := con [.one (.row .pfx 27), .one (.fl .int), .one (.fl .int), .one (.row .pfx 27)] [.one (.fl .bool)] (fun x => law_prefixesAre_t x.1 x.2.1 x.2.2.1 x.2.2.2.1)
theorem law_prefixesAre_ok : TrOk Try.prog 14 law_prefixesAre_con := by
 have h : loopsOf (codeOf Try.f14) = [] := by kernel_rfl
 refine con_ok law_prefixesAre_envOk Try.func14 (bodyOk h lsNil) _ _ _ (fun x => ?_)
 kernel_rfl
noncomputable def pick_ready_env : Env := mkEnv ty fnB [(26, prefix_Check_con), (20, span_Right_con)] []
theorem pick_ready_envOk : EnvOk Try.prog pick_ready_env := envOk tyOk fn_ok (callsCons prefix_Check_ok (callsCons span_Right_ok callsNil)) _
noncomputable def pick_ready_con : Con := con [.one (.fl .pfx), .one (.row .pfx 27)] [.one (.fl .int)] (fun x => pick_ready_t x.1 x.2.1)
theorem pick_ready_ok : TrOk Try.prog 34 pick_ready_con := by
 have h : loopsOf (codeOf Try.f34) = [] := by kernel_rfl
 refine con_ok pick_ready_envOk Try.func34 (bodyOk h lsNil) _ _ _ (fun x => ?_)
 kernel_rfl
noncomputable def pick_First_1_env : Env := mkEnv ty fnB [] []
theorem pick_First_1_envOk : EnvOk Try.prog pick_First_1_env := envOk tyOk fn_ok callsNil _
noncomputable def pick_First_1_con : Con := con [.one (.fl .pfx), .ref [.fl .int] 3] [.one (.fl .bool)] (fun x => pick_First_1_t x.1 x.2.1.1)
theorem pick_First_1_ok : TrOk Try.prog 38 pick_First_1_con := by
 have h : loopsOf (codeOf Try.f38) = [] := by kernel_rfl
 refine con_ok pick_First_1_envOk Try.func38 (bodyOk h lsNil) _ _ _ (fun x => ?_)
 kernel_rfl
end Go.Proofs.Ytjlkgfdnepfbiaa
namespace Go.Proofs.Ytjlkgfdnepfbiaa
open Go Go.Ma Go.RowKit Go.Proofs
theorem fin_out {P : Program} {T : Nat → TI} (hT : TOk P T) {W : World} {ρ : Nat → Value} {s : St} {a : Act} {w : World} (hs : RelS W ρ s a w) {fn : Func} {X : Type} {k : SV → Mem → Option X} {x : X} (h : fin T fn.results.toList k s = some x) :
  ∃ v, (results fn a.tmps).run P w = .ok v w ∧ ∃ ρ' r m', Ending.returned v = .returned (den ρ' r) ∧ RelM W ρ' m' w ∧ k r m' = some x := by
 unfold fin at h
 have hrun : ∀ l, resL T s fn.results.toList = some l → (results fn a.tmps).run P w = .ok (if h : (denL ρ l).toArray.size = 1 then (denL ρ l).toArray[0] else .tuple (denL ρ l).toArray) w := by
  intro l hl
  obtain ⟨h1, h2⟩ := resL_ok hT hs hl
  rw [results_eq, Sem.run_bind, Array.mapM_eq_mapM_toList, Sem.run_map, h1]
  rfl
 split at h
 ·rename_i v hv
  refine ⟨_, hrun _ hv, ρ, v, s.m, ?_, hs.m, h⟩
  simp [denL]
 ·rename_i l hne hl
  refine ⟨_, hrun _ hl, ρ, .tup l, s.m, ?_, hs.m, h⟩
  have : l.length ≠ 1 := by
   intro h
   match l, h with
   | [v], _ => exact hne v rfl
  simp [zq1, this, den]
 ·cases h
theorem hv_cells {C : Array Value} {l : List UInt8} (h : ∀ q (h : q < l.length), C[q]? = some (.int .u8 (l[q].toNat : Int))) {q : Nat} (hq : q < l.length) (c : UInt8) : ∀ j (hj : j < (l.set q c).length), (C.setIfInBounds q (.int .u8 (c.toNat : Int)))[j]? = some (.int .u8 ((l.set q c)[j].toNat : Int)) := by
 intro k hk
 have hk' : k < l.length := by simpa using hk
 by_cases e : k = q
 ·subst e
  have := (Array.getElem?_eq_some_iff.1 (h k hk')).1
  simp [this]
 ·rw [Array.getElem?_setIfInBounds_ne (by omega), List.getElem_set_ne (by omega)]
  exact h k hk'
theorem hv_bytes (l : List UInt8) : bytesOf (l.map fun b => (b.toNat : Int)) = ⟨l.toArray⟩ := by
 unfold bytesOf
 rw [List.map_map]
 have : ∀ b ∈ l, ((fun n : Int => UInt8.ofNat n.toNat) ∘ fun b : UInt8 => (b.toNat : Int)) b = id b := fun b _ => by simp
 rw [List.map_congr_left this, List.map_id]
theorem hv_row {w : World} {B cap : Nat} {C : Array Value} {ty : TypeId} {fz : Nat × Nat} {l : List UInt8} (hC : w.heap[B]? = some (.cells C ty fz)) (h : ∀ q (h : q < l.length), C[q]? = some (.int .u8 (l[q].toNat : Int))) (h1 : l.length ≤ cap) (h2 : cap ≤ maxLen) (ρ : Nat → Value) :
  RowIs w (.slice (some ⟨B, 0, none⟩) l.length cap) (l.map fun b => (b.toNat : Int)).length K.u8.sz ((l.map fun b => (b.toNat : Int)).flatMap fun a => denL ρ (K.enc .u8 a)) := by
 have e : ((l.map fun b => (b.toNat : Int)).flatMap fun a => denL ρ (K.enc .u8 a)) = l.map fun b => Value.int .u8 (b.toNat : Int) := by
  have := den_u8 ρ (l.map fun b => (b.toNat : Int))
  exact this.trans (by rw [List.map_map]; rfl)
 rw [e, List.length_map]
 refine ⟨by simp [K.sz], some ⟨B, 0, none⟩, cap, rfl, h1, h2, fun hh => (by cases hh), fun a ha => ?_⟩
 injection ha with ha
 subst ha
 refine ⟨fun _ => (Array.getElem?_eq_some_iff.1 hC).1, fun j u hu => ?_⟩
 have hj : j < l.length := by
  have := (List.getElem?_eq_some_iff.1 hu).1
  simpa using this
 rw [add_zero_addr', Nat.zero_add]
 have hx := h j hj
 rw [List.getElem?_map, List.getElem?_eq_getElem hj] at hu
 simp only [Option.map_some, Option.some.injEq] at hu
 simp only [World.cell?, hC]
 rw [← hu]
 exact hx
noncomputable def halves_env : Env := mkEnv ty fnB [(48, R_AddrOf_con)] []
theorem halves_envOk : EnvOk Try.prog halves_env := envOk tyOk fn_ok (callsCons R_AddrOf_ok callsNil) _
def hv_pf (a b c d : SV) : Go.Ma.Obj := .blk [a, b, c, d] 27 true
set_option maxRecDepth 100000 in
set_option maxHeartbeats 4000000 in
theorem halves_walk (p : Pf) (k : Nat) (hk : p.bits = (k : Int)) (s : ByteArray) (w : World) (hG : Glob Try.prog w) (hs : s.size ≤ 1024) (hks : k < s.size) (b : Ad) (hA : R_AddrOf_t ⟨(s.data.toList.set k 49).toArray⟩ = some (b, ()))
  (HB : ∀ W, Below w.heap.size w W → Calls Try.prog 17 #[.agg #[.bool p.ad.v6, .int .u64 p.ad.hi, .int .u64 p.ad.lo]] W fun e w' => e = .returned (.string s) ∧ Below W.heap.size W w') :
  Calls Try.prog 41 #[.agg #[.bool p.ad.v6, .int .u64 p.ad.hi, .int .u64 p.ad.lo, .int .i64 p.bits]] w fun e w' => ∃ ρc r m', e = .returned (den ρc r) ∧ RelM w ρc m' w' ∧ resR [.one (.fl .pfx), .one (.fl .pfx)] r m' = some ((⟨p.ad, p.bits + 1⟩ : Pf), (⟨b, p.bits + 1⟩ : Pf), ()) := by
 have hcv := fun w s => run_bytes_of_string (P := Try.prog) w 9 62 5 s Try.underlying9 Try.underlying62 Try.underlying5
 obtain ⟨⟨pv, ph, pl⟩, pb⟩ := p
 simp only at hk HB
 subst hk
 have r0 : RelM w (fun _ => Go.undef) ([] : Mem) w := ⟨Below.refl _ _, fun j o h => by simp at h, fun i j o o' _ h => by simp at h, fun j o h => by simp at h⟩
 have r1 := r0.alloc (cs := [.b pv, .i .u64 ph, .i .u64 pl, .i .i64 k]) (ty := 27) (arr := #[.bool pv, .int .u64 ph, .int .u64 pl, .int .i64 k]) rfl (fun i sv hi ha => by
  rcases i with _ | _ | _ | _ | i <;> simp at hi <;> subst hi <;> exact ⟨rfl, rfl⟩)
 have r2 := r1.alloc (cs := [.b false, .i .u64 0, .i .u64 0, .i .i64 0]) (ty := 27) (arr := #[.bool false, .int .u64 0, .int .u64 0, .int .i64 0]) rfl (fun i sv hi ha => by
  rcases i with _ | _ | _ | _ | i <;> simp at hi <;> subst hi <;> exact ⟨rfl, rfl⟩)
 have r3 := r2.alloc (cs := [.b false, .i .u64 0, .i .u64 0, .i .i64 0]) (ty := 27) (arr := #[.bool false, .int .u64 0, .int .u64 0, .int .i64 0]) rfl (fun i sv hi ha => by
  rcases i with _ | _ | _ | _ | i <;> simp at hi <;> subst hi <;> exact ⟨rfl, rfl⟩)
 have HR : Hid (RelM w (upd (upd (upd (fun _ => Go.undef) 0 (.pointer (some ⟨w.heap.size, 0, none⟩))) 1 (.pointer (some ⟨w.heap.size + 1, 0, none⟩))) 2 (.pointer (some ⟨w.heap.size + 1 + 1, 0, none⟩))) [hv_pf (.b pv) (.i .u64 ph) (.i .u64 pl) (.i .i64 k), hv_pf (.b false) (.i .u64 0) (.i .u64 0) (.i .i64 0), hv_pf (.b false) (.i .u64 0) (.i .u64 0) (.i .i64 0)]
   (((w.alloc (.cells #[.bool pv, .int .u64 ph, .int .u64 pl, .int .i64 k] 27)).alloc (.cells #[.bool false, .int .u64 0, .int .u64 0, .int .i64 0] 27)).alloc (.cells #[.bool false, .int .u64 0, .int .u64 0, .int .i64 0] 27))) := by
  have e1 : (w.alloc (.cells #[.bool pv, .int .u64 ph, .int .u64 pl, .int .i64 k] 27)).heap.size = w.heap.size + 1 := by simp
  have e2 : ((w.alloc (.cells #[.bool pv, .int .u64 ph, .int .u64 pl, .int .i64 k] 27)).alloc (.cells #[.bool false, .int .u64 0, .int .u64 0, .int .i64 0] 27)).heap.size = w.heap.size + 1 + 1 := by simp
  rw [e1, e2] at r3
  exact r3
 have HBx := HB _ ((((Below.refl w.heap.size w).alloc (Nat.le_refl _) (.cells #[.bool pv, .int .u64 ph, .int .u64 pl, .int .i64 k] 27)).alloc (by simp) (.cells #[.bool false, .int .u64 0, .int .u64 0, .int .i64 0] 27)).alloc (by simp; omega) (.cells #[.bool false, .int .u64 0, .int .u64 0, .int .i64 0] 27))
 clear r0 r1 r2 r3 HB
 go_enter Try.func41, Try.ntmps41
 go_upto_region 2 with (go_at_call 17; refine HBx.mono ?_; rintro e w1 ⟨rfl, hb1⟩)
 have HR1 : Hid _ := HR.out.later hb1
 have hn : w.heap.size + 1 + 1 < w1.heap.size := by have := hb1.size; simp at this; omega
 have hc1 : w1.cell? ⟨w.heap.size, 3, none⟩ = some (.int .i64 k) := by
  obtain ⟨b0, arr, hb0, _, ha0, _, ha1⟩ := HR1.out.obj 0 _ rfl
  have hb0' : Value.pointer (some ⟨w.heap.size, 0, none⟩) = .pointer (some ⟨b0, 0, none⟩) := hb0
  simp only [Value.pointer.injEq, Option.some.injEq, Addr.mk.injEq, and_true] at hb0'
  subst hb0'
  have := ha1 3 (.i .i64 k) rfl rfl
  simp only [World.cell?, ha0]
  exact this
 obtain ⟨B, hB⟩ : ∃ B, B = w1.heap.size := ⟨_, rfl⟩
 obtain ⟨cap, hcap⟩ : ∃ cap, cap = grownCap w1 s.size 0 5 := ⟨_, rfl⟩
 rw [← hB, ← hcap]
 have hcap1 : s.size ≤ cap := by rw [hcap]; exact grownCap_ge _ _ _ _
 have hcap2 : cap ≤ maxLen := by rw [hcap]; exact grownCap_le_maxLen _ _ _ _ (by unfold maxLen; omega)
 obtain ⟨C, hC⟩ : ∃ C, C = bytesRow s cap := ⟨_, rfl⟩
 rw [← hC]
 obtain ⟨bs, hbs⟩ : ∃ bs, bs = s.data.toList := ⟨_, rfl⟩
 have hsn : s.size = bs.length := by rw [hbs]; simp
 have hcells : ∀ q (h : q < bs.length), C[q]? = some (.int .u8 (bs[q].toNat : Int)) := fun q hq => by
  rw [hC, bytesRow, Array.getElem?_append_left (by simp; omega)]
  subst hbs
  simp at hq
  simp [hq]
 have hkb : k < bs.length := by omega
 obtain ⟨wA, hwA⟩ : ∃ wA, wA = (w1.alloc (.cells C 5 (C.size, C.size + 1))).drew := ⟨_, rfl⟩
 rw [← hwA]
 have hAB : Below w1.heap.size w1 wA := by
  have := (Below.refl w1.heap.size w1).alloc (Nat.le_refl _) (.cells C 5 (C.size, C.size + 1))
  rw [hwA]
  exact ⟨this.os, this.tape, this.output, this.size, this.block⟩
 have hABk : wA.heap[B]? = some (.cells C 5 (C.size, C.size + 1)) := by
  rw [hwA, hB]
  exact heap_alloc_new w1 _
 have hcA : wA.cell? ⟨w.heap.size, 3, none⟩ = some (.int .i64 k) := by
  have e := hAB.block w.heap.size (by omega)
  simp only [World.cell?, e] at hc1 ⊢
  exact hc1
 have hcB : wA.cell? ⟨B, k, none⟩ = some (.int .u8 (bs[k].toNat : Int)) := by
  simp only [World.cell?, hABk]
  exact hcells k hkb
 have hfB : wA.frozen? ⟨B, k, none⟩ = false := by
  have := (Array.getElem?_eq_some_iff.1 (hcells k hkb)).1
  simp [World.frozen?, hABk]
  omega
 have hset := setCell_heap wA B k (.int .u8 49) C 5 (C.size, C.size + 1) hABk
 have hBB : Below w1.heap.size w1 (wA.setCell ⟨B, k, none⟩ (.int .u8 49)) := hAB.setCell (p := ⟨B, k, none⟩) (by show w1.heap.size ≤ B; omega) _
 have hlen : (bs.set k 49).length = s.size := by simp [hsn]
 have hcs := hv_cells hcells hkb 49
 have HR2 : Hid (∀ ρ' : Nat → Value, ρ' = upd (upd (upd (upd (fun _ => Go.undef) 0 (.pointer (some ⟨w.heap.size, 0, none⟩))) 1 (.pointer (some ⟨w.heap.size + 1, 0, none⟩))) 2 (.pointer (some ⟨w.heap.size + 1 + 1, 0, none⟩))) 3 (.slice (some ⟨B, 0, none⟩) s.size cap) →
   RelM w ρ' [hv_pf (.b pv) (.i .u64 ph) (.i .u64 pl) (.i .i64 k), hv_pf (.b false) (.i .u64 0) (.i .u64 0) (.i .i64 0), hv_pf (.b false) (.i .u64 0) (.i .u64 0) (.i .i64 0), .row (.ty .u8 ((bs.set k 49).map fun b => (b.toNat : Int))) 5 false] (wA.setCell ⟨B, k, none⟩ (.int .u8 49))) := by
  rintro ρ' rfl
  refine HR1.out.push hBB (o := .row (.ty .u8 ((bs.set k 49).map fun b => (b.toNat : Int))) 5 false) (v := .slice (some ⟨B, 0, none⟩) s.size cap) ?_ rfl (fun b hb => ?_)
  ·have := hv_row (l := bs.set k 49) (cap := cap) hset hcs (by omega) hcap2 (fun _ => Go.undef)
   rw [hlen] at this
   exact row_obj _ this
  ·have hb := (blocks_one (fun vs h => by cases h)).1 (blocks_sub hb)
   simp only [valBlock, Option.some.injEq] at hb
   omega
 obtain ⟨n, hnn⟩ : ∃ n, n = s.size := ⟨_, rfl⟩
 rw [← hnn] at HR2 hks ⊢
 have hkI : (k : Int) < (n : Int) := by omega
 have hix : (Instr.indexAt 62 (.slice (some ⟨B, 0, none⟩) n cap) (.int .i64 (k : Int))).run Try.prog wA = .ok (.pointer (some ⟨B, k, none⟩)) wA := by
  have hb2 : (0 : Int) ≤ (k : Int) ∧ (k : Int) < (n : Int) := by omega
  simp only [Instr.indexAt, asIntOf, Sem.run_bind, Sem.run_pure, Result.andThen_ok, run_underlying Try.underlying62, elemPtr]
  rw [if_pos hb2]
  simp [Try.sizeOf5, Addr.add]
  exact fun h => h.symm
 have HG : Hid (Glob Try.prog w) := hG
 clear HR HR1 HBx hcv hb1 hc1 hAB hABk hset hBB hlen hcs hcells hcap hcap1 hcap2 hC hB hwA hG
 go_wp2
 rename_i K2 hK2
 simp [Oper.wp, Oper.upon, execOp, Act.eval, hix, Result.andThen_ok]
 refine hK2 _ _ ?_
 simp only [Act.put, List.setIfInBounds_toArray, List.set_cons_succ, List.set_cons_zero]
 go_wp2
 rename_i K3 hK3
 have HR3 := HR2.out _ rfl
 refine (ix_ok (x := ((⟨⟨pv, ph, pl⟩, (k : Int) + 1⟩ : Pf), (⟨b, (k : Int) + 1⟩ : Pf), ())) (base := 4) ⟨halves_envOk, HG.out⟩ _ ⟨[.any, .ptr 0 0, .ptr 1 0, .ptr 2 0, .row 3] ++ List.replicate 21 .any, [hv_pf (.b pv) (.i .u64 ph) (.i .u64 pl) (.i .i64 k), hv_pf (.b false) (.i .u64 0) (.i .u64 0) (.i .i64 0), hv_pf (.b false) (.i .u64 0) (.i .u64 0) (.i .i64 0), .row (.ty .u8 ((bs.set k 49).map fun b => (b.toNat : Int))) 5 false]⟩
  (fin ty Try.f41.results.toList (resR [.one (.fl .pfx), .one (.fl .pfx)])) (fun _ _ => none) (fun _ => none) (loopsOk (l := []) rfl lsNil) ?_).code (Nat.le_refl _) _ _ _ _ ⟨⟨rfl, ?_⟩, HR3, rfl⟩ (fun ρ' s' a' w' hag hle hs' hk => hK3 _ _ (wp_ret ⟨hs'.d, fin_out tyOk hs' hk⟩)) (fun i _ _ _ _ _ _ _ h => by cases h) (fun _ _ _ _ _ _ _ h => by cases h)
 ·refine Eq.trans (b := req (i64ok ((k : Int) + 1)) (req (i64ok ((k : Int) + 1)) ((R_AddrOf_t (bytesOf ((bs.set k 49).map fun b => (b.toNat : Int)))).bind fun z => some ((⟨⟨pv, ph, pl⟩, (k : Int) + 1⟩ : Pf), (⟨z.1, (k : Int) + 1⟩ : Pf), ())))) ?_ ?_
  ·kernel_rfl
  ·have hi : i64ok ((k : Int) + 1) = true := i64ok_iff.2 ⟨by omega, by omega⟩
   rw [hi, hv_bytes, hbs, hA]
   rfl
 ·intro i sv hi hs
  rcases i with _ | _ | _ | _ | _ | i
  ·cases hi; cases hs
  ·cases hi; exact ⟨rfl, rfl⟩
  ·cases hi; exact ⟨rfl, rfl⟩
  ·cases hi; exact ⟨rfl, rfl⟩
  ·cases hi; exact ⟨rfl, rfl⟩
  ·have hi : (List.replicate 21 SV.any)[i]? = some sv := hi
   have := List.mem_of_getElem? hi
   simp only [List.mem_replicate] at this
   rw [this.2] at hs
   cases hs
theorem hv_seg {k : K} (w : World) (ρ : Nat → Value) (a : k.T) (v : Value) (n : Nat) (h : ∀ ρ, v = den ρ (flV k a)) : ArgsOk w ρ n [v] [flV k a] [] [] :=
 ⟨rfl, fun ρ' _ => by simp only [denL, h ρ'], fun _ _ _ i o v h => by simp at h, by simp only [ltL, flV_lt, Bool.and_self], fun o h => by cases h⟩
noncomputable def R_HalvesOf_con : Con := con [.one (.fl .pfx)] [.one (.fl .pfx), .one (.fl .pfx)] (fun x => R_HalvesOf_t x.1)
theorem halves_main (p : Pf) (y : Pf × Pf × Unit) (hx : R_HalvesOf_t p = some y) (ρ : Nat → Value) (us vals : List Value) (w : World) (hG : Glob Try.prog w)
  (hu : ArgsOk w ρ 0 vals (encA false [.one (.fl .pfx)] (p, ()) 0).1 (encA false [.one (.fl .pfx)] (p, ()) 0).2 us) :
  Calls Try.prog 41 vals.toArray w fun e w' => ∃ ρc r m', e = .returned (den ρc r) ∧ RelM w ρc m' w' ∧ resR [.one (.fl .pfx), .one (.fl .pfx)] r m' = some y := by
 have hg := gives_nameOf us
 have hdenv := hu.den _ hg
 have hvals : vals = [.agg #[.bool p.ad.v6, .int .u64 p.ad.hi, .int .u64 p.ad.lo, .int .i64 p.bits]] := hdenv.symm
 subst hvals
 unfold R_HalvesOf_t at hx
 obtain ⟨y1, h1, hx⟩ := Option.bind_eq_some_iff.1 hx
 obtain ⟨s, us1⟩ := y1
 obtain ⟨hq1, hx⟩ := req_some hx
 obtain ⟨hq2, hx⟩ := req_some hx
 obtain ⟨hq3, hx⟩ := req_some hx
 obtain ⟨z, hz, hx⟩ := Option.bind_eq_some_iff.1 hx
 have hq1 : s.size ≤ 1024 := Nat.le_of_ble_eq_true hq1
 rw [Bool.and_eq_true, decide_eq_true_iff, decide_eq_true_iff] at hq2
 rw [Nat.blt_eq] at hq3
 injection hx with hx
 subst hx
 refine halves_walk p p.bits.toNat (by omega) s w hG hq1 hq3 z.1 (by obtain ⟨z1, z2⟩ := z; exact hz) (fun W hW => ?_)
 have ha := hv_seg (k := .addr) W (fun _ => Go.undef) p.ad (.agg #[.bool p.ad.v6, .int .u64 p.ad.hi, .int .u64 p.ad.lo]) 0 (fun _ => rfl)
 refine (flat_calls (hG.mono hW) R_Bits_ok (x := (p.ad, ())) h1 rfl rfl ha).mono ?_
 rintro e w' ⟨⟨ρ', rfl⟩, hb'⟩
 exact ⟨rfl, hb'⟩
theorem R_HalvesOf_ok : TrOk Try.prog 41 R_HalvesOf_con := con_of _ _ _ fun x y hx ρ us vals w hG hu => halves_main x.1 y hx ρ us vals w hG hu
end Go.Proofs.Ytjlkgfdnepfbiaa
namespace Go.Proofs
open Go.Shelf
def Try.sortLs_ren : Go.Shelf.Ren := ⟨fun | 6 => 43 | 15 => 50 | 14 => 49 | 28 => 64 | 29 => 65 | 20 => 56 | 21 => 57 | 22 => 58 | 23 => 59 | 24 => 60 | 25 => 61 | 26 => 62 | 27 => 63 | 46 => 69 | 47 => 70 | 48 => 71 | 49 => 72 | 50 => 73 | 57 => 74 | n => n, fun | 22 => 22 | 24 => 27 | 25 => 70 | 3 => 3 | 39 => 77 | 0 => 0 | 53 => 89 | 55 => 23 | 4 => 4 | 46 => 82 | 45 => 81 | 50 => 86 | 5 => 5 | 9 => 9 | 66 => 95 | 70 => 99 | 76 => 101 | 77 => 102 | n => n, fun | n => n⟩
theorem Try.sortLs : Go.Proofs.SlLaysF0.n6 Try.prog Try.sortLs_ren := {
 mixed := by kernel_rfl
 f6 := ⟨Try.f43.name, by decide, Try.func43.trans (congrArg some (by kernel_rfl))⟩
 f14 := ⟨Try.f49.name, by decide, Try.func49.trans (congrArg some (by kernel_rfl))⟩
 f15 := Try.func50.trans (congrArg some (by kernel_rfl))
 f20 := ⟨Try.f56.name, by decide, Try.func56.trans (congrArg some (by kernel_rfl))⟩
 f21 := ⟨Try.f57.name, by decide, Try.func57.trans (congrArg some (by kernel_rfl))⟩
 f22 := ⟨Try.f58.name, by decide, Try.func58.trans (congrArg some (by kernel_rfl))⟩
 f23 := ⟨Try.f59.name, by decide, Try.func59.trans (congrArg some (by kernel_rfl))⟩
 f24 := ⟨Try.f60.name, by decide, Try.func60.trans (congrArg some (by kernel_rfl))⟩
 f25 := ⟨Try.f61.name, by decide, Try.func61.trans (congrArg some (by kernel_rfl))⟩
 f26 := ⟨Try.f62.name, by decide, Try.func62.trans (congrArg some (by kernel_rfl))⟩
 f27 := ⟨Try.f63.name, by decide, Try.func63.trans (congrArg some (by kernel_rfl))⟩
 f28 := Try.func64.trans (congrArg some (by kernel_rfl))
 f29 := Try.func65.trans (congrArg some (by kernel_rfl))
 f46 := ⟨Try.f69.name, by decide, Try.func69.trans (congrArg some (by kernel_rfl))⟩
 f47 := Try.func70.trans (congrArg some (by kernel_rfl))
 f48 := Try.func71.trans (congrArg some (by kernel_rfl))
 f49 := ⟨Try.f72.name, by decide, Try.func72.trans (congrArg some (by kernel_rfl))⟩
 f50 := ⟨Try.f73.name, by decide, Try.func73.trans (congrArg some (by kernel_rfl))⟩
 f57 := ⟨Try.f74.name, by decide, Try.func74.trans (congrArg some (by kernel_rfl))⟩
 t0 := Try.underlying0
 a0 := Try.isAgg0
 z0 := Try.sizeOf0
 v0 := Try.zeroValue0
 t3 := Try.underlying3
 a3 := Try.isAgg3
 z3 := Try.sizeOf3
 v3 := Try.zeroValue3
 t4 := Try.underlying4
 a4 := Try.isAgg4
 z4 := Try.sizeOf4
 v4 := Try.zeroValue4
 t5 := Try.underlying5
 a5 := Try.isAgg5
 z5 := Try.sizeOf5
 v5 := Try.zeroValue5
 t9 := Try.underlying9
 a9 := Try.isAgg9
 z9 := Try.sizeOf9
 v9 := Try.zeroValue9
 t22 := Try.underlying22
 a22 := Try.isAgg22
 z22 := Try.sizeOf22
 v22 := Try.zeroValue22
 t25 := Try.underlying70
 a25 := Try.isAgg70
 z25 := Try.sizeOf70
 v25 := Try.zeroValue70
 t39 := Try.underlying77
 a39 := Try.isAgg77
 z39 := Try.sizeOf77
 v39 := Try.zeroValue77
 t45 := Try.underlying81
 a45 := Try.isAgg81
 z45 := Try.sizeOf81
 v45 := Try.zeroValue81
 t46 := Try.underlying82
 a46 := Try.isAgg82
 z46 := Try.sizeOf82
 v46 := Try.zeroValue82
 t50 := Try.underlying86
 a50 := Try.isAgg86
 z50 := Try.sizeOf86
 v50 := Try.zeroValue86
 t53 := Try.underlying89
 a53 := Try.isAgg89
 z53 := Try.sizeOf89
 v53 := Try.zeroValue89
 t55 := Try.underlying23
 a55 := Try.isAgg23
 z55 := Try.sizeOf23
 v55 := Try.zeroValue23
 t66 := Try.underlying95
 a66 := Try.isAgg95
 z66 := Try.sizeOf95
 v66 := Try.zeroValue95
 t70 := Try.underlying99
 a70 := Try.isAgg99
 z70 := Try.sizeOf99
 v70 := Try.zeroValue99
 t76 := Try.underlying101
 a76 := Try.isAgg101
 z76 := Try.sizeOf101
 v76 := Try.zeroValue101
 t77 := Try.underlying102
 a77 := Try.isAgg102
 z77 := Try.sizeOf102
 v77 := Try.zeroValue102 }
end Go.Proofs
namespace Go.Proofs.Ytjlkgfdnepfbiaa
open Go Go.Ma Go.RowKit Go.Lib Go.Proofs Go.Sort
def cmpN (x y : Int) : Int := if x < y then -1 else if y < x then 1 else 0
def cmpA (a b : Ad) : Int := if a.v6 != b.v6 then (if b.v6 then -1 else 1) else if a.hi = b.hi then cmpN a.lo b.lo else cmpN a.hi b.hi
def cmpP (p q : Pf) : Int := if cmpA p.ad q.ad ≠ 0 then cmpA p.ad q.ad else p.bits - q.bits
def encPf (x : Pf) : List Value := [.bool x.ad.v6, .int .u64 x.ad.hi, .int .u64 x.ad.lo, .int .i64 x.bits]
set_option maxHeartbeats 1000000 in
theorem cmpN_walk (x y : Int) (W : World) : Calls Try.prog 66 #[.int .u64 x, .int .u64 y] W fun e w' => e = .returned (.int .i64 (cmpN x y)) ∧ w' = W := by
 unfold cmpN
 by_cases h1 : x < y
 ·rw [if_pos h1]
  go_enter Try.func66, Try.ntmps66
  go_wp2
  all_goals (go_ret; exact ⟨rfl, rfl⟩)
 ·rw [if_neg h1]
  by_cases h2 : y < x
  ·rw [if_pos h2]
   go_enter Try.func66, Try.ntmps66
   go_wp2
   all_goals (go_ret; exact ⟨rfl, rfl⟩)
  ·rw [if_neg h2]
   go_enter Try.func66, Try.ntmps66
   go_wp2
   all_goals (go_ret; exact ⟨rfl, rfl⟩)
set_option maxHeartbeats 2000000 in
set_option maxRecDepth 100000 in
theorem ord_walk (a b : Ad) (W : World) : Calls Try.prog 51 #[.agg #[.bool a.v6, .int .u64 a.hi, .int .u64 a.lo], .agg #[.bool b.v6, .int .u64 b.hi, .int .u64 b.lo]] W fun e w' => e = .returned (.int .i64 (cmpA a b)) ∧ ∃ q os', w' = grow (W.drewN q) os' := by
 obtain ⟨av, ah, al⟩ := a
 obtain ⟨bv, bh, bl⟩ := b
 have hx : ∀ x y : Int, ∃ r, cmpN x y = r ∧ Hid (∀ W', Calls Try.prog 66 #[.int .u64 x, .int .u64 y] W' fun e w' => e = .returned (.int .i64 r) ∧ w' = W') := fun x y => ⟨_, rfl, cmpN_walk x y⟩
 cases av <;> cases bv
 ·by_cases h : ah = bh
  ·subst h
   obtain ⟨r, hr, hcon⟩ := hx al bl
   rw [show cmpA ⟨false, ah, al⟩ ⟨false, ah, bl⟩ = r by simp [cmpA, hr]]
   go_enter Try.func51, Try.ntmps51
   go_wp2_with (go_at_call 66; refine (hcon.out _).mono ?_; rintro e w' ⟨rfl, rfl⟩)
   all_goals (go_ret; exact ⟨rfl, 0, _, by rw [alloc_eq_grow, alloc_eq_grow, grow_grow]; rfl⟩)
  ·obtain ⟨r, hr, hcon⟩ := hx ah bh
   rw [show cmpA ⟨false, ah, al⟩ ⟨false, bh, bl⟩ = r by simp [cmpA, hr, h]]
   go_enter Try.func51, Try.ntmps51
   go_wp2_with (go_at_call 66; refine (hcon.out _).mono ?_; rintro e w' ⟨rfl, rfl⟩)
   all_goals (go_ret; exact ⟨rfl, 0, _, by rw [alloc_eq_grow, alloc_eq_grow, grow_grow]; rfl⟩)
 ·go_enter Try.func51, Try.ntmps51
  go_wp2
  all_goals (go_ret; exact ⟨rfl, 0, _, by rw [alloc_eq_grow, alloc_eq_grow, grow_grow]; rfl⟩)
 ·go_enter Try.func51, Try.ntmps51
  go_wp2
  all_goals (go_ret; exact ⟨rfl, 0, _, by rw [alloc_eq_grow, alloc_eq_grow, grow_grow]; rfl⟩)
 ·by_cases h : ah = bh
  ·subst h
   obtain ⟨r, hr, hcon⟩ := hx al bl
   rw [show cmpA ⟨true, ah, al⟩ ⟨true, ah, bl⟩ = r by simp [cmpA, hr]]
   go_enter Try.func51, Try.ntmps51
   go_wp2_with (go_at_call 66; refine (hcon.out _).mono ?_; rintro e w' ⟨rfl, rfl⟩)
   all_goals (go_ret; exact ⟨rfl, 0, _, by rw [alloc_eq_grow, alloc_eq_grow, grow_grow]; rfl⟩)
  ·obtain ⟨r, hr, hcon⟩ := hx ah bh
   rw [show cmpA ⟨true, ah, al⟩ ⟨true, bh, bl⟩ = r by simp [cmpA, hr, h]]
   go_enter Try.func51, Try.ntmps51
   go_wp2_with (go_at_call 66; refine (hcon.out _).mono ?_; rintro e w' ⟨rfl, rfl⟩)
   all_goals (go_ret; exact ⟨rfl, 0, _, by rw [alloc_eq_grow, alloc_eq_grow, grow_grow]; rfl⟩)
theorem cell_grown (w : World) (q : Nat) (os' : Array Go.Obj) {b i : Nat} {v : Value} (h : w.cell? ⟨b, i, none⟩ = some v) : (grow (w.drewN q) os').cell? ⟨b, i, none⟩ = some v := by
 have hb : b < w.heap.size := by
  have h2 := h
  unfold World.cell? at h2
  cases hx : w.heap[b]? with
  | none => rw [hx] at h2; cases h2
  | some o => exact (Array.getElem?_eq_some_iff.1 hx).1
 have e : (grow (w.drewN q) os').heap[b]? = w.heap[b]? := by
  show (w.heap ++ os')[b]? = _
  rw [Array.getElem?_append_left hb]
 unfold World.cell? at h ⊢
 rw [e]
 exact h
set_option maxHeartbeats 2000000 in
set_option maxRecDepth 100000 in
theorem pfCmp_walk (x y : Pf) (hx : 0 ≤ x.bits ∧ x.bits ≤ 128) (hy : 0 ≤ y.bits ∧ y.bits ≤ 128) (W : World) : Calls Try.prog 44 #[.agg (encPf x).toArray, .agg (encPf y).toArray] W fun e w' => e = .returned (.int .i64 (cmpP x y)) ∧ ∃ q os', w' = grow (W.drewN q) os' := by
 obtain ⟨⟨av, ah, al⟩, au⟩ := x
 obtain ⟨⟨bv, bh, bl⟩, bu⟩ := y
 simp only at hx hy
 obtain ⟨r, hr, hcon⟩ : ∃ r, cmpA ⟨av, ah, al⟩ ⟨bv, bh, bl⟩ = r ∧ Hid (∀ W', Calls Try.prog 51 #[.agg #[.bool av, .int .u64 ah, .int .u64 al], .agg #[.bool bv, .int .u64 bh, .int .u64 bl]] W' fun e w' => e = .returned (.int .i64 r) ∧ ∃ q os', w' = grow (W'.drewN q) os') := ⟨_, rfl, fun W' => ord_walk ⟨av, ah, al⟩ ⟨bv, bh, bl⟩ W'⟩
 unfold cmpP
 simp only
 rw [hr]
 show Calls _ _ #[.agg #[.bool av, .int .u64 ah, .int .u64 al, .int .i64 au], .agg #[.bool bv, .int .u64 bh, .int .u64 bl, .int .i64 bu]] _ _
 have c1 : ((W.alloc (.cells #[.bool av, .int .u64 ah, .int .u64 al, .int .i64 au] 27)).alloc (.cells #[.bool bv, .int .u64 bh, .int .u64 bl, .int .i64 bu] 27)).cell? ⟨W.heap.size, 3, none⟩ = some (.int .i64 au) := by
  have e := (Below.heap_alloc (W.alloc (.cells #[.bool av, .int .u64 ah, .int .u64 al, .int .i64 au] 27)) (.cells #[.bool bv, .int .u64 bh, .int .u64 bl, .int .i64 bu] 27) W.heap.size (by simp)).trans (heap_alloc_new W _)
  simp [World.cell?, e]
 have c2 : ((W.alloc (.cells #[.bool av, .int .u64 ah, .int .u64 al, .int .i64 au] 27)).alloc (.cells #[.bool bv, .int .u64 bh, .int .u64 bl, .int .i64 bu] 27)).cell? ⟨W.heap.size + 1, 3, none⟩ = some (.int .i64 bu) := by
  have e := heap_alloc_new (W.alloc (.cells #[.bool av, .int .u64 ah, .int .u64 al, .int .i64 au] 27)) (.cells #[.bool bv, .int .u64 bh, .int .u64 bl, .int .i64 bu] 27)
  have es : (W.alloc (.cells #[.bool av, .int .u64 ah, .int .u64 al, .int .i64 au] 27)).heap.size = W.heap.size + 1 := by simp
  rw [es] at e
  simp only [World.cell?, e]
  rfl
 have HC : Hid (∀ q os', (grow ((((W.alloc (.cells #[.bool av, .int .u64 ah, .int .u64 al, .int .i64 au] 27)).alloc (.cells #[.bool bv, .int .u64 bh, .int .u64 bl, .int .i64 bu] 27))).drewN q) os').cell? ⟨W.heap.size, 3, none⟩ = some (.int .i64 au) ∧ (grow ((((W.alloc (.cells #[.bool av, .int .u64 ah, .int .u64 al, .int .i64 au] 27)).alloc (.cells #[.bool bv, .int .u64 bh, .int .u64 bl, .int .i64 bu] 27))).drewN q) os').cell? ⟨W.heap.size + 1, 3, none⟩ = some (.int .i64 bu)) := fun q os' => ⟨cell_grown _ q os' c1, cell_grown _ q os' c2⟩
 clear c1 c2
 have hw : IntKind.i64.wrap (au - bu) = au - bu := by rw [IntKind.wrap_i64]; omega
 by_cases h0 : r = 0
 ·subst h0
  go_enter Try.func44, Try.ntmps44
  go_wp2_with (go_at_call 51; refine (hcon.out _).mono ?_; rintro e w' ⟨rfl, q, os', rfl⟩; obtain ⟨g1, g2⟩ := HC.out q os')
  all_goals (go_ret; refine ⟨by simp [hw], q, ?_⟩)
  rw [alloc_eq_grow, alloc_eq_grow, grow_grow]
  exact ⟨_, grow_grow (W.drewN q) _ os'⟩
 ·go_enter Try.func44, Try.ntmps44
  go_wp2_with (go_at_call 51; refine (hcon.out _).mono ?_; rintro e w' ⟨rfl, q, os', rfl⟩; obtain ⟨g1, g2⟩ := HC.out q os')
  all_goals (go_ret; refine ⟨by simp [h0], q, ?_⟩)
  rw [alloc_eq_grow, alloc_eq_grow, grow_grow]
  exact ⟨_, grow_grow (W.drewN q) _ os'⟩
end Go.Proofs.Ytjlkgfdnepfbiaa
namespace Go.Ma
open Go Go.Shelf Go.RowKit Go.Lib Go.Proofs Go.Sort
theorem flatMap_get {α : Type} (enc : α → List Value) (k : Nat) (hk : ∀ x, (enc x).length = k) : ∀ (l : List α) (j : Nat), j < l.length * k → (l.flatMap enc)[j]? = (l[j / k]?).bind fun a => (enc a)[j % k]?
 | [], j, h => by simp at h
 | x :: r, j, h => by
  have k0 : 0 < k := by
   rcases Nat.eq_zero_or_pos k with h0 | h0
   ·subst h0; simp at h
   ·exact h0
  rw [List.flatMap_cons]
  by_cases hj : j < k
  ·rw [List.getElem?_append_left (by rw [hk]; exact hj), Nat.div_eq_of_lt hj, Nat.mod_eq_of_lt hj]
   rfl
  ·rw [List.getElem?_append_right (by rw [hk]; omega), hk, flatMap_get enc k hk r (j - k) (by simp [Nat.add_mul] at h; omega)]
   have e1 : j / k = (j - k) / k + 1 := by
    have := Nat.add_div_right (j - k) k0
    rwa [Nat.sub_add_cancel (by omega)] at this
   have e2 : (j - k) % k = j % k := by
    have := Nat.add_mod_right (j - k) k
    rwa [Nat.sub_add_cancel (by omega), eq_comm] at this
   rw [e1, e2, List.getElem?_cons_succ]
theorem flatK_eq {α : Type} [Inhabited α] (enc : α → List Value) (k : Nat) (hk : ∀ x, (enc x).length = k) (d : Array α) : (flatK enc k d).toList = d.toList.flatMap enc := by
 have hlen' : ∀ l : List α, (l.flatMap enc).length = l.length * k := by
  intro l
  induction l with
  | nil => simp
  | cons x r ih => rw [List.flatMap_cons, List.length_append, hk, ih, List.length_cons, Nat.add_mul]; omega
 have hlen : (d.toList.flatMap enc).length = d.size * k := by rw [hlen']; simp
 refine List.ext_getElem? fun j => ?_
 by_cases hj : j < d.size * k
 ·have k0 : 0 < k := by
   rcases Nat.eq_zero_or_pos k with h0 | h0
   ·subst h0; simp at hj
   ·exact h0
  rw [flatMap_get enc k hk d.toList j (by simpa using hj)]
  have hd : j / k < d.size := Nat.div_lt_of_lt_mul (by rw [Nat.mul_comm]; exact hj)
  have hm : j % k < (enc (d[j / k]'hd)).length := by rw [hk]; exact Nat.mod_lt _ k0
  have h1 : (flatK enc k d).toList[j]? = some (flatK enc k d)[j]! := by
   rw [Array.getElem?_toList, Array.getElem?_eq_getElem (by simpa using hj), getElem!_pos _ j (by simpa using hj)]
  rw [h1, get_flatK _ _ _ _ hj, getElem!_pos d _ hd, Array.getElem?_toList, Array.getElem?_eq_getElem hd, Option.bind_some, List.getElem?_eq_getElem hm, getElem!_pos (enc (d[j / k]'hd)) (j % k) hm]
 ·rw [List.getElem?_eq_none (by simpa using hj), List.getElem?_eq_none (by omega)]
theorem putCells_take (F : Array Value) (c : Array Value) (h : F.size ≤ c.size) : (putCells id 0 F c).toList.take F.size = F.toList := by
 refine List.ext_getElem? fun j => ?_
 rw [List.getElem?_take]
 by_cases hj : j < F.size
 ·rw [if_pos hj]
  unfold putCells
  rw [Array.getElem?_toList, Array.getElem?_mapIdx, Array.getElem?_eq_getElem (show j < c.size by omega), Option.map_some, if_pos (by omega), Array.getElem?_toList, Array.getElem?_eq_getElem hj]
  simp [getElem!_pos F j hj]
 ·rw [if_neg hj, List.getElem?_eq_none (by simpa using hj)]
theorem sort_gen {P : Program} {ρ : Ren} {α : Type} [Inhabited α] (L : SlLaysF0.n6 P ρ) (k : Nat) (aE : ∀ w, (isAgg (ρ.t 24)).run P w = .ok true w) (zE : ∀ w, (Go.sizeOf (ρ.t 24)).run P w = .ok k w) (enc : α → List Value) (hk : ∀ x, (enc x).length = k) (h1 : ∀ x, ∀ v ∈ enc x, v.oneCell' = true) (cf : α → α → Int) (hO : SWO (ltOf cf)) (g : Nat) (cb : Array Value)
  (eg : ∀ args w, (callFunc g args).run P w = .ok (.enter g args) w)
  (hcmp : ∀ (w : World) (x y : α), Calls P g (#[.agg (enc x).toArray, .agg (enc y).toArray] ++ cb) w fun e w' => e = .returned (.int .i64 (cf x y)) ∧ ∃ q os', w' = grow (w.drewN q) os')
  (base : Nat) (e : TypeId) (w : World) (v : Value) (l : List α) (hown : w.ownsRow base e k v l.length (l.flatMap enc)) (hl : l ≠ []) (hsz : l.length < 4611686018427387904) :
  Calls P (ρ.f 6) #[v, .func (.func g) #[] cb] w fun r w' => r = .returned (.tuple #[]) ∧ ∃ l' : List α, l'.Perm l ∧ l'.Pairwise (fun a b => ltOf cf b a = false) ∧ w'.ownsRow base e k v l'.length (l'.flatMap enc) ∧ w.grownBy w' v.ownBlock := by
 obtain ⟨hlen, ⟨_, h0⟩ | ⟨b, cap, cur, rfl, hb, hg, hnc, hcm, hcs, htake⟩⟩ := hown
 ·exact absurd (List.eq_nil_of_length_eq_zero h0) hl
 have hblk : b < w.heap.size := (Array.getElem?_eq_some_iff.1 hg).1
 have hkc : l.length * k ≤ cur.size := by rw [hcs]; exact Nat.mul_le_mul_right k hnc
 have hflat : (flatK enc k l.toArray).toList = l.flatMap enc := by rw [flatK_eq enc k hk]
 have hH : HoldsK enc k w b 0 l.toArray := by
  intro j hj
  have hj : j < l.length * k := by simpa using hj
  refine ⟨?_, ?_⟩
  ·have hc : w.cell? ⟨b, 0 + j, none⟩ = cur[j]? := by simp [World.cell?, hg]
   rw [hc]
   have e1 : cur[j]? = (flatK enc k l.toArray)[j]? := by
    rw [← Array.getElem?_toList, ← Array.getElem?_toList, hflat, ← htake, List.getElem?_take, if_pos hj]
   rw [e1, Array.getElem?_eq_getElem (by simpa using hj), getElem!_pos _ j (by simpa using hj)]
   rfl
  ·simp [World.frozen?, hg]
 refine (AnyQ.slices_SortFunc L k aE zE enc hk h1 cf hO g cb b 0 cap l.toArray w eg (fun m os dk _ x y => hcmp _ x y) hH hblk (by simpa using hsz)).mono ?_
 rintro r w' ⟨rfl, d', n, os, hp, hs, rfl⟩
 obtain ⟨hsize, _, hperm⟩ := hp
 have hsize : d'.size = l.length := by simpa using hsize
 have hperm : d'.toList.Perm l := by
  have e1 : d'.extract 0 l.length = d' := by rw [← hsize]; simp
  have e2 : l.toArray.extract 0 l.length = l.toArray := by simp
  have : l.toArray.size = l.length := by simp
  rw [this, e1, e2] at hperm
  simpa using hperm
 have hheap : (sortWorldK enc k w b 0 n d' os).heap[b]? = some (.cells (putCells id 0 (flatK enc k d') cur) e (0, 0)) := by
  simp only [sortWorldK, grow, putRowK, putRow, mapBlock, Sort.ahead]
  rw [Array.getElem?_append_left (by simpa using hblk), Array.getElem?_modify, if_pos rfl, hg]
  rfl
 refine ⟨rfl, d'.toList, hperm, ?_, ⟨?_, .inr ⟨b, cap, _, ?_, hb, hheap, ?_, hcm, ?_, ?_⟩⟩, ⟨rfl, rfl, rfl, ?_, ?_⟩⟩
 ·rw [List.pairwise_iff_getElem]
  intro i j hi hj hij
  have hj' : j < d'.size := by simpa using hj
  have := hs i j (Nat.zero_le _) hij (by simp; omega)
  rw [getElem!_pos d' j hj', getElem!_pos d' i (by omega)] at this
  simpa using this
 ·rw [← flatK_eq enc k hk]; simp
 ·simp [hsize]
 ·simp [hsize]; omega
 ·simp [putCells, hcs]
 ·have hf : (flatK enc k d').size = d'.toList.length * k := by simp
  rw [← flatK_eq enc k hk, ← hf, putCells_take]
  simp only [size_flatK, hsize]
  exact hkc
 ·simp [sortWorldK, grow, putRowK, putRow, mapBlock, Sort.ahead]
 ·intro q hq hne
  have hne : b ≠ q := fun e => hne (by simp [Value.ownBlock, e])
  simp only [sortWorldK, grow, putRowK, putRow, mapBlock, Sort.ahead]
  rw [Array.getElem?_append_left (by simpa using hq), Array.getElem?_modify, if_neg hne]
end Go.Ma
namespace Go.Proofs.Ytjlkgfdnepfbiaa
open Go Go.Ma Go.RowKit Go.Lib Go.Proofs Go.Sort
theorem cmpA_lt (a b : Ad) : decide (cmpA a b < 0) = adLt a b := by
 unfold cmpA cmpN adLt
 obtain ⟨av, ah, al⟩ := a
 obtain ⟨bv, bh, bl⟩ := b
 cases av <;> cases bv <;> simp
 all_goals
  by_cases h : ah = bh
  ·subst h
   by_cases h1 : al < bl
   ·simp [h1]
   ·by_cases h2 : bl < al <;> simp [h1, h2]
  ·by_cases h1 : ah < bh
   ·simp [h, h1]
   ·by_cases h2 : bh < ah <;> simp [h, h1, h2]
abbrev PB := {p : Pf // 0 ≤ p.bits ∧ p.bits ≤ 128}
instance : Inhabited PB := ⟨⟨⟨⟨false, 0, 0⟩, 0⟩, by decide⟩⟩
theorem cmpA_zero (a b : Ad) : cmpA a b = 0 ↔ a = b := by
 constructor
 ·intro h
  refine adLt_tri a b ?_ ?_
  ·rw [← cmpA_lt, h]; rfl
  ·rw [← cmpA_lt]
   unfold cmpA cmpN at h ⊢
   obtain ⟨av, ah, al⟩ := a
   obtain ⟨bv, bh, bl⟩ := b
   simp only at h ⊢
   cases av <;> cases bv <;> simp at h ⊢
   all_goals
    by_cases h1 : ah = bh
    ·subst h1; simp at h ⊢; split at h <;> split <;> omega
    ·simp [h1, Ne.symm h1] at h ⊢; split at h <;> split <;> omega
 ·intro h
  subst h
  unfold cmpA cmpN
  simp
theorem pb_of : ∀ l : List Pf, (l.all fun p => decide (0 ≤ p.bits) && decide (p.bits ≤ 128)) = true → ∃ m : List PB, m.map Subtype.val = l
 | [], _ => ⟨[], rfl⟩
 | p :: r, h => by
  rw [List.all_cons, Bool.and_eq_true, Bool.and_eq_true, decide_eq_true_iff, decide_eq_true_iff] at h
  obtain ⟨m, hm⟩ := pb_of r h.2
  exact ⟨⟨p, h.1⟩ :: m, by rw [List.map_cons, hm]⟩
theorem ltOf_pb (x y : PB) : ltOf (fun x y : PB => cmpP x.1 y.1) x y = pfLt x.1 y.1 := by
 show decide (cmpP x.1 y.1 < 0) = _
 unfold cmpP pfLt
 by_cases h : cmpA x.1.ad y.1.ad = 0
 ·have e := (cmpA_zero _ _).1 h
  rw [if_neg (fun hh => hh h), e, adLt_irrefl, Bool.false_or, decide_eq_true rfl, Bool.true_and, decide_eq_decide]
  omega
 ·rw [if_pos h, cmpA_lt, decide_eq_false (fun e => h ((cmpA_zero _ _).2 e)), Bool.false_and, Bool.or_false]
theorem swo_pb : SWO (ltOf fun x y : PB => cmpP x.1 y.1) where
 irrefl x := by rw [ltOf_pb]; exact pfLt_irrefl _
 trans x y z h1 h2 := by rw [ltOf_pb] at *; exact pfLt_trans h1 h2
 ntrans x y z h1 h2 := by rw [ltOf_pb] at *; exact pfLt_ntrans h1 h2
theorem encPf_K (ρ : Nat → Value) (x : Pf) : denL ρ (K.enc .pfx x) = encPf x := rfl
noncomputable def slices_SortFunc___api_Prefix_api_Prefix__con : Con := sortCon .pfx sortOkP sortP 27 44
theorem slices_SortFunc___api_Prefix_api_Prefix__ok : TrOk Try.prog 43 slices_SortFunc___api_Prefix_api_Prefix__con := by
 refine sort_ok .pfx sortOkP sortP _ _ (fun W hG base w v l ρ hb hown hbase hok => ?_)
 simp only [sortOkP, Bool.and_eq_true, List.all_eq_true, decide_eq_true_eq] at hok
 obtain ⟨h2, h3⟩ := hok
 have hsz : l.length < 4611686018427387904 := by
  have := Nat.le_of_ble_eq_true (show Nat.ble ((l.length : Int).toNat + (0 : Int).toNat) 274877906944 = true from h2)
  have e : (0 : Int).toNat = 0 := rfl
  omega
 have e0 : (fun a : Pf => denL ρ (K.enc .pfx a)) = encPf := funext fun x => encPf_K ρ x
 have hown' : w.ownsRow base 27 4 v l.length (l.flatMap encPf) := by rw [← e0]; exact hown
 by_cases h1 : l = []
 ·subst h1
  obtain ⟨p, cap, rfl⟩ : ∃ p cap, v = .slice p 0 cap := by
   obtain ⟨_, ⟨e, _⟩ | ⟨b, cap, cur, e, _⟩⟩ := hown'
   ·exact ⟨_, _, e⟩
   ·exact ⟨_, _, e⟩
  refine (AnyF.slices_SortFunc_none Try.sortLs p cap _ w).mono ?_
  rintro r w' ⟨rfl, rfl⟩
  exact ⟨rfl, hown, World.grownBy.refl _ _⟩
 obtain ⟨m, hm⟩ := pb_of l h3
 subst hm
 have hfm : ∀ k : List PB, (k.map Subtype.val).flatMap encPf = k.flatMap fun x : PB => encPf x.1 := fun k => by rw [List.flatMap_map]
 have hlm : (m.map Subtype.val).length = m.length := List.length_map _
 have hown2 : w.ownsRow base 27 4 v m.length (m.flatMap fun x : PB => encPf x.1) := by rw [← hlm, ← hfm]; exact hown'
 have hg := sort_gen Try.sortLs 4 (fun w => Try.isAgg27 w) (fun w => Try.sizeOf27 w) (fun x : PB => encPf x.1) (fun _ => rfl) (fun x v hv => by
   simp only [encPf, List.mem_cons, List.not_mem_nil, or_false] at hv
   rcases hv with rfl | rfl | rfl | rfl <;> rfl) (fun x y : PB => cmpP x.1 y.1) swo_pb 44 #[] (enters_of Try.func44 (by kernel_rfl) rfl)
  (fun w x y => pfCmp_walk x.1 y.1 x.2 y.2 w) base 27 w v m hown2 (fun e => h1 (by rw [e]; rfl)) (by rw [← hlm]; exact hsz)
 refine hg.mono ?_
 rintro r w' ⟨rfl, l', hp, hpw, hown3, hgb⟩
 have hl' : l'.map Subtype.val = sortP (m.map Subtype.val) := sortP_uniq (hp.map _) (List.pairwise_map.2 (hpw.imp fun {a b} h => by
  rw [ltOf_pb] at h
  exact h))
 refine ⟨rfl, ?_, hgb⟩
 show w'.ownsRow base 27 4 v (sortP (m.map Subtype.val)).length ((sortP (m.map Subtype.val)).flatMap fun a : Pf => denL ρ (K.enc .pfx a))
 have hlm3 : (l'.map Subtype.val).length = l'.length := List.length_map _
 rw [e0, ← hl', hfm]
 rw [← hlm3] at hown3
 exact hown3
end Go.Proofs.Ytjlkgfdnepfbiaa
namespace Go.Proofs.Ytjlkgfdnepfbiaa
open Go Go.Ma
def zq8 : LoopS := { n := 58, base := 5, head := { keep := [0, 3, 4], vals := [.one (.cst (.ptr 1 0)), .one (.cst (.ptr 5 0)), .one (.fl .int)], objs := [.row .pfx 27 false, .blk [.cst (.row 3)] 68 true, .row .pfx 27 true, .row .pfx 27 true, .blk [.fl .pfx] 27 true, .blk [.fl .pfx] 27 true] }, exits := [⟨some 0, { keep := [0, 3, 4], vals := [.one (.cst (.ptr 1 0)), .one (.cst (.ptr 5 0)), .one (.fl .int)], objs := [.row .pfx 27 false, .blk [.cst (.row 3)] 68 true, .row .pfx 27 true, .row .pfx 27 true, .blk [.fl .pfx] 27 true, .blk [.fl .pfx] 27 true] }⟩] }
noncomputable def span_Short___span_stack__put_env : Env := mkEnv ty fnB [(52, prefix_Over_con), (53, prefix_Joined_con)] [(3, (loopTr zq8 (loopN zq7 FUEL)))]
theorem span_Short___span_stack__put_envOk : EnvOk Try.prog span_Short___span_stack__put_env := envOk tyOk fn_ok (callsCons prefix_Over_ok (callsCons prefix_Joined_ok callsNil)) _
theorem span_Short___span_stack__put_L3_ok : LOk Try.prog (nthLoop (codeOf Try.f45) 0) (loopTr zq8 (loopN zq7 FUEL)) := by
 have h : loopsOf (nthLoop (codeOf Try.f45) 0) = [] := by kernel_rfl
 refine loop_ok span_Short___span_stack__put_envOk (loopsOk h lsNil) zq8 zq7 FUEL (fun rec x => ?_)
 kernel_rfl
theorem span_Short___span_stack__put_inl : TrOk Try.prog 45 (inlCon span_Short___span_stack__put_env Try.f45) := by
 have h : loopsOf (codeOf Try.f45) = [(nthLoop (codeOf Try.f45) 0)] := by kernel_rfl
 exact inl_ok span_Short___span_stack__put_envOk Try.func45 (bodyOk h (lsCons (one_loop (t := (loopTr zq8 (loopN zq7 FUEL))) (by kernel_rfl) span_Short___span_stack__put_L3_ok) lsNil))
def span_Short_L5_S : LoopS := { n := 27, base := 1, head := { keep := [3, 13, 14, 15], vals := [.one (.cst (.ptr 1 0)), .one (.cst (.row 2)), .one (.fl .int), .one (.fl .int)], objs := [.row .pfx 27 false, .blk [.cst (.row 3)] 68 true, .row .pfx 27 true, .row .pfx 27 true] }, exits := [⟨some 0, { keep := [3], vals := [.one (.cst (.ptr 1 0))], objs := [.row .pfx 27 false, .blk [.cst (.row 2)] 68 true, .row .pfx 27 true] }⟩] }
noncomputable def span_Short_env : Env := mkEnv ty fnB [(42, slices_Clone___api_Prefix_api_Prefix__con), (43, slices_SortFunc___api_Prefix_api_Prefix__con), (45, (inlCon span_Short___span_stack__put_env Try.f45))] [(5, (loopTr span_Short_L5_S (loopN span_Short_L5 FUEL)))]
theorem span_Short_envOk : EnvOk Try.prog span_Short_env := envOk tyOk fn_ok (callsCons slices_Clone___api_Prefix_api_Prefix__ok (callsCons slices_SortFunc___api_Prefix_api_Prefix__ok (callsCons span_Short___span_stack__put_inl callsNil))) _
theorem span_Short_L5_ok : LOk Try.prog (nthLoop (codeOf Try.f21) 0) (loopTr span_Short_L5_S (loopN span_Short_L5 FUEL)) := by
 have h : loopsOf (nthLoop (codeOf Try.f21) 0) = [] := by kernel_rfl
 refine loop_ok span_Short_envOk (loopsOk h lsNil) span_Short_L5_S span_Short_L5 FUEL (fun rec x => ?_)
 kernel_rfl
noncomputable def span_Short_con : Con := con [.one (.row .pfx 27)] [.one (.row .pfx 27)] (fun x => span_Short_t x.1)
theorem span_Short_ok : TrOk Try.prog 21 span_Short_con := by
 have h : loopsOf (codeOf Try.f21) = [(nthLoop (codeOf Try.f21) 0)] := by kernel_rfl
 refine con_ok span_Short_envOk Try.func21 (bodyOk h (lsCons (one_loop (t := (loopTr span_Short_L5_S (loopN span_Short_L5 FUEL))) (by kernel_rfl) span_Short_L5_ok) lsNil)) _ _ _ (fun x => ?_)
 kernel_rfl
def span_Less_L3_S : LoopS := { n := 22, base := 1, head := { keep := [3, 5, 8, 9, 10], vals := [.one (.cst (.ptr 1 0)), .one (.cst (.row 2)), .one (.cst (.row 0)), .one (.fl .int), .one (.fl .int)], objs := [.row .pfx 27 false, .blk [.fl .pfx] 27 true, .row .pfx 27 true] }, exits := [⟨some 0, { keep := [5], vals := [.one (.cst (.row 1))], objs := [.row .pfx 27 false, .row .pfx 27 true] }⟩] }
noncomputable def span_Less_env : Env := mkEnv ty fnB [(47, span_rest_con), (21, span_Short_con)] [(3, (loopTr span_Less_L3_S (loopN span_Less_L3 FUEL)))]
theorem span_Less_envOk : EnvOk Try.prog span_Less_env := envOk tyOk fn_ok (callsCons span_rest_ok (callsCons span_Short_ok callsNil)) _
theorem span_Less_L3_ok : LOk Try.prog (nthLoop (codeOf Try.f27) 0) (loopTr span_Less_L3_S (loopN span_Less_L3 FUEL)) := by
 have h : loopsOf (nthLoop (codeOf Try.f27) 0) = [] := by kernel_rfl
 refine loop_ok span_Less_envOk (loopsOk h lsNil) span_Less_L3_S span_Less_L3 FUEL (fun rec x => ?_)
 kernel_rfl
noncomputable def span_Less_con : Con := con [.one (.row .pfx 27), .one (.fl .pfx)] [.one (.row .pfx 27)] (fun x => span_Less_t x.1 x.2.1)
theorem span_Less_ok : TrOk Try.prog 27 span_Less_con := by
 have h : loopsOf (codeOf Try.f27) = [(nthLoop (codeOf Try.f27) 0)] := by kernel_rfl
 refine con_ok span_Less_envOk Try.func27 (bodyOk h (lsCons (one_loop (t := (loopTr span_Less_L3_S (loopN span_Less_L3 FUEL))) (by kernel_rfl) span_Less_L3_ok) lsNil)) _ _ _ (fun x => ?_)
 kernel_rfl
def R_normWithin_L3_S : LoopS := { n := 110, base := 2, head := { keep := [1, 2, 3, 7, 8, 9, 10], vals := [.one (.cst (.row 0)), .one (.cst (.row 1)), .one (.cst (.ptr 2 0)), .one (.fl .bool), .one (.fl .bool), .one (.fl .bool), .one (.fl .int)], objs := [.row .pfx 27 false, .row .pfx 27 false, .blk [.fl .pfx] 27 true] }, exits := [⟨some 0, { keep := [1, 2, 3, 7, 8, 9], vals := [.one (.cst (.row 0)), .one (.cst (.row 1)), .one (.cst (.ptr 2 0)), .one (.fl .bool), .one (.fl .bool), .one (.fl .bool)], objs := [.row .pfx 27 false, .row .pfx 27 false, .blk [.fl .pfx] 27 true] }⟩] }
def R_normWithin_L8_S : LoopS := { n := 110, base := 2, head := { keep := [1, 2, 3, 7, 8, 9, 11], vals := [.one (.cst (.row 0)), .one (.cst (.row 1)), .one (.cst (.ptr 2 0)), .one (.fl .bool), .one (.fl .bool), .one (.fl .bool), .one (.fl .int)], objs := [.row .pfx 27 false, .row .pfx 27 false, .blk [.fl .pfx] 27 true] }, exits := [⟨none, { keep := [6], vals := [.one (.cst (.row 2))], objs := [.row .pfx 27 false, .row .pfx 27 false, .row .pfx 27 true] }⟩, ⟨some 2, { keep := [1, 2, 3, 7, 8, 9], vals := [.one (.cst (.row 0)), .one (.cst (.row 1)), .one (.cst (.ptr 2 0)), .one (.fl .bool), .one (.fl .bool), .one (.fl .bool)], objs := [.row .pfx 27 false, .row .pfx 27 false, .blk [.fl .pfx] 27 true] }⟩] }
noncomputable def R_normWithin_env (R_normWithin_rec_con : Con) : Env := mkEnv ty fnB [(39, R_HasPrefix_con), (40, R_DoMeet_con), (41, R_HalvesOf_con), (30, R_normWithin_rec_con)] [(3, (loopTr R_normWithin_L3_S (loopN R_normWithin_L3 FUEL))), (8, (loopTr R_normWithin_L8_S (loopN R_normWithin_L8 FUEL)))]
theorem R_normWithin_envOk {R_normWithin_rec_con : Con} (R_normWithin_rec_ok : TrOk Try.prog 30 R_normWithin_rec_con) : EnvOk Try.prog (R_normWithin_env R_normWithin_rec_con) := envOk tyOk fn_ok (callsCons R_HasPrefix_ok (callsCons R_DoMeet_ok (callsCons R_HalvesOf_ok (callsCons R_normWithin_rec_ok callsNil)))) _
theorem R_normWithin_L8_ok : LOk Try.prog (nthLoop (codeOf Try.f30) 1) (loopTr R_normWithin_L8_S (loopN R_normWithin_L8 FUEL)) := by
 have h : loopsOf (nthLoop (codeOf Try.f30) 1) = [] := by kernel_rfl
 refine loop_ok (R_normWithin_envOk (con_none Try.prog 30 [.one (.fl .pfx), .one (.row .pfx 27), .one (.row .pfx 27)] [.one (.row .pfx 27)])) (loopsOk h lsNil) R_normWithin_L8_S R_normWithin_L8 FUEL (fun rec x => ?_)
 kernel_rfl
theorem R_normWithin_L3_ok : LOk Try.prog (nthLoop (codeOf Try.f30) 0) (loopTr R_normWithin_L3_S (loopN R_normWithin_L3 FUEL)) := by
 have h : loopsOf (nthLoop (codeOf Try.f30) 0) = [] := by kernel_rfl
 refine loop_ok (R_normWithin_envOk (con_none Try.prog 30 [.one (.fl .pfx), .one (.row .pfx 27), .one (.row .pfx 27)] [.one (.row .pfx 27)])) (loopsOk h lsNil) R_normWithin_L3_S R_normWithin_L3 FUEL (fun rec x => ?_)
 kernel_rfl
theorem R_normWithin_step_ok (R_normWithin_rec_t : Pf → List Pf → List Pf → Option ((List Pf) × Unit)) (R_normWithin_rec_ok : TrOk Try.prog 30 (con [.one (.fl .pfx), .one (.row .pfx 27), .one (.row .pfx 27)] [.one (.row .pfx 27)] (fun x => R_normWithin_rec_t x.1 x.2.1 x.2.2.1))) : TrOk Try.prog 30 (con [.one (.fl .pfx), .one (.row .pfx 27), .one (.row .pfx 27)] [.one (.row .pfx 27)] (fun x => R_normWithin_step R_normWithin_rec_t x.1 x.2.1 x.2.2.1)) := by
 have h : loopsOf (codeOf Try.f30) = [(nthLoop (codeOf Try.f30) 0), (nthLoop (codeOf Try.f30) 1)] := by kernel_rfl
 refine con_ok (R_normWithin_envOk R_normWithin_rec_ok) Try.func30 (bodyOk h (lsCons (one_loop (t := (loopTr R_normWithin_L3_S (loopN R_normWithin_L3 FUEL))) (by kernel_rfl) R_normWithin_L3_ok) (lsCons (one_loop (t := (loopTr R_normWithin_L8_S (loopN R_normWithin_L8 FUEL))) (by kernel_rfl) R_normWithin_L8_ok) lsNil))) _ _ _ (fun x => ?_)
 kernel_rfl
theorem R_normWithin_fuel_ok : ∀ n, TrOk Try.prog 30 (con [.one (.fl .pfx), .one (.row .pfx 27), .one (.row .pfx 27)] [.one (.row .pfx 27)] (fun x => R_normWithin_fuel n x.1 x.2.1 x.2.2.1))
 | 0 => con_none Try.prog 30 [.one (.fl .pfx), .one (.row .pfx 27), .one (.row .pfx 27)] [.one (.row .pfx 27)]
 | n + 1 => R_normWithin_step_ok _ (R_normWithin_fuel_ok n)
noncomputable def R_normWithin_con : Con := con [.one (.fl .pfx), .one (.row .pfx 27), .one (.row .pfx 27)] [.one (.row .pfx 27)] (fun x => R_normWithin_t x.1 x.2.1 x.2.2.1)
theorem R_normWithin_ok : TrOk Try.prog 30 R_normWithin_con := R_normWithin_fuel_ok RECN
noncomputable def R_NormOf_env : Env := mkEnv ty fnB [(30, R_normWithin_con)] []
theorem R_NormOf_envOk : EnvOk Try.prog R_NormOf_env := envOk tyOk fn_ok (callsCons R_normWithin_ok callsNil) _
noncomputable def R_NormOf_con : Con := con [.one (.row .pfx 27), .one (.row .pfx 27)] [.one (.row .pfx 27)] (fun x => R_NormOf_t x.1 x.2.1)
theorem R_NormOf_ok : TrOk Try.prog 11 R_NormOf_con := by
 have h : loopsOf (codeOf Try.f11) = [] := by kernel_rfl
 refine con_ok R_NormOf_envOk Try.func11 (bodyOk h lsNil) _ _ _ (fun x => ?_)
 kernel_rfl
def pick_left_L3_S : LoopS := { n := 21, base := 1, head := { keep := [5, 10, 11, 12], vals := [.one (.cst (.row 1)), .one (.cst (.row 0)), .one (.fl .int), .one (.fl .int)], objs := [.row .pfx 27 false, .row .pfx 27 true] }, exits := [⟨some 0, { keep := [5], vals := [.one (.cst (.row 1))], objs := [.row .pfx 27 false, .row .pfx 27 true] }⟩] }
noncomputable def pick_left_env : Env := mkEnv ty fnB [(27, span_Less_con)] [(3, (loopTr pick_left_L3_S (loopN pick_left_L3 FUEL)))]
theorem pick_left_envOk : EnvOk Try.prog pick_left_env := envOk tyOk fn_ok (callsCons span_Less_ok callsNil) _
theorem pick_left_L3_ok : LOk Try.prog (nthLoop (codeOf Try.f35) 0) (loopTr pick_left_L3_S (loopN pick_left_L3 FUEL)) := by
 have h : loopsOf (nthLoop (codeOf Try.f35) 0) = [] := by kernel_rfl
 refine loop_ok pick_left_envOk (loopsOk h lsNil) pick_left_L3_S pick_left_L3 FUEL (fun rec x => ?_)
 kernel_rfl
noncomputable def pick_left_con : Con := con [.one (.fl .pfx), .one (.row .pfx 27)] [.one (.row .pfx 27)] (fun x => pick_left_t x.1 x.2.1)
theorem pick_left_ok : TrOk Try.prog 35 pick_left_con := by
 have h : loopsOf (codeOf Try.f35) = [(nthLoop (codeOf Try.f35) 0)] := by kernel_rfl
 refine con_ok pick_left_envOk Try.func35 (bodyOk h (lsCons (one_loop (t := (loopTr pick_left_L3_S (loopN pick_left_L3 FUEL))) (by kernel_rfl) pick_left_L3_ok) lsNil)) _ _ _ (fun x => ?_)
 kernel_rfl
noncomputable def pick_Free_env : Env := mkEnv ty fnB [(34, pick_ready_con), (35, pick_left_con)] []
theorem pick_Free_envOk : EnvOk Try.prog pick_Free_env := envOk tyOk fn_ok (callsCons pick_ready_ok (callsCons pick_left_ok callsNil)) _
noncomputable def pick_Free_con : Con := con [.one (.fl .pfx), .one (.row .pfx 27)] [.one (.row .pfx 27), .one (.fl .int)] (fun x => pick_Free_t x.1 x.2.1)
theorem pick_Free_ok : TrOk Try.prog 15 pick_Free_con := by
 have h : loopsOf (codeOf Try.f15) = [] := by kernel_rfl
 refine con_ok pick_Free_envOk Try.func15 (bodyOk h lsNil) _ _ _ (fun x => ?_)
 kernel_rfl
def zq3 : LoopS := { n := 19, base := 5, head := { keep := [0, 1, 7, 8], vals := [.one (.cst (.row 4)), .one (.cst (.fn 38 [.ptr 2 0])), .one (.fl .int), .one (.fl .int)], objs := [.row .pfx 27 false, .blk [.fl .pfx] 27 true, .blk [.fl .int] 3 true, .blk [.fl .pfx] 27 true, .row .pfx 27 true] }, exits := [⟨none, { keep := [4], vals := [.one (.fl .int)], objs := [.row .pfx 27 false, .blk [.fl .pfx] 27 true, .blk [.fl .int] 3 true, .blk [.fl .pfx] 27 true, .row .pfx 27 true] }⟩, ⟨some 0, { keep := [], vals := [], objs := [.row .pfx 27 false, .blk [.fl .pfx] 27 true, .blk [.fl .int] 3 true, .blk [.fl .pfx] 27 true, .row .pfx 27 true] }⟩] }
noncomputable def zq4 : Env := mkEnv ty fnB [(38, pick_First_1_con)] [(2, (loopTr zq3 (loopN zq2 FUEL)))]
theorem zq5 : EnvOk Try.prog zq4 := envOk tyOk fn_ok (callsCons pick_First_1_ok callsNil) _
theorem pick_First_slices_IndexFunc___api_Prefix_api_Prefix__L2_ok : LOk Try.prog (nthLoop (codeOf Try.f37) 0) (loopTr zq3 (loopN zq2 FUEL)) := by
 have h : loopsOf (nthLoop (codeOf Try.f37) 0) = [] := by kernel_rfl
 refine loop_ok zq5 (loopsOk h lsNil) zq3 zq2 FUEL (fun rec x => ?_)
 kernel_rfl
theorem pick_First_slices_IndexFunc___api_Prefix_api_Prefix__inl : TrOk Try.prog 37 (inlCon zq4 Try.f37) := by
 have h : loopsOf (codeOf Try.f37) = [(nthLoop (codeOf Try.f37) 0)] := by kernel_rfl
 exact inl_ok zq5 Try.func37 (bodyOk h (lsCons (one_loop (t := (loopTr zq3 (loopN zq2 FUEL))) (by kernel_rfl) pick_First_slices_IndexFunc___api_Prefix_api_Prefix__L2_ok) lsNil))
noncomputable def pick_First_env : Env := mkEnv ty fnB [(34, pick_ready_con), (36, prefix_Wide_con), (35, pick_left_con), (37, (inlCon zq4 Try.f37))] []
theorem pick_First_envOk : EnvOk Try.prog pick_First_env := envOk tyOk fn_ok (callsCons pick_ready_ok (callsCons prefix_Wide_ok (callsCons pick_left_ok (callsCons pick_First_slices_IndexFunc___api_Prefix_api_Prefix__inl callsNil)))) _
noncomputable def pick_First_con : Con := con [.one (.fl .pfx), .one (.row .pfx 27), .one (.fl .int)] [.one (.fl .pfx), .one (.fl .int)] (fun x => pick_First_t x.1 x.2.1 x.2.2.1)
theorem pick_First_ok : TrOk Try.prog 16 pick_First_con := by
 have h : loopsOf (codeOf Try.f16) = [] := by kernel_rfl
 refine con_ok pick_First_envOk Try.func16 (bodyOk h lsNil) _ _ _ (fun x => ?_)
 kernel_rfl
def R_FirstOf_L3_S : LoopS := { n := 67, base := 1, head := { keep := [1, 2, 3, 6, 8, 9], vals := [.one (.cst (.row 0)), .one (.fl .int), .one (.cst (.ptr 1 0)), .one (.cst (.ptr 2 0)), .one (.fl .bool), .one (.fl .int)], objs := [.row .pfx 27 false, .blk [.fl .pfx] 27 true, .blk [.fl .pfx] 27 true] }, exits := [⟨none, { keep := [6, 7], vals := [.one (.cst (.ptr 1 0)), .one (.fl .bool)], objs := [.row .pfx 27 false, .blk [.fl .pfx] 27 true] }⟩, ⟨some 0, { keep := [1, 2, 3, 6, 8], vals := [.one (.cst (.row 0)), .one (.fl .int), .one (.cst (.ptr 1 0)), .one (.cst (.ptr 2 0)), .one (.fl .bool)], objs := [.row .pfx 27 false, .blk [.fl .pfx] 27 true, .blk [.fl .pfx] 27 true] }⟩] }
noncomputable def R_FirstOf_env (R_FirstOf_rec_con : Con) : Env := mkEnv ty fnB [(39, R_HasPrefix_con), (40, R_DoMeet_con), (41, R_HalvesOf_con), (18, R_FirstOf_rec_con)] [(3, (loopTr R_FirstOf_L3_S (loopN R_FirstOf_L3 FUEL)))]
theorem R_FirstOf_envOk {R_FirstOf_rec_con : Con} (R_FirstOf_rec_ok : TrOk Try.prog 18 R_FirstOf_rec_con) : EnvOk Try.prog (R_FirstOf_env R_FirstOf_rec_con) := envOk tyOk fn_ok (callsCons R_HasPrefix_ok (callsCons R_DoMeet_ok (callsCons R_HalvesOf_ok (callsCons R_FirstOf_rec_ok callsNil)))) _
theorem R_FirstOf_L3_ok : LOk Try.prog (nthLoop (codeOf Try.f18) 0) (loopTr R_FirstOf_L3_S (loopN R_FirstOf_L3 FUEL)) := by
 have h : loopsOf (nthLoop (codeOf Try.f18) 0) = [] := by kernel_rfl
 refine loop_ok (R_FirstOf_envOk (con_none Try.prog 18 [.one (.fl .pfx), .one (.row .pfx 27), .one (.fl .int)] [.one (.fl .pfx), .one (.fl .bool)])) (loopsOk h lsNil) R_FirstOf_L3_S R_FirstOf_L3 FUEL (fun rec x => ?_)
 kernel_rfl
theorem R_FirstOf_step_ok (R_FirstOf_rec_t : Pf → List Pf → Int → Option (Pf × Bool × Unit)) (R_FirstOf_rec_ok : TrOk Try.prog 18 (con [.one (.fl .pfx), .one (.row .pfx 27), .one (.fl .int)] [.one (.fl .pfx), .one (.fl .bool)] (fun x => R_FirstOf_rec_t x.1 x.2.1 x.2.2.1))) : TrOk Try.prog 18 (con [.one (.fl .pfx), .one (.row .pfx 27), .one (.fl .int)] [.one (.fl .pfx), .one (.fl .bool)] (fun x => R_FirstOf_step R_FirstOf_rec_t x.1 x.2.1 x.2.2.1)) := by
 have h : loopsOf (codeOf Try.f18) = [(nthLoop (codeOf Try.f18) 0)] := by kernel_rfl
 refine con_ok (R_FirstOf_envOk R_FirstOf_rec_ok) Try.func18 (bodyOk h (lsCons (one_loop (t := (loopTr R_FirstOf_L3_S (loopN R_FirstOf_L3 FUEL))) (by kernel_rfl) R_FirstOf_L3_ok) lsNil)) _ _ _ (fun x => ?_)
 kernel_rfl
theorem R_FirstOf_fuel_ok : ∀ n, TrOk Try.prog 18 (con [.one (.fl .pfx), .one (.row .pfx 27), .one (.fl .int)] [.one (.fl .pfx), .one (.fl .bool)] (fun x => R_FirstOf_fuel n x.1 x.2.1 x.2.2.1))
 | 0 => con_none Try.prog 18 [.one (.fl .pfx), .one (.row .pfx 27), .one (.fl .int)] [.one (.fl .pfx), .one (.fl .bool)]
 | n + 1 => R_FirstOf_step_ok _ (R_FirstOf_fuel_ok n)
noncomputable def R_FirstOf_con : Con := con [.one (.fl .pfx), .one (.row .pfx 27), .one (.fl .int)] [.one (.fl .pfx), .one (.fl .bool)] (fun x => R_FirstOf_t x.1 x.2.1 x.2.2.1)
theorem R_FirstOf_ok : TrOk Try.prog 18 R_FirstOf_con := R_FirstOf_fuel_ok RECN
noncomputable def law_pickBegun_env : Env := mkEnv ty fnB [(31, law_net_con), (15, pick_Free_con), (16, pick_First_con), (33, R_SamePrefixes_con)] []
theorem law_pickBegun_envOk : EnvOk Try.prog law_pickBegun_env := envOk tyOk fn_ok (callsCons law_net_ok (callsCons pick_Free_ok (callsCons pick_First_ok (callsCons R_SamePrefixes_ok callsNil)))) _
noncomputable def law_pickBegun_con : Con := con [] [.one (.fl .bool)] (fun x => law_pickBegun_t)
theorem law_pickBegun_ok : TrOk Try.prog 19 law_pickBegun_con := by
 have h : loopsOf (codeOf Try.f19) = [] := by kernel_rfl
 refine con_ok law_pickBegun_envOk Try.func19 (bodyOk h lsNil) _ _ _ (fun x => ?_)
 kernel_rfl
def law_PickTells_J : List (Nat × JoinS) := [(33, { n := 90, exits := [⟨some BIG, { keep := [1, 2, 3, 7, 8, 9, 10, 11], vals := [.one (.cst (.row 0)), .one (.fl .int), .one (.cst (.ptr 1 0)), .one (.cst (.row 2)), .one (.fl .int), .one (.cst (.ptr 3 0)), .one (.fl .int), .one (.fl .int)], objs := [.row .pfx 27 false, .blk [.fl .pfx] 27 true, .row .pfx 27 true, .blk [.fl .pfx] 27 true] }⟩] }), (52, { n := 90, exits := [⟨some BIG, { keep := [1, 2, 3, 7, 8, 9, 10, 11, 12], vals := [.one (.cst (.row 0)), .one (.fl .int), .one (.cst (.ptr 1 0)), .one (.cst (.row 2)), .one (.fl .int), .one (.cst (.ptr 3 0)), .one (.fl .int), .one (.fl .int), .one (.fl .int)], objs := [.row .pfx 27 false, .blk [.fl .pfx] 27 true, .row .pfx 27 true, .blk [.fl .pfx] 27 true] }⟩] }), (54, { n := 90, exits := [⟨some BIG, { keep := [1, 2, 3, 7, 8, 9, 10, 11, 12, 13, 14], vals := [.one (.cst (.row 0)), .one (.fl .int), .one (.cst (.ptr 1 0)), .one (.cst (.row 2)), .one (.fl .int), .one (.cst (.ptr 3 0)), .one (.fl .int), .one (.fl .int), .one (.fl .int), .one (.cst (.row 4)), .one (.cst (.ptr 5 0))], objs := [.row .pfx 27 false, .blk [.fl .pfx] 27 true, .row .pfx 27 true, .blk [.fl .pfx] 27 true, .row .pfx 27 true, .blk [.fl .pfx] 27 true] }⟩] }), (70, { n := 90, exits := [⟨some BIG, { keep := [7, 8, 9, 10, 11, 12, 13, 14], vals := [.one (.cst (.row 1)), .one (.fl .int), .one (.cst (.ptr 2 0)), .one (.fl .int), .one (.fl .int), .one (.fl .int), .one (.cst (.row 3)), .one (.cst (.ptr 4 0))], objs := [.row .pfx 27 false, .row .pfx 27 true, .blk [.fl .pfx] 27 true, .row .pfx 27 true, .blk [.fl .pfx] 27 true] }⟩] }), (60, { n := 90, exits := [⟨some BIG, { keep := [7, 8, 9, 10, 11, 12, 13, 14], vals := [.one (.cst (.row 1)), .one (.fl .int), .one (.cst (.ptr 2 0)), .one (.fl .int), .one (.fl .int), .one (.fl .int), .one (.cst (.row 3)), .one (.cst (.ptr 4 0))], objs := [.row .pfx 27 false, .row .pfx 27 true, .blk [.fl .pfx] 27 true, .row .pfx 27 true, .blk [.fl .pfx] 27 true] }⟩] })]
noncomputable def law_PickTells_env : Env := mkEnv ty fnB [(15, pick_Free_con), (16, pick_First_con), (10, R_CheckPrefix_con), (8, R_CheckList_con), (17, R_Bits_con), (11, R_NormOf_con), (18, R_FirstOf_con), (19, law_pickBegun_con), (14, law_prefixesAre_con)] [] law_PickTells_J
theorem law_PickTells_envOk : EnvOk Try.prog law_PickTells_env := envOk tyOk fn_ok (callsCons pick_Free_ok (callsCons pick_First_ok (callsCons R_CheckPrefix_ok (callsCons R_CheckList_ok (callsCons R_Bits_ok (callsCons R_NormOf_ok (callsCons R_FirstOf_ok (callsCons law_pickBegun_ok (callsCons law_prefixesAre_ok callsNil))))))))) _ _
noncomputable def law_PickTells_con : Con := con [.one (.fl .pfx), .one (.row .pfx 27), .one (.fl .int)] [.one (.fl .bool)] (fun x => law_PickTells_t x.1 x.2.1 x.2.2.1)
theorem law_PickTells_ok : TrOk Try.prog 4 law_PickTells_con := by
 have h : loopsOf (codeOf Try.f4) = [] := by kernel_rfl
 refine con_ok law_PickTells_envOk Try.func4 (bodyOk h lsNil) _ _ _ (fun x => ?_)
 kernel_rfl
end Go.Proofs.Ytjlkgfdnepfbiaa
namespace Go.Proofs.Ytjlkgfdnepfbiaa
open Go Go.Ma Go.ChangeShapes Go.WideShapes Go.ChangeAt Go.RowKit
set_option linter.unusedVariables false
theorem pickTells_own : ownKnob Try.prog.godebug = none := by kernel_rfl
theorem pickTells_laidOut : laidOutB Try.prog = true := by kernel_rfl
theorem pickTells_plain : ∀ x, PsIn [.one (.fl .pfx), .one (.row .pfx 27), .one (.fl .int)] x → (fun x => law_PickTells_t x.1 x.2.1 x.2.2.1) x = some ((true : Bool), ()) := fun x hx => PickTells_eq hx.1 hx.2.1.2 _
set_option maxRecDepth 100000 in
theorem pickTells_lifted (os : Os) (started : os.Started) (H : Type) (enc : TypeId × Value → H) :
  ReturnsInHanded {} Try.checked os 4 .any (Rows.pickTellsSpec.pre6 enc Try.prog Try.f4 Rows.pickTellsRow.domain false) (Rows.pickTellsSpec.post enc Try.prog Try.f4 false true false false) := by
 refine returnsInHanded_of_change (C := Try.checked) pickTells_own started (by kernel_rfl) Try.func4
  (ChangeSpec.witness6 (enc := enc) (C := Try.checked) false ⟨#[], #[.agg #[.bool false, .int .u64 0, .int .u64 0, .int .i64 0], .slice none 0 0, .int .i64 0], []⟩ 8 (by kernel_rfl) (by kernel_rfl) (by kernel_rfl) (by kernel_rfl)) ?_
 intro W base args ds gs before hval0 hW hcnd _
 have hval : ∀ (j : Nat) t v, Try.f4.params[j]? = some t → args[j]? = some v → Value.okWide Try.prog W .any base t v := hval0
 have hW' := hW
 obtain ⟨p, q, hA0, hV, rfl, hfz, hnd⟩ := hW
 have hA : DataW.TrodAll enc Try.prog W 0 (fun _ => true) true Try.f4.params.toList args.toList ds p := hA0
 rw [Try.params4] at hA hval
 have hA2 := hA
 obtain ⟨v0, vs0, d0, ds0, p0, q0, hargs, rfl, rfl, h0, r0⟩ := trodAll_cons hA
 obtain ⟨v1, vs1, d1, ds1, p1, q1, rfl, rfl, rfl, h1, r1⟩ := trodAll_cons r0
 obtain ⟨v2, vs2, d2, ds2, p2, q2, rfl, rfl, rfl, h2, r2⟩ := trodAll_cons r1
 obtain ⟨rfl, rfl, rfl⟩ := trodAll_nil r2
 obtain rfl : args = #[v0, v1, v2] := by cases args; simp_all
 obtain ⟨rfl, rfl⟩ := trodVars_none hV
 have call := law_calls (enc := enc) (Glob.none (by kernel_rfl) (by kernel_rfl) (by kernel_rfl) (by kernel_rfl) (by kernel_rfl)) law_PickTells_ok pickTells_plain (fun x => rfl) (fun x => rfl) (ts := [27, 22, 3]) (vs := [v0, v1, v2]) (by kernel_rfl) (fun j t v h1 h2 => hval j t v (by simpa using h1) (by simpa using h2)) hA2
 refine call.mono fun e W' ⟨he, bel⟩ => ?_
 subst he
 exact ⟨_, rfl, _, _, _, [], _, [], hW', trodAll_mk1 (shut_bool Try.underlying4 _), all_back pickTells_laidOut bel _ _ _ _ (by kernel_rfl) hA2, rfl, bel.frame _, fun h => by cases h⟩
theorem pickTells_over : Rows.pickTellsRow.holds Try.pinned (OpenSpec.ofChange Rows.pickTellsSpec) :=
 OpenClaim.holds_of_wide 4 Try.f4 rfl rfl rfl rfl rfl rfl rfl ⟨rfl, rfl, rfl, rfl, rfl⟩ rfl rfl rfl rfl rfl (by kernel_rfl) Try.func4 (by kernel_rfl)
  (of_decide_eq_true (by kernel_rfl)) (by unfold Func.isWrapper; rw [if_neg (of_decide_eq_false (by kernel_rfl))]; exact ⟨rfl, rfl⟩)
  (fun os started H enc _ => pickTells_lifted os started H enc)
theorem pickTells_said : Rows.PickTellsSaid := pickTells_over
end Go.Proofs.Ytjlkgfdnepfbiaa
