/-
  The program's functions come to their plain forms. Written by a program of mine.
-/
import Derived.Test.YtgfcgbhocdlleaaTy
import Derived.Test.YtgfcgbhocdlleaaPl
namespace Go.Proofs.Ytgfcgbhocdlleaa
open Go Go.Ma
noncomputable def log_epoch_env : Env := mkEnv ty fnB [] []
theorem log_epoch_envOk : EnvOk Try.prog log_epoch_env := envOk tyOk fn_ok callsNil _
noncomputable def log_epoch_con : Con := con [.one (.fl .int)] [.one (.fl .bool)] (fun x => log_epoch_t x.1)
theorem log_epoch_ok : TrOk Try.prog 40 log_epoch_con := by
  have h : loopsOf (codeOf Try.f40) = [] := by kernel_rfl
  refine con_ok log_epoch_envOk Try.func40 (bodyOk h lsNil) [.one (.fl .int)] [.one (.fl .bool)] _ (fun x => ?_)
  kernel_rfl

noncomputable def state_within_env : Env := mkEnv ty fnB [] []
theorem state_within_envOk : EnvOk Try.prog state_within_env := envOk tyOk fn_ok callsNil _
noncomputable def state_within_con : Con := con [.one (.fl .int), .one (.fl .int), .one (.fl .int)] [.one (.fl .bool)] (fun x => state_within_t x.1 x.2.1 x.2.2.1)
theorem state_within_ok : TrOk Try.prog 55 state_within_con := by
  have h : loopsOf (codeOf Try.f55) = [] := by kernel_rfl
  refine con_ok state_within_envOk Try.func55 (bodyOk h lsNil) [.one (.fl .int), .one (.fl .int), .one (.fl .int)] [.one (.fl .bool)] _ (fun x => ?_)
  kernel_rfl

noncomputable def state_extra_env : Env := mkEnv ty fnB [] []
theorem state_extra_envOk : EnvOk Try.prog state_extra_env := envOk tyOk fn_ok callsNil _
noncomputable def state_extra_con : Con := con [.one (.fl .op)] [.one (.fl .bool)] (fun x => state_extra_t x.1)
theorem state_extra_ok : TrOk Try.prog 56 state_extra_con := by
  have h : loopsOf (codeOf Try.f56) = [] := by kernel_rfl
  refine con_ok state_extra_envOk Try.func56 (bodyOk h lsNil) [.one (.fl .op)] [.one (.fl .bool)] _ (fun x => ?_)
  kernel_rfl

noncomputable def addr_Check_env : Env := mkEnv ty fnB [] []
theorem addr_Check_envOk : EnvOk Try.prog addr_Check_env := envOk tyOk fn_ok callsNil _
noncomputable def addr_Check_con : Con := con [.one (.fl .addr)] [.one (.fl .int)] (fun x => addr_Check_t x.1)
theorem addr_Check_ok : TrOk Try.prog 59 addr_Check_con := by
  have h : loopsOf (codeOf Try.f59) = [] := by kernel_rfl
  refine con_ok addr_Check_envOk Try.func59 (bodyOk h lsNil) [.one (.fl .addr)] [.one (.fl .int)] _ (fun x => ?_)
  kernel_rfl

noncomputable def prefix_Wide_env : Env := mkEnv ty fnB [] []
theorem prefix_Wide_envOk : EnvOk Try.prog prefix_Wide_env := envOk tyOk fn_ok callsNil _
noncomputable def prefix_Wide_con : Con := con [.one (.fl .addr)] [.one (.fl .int)] (fun x => prefix_Wide_t x.1)
theorem prefix_Wide_ok : TrOk Try.prog 63 prefix_Wide_con := by
  have h : loopsOf (codeOf Try.f63) = [] := by kernel_rfl
  refine con_ok prefix_Wide_envOk Try.func63 (bodyOk h lsNil) [.one (.fl .addr)] [.one (.fl .int)] _ (fun x => ?_)
  kernel_rfl

noncomputable def prefix_mask_env : Env := mkEnv ty fnB [(63, prefix_Wide_con)] []
theorem prefix_mask_envOk : EnvOk Try.prog prefix_mask_env := envOk tyOk fn_ok (callsCons prefix_Wide_ok callsNil) _
noncomputable def prefix_mask_con : Con := con [.one (.fl .addr), .one (.fl .int)] [.one (.fl .addr)] (fun x => prefix_mask_t x.1 x.2.1)
theorem prefix_mask_ok : TrOk Try.prog 66 prefix_mask_con := by
  have h : loopsOf (codeOf Try.f66) = [] := by kernel_rfl
  refine con_ok prefix_mask_envOk Try.func66 (bodyOk h lsNil) [.one (.fl .addr), .one (.fl .int)] [.one (.fl .addr)] _ (fun x => ?_)
  kernel_rfl

noncomputable def prefix_Cut_env : Env := mkEnv ty fnB [(66, prefix_mask_con)] []
theorem prefix_Cut_envOk : EnvOk Try.prog prefix_Cut_env := envOk tyOk fn_ok (callsCons prefix_mask_ok callsNil) _
noncomputable def prefix_Cut_con : Con := con [.one (.fl .addr), .one (.fl .int)] [.one (.fl .addr)] (fun x => prefix_Cut_t x.1 x.2.1)
theorem prefix_Cut_ok : TrOk Try.prog 64 prefix_Cut_con := by
  have h : loopsOf (codeOf Try.f64) = [] := by kernel_rfl
  refine con_ok prefix_Cut_envOk Try.func64 (bodyOk h lsNil) [.one (.fl .addr), .one (.fl .int)] [.one (.fl .addr)] _ (fun x => ?_)
  kernel_rfl

noncomputable def prefix_Check_env : Env := mkEnv ty fnB [(59, addr_Check_con), (63, prefix_Wide_con), (64, prefix_Cut_con)] []
theorem prefix_Check_envOk : EnvOk Try.prog prefix_Check_env := envOk tyOk fn_ok (callsCons addr_Check_ok (callsCons prefix_Wide_ok (callsCons prefix_Cut_ok callsNil))) _
noncomputable def prefix_Check_con : Con := con [.one (.fl .pfx)] [.one (.fl .int)] (fun x => prefix_Check_t x.1)
theorem prefix_Check_ok : TrOk Try.prog 57 prefix_Check_con := by
  have h : loopsOf (codeOf Try.f57) = [] := by kernel_rfl
  refine con_ok prefix_Check_envOk Try.func57 (bodyOk h lsNil) [.one (.fl .pfx)] [.one (.fl .int)] _ (fun x => ?_)
  kernel_rfl

noncomputable def lease_Narrow_env : Env := mkEnv ty fnB [(63, prefix_Wide_con)] []
theorem lease_Narrow_envOk : EnvOk Try.prog lease_Narrow_env := envOk tyOk fn_ok (callsCons prefix_Wide_ok callsNil) _
noncomputable def lease_Narrow_con : Con := con [.one (.fl .pfx)] [.one (.fl .bool)] (fun x => lease_Narrow_t x.1)
theorem lease_Narrow_ok : TrOk Try.prog 58 lease_Narrow_con := by
  have h : loopsOf (codeOf Try.f58) = [] := by kernel_rfl
  refine con_ok lease_Narrow_envOk Try.func58 (bodyOk h lsNil) [.one (.fl .pfx)] [.one (.fl .bool)] _ (fun x => ?_)
  kernel_rfl

noncomputable def lease_within_env : Env := mkEnv ty fnB [] []
theorem lease_within_envOk : EnvOk Try.prog lease_within_env := envOk tyOk fn_ok callsNil _
noncomputable def lease_within_con : Con := con [.one (.fl .int), .one (.fl .int), .one (.fl .int)] [.one (.fl .bool)] (fun x => lease_within_t x.1 x.2.1 x.2.2.1)
theorem lease_within_ok : TrOk Try.prog 65 lease_within_con := by
  have h : loopsOf (codeOf Try.f65) = [] := by kernel_rfl
  refine con_ok lease_within_envOk Try.func65 (bodyOk h lsNil) [.one (.fl .int), .one (.fl .int), .one (.fl .int)] [.one (.fl .bool)] _ (fun x => ?_)
  kernel_rfl

def lease_Who_L2_S : LoopS := { n := 33, base := 0, head := { keep := [0, 6, 7], vals := [.one (.fl .str), .one (.fl .int), .one (.fl .int)], objs := [] }, exits := [⟨none, { keep := [2], vals := [.one (.fl .bool)], objs := [] }⟩, ⟨some 0, { keep := [0], vals := [.one (.fl .str)], objs := [] }⟩] }
noncomputable def lease_Who_env : Env := mkEnv ty fnB [(65, lease_within_con)] [(2, (loopTr lease_Who_L2_S (loopN lease_Who_L2 FUEL)))]
theorem lease_Who_envOk : EnvOk Try.prog lease_Who_env := envOk tyOk fn_ok (callsCons lease_within_ok callsNil) _
theorem lease_Who_L2_ok : LOk Try.prog (nthLoop (codeOf Try.f60) 0) (loopTr lease_Who_L2_S (loopN lease_Who_L2 FUEL)) := by
  have h : loopsOf (nthLoop (codeOf Try.f60) 0) = [] := by kernel_rfl
  refine loop_ok lease_Who_envOk (loopsOk h lsNil) lease_Who_L2_S lease_Who_L2 FUEL (fun rec x => ?_)
  kernel_rfl
noncomputable def lease_Who_con : Con := con [.one (.fl .str)] [.one (.fl .bool)] (fun x => lease_Who_t x.1)
theorem lease_Who_ok : TrOk Try.prog 60 lease_Who_con := by
  have h : loopsOf (codeOf Try.f60) = [(nthLoop (codeOf Try.f60) 0)] := by kernel_rfl
  refine con_ok lease_Who_envOk Try.func60 (bodyOk h (lsCons (one_loop (t := (loopTr lease_Who_L2_S (loopN lease_Who_L2 FUEL))) (by kernel_rfl) lease_Who_L2_ok) lsNil)) [.one (.fl .str)] [.one (.fl .bool)] _ (fun x => ?_)
  kernel_rfl

noncomputable def state_Form_env : Env := mkEnv ty fnB [(55, state_within_con), (56, state_extra_con), (57, prefix_Check_con), (58, lease_Narrow_con), (59, addr_Check_con), (60, lease_Who_con)] []
theorem state_Form_envOk : EnvOk Try.prog state_Form_env := envOk tyOk fn_ok (callsCons state_within_ok (callsCons state_extra_ok (callsCons prefix_Check_ok (callsCons lease_Narrow_ok (callsCons addr_Check_ok (callsCons lease_Who_ok callsNil)))))) _
noncomputable def state_Form_con : Con := con [.one (.fl .op)] [.one (.fl .int)] (fun x => state_Form_t x.1)
theorem state_Form_ok : TrOk Try.prog 41 state_Form_con := by
  have h : loopsOf (codeOf Try.f41) = [] := by kernel_rfl
  refine con_ok state_Form_envOk Try.func41 (bodyOk h lsNil) [.one (.fl .op)] [.one (.fl .int)] _ (fun x => ?_)
  kernel_rfl

def log_Check_L4_S : LoopS := { n := 48, base := 1, head := { keep := [0, 9, 10, 11], vals := [.one (.cst (.row 0)), .one (.cst (.row 0)), .one (.fl .int), .one (.fl .int)], objs := [.row .entry 57 false] }, exits := [⟨none, { keep := [2], vals := [.one (.fl .int)], objs := [.row .entry 57 false] }⟩, ⟨some 0, { keep := [], vals := [], objs := [.row .entry 57 false] }⟩] }
noncomputable def log_Check_env : Env := mkEnv ty fnB [(40, log_epoch_con), (41, state_Form_con)] [(4, (loopTr log_Check_L4_S (loopN log_Check_L4 FUEL)))]
theorem log_Check_envOk : EnvOk Try.prog log_Check_env := envOk tyOk fn_ok (callsCons log_epoch_ok (callsCons state_Form_ok callsNil)) _
theorem log_Check_L4_ok : LOk Try.prog (nthLoop (codeOf Try.f23) 0) (loopTr log_Check_L4_S (loopN log_Check_L4 FUEL)) := by
  have h : loopsOf (nthLoop (codeOf Try.f23) 0) = [] := by kernel_rfl
  refine loop_ok log_Check_envOk (loopsOk h lsNil) log_Check_L4_S log_Check_L4 FUEL (fun rec x => ?_)
  kernel_rfl
noncomputable def log_Check_con : Con := con [.one (.row .entry 57)] [.one (.fl .int)] (fun x => log_Check_t x.1)
theorem log_Check_ok : TrOk Try.prog 23 log_Check_con := by
  have h : loopsOf (codeOf Try.f23) = [(nthLoop (codeOf Try.f23) 0)] := by kernel_rfl
  refine con_ok log_Check_envOk Try.func23 (bodyOk h (lsCons (one_loop (t := (loopTr log_Check_L4_S (loopN log_Check_L4 FUEL))) (by kernel_rfl) log_Check_L4_ok) lsNil)) [.one (.row .entry 57)] [.one (.fl .int)] _ (fun x => ?_)
  kernel_rfl

noncomputable def log_Is_1_env : Env := mkEnv ty fnB [] []
theorem log_Is_1_envOk : EnvOk Try.prog log_Is_1_env := envOk tyOk fn_ok callsNil _
noncomputable def log_Is_1_con : Con := con [.one (.fl .entry), .one (.fl .entry)] [.one (.fl .bool)] (fun x => log_Is_1_t x.1 x.2.1)
theorem log_Is_1_ok : TrOk Try.prog 54 log_Is_1_con := by
  have h : loopsOf (codeOf Try.f54) = [] := by kernel_rfl
  refine con_ok log_Is_1_envOk Try.func54 (bodyOk h lsNil) [.one (.fl .entry), .one (.fl .entry)] [.one (.fl .bool)] _ (fun x => ?_)
  kernel_rfl

def log_Is_slices_EqualFunc___api_Entry___api_Entry_api_Entry_api_Entry__L4_S : LoopS := { n := 32, base := 3, head := { keep := [1, 2, 15, 16, 17], vals := [.one (.cst (.row 2)), .one (.cst (.fn 54 [])), .one (.cst (.row 0)), .one (.fl .int), .one (.fl .int)], objs := [.row .entry 57 false, .row .entry 57 false, .row .entry 57 false] }, exits := [⟨none, { keep := [6], vals := [.one (.fl .bool)], objs := [.row .entry 57 false, .row .entry 57 false, .row .entry 57 false] }⟩, ⟨some 0, { keep := [], vals := [], objs := [.row .entry 57 false, .row .entry 57 false, .row .entry 57 false] }⟩] }
noncomputable def log_Is_slices_EqualFunc___api_Entry___api_Entry_api_Entry_api_Entry__env : Env := mkEnv ty fnB [(54, log_Is_1_con)] [(4, (loopTr log_Is_slices_EqualFunc___api_Entry___api_Entry_api_Entry_api_Entry__L4_S (loopN log_Is_slices_EqualFunc___api_Entry___api_Entry_api_Entry_api_Entry__L4 FUEL)))]
theorem log_Is_slices_EqualFunc___api_Entry___api_Entry_api_Entry_api_Entry__envOk : EnvOk Try.prog log_Is_slices_EqualFunc___api_Entry___api_Entry_api_Entry_api_Entry__env := envOk tyOk fn_ok (callsCons log_Is_1_ok callsNil) _
theorem log_Is_slices_EqualFunc___api_Entry___api_Entry_api_Entry_api_Entry__L4_ok : LOk Try.prog (nthLoop (codeOf Try.f53) 0) (loopTr log_Is_slices_EqualFunc___api_Entry___api_Entry_api_Entry_api_Entry__L4_S (loopN log_Is_slices_EqualFunc___api_Entry___api_Entry_api_Entry_api_Entry__L4 FUEL)) := by
  have h : loopsOf (nthLoop (codeOf Try.f53) 0) = [] := by kernel_rfl
  refine loop_ok log_Is_slices_EqualFunc___api_Entry___api_Entry_api_Entry_api_Entry__envOk (loopsOk h lsNil) log_Is_slices_EqualFunc___api_Entry___api_Entry_api_Entry_api_Entry__L4_S log_Is_slices_EqualFunc___api_Entry___api_Entry_api_Entry_api_Entry__L4 FUEL (fun rec x => ?_)
  kernel_rfl
theorem log_Is_slices_EqualFunc___api_Entry___api_Entry_api_Entry_api_Entry__inl : TrOk Try.prog 53 (inlCon log_Is_slices_EqualFunc___api_Entry___api_Entry_api_Entry_api_Entry__env Try.f53) := by
  have h : loopsOf (codeOf Try.f53) = [(nthLoop (codeOf Try.f53) 0)] := by kernel_rfl
  exact inl_ok log_Is_slices_EqualFunc___api_Entry___api_Entry_api_Entry_api_Entry__envOk Try.func53 (bodyOk h (lsCons (one_loop (t := (loopTr log_Is_slices_EqualFunc___api_Entry___api_Entry_api_Entry_api_Entry__L4_S (loopN log_Is_slices_EqualFunc___api_Entry___api_Entry_api_Entry_api_Entry__L4 FUEL))) (by kernel_rfl) log_Is_slices_EqualFunc___api_Entry___api_Entry_api_Entry_api_Entry__L4_ok) lsNil))

noncomputable def log_Is_env : Env := mkEnv ty fnB [(53, (inlCon log_Is_slices_EqualFunc___api_Entry___api_Entry_api_Entry_api_Entry__env Try.f53))] []
theorem log_Is_envOk : EnvOk Try.prog log_Is_env := envOk tyOk fn_ok (callsCons log_Is_slices_EqualFunc___api_Entry___api_Entry_api_Entry_api_Entry__inl callsNil) _
noncomputable def log_Is_con : Con := con [.one (.row .entry 57), .one (.row .entry 57)] [.one (.fl .bool)] (fun x => log_Is_t x.1 x.2.1)
theorem log_Is_ok : TrOk Try.prog 38 log_Is_con := by
  have h : loopsOf (codeOf Try.f38) = [] := by kernel_rfl
  refine con_ok log_Is_envOk Try.func38 (bodyOk h lsNil) [.one (.row .entry 57), .one (.row .entry 57)] [.one (.fl .bool)] _ (fun x => ?_)
  kernel_rfl

noncomputable def log_Begins_L2_env : Env := mkEnv ty fnB [(23, log_Check_con), (38, log_Is_con)] []
theorem log_Begins_L2_envOk : EnvOk Try.prog log_Begins_L2_env := envOk tyOk fn_ok (callsCons log_Check_ok (callsCons log_Is_ok callsNil)) _
noncomputable def log_Begins_env : Env := mkEnv ty fnB [(23, log_Check_con), (38, log_Is_con)] [(2, (unrollTr log_Begins_L2_env (nthLoop (codeOf Try.f21) 0) 16))]
theorem log_Begins_envOk : EnvOk Try.prog log_Begins_env := envOk tyOk fn_ok (callsCons log_Check_ok (callsCons log_Is_ok callsNil)) _
theorem log_Begins_L2_ok : LOk Try.prog (nthLoop (codeOf Try.f21) 0) (unrollTr log_Begins_L2_env (nthLoop (codeOf Try.f21) 0) 16) := by
  have h : loopsOf (nthLoop (codeOf Try.f21) 0) = [] := by kernel_rfl
  exact unroll_ok log_Begins_L2_envOk (loopsOk h lsNil) 16
noncomputable def log_Begins_con : Con := con [.one (.row .entry 57), .one (.row .entry 57)] [.one (.fl .bool), .one (.fl .int)] (fun x => log_Begins_t x.1 x.2.1)
theorem log_Begins_ok : TrOk Try.prog 21 log_Begins_con := by
  have h : loopsOf (codeOf Try.f21) = [(nthLoop (codeOf Try.f21) 0)] := by kernel_rfl
  refine con_ok log_Begins_envOk Try.func21 (bodyOk h (lsCons (one_loop (t := (unrollTr log_Begins_L2_env (nthLoop (codeOf Try.f21) 0) 16)) (by kernel_rfl) log_Begins_L2_ok) lsNil)) [.one (.row .entry 57), .one (.row .entry 57)] [.one (.fl .bool), .one (.fl .int)] _ (fun x => ?_)
  kernel_rfl

noncomputable def slices_Clone___api_Entry_api_Entry__env : Env := mkEnv ty fnB [] []
theorem slices_Clone___api_Entry_api_Entry__envOk : EnvOk Try.prog slices_Clone___api_Entry_api_Entry__env := envOk tyOk fn_ok callsNil _
noncomputable def slices_Clone___api_Entry_api_Entry__con : Con := con [.one (.row .entry 57)] [.one (.row .entry 57)] (fun x => slices_Clone___api_Entry_api_Entry__t x.1)
theorem slices_Clone___api_Entry_api_Entry__ok : TrOk Try.prog 39 slices_Clone___api_Entry_api_Entry__con := by
  have h : loopsOf (codeOf Try.f39) = [] := by kernel_rfl
  refine con_ok slices_Clone___api_Entry_api_Entry__envOk Try.func39 (bodyOk h lsNil) [.one (.row .entry 57)] [.one (.row .entry 57)] _ (fun x => ?_)
  kernel_rfl

noncomputable def ship_Behind_env : Env := mkEnv ty fnB [(39, slices_Clone___api_Entry_api_Entry__con)] []
theorem ship_Behind_envOk : EnvOk Try.prog ship_Behind_env := envOk tyOk fn_ok (callsCons slices_Clone___api_Entry_api_Entry__ok callsNil) _
noncomputable def ship_Behind_con : Con := con [.one (.row .entry 57), .one (.row .entry 57), .one (.fl .int)] [.one (.row .entry 57)] (fun x => ship_Behind_t x.1 x.2.1 x.2.2.1)
theorem ship_Behind_ok : TrOk Try.prog 22 ship_Behind_con := by
  have h : loopsOf (codeOf Try.f22) = [] := by kernel_rfl
  refine con_ok ship_Behind_envOk Try.func22 (bodyOk h lsNil) [.one (.row .entry 57), .one (.row .entry 57), .one (.fl .int)] [.one (.row .entry 57)] _ (fun x => ?_)
  kernel_rfl

noncomputable def ship_Next_env : Env := mkEnv ty fnB [(21, log_Begins_con), (22, ship_Behind_con)] []
theorem ship_Next_envOk : EnvOk Try.prog ship_Next_env := envOk tyOk fn_ok (callsCons log_Begins_ok (callsCons ship_Behind_ok callsNil)) _
noncomputable def ship_Next_con : Con := con [.one (.row .entry 57), .one (.row .entry 57), .one (.fl .int)] [.one (.row .entry 57), .one (.fl .int)] (fun x => ship_Next_t x.1 x.2.1 x.2.2.1)
theorem ship_Next_ok : TrOk Try.prog 6 ship_Next_con := by
  have h : loopsOf (codeOf Try.f6) = [] := by kernel_rfl
  refine con_ok ship_Next_envOk Try.func6 (bodyOk h lsNil) [.one (.row .entry 57), .one (.row .entry 57), .one (.fl .int)] [.one (.row .entry 57), .one (.fl .int)] _ (fun x => ?_)
  kernel_rfl

noncomputable def R_between_env : Env := mkEnv ty fnB [] []
theorem R_between_envOk : EnvOk Try.prog R_between_env := envOk tyOk fn_ok callsNil _
noncomputable def R_between_con : Con := con [.one (.fl .int), .one (.fl .int), .one (.fl .int)] [.one (.fl .bool)] (fun x => R_between_t x.1 x.2.1 x.2.2.1)
theorem R_between_ok : TrOk Try.prog 25 R_between_con := by
  have h : loopsOf (codeOf Try.f25) = [] := by kernel_rfl
  refine con_ok R_between_envOk Try.func25 (bodyOk h lsNil) [.one (.fl .int), .one (.fl .int), .one (.fl .int)] [.one (.fl .bool)] _ (fun x => ?_)
  kernel_rfl

noncomputable def R_CheckAddr_env : Env := mkEnv ty fnB [] []
theorem R_CheckAddr_envOk : EnvOk Try.prog R_CheckAddr_env := envOk tyOk fn_ok callsNil _
noncomputable def R_CheckAddr_con : Con := con [.one (.fl .addr)] [.one (.fl .int)] (fun x => R_CheckAddr_t x.1)
theorem R_CheckAddr_ok : TrOk Try.prog 45 R_CheckAddr_con := by
  have h : loopsOf (codeOf Try.f45) = [] := by kernel_rfl
  refine con_ok R_CheckAddr_envOk Try.func45 (bodyOk h lsNil) [.one (.fl .addr)] [.one (.fl .int)] _ (fun x => ?_)
  kernel_rfl

noncomputable def R_wide_env : Env := mkEnv ty fnB [] []
theorem R_wide_envOk : EnvOk Try.prog R_wide_env := envOk tyOk fn_ok callsNil _
noncomputable def R_wide_con : Con := con [.one (.fl .addr)] [.one (.fl .int)] (fun x => R_wide_t x.1)
theorem R_wide_ok : TrOk Try.prog 61 R_wide_con := by
  have h : loopsOf (codeOf Try.f61) = [] := by kernel_rfl
  refine con_ok R_wide_envOk Try.func61 (bodyOk h lsNil) [.one (.fl .addr)] [.one (.fl .int)] _ (fun x => ?_)
  kernel_rfl

def R_Bits_L3_S : LoopS := { n := 42, base := 0, head := { keep := [1, 3, 4], vals := [.one (.cst (.ptr 0 0)), .one (.cst (.row 1)), .one (.fl .int)], objs := [.blk [.fl .addr] 39 true, .row .u8 5 true] }, exits := [⟨some 0, { keep := [1, 3], vals := [.one (.cst (.ptr 0 0)), .one (.cst (.row 1))], objs := [.blk [.fl .addr] 39 true, .row .u8 5 true] }⟩] }
def R_Bits_L7_S : LoopS := { n := 42, base := 0, head := { keep := [1, 3, 5], vals := [.one (.cst (.ptr 0 0)), .one (.cst (.row 1)), .one (.fl .int)], objs := [.blk [.fl .addr] 39 true, .row .u8 5 true] }, exits := [⟨some 2, { keep := [1, 3], vals := [.one (.cst (.ptr 0 0)), .one (.cst (.row 1))], objs := [.blk [.fl .addr] 39 true, .row .u8 5 true] }⟩] }
noncomputable def R_Bits_env : Env := mkEnv ty fnB [] [(3, (loopTr R_Bits_L3_S (loopN R_Bits_L3 FUEL))), (7, (loopTr R_Bits_L7_S (loopN R_Bits_L7 FUEL)))]
theorem R_Bits_envOk : EnvOk Try.prog R_Bits_env := envOk tyOk fn_ok callsNil _
theorem R_Bits_L7_ok : LOk Try.prog (nthLoop (codeOf Try.f62) 1) (loopTr R_Bits_L7_S (loopN R_Bits_L7 FUEL)) := by
  have h : loopsOf (nthLoop (codeOf Try.f62) 1) = [] := by kernel_rfl
  refine loop_ok R_Bits_envOk (loopsOk h lsNil) R_Bits_L7_S R_Bits_L7 FUEL (fun rec x => ?_)
  kernel_rfl
theorem R_Bits_L3_ok : LOk Try.prog (nthLoop (codeOf Try.f62) 0) (loopTr R_Bits_L3_S (loopN R_Bits_L3 FUEL)) := by
  have h : loopsOf (nthLoop (codeOf Try.f62) 0) = [] := by kernel_rfl
  refine loop_ok R_Bits_envOk (loopsOk h lsNil) R_Bits_L3_S R_Bits_L3 FUEL (fun rec x => ?_)
  kernel_rfl
noncomputable def R_Bits_con : Con := con [.one (.fl .addr)] [.one (.fl .str)] (fun x => R_Bits_t x.1)
theorem R_Bits_ok : TrOk Try.prog 62 R_Bits_con := by
  have h : loopsOf (codeOf Try.f62) = [(nthLoop (codeOf Try.f62) 0), (nthLoop (codeOf Try.f62) 1)] := by kernel_rfl
  refine con_ok R_Bits_envOk Try.func62 (bodyOk h (lsCons (one_loop (t := (loopTr R_Bits_L3_S (loopN R_Bits_L3 FUEL))) (by kernel_rfl) R_Bits_L3_ok) (lsCons (one_loop (t := (loopTr R_Bits_L7_S (loopN R_Bits_L7 FUEL))) (by kernel_rfl) R_Bits_L7_ok) lsNil))) [.one (.fl .addr)] [.one (.fl .str)] _ (fun x => ?_)
  kernel_rfl

def R_CheckPrefix_L8_S : LoopS := { n := 34, base := 0, head := { keep := [4, 5], vals := [.one (.fl .str), .one (.fl .int)], objs := [] }, exits := [⟨none, { keep := [2], vals := [.one (.fl .int)], objs := [] }⟩, ⟨some 0, { keep := [], vals := [], objs := [] }⟩] }
noncomputable def R_CheckPrefix_env : Env := mkEnv ty fnB [(45, R_CheckAddr_con), (61, R_wide_con), (25, R_between_con), (62, R_Bits_con)] [(8, (loopTr R_CheckPrefix_L8_S (loopN R_CheckPrefix_L8 FUEL)))]
theorem R_CheckPrefix_envOk : EnvOk Try.prog R_CheckPrefix_env := envOk tyOk fn_ok (callsCons R_CheckAddr_ok (callsCons R_wide_ok (callsCons R_between_ok (callsCons R_Bits_ok callsNil)))) _
theorem R_CheckPrefix_L8_ok : LOk Try.prog (nthLoop (codeOf Try.f43) 0) (loopTr R_CheckPrefix_L8_S (loopN R_CheckPrefix_L8 FUEL)) := by
  have h : loopsOf (nthLoop (codeOf Try.f43) 0) = [] := by kernel_rfl
  refine loop_ok R_CheckPrefix_envOk (loopsOk h lsNil) R_CheckPrefix_L8_S R_CheckPrefix_L8 FUEL (fun rec x => ?_)
  kernel_rfl
noncomputable def R_CheckPrefix_con : Con := con [.one (.fl .pfx)] [.one (.fl .int)] (fun x => R_CheckPrefix_t x.1)
theorem R_CheckPrefix_ok : TrOk Try.prog 43 R_CheckPrefix_con := by
  have h : loopsOf (codeOf Try.f43) = [(nthLoop (codeOf Try.f43) 0)] := by kernel_rfl
  refine con_ok R_CheckPrefix_envOk Try.func43 (bodyOk h (lsCons (one_loop (t := (loopTr R_CheckPrefix_L8_S (loopN R_CheckPrefix_L8 FUEL))) (by kernel_rfl) R_CheckPrefix_L8_ok) lsNil)) [.one (.fl .pfx)] [.one (.fl .int)] _ (fun x => ?_)
  kernel_rfl

noncomputable def R_IsNarrow_env : Env := mkEnv ty fnB [(61, R_wide_con)] []
theorem R_IsNarrow_envOk : EnvOk Try.prog R_IsNarrow_env := envOk tyOk fn_ok (callsCons R_wide_ok callsNil) _
noncomputable def R_IsNarrow_con : Con := con [.one (.fl .pfx)] [.one (.fl .bool)] (fun x => R_IsNarrow_t x.1)
theorem R_IsNarrow_ok : TrOk Try.prog 44 R_IsNarrow_con := by
  have h : loopsOf (codeOf Try.f44) = [] := by kernel_rfl
  refine con_ok R_IsNarrow_envOk Try.func44 (bodyOk h lsNil) [.one (.fl .pfx)] [.one (.fl .bool)] _ (fun x => ?_)
  kernel_rfl

def R_IsWho_L2_S : LoopS := { n := 27, base := 0, head := { keep := [0, 3], vals := [.one (.fl .str), .one (.fl .int)], objs := [] }, exits := [⟨none, { keep := [2], vals := [.one (.fl .bool)], objs := [] }⟩, ⟨some 0, { keep := [0], vals := [.one (.fl .str)], objs := [] }⟩] }
noncomputable def R_IsWho_env : Env := mkEnv ty fnB [(25, R_between_con)] [(2, (loopTr R_IsWho_L2_S (loopN R_IsWho_L2 FUEL)))]
theorem R_IsWho_envOk : EnvOk Try.prog R_IsWho_env := envOk tyOk fn_ok (callsCons R_between_ok callsNil) _
theorem R_IsWho_L2_ok : LOk Try.prog (nthLoop (codeOf Try.f46) 0) (loopTr R_IsWho_L2_S (loopN R_IsWho_L2 FUEL)) := by
  have h : loopsOf (nthLoop (codeOf Try.f46) 0) = [] := by kernel_rfl
  refine loop_ok R_IsWho_envOk (loopsOk h lsNil) R_IsWho_L2_S R_IsWho_L2 FUEL (fun rec x => ?_)
  kernel_rfl
noncomputable def R_IsWho_con : Con := con [.one (.fl .str)] [.one (.fl .bool)] (fun x => R_IsWho_t x.1)
theorem R_IsWho_ok : TrOk Try.prog 46 R_IsWho_con := by
  have h : loopsOf (codeOf Try.f46) = [(nthLoop (codeOf Try.f46) 0)] := by kernel_rfl
  refine con_ok R_IsWho_envOk Try.func46 (bodyOk h (lsCons (one_loop (t := (loopTr R_IsWho_L2_S (loopN R_IsWho_L2 FUEL))) (by kernel_rfl) R_IsWho_L2_ok) lsNil)) [.one (.fl .str)] [.one (.fl .bool)] _ (fun x => ?_)
  kernel_rfl

noncomputable def R_CheckOp_env : Env := mkEnv ty fnB [(25, R_between_con), (43, R_CheckPrefix_con), (44, R_IsNarrow_con), (45, R_CheckAddr_con), (46, R_IsWho_con)] []
theorem R_CheckOp_envOk : EnvOk Try.prog R_CheckOp_env := envOk tyOk fn_ok (callsCons R_between_ok (callsCons R_CheckPrefix_ok (callsCons R_IsNarrow_ok (callsCons R_CheckAddr_ok (callsCons R_IsWho_ok callsNil))))) _
noncomputable def R_CheckOp_con : Con := con [.one (.fl .op)] [.one (.fl .int)] (fun x => R_CheckOp_t x.1)
theorem R_CheckOp_ok : TrOk Try.prog 26 R_CheckOp_con := by
  have h : loopsOf (codeOf Try.f26) = [] := by kernel_rfl
  refine con_ok R_CheckOp_envOk Try.func26 (bodyOk h lsNil) [.one (.fl .op)] [.one (.fl .int)] _ (fun x => ?_)
  kernel_rfl

def R_CheckLog_L4_S : LoopS := { n := 54, base := 1, head := { keep := [0, 3], vals := [.one (.cst (.row 0)), .one (.fl .int)], objs := [.row .entry 57 false] }, exits := [⟨none, { keep := [2], vals := [.one (.fl .int)], objs := [.row .entry 57 false] }⟩, ⟨some 0, { keep := [], vals := [], objs := [.row .entry 57 false] }⟩] }
noncomputable def R_CheckLog_env : Env := mkEnv ty fnB [(25, R_between_con), (26, R_CheckOp_con)] [(4, (loopTr R_CheckLog_L4_S (loopN R_CheckLog_L4 FUEL)))]
theorem R_CheckLog_envOk : EnvOk Try.prog R_CheckLog_env := envOk tyOk fn_ok (callsCons R_between_ok (callsCons R_CheckOp_ok callsNil)) _
theorem R_CheckLog_L4_ok : LOk Try.prog (nthLoop (codeOf Try.f8) 0) (loopTr R_CheckLog_L4_S (loopN R_CheckLog_L4 FUEL)) := by
  have h : loopsOf (nthLoop (codeOf Try.f8) 0) = [] := by kernel_rfl
  refine loop_ok R_CheckLog_envOk (loopsOk h lsNil) R_CheckLog_L4_S R_CheckLog_L4 FUEL (fun rec x => ?_)
  kernel_rfl
noncomputable def R_CheckLog_con : Con := con [.one (.row .entry 57)] [.one (.fl .int)] (fun x => R_CheckLog_t x.1)
theorem R_CheckLog_ok : TrOk Try.prog 8 R_CheckLog_con := by
  have h : loopsOf (codeOf Try.f8) = [(nthLoop (codeOf Try.f8) 0)] := by kernel_rfl
  refine con_ok R_CheckLog_envOk Try.func8 (bodyOk h (lsCons (one_loop (t := (loopTr R_CheckLog_L4_S (loopN R_CheckLog_L4 FUEL))) (by kernel_rfl) R_CheckLog_L4_ok) lsNil)) [.one (.row .entry 57)] [.one (.fl .int)] _ (fun x => ?_)
  kernel_rfl

def R_SameLog_L4_S : LoopS := { n := 26, base := 2, head := { keep := [0, 1, 5], vals := [.one (.cst (.row 0)), .one (.cst (.row 1)), .one (.fl .int)], objs := [.row .entry 57 false, .row .entry 57 false] }, exits := [⟨none, { keep := [4], vals := [.one (.fl .bool)], objs := [.row .entry 57 false, .row .entry 57 false] }⟩, ⟨some 0, { keep := [], vals := [], objs := [.row .entry 57 false, .row .entry 57 false] }⟩] }
noncomputable def R_SameLog_env : Env := mkEnv ty fnB [] [(4, (loopTr R_SameLog_L4_S (loopN R_SameLog_L4 FUEL)))]
theorem R_SameLog_envOk : EnvOk Try.prog R_SameLog_env := envOk tyOk fn_ok callsNil _
theorem R_SameLog_L4_ok : LOk Try.prog (nthLoop (codeOf Try.f27) 0) (loopTr R_SameLog_L4_S (loopN R_SameLog_L4 FUEL)) := by
  have h : loopsOf (nthLoop (codeOf Try.f27) 0) = [] := by kernel_rfl
  refine loop_ok R_SameLog_envOk (loopsOk h lsNil) R_SameLog_L4_S R_SameLog_L4 FUEL (fun rec x => ?_)
  kernel_rfl
noncomputable def R_SameLog_con : Con := con [.one (.row .entry 57), .one (.row .entry 57)] [.one (.fl .bool)] (fun x => R_SameLog_t x.1 x.2.1)
theorem R_SameLog_ok : TrOk Try.prog 27 R_SameLog_con := by
  have h : loopsOf (codeOf Try.f27) = [(nthLoop (codeOf Try.f27) 0)] := by kernel_rfl
  refine con_ok R_SameLog_envOk Try.func27 (bodyOk h (lsCons (one_loop (t := (loopTr R_SameLog_L4_S (loopN R_SameLog_L4 FUEL))) (by kernel_rfl) R_SameLog_L4_ok) lsNil)) [.one (.row .entry 57), .one (.row .entry 57)] [.one (.fl .bool)] _ (fun x => ?_)
  kernel_rfl

noncomputable def R_DoesBegin_env : Env := mkEnv ty fnB [(27, R_SameLog_con)] []
theorem R_DoesBegin_envOk : EnvOk Try.prog R_DoesBegin_env := envOk tyOk fn_ok (callsCons R_SameLog_ok callsNil) _
noncomputable def R_DoesBegin_con : Con := con [.one (.row .entry 57), .one (.row .entry 57)] [.one (.fl .bool)] (fun x => R_DoesBegin_t x.1 x.2.1)
theorem R_DoesBegin_ok : TrOk Try.prog 9 R_DoesBegin_con := by
  have h : loopsOf (codeOf Try.f9) = [] := by kernel_rfl
  refine con_ok R_DoesBegin_envOk Try.func9 (bodyOk h lsNil) [.one (.row .entry 57), .one (.row .entry 57)] [.one (.fl .bool)] _ (fun x => ?_)
  kernel_rfl

def R_BehindOf_L3_S : LoopS := { n := 33, base := 2, head := { keep := [0, 1, 2, 7, 8], vals := [.one (.cst (.row 0)), .one (.cst (.row 1)), .one (.fl .int), .one (.cst (.row 2)), .one (.fl .int)], objs := [.row .entry 57 false, .row .entry 57 false, .row .entry 57 true] }, exits := [⟨some 0, { keep := [7], vals := [.one (.cst (.row 2))], objs := [.row .entry 57 false, .row .entry 57 false, .row .entry 57 true] }⟩] }
noncomputable def R_BehindOf_env : Env := mkEnv ty fnB [] [(3, (loopTr R_BehindOf_L3_S (loopN R_BehindOf_L3 FUEL)))]
theorem R_BehindOf_envOk : EnvOk Try.prog R_BehindOf_env := envOk tyOk fn_ok callsNil _
theorem R_BehindOf_L3_ok : LOk Try.prog (nthLoop (codeOf Try.f10) 0) (loopTr R_BehindOf_L3_S (loopN R_BehindOf_L3 FUEL)) := by
  have h : loopsOf (nthLoop (codeOf Try.f10) 0) = [] := by kernel_rfl
  refine loop_ok R_BehindOf_envOk (loopsOk h lsNil) R_BehindOf_L3_S R_BehindOf_L3 FUEL (fun rec x => ?_)
  kernel_rfl
noncomputable def R_BehindOf_con : Con := con [.one (.row .entry 57), .one (.row .entry 57), .one (.fl .int)] [.one (.row .entry 57)] (fun x => R_BehindOf_t x.1 x.2.1 x.2.2.1)
theorem R_BehindOf_ok : TrOk Try.prog 10 R_BehindOf_con := by
  have h : loopsOf (codeOf Try.f10) = [(nthLoop (codeOf Try.f10) 0)] := by kernel_rfl
  refine con_ok R_BehindOf_envOk Try.func10 (bodyOk h (lsCons (one_loop (t := (loopTr R_BehindOf_L3_S (loopN R_BehindOf_L3 FUEL))) (by kernel_rfl) R_BehindOf_L3_ok) lsNil)) [.one (.row .entry 57), .one (.row .entry 57), .one (.fl .int)] [.one (.row .entry 57)] _ (fun x => ?_)
  kernel_rfl

noncomputable def law_v4_env : Env := mkEnv ty fnB [] []
theorem law_v4_envOk : EnvOk Try.prog law_v4_env := envOk tyOk fn_ok callsNil _
noncomputable def law_v4_con : Con := con [.one (.fl .u64)] [.one (.fl .addr)] (fun x => law_v4_t x.1)
theorem law_v4_ok : TrOk Try.prog 51 law_v4_con := by
  have h : loopsOf (codeOf Try.f51) = [] := by kernel_rfl
  refine con_ok law_v4_envOk Try.func51 (bodyOk h lsNil) [.one (.fl .u64)] [.one (.fl .addr)] _ (fun x => ?_)
  kernel_rfl

noncomputable def law_net_env : Env := mkEnv ty fnB [(51, law_v4_con)] []
theorem law_net_envOk : EnvOk Try.prog law_net_env := envOk tyOk fn_ok (callsCons law_v4_ok callsNil) _
noncomputable def law_net_con : Con := con [.one (.fl .u64), .one (.fl .int)] [.one (.fl .pfx)] (fun x => law_net_t x.1 x.2.1)
theorem law_net_ok : TrOk Try.prog 50 law_net_con := by
  have h : loopsOf (codeOf Try.f50) = [] := by kernel_rfl
  refine con_ok law_net_envOk Try.func50 (bodyOk h lsNil) [.one (.fl .u64), .one (.fl .int)] [.one (.fl .pfx)] _ (fun x => ?_)
  kernel_rfl

noncomputable def law_some_env : Env := mkEnv ty fnB [(50, law_net_con), (51, law_v4_con)] []
theorem law_some_envOk : EnvOk Try.prog law_some_env := envOk tyOk fn_ok (callsCons law_net_ok (callsCons law_v4_ok callsNil)) _
noncomputable def law_some_con : Con := con [] [.one (.row .op 43)] (fun x => law_some_t)
theorem law_some_ok : TrOk Try.prog 34 law_some_con := by
  have h : loopsOf (codeOf Try.f34) = [] := by kernel_rfl
  refine con_ok law_some_envOk Try.func34 (bodyOk h lsNil) [] [.one (.row .op 43)] _ (fun x => ?_)
  kernel_rfl

noncomputable def law_entries_env : Env := mkEnv ty fnB [(34, law_some_con)] []
theorem law_entries_envOk : EnvOk Try.prog law_entries_env := envOk tyOk fn_ok (callsCons law_some_ok callsNil) _
noncomputable def law_entries_con : Con := con [] [.one (.row .entry 57)] (fun x => law_entries_t)
theorem law_entries_ok : TrOk Try.prog 28 law_entries_con := by
  have h : loopsOf (codeOf Try.f28) = [] := by kernel_rfl
  refine con_ok law_entries_envOk Try.func28 (bodyOk h lsNil) [] [.one (.row .entry 57)] _ (fun x => ?_)
  kernel_rfl

noncomputable def law_logIs_env : Env := mkEnv ty fnB [(27, R_SameLog_con)] []
theorem law_logIs_envOk : EnvOk Try.prog law_logIs_env := envOk tyOk fn_ok (callsCons R_SameLog_ok callsNil) _
noncomputable def law_logIs_con : Con := con [.one (.row .entry 57), .one (.fl .int), .one (.fl .int), .one (.row .entry 57)] [.one (.fl .bool)] (fun x => law_logIs_t x.1 x.2.1 x.2.2.1 x.2.2.2.1)
theorem law_logIs_ok : TrOk Try.prog 12 law_logIs_con := by
  have h : loopsOf (codeOf Try.f12) = [] := by kernel_rfl
  refine con_ok law_logIs_envOk Try.func12 (bodyOk h lsNil) [.one (.row .entry 57), .one (.fl .int), .one (.fl .int), .one (.row .entry 57)] [.one (.fl .bool)] _ (fun x => ?_)
  kernel_rfl

noncomputable def fence_within_env : Env := mkEnv ty fnB [] []
theorem fence_within_envOk : EnvOk Try.prog fence_within_env := envOk tyOk fn_ok callsNil _
noncomputable def fence_within_con : Con := con [.one (.fl .int), .one (.fl .int), .one (.fl .int)] [.one (.fl .bool)] (fun x => fence_within_t x.1 x.2.1 x.2.2.1)
theorem fence_within_ok : TrOk Try.prog 29 fence_within_con := by
  have h : loopsOf (codeOf Try.f29) = [] := by kernel_rfl
  refine con_ok fence_within_envOk Try.func29 (bodyOk h lsNil) [.one (.fl .int), .one (.fl .int), .one (.fl .int)] [.one (.fl .bool)] _ (fun x => ?_)
  kernel_rfl

noncomputable def fence_Check_1_env : Env := mkEnv ty fnB [] []
theorem fence_Check_1_envOk : EnvOk Try.prog fence_Check_1_env := envOk tyOk fn_ok callsNil _
noncomputable def fence_Check_1_con : Con := con [.one (.fl .entry), .ref [.fl .int, .fl .int, .fl .int, .row .entry 57] 36] [.one (.fl .bool)] (fun x => fence_Check_1_t x.1 x.2.1.1 x.2.1.2.1 x.2.1.2.2.1 x.2.1.2.2.2.1)
theorem fence_Check_1_ok : TrOk Try.prog 36 fence_Check_1_con := by
  have h : loopsOf (codeOf Try.f36) = [] := by kernel_rfl
  refine con_ok fence_Check_1_envOk Try.func36 (bodyOk h lsNil) [.one (.fl .entry), .ref [.fl .int, .fl .int, .fl .int, .row .entry 57] 36] [.one (.fl .bool)] _ (fun x => ?_)
  kernel_rfl

def fence_Check_slices_ContainsFunc___api_Entry_api_Entry__slices_IndexFunc___api_Entry_api_Entry__L2_S : LoopS := { n := 19, base := 2, head := { keep := [0, 1, 7, 8], vals := [.one (.cst (.row 0)), .one (.cst (.fn 36 [.ptr 1 0])), .one (.fl .int), .one (.fl .int)], objs := [.row .entry 57 false, .blk [.fl .int, .fl .int, .fl .int, .cst (.row 0)] 36 true] }, exits := [⟨none, { keep := [4], vals := [.one (.fl .int)], objs := [.row .entry 57 false, .blk [.fl .int, .fl .int, .fl .int, .cst (.row 0)] 36 true] }⟩, ⟨some 0, { keep := [], vals := [], objs := [.row .entry 57 false, .blk [.fl .int, .fl .int, .fl .int, .cst (.row 0)] 36 true] }⟩] }
noncomputable def fence_Check_slices_ContainsFunc___api_Entry_api_Entry__slices_IndexFunc___api_Entry_api_Entry__env : Env := mkEnv ty fnB [(36, fence_Check_1_con)] [(2, (loopTr fence_Check_slices_ContainsFunc___api_Entry_api_Entry__slices_IndexFunc___api_Entry_api_Entry__L2_S (loopN fence_Check_slices_ContainsFunc___api_Entry_api_Entry__slices_IndexFunc___api_Entry_api_Entry__L2 FUEL)))]
theorem fence_Check_slices_ContainsFunc___api_Entry_api_Entry__slices_IndexFunc___api_Entry_api_Entry__envOk : EnvOk Try.prog fence_Check_slices_ContainsFunc___api_Entry_api_Entry__slices_IndexFunc___api_Entry_api_Entry__env := envOk tyOk fn_ok (callsCons fence_Check_1_ok callsNil) _
theorem fence_Check_slices_ContainsFunc___api_Entry_api_Entry__slices_IndexFunc___api_Entry_api_Entry__L2_ok : LOk Try.prog (nthLoop (codeOf Try.f52) 0) (loopTr fence_Check_slices_ContainsFunc___api_Entry_api_Entry__slices_IndexFunc___api_Entry_api_Entry__L2_S (loopN fence_Check_slices_ContainsFunc___api_Entry_api_Entry__slices_IndexFunc___api_Entry_api_Entry__L2 FUEL)) := by
  have h : loopsOf (nthLoop (codeOf Try.f52) 0) = [] := by kernel_rfl
  refine loop_ok fence_Check_slices_ContainsFunc___api_Entry_api_Entry__slices_IndexFunc___api_Entry_api_Entry__envOk (loopsOk h lsNil) fence_Check_slices_ContainsFunc___api_Entry_api_Entry__slices_IndexFunc___api_Entry_api_Entry__L2_S fence_Check_slices_ContainsFunc___api_Entry_api_Entry__slices_IndexFunc___api_Entry_api_Entry__L2 FUEL (fun rec x => ?_)
  kernel_rfl
theorem fence_Check_slices_ContainsFunc___api_Entry_api_Entry__slices_IndexFunc___api_Entry_api_Entry__inl : TrOk Try.prog 52 (inlCon fence_Check_slices_ContainsFunc___api_Entry_api_Entry__slices_IndexFunc___api_Entry_api_Entry__env Try.f52) := by
  have h : loopsOf (codeOf Try.f52) = [(nthLoop (codeOf Try.f52) 0)] := by kernel_rfl
  exact inl_ok fence_Check_slices_ContainsFunc___api_Entry_api_Entry__slices_IndexFunc___api_Entry_api_Entry__envOk Try.func52 (bodyOk h (lsCons (one_loop (t := (loopTr fence_Check_slices_ContainsFunc___api_Entry_api_Entry__slices_IndexFunc___api_Entry_api_Entry__L2_S (loopN fence_Check_slices_ContainsFunc___api_Entry_api_Entry__slices_IndexFunc___api_Entry_api_Entry__L2 FUEL))) (by kernel_rfl) fence_Check_slices_ContainsFunc___api_Entry_api_Entry__slices_IndexFunc___api_Entry_api_Entry__L2_ok) lsNil))

noncomputable def fence_Check_slices_ContainsFunc___api_Entry_api_Entry__env : Env := mkEnv ty fnB [(52, (inlCon fence_Check_slices_ContainsFunc___api_Entry_api_Entry__slices_IndexFunc___api_Entry_api_Entry__env Try.f52))] []
theorem fence_Check_slices_ContainsFunc___api_Entry_api_Entry__envOk : EnvOk Try.prog fence_Check_slices_ContainsFunc___api_Entry_api_Entry__env := envOk tyOk fn_ok (callsCons fence_Check_slices_ContainsFunc___api_Entry_api_Entry__slices_IndexFunc___api_Entry_api_Entry__inl callsNil) _
theorem fence_Check_slices_ContainsFunc___api_Entry_api_Entry__inl : TrOk Try.prog 35 (inlCon fence_Check_slices_ContainsFunc___api_Entry_api_Entry__env Try.f35) := by
  have h : loopsOf (codeOf Try.f35) = [] := by kernel_rfl
  exact inl_ok fence_Check_slices_ContainsFunc___api_Entry_api_Entry__envOk Try.func35 (bodyOk h lsNil)

def fence_Check_slices_ContainsFunc___api_Entry_api_Entry__2_slices_IndexFunc___api_Entry_api_Entry__L2_S : LoopS := { n := 19, base := 2, head := { keep := [0, 1, 7, 8], vals := [.one (.cst (.row 0)), .one (.cst (.fn 36 [.ptr 1 0])), .one (.fl .int), .one (.fl .int)], objs := [.row .entry 57 false, .blk [.fl .int, .fl .int, .fl .int, .cst (.row 0)] 36 true] }, exits := [⟨none, { keep := [4], vals := [.one (.fl .int)], objs := [.row .entry 57 false, .blk [.fl .int, .fl .int, .fl .int, .cst (.row 0)] 36 true] }⟩, ⟨some 0, { keep := [], vals := [], objs := [.row .entry 57 false, .blk [.fl .int, .fl .int, .fl .int, .cst (.row 0)] 36 true] }⟩] }
noncomputable def fence_Check_slices_ContainsFunc___api_Entry_api_Entry__2_slices_IndexFunc___api_Entry_api_Entry__env : Env := mkEnv ty fnB [(36, fence_Check_1_con)] [(2, (loopTr fence_Check_slices_ContainsFunc___api_Entry_api_Entry__2_slices_IndexFunc___api_Entry_api_Entry__L2_S (loopN fence_Check_slices_ContainsFunc___api_Entry_api_Entry__2_slices_IndexFunc___api_Entry_api_Entry__L2 FUEL)))]
theorem fence_Check_slices_ContainsFunc___api_Entry_api_Entry__2_slices_IndexFunc___api_Entry_api_Entry__envOk : EnvOk Try.prog fence_Check_slices_ContainsFunc___api_Entry_api_Entry__2_slices_IndexFunc___api_Entry_api_Entry__env := envOk tyOk fn_ok (callsCons fence_Check_1_ok callsNil) _
theorem fence_Check_slices_ContainsFunc___api_Entry_api_Entry__2_slices_IndexFunc___api_Entry_api_Entry__L2_ok : LOk Try.prog (nthLoop (codeOf Try.f52) 0) (loopTr fence_Check_slices_ContainsFunc___api_Entry_api_Entry__2_slices_IndexFunc___api_Entry_api_Entry__L2_S (loopN fence_Check_slices_ContainsFunc___api_Entry_api_Entry__2_slices_IndexFunc___api_Entry_api_Entry__L2 FUEL)) := by
  have h : loopsOf (nthLoop (codeOf Try.f52) 0) = [] := by kernel_rfl
  refine loop_ok fence_Check_slices_ContainsFunc___api_Entry_api_Entry__2_slices_IndexFunc___api_Entry_api_Entry__envOk (loopsOk h lsNil) fence_Check_slices_ContainsFunc___api_Entry_api_Entry__2_slices_IndexFunc___api_Entry_api_Entry__L2_S fence_Check_slices_ContainsFunc___api_Entry_api_Entry__2_slices_IndexFunc___api_Entry_api_Entry__L2 FUEL (fun rec x => ?_)
  kernel_rfl
theorem fence_Check_slices_ContainsFunc___api_Entry_api_Entry__2_slices_IndexFunc___api_Entry_api_Entry__inl : TrOk Try.prog 52 (inlCon fence_Check_slices_ContainsFunc___api_Entry_api_Entry__2_slices_IndexFunc___api_Entry_api_Entry__env Try.f52) := by
  have h : loopsOf (codeOf Try.f52) = [(nthLoop (codeOf Try.f52) 0)] := by kernel_rfl
  exact inl_ok fence_Check_slices_ContainsFunc___api_Entry_api_Entry__2_slices_IndexFunc___api_Entry_api_Entry__envOk Try.func52 (bodyOk h (lsCons (one_loop (t := (loopTr fence_Check_slices_ContainsFunc___api_Entry_api_Entry__2_slices_IndexFunc___api_Entry_api_Entry__L2_S (loopN fence_Check_slices_ContainsFunc___api_Entry_api_Entry__2_slices_IndexFunc___api_Entry_api_Entry__L2 FUEL))) (by kernel_rfl) fence_Check_slices_ContainsFunc___api_Entry_api_Entry__2_slices_IndexFunc___api_Entry_api_Entry__L2_ok) lsNil))

noncomputable def fence_Check_slices_ContainsFunc___api_Entry_api_Entry__2_env : Env := mkEnv ty fnB [(52, (inlCon fence_Check_slices_ContainsFunc___api_Entry_api_Entry__2_slices_IndexFunc___api_Entry_api_Entry__env Try.f52))] []
theorem fence_Check_slices_ContainsFunc___api_Entry_api_Entry__2_envOk : EnvOk Try.prog fence_Check_slices_ContainsFunc___api_Entry_api_Entry__2_env := envOk tyOk fn_ok (callsCons fence_Check_slices_ContainsFunc___api_Entry_api_Entry__2_slices_IndexFunc___api_Entry_api_Entry__inl callsNil) _
theorem fence_Check_slices_ContainsFunc___api_Entry_api_Entry__2_inl : TrOk Try.prog 35 (inlCon fence_Check_slices_ContainsFunc___api_Entry_api_Entry__2_env Try.f35) := by
  have h : loopsOf (codeOf Try.f35) = [] := by kernel_rfl
  exact inl_ok fence_Check_slices_ContainsFunc___api_Entry_api_Entry__2_envOk Try.func35 (bodyOk h lsNil)

noncomputable def fence_Check_env : Env := mkEnv ty fnB [(29, fence_within_con), (23, log_Check_con), (35, (inlCon fence_Check_slices_ContainsFunc___api_Entry_api_Entry__env Try.f35))] []
theorem fence_Check_envOk : EnvOk Try.prog fence_Check_env := envOk tyOk fn_ok (callsCons fence_within_ok (callsCons log_Check_ok (callsCons fence_Check_slices_ContainsFunc___api_Entry_api_Entry__inl callsNil))) _
noncomputable def fence_Check_con : Con := con [.agg [.fl .int, .fl .int, .fl .int, .row .entry 57]] [.one (.fl .int)] (fun x => fence_Check_t x.1.1 x.1.2.1 x.1.2.2.1 x.1.2.2.2.1)
theorem fence_Check_ok : TrOk Try.prog 19 fence_Check_con := by
  have h : loopsOf (codeOf Try.f19) = [] := by kernel_rfl
  refine con_ok fence_Check_envOk Try.func19 (bodyOk h lsNil) [.agg [.fl .int, .fl .int, .fl .int, .row .entry 57]] [.one (.fl .int)] _ (fun x => ?_)
  kernel_rfl

noncomputable def fence_Own_env : Env := mkEnv ty fnB [(39, slices_Clone___api_Entry_api_Entry__con)] []
theorem fence_Own_envOk : EnvOk Try.prog fence_Own_env := envOk tyOk fn_ok (callsCons slices_Clone___api_Entry_api_Entry__ok callsNil) _
noncomputable def fence_Own_con : Con := con [.agg [.fl .int, .fl .int, .fl .int, .row .entry 57]] [.agg [.fl .int, .fl .int, .fl .int, .row .entry 57]] (fun x => fence_Own_t x.1.1 x.1.2.1 x.1.2.2.1 x.1.2.2.2.1)
theorem fence_Own_ok : TrOk Try.prog 47 fence_Own_con := by
  have h : loopsOf (codeOf Try.f47) = [] := by kernel_rfl
  refine con_ok fence_Own_envOk Try.func47 (bodyOk h lsNil) [.agg [.fl .int, .fl .int, .fl .int, .row .entry 57]] [.agg [.fl .int, .fl .int, .fl .int, .row .entry 57]] _ (fun x => ?_)
  kernel_rfl

noncomputable def fence_Get___fence_keeper__acquire_env : Env := mkEnv ty fnB [] []
theorem fence_Get___fence_keeper__acquire_envOk : EnvOk Try.prog fence_Get___fence_keeper__acquire_env := envOk tyOk fn_ok callsNil _
theorem fence_Get___fence_keeper__acquire_inl : TrOk Try.prog 48 (inlCon fence_Get___fence_keeper__acquire_env Try.f48) := by
  have h : loopsOf (codeOf Try.f48) = [] := by kernel_rfl
  exact inl_ok fence_Get___fence_keeper__acquire_envOk Try.func48 (bodyOk h lsNil)

noncomputable def fence_Get_env : Env := mkEnv ty fnB [(47, fence_Own_con), (48, (inlCon fence_Get___fence_keeper__acquire_env Try.f48))] []
theorem fence_Get_envOk : EnvOk Try.prog fence_Get_env := envOk tyOk fn_ok (callsCons fence_Own_ok (callsCons fence_Get___fence_keeper__acquire_inl callsNil)) _
noncomputable def fence_Get_con : Con := con [.agg [.fl .int, .fl .int, .fl .int, .row .entry 57], .one (.fl .int), .one (.fl .int)] [.agg [.fl .int, .fl .int, .fl .int, .row .entry 57], .one (.fl .int)] (fun x => fence_Get_t x.1.1 x.1.2.1 x.1.2.2.1 x.1.2.2.2.1 x.2.1 x.2.2.1)
theorem fence_Get_ok : TrOk Try.prog 30 fence_Get_con := by
  have h : loopsOf (codeOf Try.f30) = [] := by kernel_rfl
  refine con_ok fence_Get_envOk Try.func30 (bodyOk h lsNil) [.agg [.fl .int, .fl .int, .fl .int, .row .entry 57], .one (.fl .int), .one (.fl .int)] [.agg [.fl .int, .fl .int, .fl .int, .row .entry 57], .one (.fl .int)] _ (fun x => ?_)
  kernel_rfl

noncomputable def fence_Acquire_env : Env := mkEnv ty fnB [(19, fence_Check_con), (29, fence_within_con), (30, fence_Get_con)] []
theorem fence_Acquire_envOk : EnvOk Try.prog fence_Acquire_env := envOk tyOk fn_ok (callsCons fence_Check_ok (callsCons fence_within_ok (callsCons fence_Get_ok callsNil))) _
noncomputable def fence_Acquire_con : Con := con [.agg [.fl .int, .fl .int, .fl .int, .row .entry 57], .one (.fl .int), .one (.fl .int)] [.agg [.fl .int, .fl .int, .fl .int, .row .entry 57], .one (.fl .int), .one (.fl .int)] (fun x => fence_Acquire_t x.1.1 x.1.2.1 x.1.2.2.1 x.1.2.2.2.1 x.2.1 x.2.2.1)
theorem fence_Acquire_ok : TrOk Try.prog 13 fence_Acquire_con := by
  have h : loopsOf (codeOf Try.f13) = [] := by kernel_rfl
  refine con_ok fence_Acquire_envOk Try.func13 (bodyOk h lsNil) [.agg [.fl .int, .fl .int, .fl .int, .row .entry 57], .one (.fl .int), .one (.fl .int)] [.agg [.fl .int, .fl .int, .fl .int, .row .entry 57], .one (.fl .int), .one (.fl .int)] _ (fun x => ?_)
  kernel_rfl

noncomputable def log_More_env : Env := mkEnv ty fnB [(40, log_epoch_con), (41, state_Form_con), (39, slices_Clone___api_Entry_api_Entry__con)] []
theorem log_More_envOk : EnvOk Try.prog log_More_env := envOk tyOk fn_ok (callsCons log_epoch_ok (callsCons state_Form_ok (callsCons slices_Clone___api_Entry_api_Entry__ok callsNil))) _
noncomputable def log_More_con : Con := con [.one (.row .entry 57), .one (.fl .int), .one (.fl .op)] [.one (.row .entry 57), .one (.fl .int)] (fun x => log_More_t x.1 x.2.1 x.2.2.1)
theorem log_More_ok : TrOk Try.prog 49 log_More_con := by
  have h : loopsOf (codeOf Try.f49) = [] := by kernel_rfl
  refine con_ok log_More_envOk Try.func49 (bodyOk h lsNil) [.one (.row .entry 57), .one (.fl .int), .one (.fl .op)] [.one (.row .entry 57), .one (.fl .int)] _ (fun x => ?_)
  kernel_rfl

noncomputable def fence_Put_env : Env := mkEnv ty fnB [(49, log_More_con)] []
theorem fence_Put_envOk : EnvOk Try.prog fence_Put_env := envOk tyOk fn_ok (callsCons log_More_ok callsNil) _
noncomputable def fence_Put_con : Con := con [.agg [.fl .int, .fl .int, .fl .int, .row .entry 57], .one (.fl .int), .one (.fl .op)] [.agg [.fl .int, .fl .int, .fl .int, .row .entry 57], .one (.fl .int)] (fun x => fence_Put_t x.1.1 x.1.2.1 x.1.2.2.1 x.1.2.2.2.1 x.2.1 x.2.2.1)
theorem fence_Put_ok : TrOk Try.prog 31 fence_Put_con := by
  have h : loopsOf (codeOf Try.f31) = [] := by kernel_rfl
  refine con_ok fence_Put_envOk Try.func31 (bodyOk h lsNil) [.agg [.fl .int, .fl .int, .fl .int, .row .entry 57], .one (.fl .int), .one (.fl .op)] [.agg [.fl .int, .fl .int, .fl .int, .row .entry 57], .one (.fl .int)] _ (fun x => ?_)
  kernel_rfl

noncomputable def fence_Write_env : Env := mkEnv ty fnB [(19, fence_Check_con), (31, fence_Put_con)] []
theorem fence_Write_envOk : EnvOk Try.prog fence_Write_env := envOk tyOk fn_ok (callsCons fence_Check_ok (callsCons fence_Put_ok callsNil)) _
noncomputable def fence_Write_con : Con := con [.agg [.fl .int, .fl .int, .fl .int, .row .entry 57], .one (.fl .int), .one (.fl .op)] [.agg [.fl .int, .fl .int, .fl .int, .row .entry 57], .one (.fl .int)] (fun x => fence_Write_t x.1.1 x.1.2.1 x.1.2.2.1 x.1.2.2.2.1 x.2.1 x.2.2.1)
theorem fence_Write_ok : TrOk Try.prog 14 fence_Write_con := by
  have h : loopsOf (codeOf Try.f14) = [] := by kernel_rfl
  refine con_ok fence_Write_envOk Try.func14 (bodyOk h lsNil) [.agg [.fl .int, .fl .int, .fl .int, .row .entry 57], .one (.fl .int), .one (.fl .op)] [.agg [.fl .int, .fl .int, .fl .int, .row .entry 57], .one (.fl .int)] _ (fun x => ?_)
  kernel_rfl

def R_CheckDisk_L7_S : LoopS := { n := 73, base := 1, head := { keep := [1, 3, 4], vals := [.one (.cst (.ptr 1 0)), .one (.fl .int), .one (.fl .int)], objs := [.row .entry 57 false, .blk [.fl .int, .fl .int, .fl .int, .cst (.row 0)] 36 true] }, exits := [⟨some 0, { keep := [3], vals := [.one (.fl .int)], objs := [.row .entry 57 false] }⟩] }
noncomputable def R_CheckDisk_env : Env := mkEnv ty fnB [(25, R_between_con), (8, R_CheckLog_con)] [(7, (loopTr R_CheckDisk_L7_S (loopN R_CheckDisk_L7 FUEL)))]
theorem R_CheckDisk_envOk : EnvOk Try.prog R_CheckDisk_env := envOk tyOk fn_ok (callsCons R_between_ok (callsCons R_CheckLog_ok callsNil)) _
theorem R_CheckDisk_L7_ok : LOk Try.prog (nthLoop (codeOf Try.f15) 0) (loopTr R_CheckDisk_L7_S (loopN R_CheckDisk_L7 FUEL)) := by
  have h : loopsOf (nthLoop (codeOf Try.f15) 0) = [] := by kernel_rfl
  refine loop_ok R_CheckDisk_envOk (loopsOk h lsNil) R_CheckDisk_L7_S R_CheckDisk_L7 FUEL (fun rec x => ?_)
  kernel_rfl
noncomputable def R_CheckDisk_con : Con := con [.agg [.fl .int, .fl .int, .fl .int, .row .entry 57]] [.one (.fl .int)] (fun x => R_CheckDisk_t x.1.1 x.1.2.1 x.1.2.2.1 x.1.2.2.2.1)
theorem R_CheckDisk_ok : TrOk Try.prog 15 R_CheckDisk_con := by
  have h : loopsOf (codeOf Try.f15) = [(nthLoop (codeOf Try.f15) 0)] := by kernel_rfl
  refine con_ok R_CheckDisk_envOk Try.func15 (bodyOk h (lsCons (one_loop (t := (loopTr R_CheckDisk_L7_S (loopN R_CheckDisk_L7 FUEL))) (by kernel_rfl) R_CheckDisk_L7_ok) lsNil)) [.agg [.fl .int, .fl .int, .fl .int, .row .entry 57]] [.one (.fl .int)] _ (fun x => ?_)
  kernel_rfl

noncomputable def R_AddOf_env : Env := mkEnv ty fnB [(25, R_between_con), (26, R_CheckOp_con)] []
theorem R_AddOf_envOk : EnvOk Try.prog R_AddOf_env := envOk tyOk fn_ok (callsCons R_between_ok (callsCons R_CheckOp_ok callsNil)) _
noncomputable def R_AddOf_con : Con := con [.one (.row .entry 57), .one (.fl .int), .one (.fl .op)] [.one (.row .entry 57), .one (.fl .int)] (fun x => R_AddOf_t x.1 x.2.1 x.2.2.1)
theorem R_AddOf_ok : TrOk Try.prog 32 R_AddOf_con := by
  have h : loopsOf (codeOf Try.f32) = [] := by kernel_rfl
  refine con_ok R_AddOf_envOk Try.func32 (bodyOk h lsNil) [.one (.row .entry 57), .one (.fl .int), .one (.fl .op)] [.one (.row .entry 57), .one (.fl .int)] _ (fun x => ?_)
  kernel_rfl

noncomputable def R_WriteOf_env : Env := mkEnv ty fnB [(32, R_AddOf_con)] []
theorem R_WriteOf_envOk : EnvOk Try.prog R_WriteOf_env := envOk tyOk fn_ok (callsCons R_AddOf_ok callsNil) _
noncomputable def R_WriteOf_con : Con := con [.agg [.fl .int, .fl .int, .fl .int, .row .entry 57], .one (.fl .int), .one (.fl .op)] [.agg [.fl .int, .fl .int, .fl .int, .row .entry 57], .one (.fl .int)] (fun x => R_WriteOf_t x.1.1 x.1.2.1 x.1.2.2.1 x.1.2.2.2.1 x.2.1 x.2.2.1)
theorem R_WriteOf_ok : TrOk Try.prog 17 R_WriteOf_con := by
  have h : loopsOf (codeOf Try.f17) = [] := by kernel_rfl
  refine con_ok R_WriteOf_envOk Try.func17 (bodyOk h lsNil) [.agg [.fl .int, .fl .int, .fl .int, .row .entry 57], .one (.fl .int), .one (.fl .op)] [.agg [.fl .int, .fl .int, .fl .int, .row .entry 57], .one (.fl .int)] _ (fun x => ?_)
  kernel_rfl

noncomputable def law_store_env : Env := mkEnv ty fnB [(28, law_entries_con)] []
theorem law_store_envOk : EnvOk Try.prog law_store_env := envOk tyOk fn_ok (callsCons law_entries_ok callsNil) _
noncomputable def law_store_con : Con := con [] [.agg [.fl .int, .fl .int, .fl .int, .row .entry 57]] (fun x => law_store_t)
theorem law_store_ok : TrOk Try.prog 33 law_store_con := by
  have h : loopsOf (codeOf Try.f33) = [] := by kernel_rfl
  refine con_ok law_store_envOk Try.func33 (bodyOk h lsNil) [] [.agg [.fl .int, .fl .int, .fl .int, .row .entry 57]] _ (fun x => ?_)
  kernel_rfl

noncomputable def law_fenceBegun_env : Env := mkEnv ty fnB [(33, law_store_con), (13, fence_Acquire_con), (34, law_some_con), (14, fence_Write_con), (19, fence_Check_con)] []
theorem law_fenceBegun_envOk : EnvOk Try.prog law_fenceBegun_env := envOk tyOk fn_ok (callsCons law_store_ok (callsCons fence_Acquire_ok (callsCons law_some_ok (callsCons fence_Write_ok (callsCons fence_Check_ok callsNil))))) _
noncomputable def law_fenceBegun_con : Con := con [] [.one (.fl .bool)] (fun x => law_fenceBegun_t)
theorem law_fenceBegun_ok : TrOk Try.prog 18 law_fenceBegun_con := by
  have h : loopsOf (codeOf Try.f18) = [] := by kernel_rfl
  refine con_ok law_fenceBegun_envOk Try.func18 (bodyOk h lsNil) [] [.one (.fl .bool)] _ (fun x => ?_)
  kernel_rfl

noncomputable def R_SameDisk_env : Env := mkEnv ty fnB [(27, R_SameLog_con)] []
theorem R_SameDisk_envOk : EnvOk Try.prog R_SameDisk_env := envOk tyOk fn_ok (callsCons R_SameLog_ok callsNil) _
noncomputable def R_SameDisk_con : Con := con [.agg [.fl .int, .fl .int, .fl .int, .row .entry 57], .agg [.fl .int, .fl .int, .fl .int, .row .entry 57]] [.one (.fl .bool)] (fun x => R_SameDisk_t x.1.1 x.1.2.1 x.1.2.2.1 x.1.2.2.2.1 x.2.1.1 x.2.1.2.1 x.2.1.2.2.1 x.2.1.2.2.2.1)
theorem R_SameDisk_ok : TrOk Try.prog 37 R_SameDisk_con := by
  have h : loopsOf (codeOf Try.f37) = [] := by kernel_rfl
  refine con_ok R_SameDisk_envOk Try.func37 (bodyOk h lsNil) [.agg [.fl .int, .fl .int, .fl .int, .row .entry 57], .agg [.fl .int, .fl .int, .fl .int, .row .entry 57]] [.one (.fl .bool)] _ (fun x => ?_)
  kernel_rfl

noncomputable def law_diskIs_env : Env := mkEnv ty fnB [(37, R_SameDisk_con)] []
theorem law_diskIs_envOk : EnvOk Try.prog law_diskIs_env := envOk tyOk fn_ok (callsCons R_SameDisk_ok callsNil) _
noncomputable def law_diskIs_con : Con := con [.agg [.fl .int, .fl .int, .fl .int, .row .entry 57], .one (.fl .int), .one (.fl .int), .agg [.fl .int, .fl .int, .fl .int, .row .entry 57]] [.one (.fl .bool)] (fun x => law_diskIs_t x.1.1 x.1.2.1 x.1.2.2.1 x.1.2.2.2.1 x.2.1 x.2.2.1 x.2.2.2.1.1 x.2.2.2.1.2.1 x.2.2.2.1.2.2.1 x.2.2.2.1.2.2.2.1)
theorem law_diskIs_ok : TrOk Try.prog 20 law_diskIs_con := by
  have h : loopsOf (codeOf Try.f20) = [] := by kernel_rfl
  refine con_ok law_diskIs_envOk Try.func20 (bodyOk h lsNil) [.agg [.fl .int, .fl .int, .fl .int, .row .entry 57], .one (.fl .int), .one (.fl .int), .agg [.fl .int, .fl .int, .fl .int, .row .entry 57]] [.one (.fl .bool)] _ (fun x => ?_)
  kernel_rfl

noncomputable def law_FenceTells_R_AcquireOf_env : Env := mkEnv ty fnB [] []
theorem law_FenceTells_R_AcquireOf_envOk : EnvOk Try.prog law_FenceTells_R_AcquireOf_env := envOk tyOk fn_ok callsNil _
theorem law_FenceTells_R_AcquireOf_inl : TrOk Try.prog 16 (inlCon law_FenceTells_R_AcquireOf_env Try.f16) := by
  have h : loopsOf (codeOf Try.f16) = [] := by kernel_rfl
  exact inl_ok law_FenceTells_R_AcquireOf_envOk Try.func16 (bodyOk h lsNil)

noncomputable def law_FenceTells_env : Env := mkEnv ty fnB [(13, fence_Acquire_con), (14, fence_Write_con), (15, R_CheckDisk_con), (17, R_WriteOf_con), (18, law_fenceBegun_con), (19, fence_Check_con), (20, law_diskIs_con), (16, (inlCon law_FenceTells_R_AcquireOf_env Try.f16))] []
theorem law_FenceTells_envOk : EnvOk Try.prog law_FenceTells_env := envOk tyOk fn_ok (callsCons fence_Acquire_ok (callsCons fence_Write_ok (callsCons R_CheckDisk_ok (callsCons R_WriteOf_ok (callsCons law_fenceBegun_ok (callsCons fence_Check_ok (callsCons law_diskIs_ok (callsCons law_FenceTells_R_AcquireOf_inl callsNil)))))))) _
noncomputable def law_FenceTells_con : Con := con [.agg [.fl .int, .fl .int, .fl .int, .row .entry 57], .one (.fl .int), .one (.fl .int), .one (.fl .int), .one (.fl .op)] [.one (.fl .bool)] (fun x => law_FenceTells_t x.1.1 x.1.2.1 x.1.2.2.1 x.1.2.2.2.1 x.2.1 x.2.2.1 x.2.2.2.1 x.2.2.2.2.1)
theorem law_FenceTells_ok : TrOk Try.prog 4 law_FenceTells_con := by
  have h : loopsOf (codeOf Try.f4) = [] := by kernel_rfl
  refine con_ok law_FenceTells_envOk Try.func4 (bodyOk h lsNil) [.agg [.fl .int, .fl .int, .fl .int, .row .entry 57], .one (.fl .int), .one (.fl .int), .one (.fl .int), .one (.fl .op)] [.one (.fl .bool)] _ (fun x => ?_)
  kernel_rfl

noncomputable def law_FenceTime_env : Env := mkEnv ty fnB [(18, law_fenceBegun_con), (13, fence_Acquire_con)] []
theorem law_FenceTime_envOk : EnvOk Try.prog law_FenceTime_env := envOk tyOk fn_ok (callsCons law_fenceBegun_ok (callsCons fence_Acquire_ok callsNil)) _
noncomputable def law_FenceTime_con : Con := con [.agg [.fl .int, .fl .int, .fl .int, .row .entry 57], .one (.fl .int), .one (.fl .int), .one (.fl .int)] [.one (.fl .bool)] (fun x => law_FenceTime_t x.1.1 x.1.2.1 x.1.2.2.1 x.1.2.2.2.1 x.2.1 x.2.2.1 x.2.2.2.1)
theorem law_FenceTime_ok : TrOk Try.prog 5 law_FenceTime_con := by
  have h : loopsOf (codeOf Try.f5) = [] := by kernel_rfl
  refine con_ok law_FenceTime_envOk Try.func5 (bodyOk h lsNil) [.agg [.fl .int, .fl .int, .fl .int, .row .entry 57], .one (.fl .int), .one (.fl .int), .one (.fl .int)] [.one (.fl .bool)] _ (fun x => ?_)
  kernel_rfl

end Go.Proofs.Ytgfcgbhocdlleaa
