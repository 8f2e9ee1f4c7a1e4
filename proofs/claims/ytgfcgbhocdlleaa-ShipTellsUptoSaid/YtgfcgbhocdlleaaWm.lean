/-
  The program's functions come to their plain forms: those that hang on the contracts made by hand. Written by a program of mine.
-/
import Derived.Test.YtgfcgbhocdlleaaHc
import Derived.Test.YtgfcgbhocdlleaaWk
import Derived.Test.YtgfcgbhocdlleaaPm
namespace Go.Proofs.Ytgfcgbhocdlleaa
open Go Go.Ma
noncomputable def ship_Take_slices_Concat___api_Entry_api_Entry__L11_env : Env := mkEnv ty fnB [(42, slices_Grow___api_Entry_api_Entry__con)] []
theorem ship_Take_slices_Concat___api_Entry_api_Entry__L11_envOk : EnvOk Try.prog ship_Take_slices_Concat___api_Entry_api_Entry__L11_env := envOk tyOk fn_ok (callsCons slices_Grow___api_Entry_api_Entry__ok callsNil) _
noncomputable def ship_Take_slices_Concat___api_Entry_api_Entry__L3_env : Env := mkEnv ty fnB [(42, slices_Grow___api_Entry_api_Entry__con)] []
theorem ship_Take_slices_Concat___api_Entry_api_Entry__L3_envOk : EnvOk Try.prog ship_Take_slices_Concat___api_Entry_api_Entry__L3_env := envOk tyOk fn_ok (callsCons slices_Grow___api_Entry_api_Entry__ok callsNil) _
noncomputable def ship_Take_slices_Concat___api_Entry_api_Entry__env : Env := mkEnv ty fnB [(42, slices_Grow___api_Entry_api_Entry__con)] [(3, (unrollTr ship_Take_slices_Concat___api_Entry_api_Entry__L3_env (nthLoop (codeOf Try.f24) 0) 16)), (11, (unrollTr ship_Take_slices_Concat___api_Entry_api_Entry__L11_env (nthLoop (codeOf Try.f24) 1) 16))]
theorem ship_Take_slices_Concat___api_Entry_api_Entry__envOk : EnvOk Try.prog ship_Take_slices_Concat___api_Entry_api_Entry__env := envOk tyOk fn_ok (callsCons slices_Grow___api_Entry_api_Entry__ok callsNil) _
theorem ship_Take_slices_Concat___api_Entry_api_Entry__L11_ok : LOk Try.prog (nthLoop (codeOf Try.f24) 1) (unrollTr ship_Take_slices_Concat___api_Entry_api_Entry__L11_env (nthLoop (codeOf Try.f24) 1) 16) := by
  have h : loopsOf (nthLoop (codeOf Try.f24) 1) = [] := by kernel_rfl
  exact unroll_ok ship_Take_slices_Concat___api_Entry_api_Entry__L11_envOk (loopsOk h lsNil) 16
theorem ship_Take_slices_Concat___api_Entry_api_Entry__L3_ok : LOk Try.prog (nthLoop (codeOf Try.f24) 0) (unrollTr ship_Take_slices_Concat___api_Entry_api_Entry__L3_env (nthLoop (codeOf Try.f24) 0) 16) := by
  have h : loopsOf (nthLoop (codeOf Try.f24) 0) = [] := by kernel_rfl
  exact unroll_ok ship_Take_slices_Concat___api_Entry_api_Entry__L3_envOk (loopsOk h lsNil) 16
theorem ship_Take_slices_Concat___api_Entry_api_Entry__inl : TrOk Try.prog 24 (inlCon ship_Take_slices_Concat___api_Entry_api_Entry__env Try.f24) := by
  have h : loopsOf (codeOf Try.f24) = [(nthLoop (codeOf Try.f24) 0), (nthLoop (codeOf Try.f24) 1)] := by kernel_rfl
  exact inl_ok ship_Take_slices_Concat___api_Entry_api_Entry__envOk Try.func24 (bodyOk h (lsCons (one_loop (t := (unrollTr ship_Take_slices_Concat___api_Entry_api_Entry__L3_env (nthLoop (codeOf Try.f24) 0) 16)) (by kernel_rfl) ship_Take_slices_Concat___api_Entry_api_Entry__L3_ok) (lsCons (one_loop (t := (unrollTr ship_Take_slices_Concat___api_Entry_api_Entry__L11_env (nthLoop (codeOf Try.f24) 1) 16)) (by kernel_rfl) ship_Take_slices_Concat___api_Entry_api_Entry__L11_ok) lsNil)))

noncomputable def ship_Take_env : Env := mkEnv ty fnB [(23, log_Check_con), (24, (inlCon ship_Take_slices_Concat___api_Entry_api_Entry__env Try.f24))] []
theorem ship_Take_envOk : EnvOk Try.prog ship_Take_env := envOk tyOk fn_ok (callsCons log_Check_ok (callsCons ship_Take_slices_Concat___api_Entry_api_Entry__inl callsNil)) _
noncomputable def ship_Take_con : Con := con [.one (.row .entry 57), .one (.row .entry 57)] [.one (.row .entry 57), .one (.fl .int)] (fun x => ship_Take_t x.1 x.2.1)
theorem ship_Take_ok : TrOk Try.prog 7 ship_Take_con := by
  have h : loopsOf (codeOf Try.f7) = [] := by kernel_rfl
  refine con_ok ship_Take_envOk Try.func7 (bodyOk h lsNil) [.one (.row .entry 57), .one (.row .entry 57)] [.one (.row .entry 57), .one (.fl .int)] _ (fun x => ?_)
  kernel_rfl

noncomputable def law_shipBegun_env : Env := mkEnv ty fnB [(28, law_entries_con), (6, ship_Next_con), (7, ship_Take_con), (27, R_SameLog_con)] []
theorem law_shipBegun_envOk : EnvOk Try.prog law_shipBegun_env := envOk tyOk fn_ok (callsCons law_entries_ok (callsCons ship_Next_ok (callsCons ship_Take_ok (callsCons R_SameLog_ok callsNil)))) _
noncomputable def law_shipBegun_con : Con := con [] [.one (.fl .bool)] (fun x => law_shipBegun_t)
theorem law_shipBegun_ok : TrOk Try.prog 11 law_shipBegun_con := by
  have h : loopsOf (codeOf Try.f11) = [] := by kernel_rfl
  refine con_ok law_shipBegun_envOk Try.func11 (bodyOk h lsNil) [] [.one (.fl .bool)] _ (fun x => ?_)
  kernel_rfl

noncomputable def law_ShipTells_env : Env := mkEnv ty fnB [(6, ship_Next_con), (7, ship_Take_con), (8, R_CheckLog_con), (9, R_DoesBegin_con), (11, law_shipBegun_con), (12, law_logIs_con), (10, R_BehindOf_con)] []
theorem law_ShipTells_envOk : EnvOk Try.prog law_ShipTells_env := envOk tyOk fn_ok (callsCons ship_Next_ok (callsCons ship_Take_ok (callsCons R_CheckLog_ok (callsCons R_DoesBegin_ok (callsCons law_shipBegun_ok (callsCons law_logIs_ok (callsCons R_BehindOf_ok callsNil))))))) _
noncomputable def law_ShipTells_con : Con := con [.one (.row .entry 57), .one (.row .entry 57), .one (.row .entry 57), .one (.fl .int)] [.one (.fl .bool)] (fun x => law_ShipTells_t x.1 x.2.1 x.2.2.1 x.2.2.2.1)
theorem law_ShipTells_ok : TrOk Try.prog 3 law_ShipTells_con := by
  have h : loopsOf (codeOf Try.f3) = [] := by kernel_rfl
  refine con_ok law_ShipTells_envOk Try.func3 (bodyOk h lsNil) [.one (.row .entry 57), .one (.row .entry 57), .one (.row .entry 57), .one (.fl .int)] [.one (.fl .bool)] _ (fun x => ?_)
  kernel_rfl

end Go.Proofs.Ytgfcgbhocdlleaa
