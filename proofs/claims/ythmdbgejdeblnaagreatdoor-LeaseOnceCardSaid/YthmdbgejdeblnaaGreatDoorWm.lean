/-
  The program's functions come to their plain forms: those that hang on the contracts made by hand. Written by a program of mine.
-/
import Derived.Test.YthmdbgejdeblnaaGreatDoorQb
import Derived.Test.YthmdbgejdeblnaaGreatDoorQr
import Derived.Test.YthmdbgejdeblnaaGreatDoorQo
import Derived.Test.YthmdbgejdeblnaaGreatDoorHd
import Derived.Test.YthmdbgejdeblnaaGreatDoorHf
import Derived.Test.YthmdbgejdeblnaaGreatDoorHg
import Derived.Test.YthmdbgejdeblnaaGreatDoorHh
import Derived.Test.YthmdbgejdeblnaaGreatDoorWk
import Derived.Test.YthmdbgejdeblnaaGreatDoorPm
namespace Go.Proofs.YthmdbgejdeblnaaGreatDoor
open Go Go.Ma
def lease_Check_L7_S : LoopS := { n := 41, base := 2, head := { keep := [1, 3, 20, 21, 22], vals := [.one (.cst (.row 1)), .one (.cst (.ptr 2 0)), .one (.cst (.row 1)), .one (.fl .int), .one (.fl .int)], objs := [.row .addr 24 false, .row .lease 40 false, .blk [.fl .bool, .fl .u64, .fl .u64, .fl .int, .cst (.row 0)] 29 true] }, exits := [⟨none, { keep := [6], vals := [.one (.fl .int)], objs := [.row .addr 24 false, .row .lease 40 false] }⟩, ⟨some 0, { keep := [], vals := [], objs := [.row .addr 24 false, .row .lease 40 false] }⟩] }
noncomputable def lease_Check_env : Env := mkEnv ty fnB [(17, lease_Pool_con), (23, lease_All_con), (24, prefix_Holds_con), (25, lease_Twice_con)] [(7, (loopTr lease_Check_L7_S (loopN lease_Check_L7 FUEL)))]
theorem lease_Check_envOk : EnvOk Tryz.prog lease_Check_env := envOk tyOk fn_ok (callsCons lease_Pool_ok (callsCons lease_All_ok (callsCons prefix_Holds_ok (callsCons lease_Twice_ok callsNil)))) _
theorem lease_Check_L7_ok : LOk Tryz.prog (nthLoop (codeOf Tryz.f7) 0) (loopTr lease_Check_L7_S (loopN lease_Check_L7 FUEL)) := by
  have h : loopsOf (nthLoop (codeOf Tryz.f7) 0) = [] := by kernel_rfl
  refine loop_ok lease_Check_envOk (loopsOk h lsNil) lease_Check_L7_S lease_Check_L7 FUEL (fun rec x => ?_)
  kernel_rfl
noncomputable def lease_Check_con : Con := con [.agg [.fl .pfx, .row .addr 24], .one (.row .lease 40), .one (.fl .int)] [.one (.fl .int)] (fun x => lease_Check_t x.1.1 x.1.2.1 x.2.1 x.2.2.1)
theorem lease_Check_ok : TrOk Tryz.prog 7 lease_Check_con := by
  have h : loopsOf (codeOf Tryz.f7) = [(nthLoop (codeOf Tryz.f7) 0)] := by kernel_rfl
  refine con_ok lease_Check_envOk Tryz.func7 (bodyOk h (lsCons (one_loop (t := (loopTr lease_Check_L7_S (loopN lease_Check_L7 FUEL))) (by kernel_rfl) lease_Check_L7_ok) lsNil)) [.agg [.fl .pfx, .row .addr 24], .one (.row .lease 40), .one (.fl .int)] [.one (.fl .int)] _ (fun x => ?_)
  kernel_rfl

def lease_Raw_slices_BinarySearchFunc___api_Lease_api_Lease_api_Lease__L3_S : LoopS := { n := 49, base := 10, head := { keep := [0, 2, 4, 8, 9, 10], vals := [.one (.cst (.row 6)), .one (.cst (.fn 56 [])), .one (.cst (.ptr 10 0)), .one (.fl .int), .one (.fl .int), .one (.fl .int)], objs := [.row .addr 24 false, .row .lease 40 false, .blk [.fl .bool, .fl .u64, .fl .u64, .fl .int, .cst (.row 0)] 29 false, .blk [.fl .str] 9 false, .row .lease 40 false, .blk [.fl .addr] 24 false, .row .lease 40 false, .blk [.fl .bool, .fl .u64, .fl .u64, .fl .int, .cst (.row 0), .cst (.row 6)] 91 false, .blk [.fl .addr] 24 false, .blk [.fl .lease] 40 false, .blk [.fl .lease] 40 true] }, exits := [⟨some 0, { keep := [0, 2, 4, 8, 9], vals := [.one (.cst (.row 6)), .one (.cst (.fn 56 [])), .one (.cst (.ptr 10 0)), .one (.fl .int), .one (.fl .int)], objs := [.row .addr 24 false, .row .lease 40 false, .blk [.fl .bool, .fl .u64, .fl .u64, .fl .int, .cst (.row 0)] 29 false, .blk [.fl .str] 9 false, .row .lease 40 false, .blk [.fl .addr] 24 false, .row .lease 40 false, .blk [.fl .bool, .fl .u64, .fl .u64, .fl .int, .cst (.row 0), .cst (.row 6)] 91 false, .blk [.fl .addr] 24 false, .blk [.fl .lease] 40 false, .blk [.fl .lease] 40 true] }⟩] }
noncomputable def lease_Raw_slices_BinarySearchFunc___api_Lease_api_Lease_api_Lease__env : Env := mkEnv ty fnB [(56, lease_Raw_2_con)] [(3, (loopTr lease_Raw_slices_BinarySearchFunc___api_Lease_api_Lease_api_Lease__L3_S (loopN lease_Raw_slices_BinarySearchFunc___api_Lease_api_Lease_api_Lease__L3 FUEL)))]
theorem lease_Raw_slices_BinarySearchFunc___api_Lease_api_Lease_api_Lease__envOk : EnvOk Tryz.prog lease_Raw_slices_BinarySearchFunc___api_Lease_api_Lease_api_Lease__env := envOk tyOk fn_ok (callsCons lease_Raw_2_ok callsNil) _
theorem lease_Raw_slices_BinarySearchFunc___api_Lease_api_Lease_api_Lease__L3_ok : LOk Tryz.prog (nthLoop (codeOf Tryz.f55) 0) (loopTr lease_Raw_slices_BinarySearchFunc___api_Lease_api_Lease_api_Lease__L3_S (loopN lease_Raw_slices_BinarySearchFunc___api_Lease_api_Lease_api_Lease__L3 FUEL)) := by
  have h : loopsOf (nthLoop (codeOf Tryz.f55) 0) = [] := by kernel_rfl
  refine loop_ok lease_Raw_slices_BinarySearchFunc___api_Lease_api_Lease_api_Lease__envOk (loopsOk h lsNil) lease_Raw_slices_BinarySearchFunc___api_Lease_api_Lease_api_Lease__L3_S lease_Raw_slices_BinarySearchFunc___api_Lease_api_Lease_api_Lease__L3 FUEL (fun rec x => ?_)
  kernel_rfl
theorem lease_Raw_slices_BinarySearchFunc___api_Lease_api_Lease_api_Lease__fl : TrOk Tryz.prog 55 (flCon lease_Raw_slices_BinarySearchFunc___api_Lease_api_Lease_api_Lease__env Tryz.f55 [.one (.fl .int), .one (.fl .bool)]) := by
  have h : loopsOf (codeOf Tryz.f55) = [(nthLoop (codeOf Tryz.f55) 0)] := by kernel_rfl
  exact flCon_ok lease_Raw_slices_BinarySearchFunc___api_Lease_api_Lease_api_Lease__envOk Tryz.func55 (bodyOk h (lsCons (one_loop (t := (loopTr lease_Raw_slices_BinarySearchFunc___api_Lease_api_Lease_api_Lease__L3_S (loopN lease_Raw_slices_BinarySearchFunc___api_Lease_api_Lease_api_Lease__L3 FUEL))) (by kernel_rfl) lease_Raw_slices_BinarySearchFunc___api_Lease_api_Lease_api_Lease__L3_ok) lsNil)) [.one (.fl .int), .one (.fl .bool)] rfl

def lease_Raw_slices_BinarySearchFunc___api_Lease_api_Lease_api_Lease__1_L3_S : LoopS := { n := 49, base := 10, head := { keep := [0, 2, 4, 8, 9, 10], vals := [.one (.cst (.row 6)), .one (.cst (.fn 56 [])), .one (.cst (.ptr 10 0)), .one (.fl .int), .one (.fl .int), .one (.fl .int)], objs := [.row .addr 24 false, .row .lease 40 false, .blk [.fl .bool, .fl .u64, .fl .u64, .fl .int, .cst (.row 0)] 29 false, .blk [.fl .str] 9 false, .row .lease 40 false, .blk [.fl .addr] 24 false, .row .lease 40 false, .blk [.fl .bool, .fl .u64, .fl .u64, .fl .int, .cst (.row 0), .cst (.row 6)] 91 false, .blk [.fl .addr] 24 false, .blk [.fl .lease] 40 false, .blk [.fl .lease] 40 true] }, exits := [⟨some 0, { keep := [0, 2, 4, 8, 9], vals := [.one (.cst (.row 6)), .one (.cst (.fn 56 [])), .one (.cst (.ptr 10 0)), .one (.fl .int), .one (.fl .int)], objs := [.row .addr 24 false, .row .lease 40 false, .blk [.fl .bool, .fl .u64, .fl .u64, .fl .int, .cst (.row 0)] 29 false, .blk [.fl .str] 9 false, .row .lease 40 false, .blk [.fl .addr] 24 false, .row .lease 40 false, .blk [.fl .bool, .fl .u64, .fl .u64, .fl .int, .cst (.row 0), .cst (.row 6)] 91 false, .blk [.fl .addr] 24 false, .blk [.fl .lease] 40 false, .blk [.fl .lease] 40 true] }⟩] }
noncomputable def lease_Raw_slices_BinarySearchFunc___api_Lease_api_Lease_api_Lease__1_env : Env := mkEnv ty fnB [(56, lease_Raw_2_con)] [(3, (loopTr lease_Raw_slices_BinarySearchFunc___api_Lease_api_Lease_api_Lease__1_L3_S (loopN lease_Raw_slices_BinarySearchFunc___api_Lease_api_Lease_api_Lease__1_L3 FUEL)))]
theorem lease_Raw_slices_BinarySearchFunc___api_Lease_api_Lease_api_Lease__1_envOk : EnvOk Tryz.prog lease_Raw_slices_BinarySearchFunc___api_Lease_api_Lease_api_Lease__1_env := envOk tyOk fn_ok (callsCons lease_Raw_2_ok callsNil) _
theorem lease_Raw_slices_BinarySearchFunc___api_Lease_api_Lease_api_Lease__1_L3_ok : LOk Tryz.prog (nthLoop (codeOf Tryz.f55) 0) (loopTr lease_Raw_slices_BinarySearchFunc___api_Lease_api_Lease_api_Lease__1_L3_S (loopN lease_Raw_slices_BinarySearchFunc___api_Lease_api_Lease_api_Lease__1_L3 FUEL)) := by
  have h : loopsOf (nthLoop (codeOf Tryz.f55) 0) = [] := by kernel_rfl
  refine loop_ok lease_Raw_slices_BinarySearchFunc___api_Lease_api_Lease_api_Lease__1_envOk (loopsOk h lsNil) lease_Raw_slices_BinarySearchFunc___api_Lease_api_Lease_api_Lease__1_L3_S lease_Raw_slices_BinarySearchFunc___api_Lease_api_Lease_api_Lease__1_L3 FUEL (fun rec x => ?_)
  kernel_rfl
theorem lease_Raw_slices_BinarySearchFunc___api_Lease_api_Lease_api_Lease__1_fl : TrOk Tryz.prog 55 (flCon lease_Raw_slices_BinarySearchFunc___api_Lease_api_Lease_api_Lease__1_env Tryz.f55 [.one (.fl .int), .one (.fl .bool)]) := by
  have h : loopsOf (codeOf Tryz.f55) = [(nthLoop (codeOf Tryz.f55) 0)] := by kernel_rfl
  exact flCon_ok lease_Raw_slices_BinarySearchFunc___api_Lease_api_Lease_api_Lease__1_envOk Tryz.func55 (bodyOk h (lsCons (one_loop (t := (loopTr lease_Raw_slices_BinarySearchFunc___api_Lease_api_Lease_api_Lease__1_L3_S (loopN lease_Raw_slices_BinarySearchFunc___api_Lease_api_Lease_api_Lease__1_L3 FUEL))) (by kernel_rfl) lease_Raw_slices_BinarySearchFunc___api_Lease_api_Lease_api_Lease__1_L3_ok) lsNil)) [.one (.fl .int), .one (.fl .bool)] rfl

def lease_Raw_slices_IndexFunc___api_Lease_api_Lease__L2_S : LoopS := { n := 19, base := 8, head := { keep := [0, 1, 7, 8], vals := [.one (.cst (.row 6)), .one (.cst (.fn 53 [.ptr 3 0])), .one (.fl .int), .one (.fl .int)], objs := [.row .addr 24 false, .row .lease 40 false, .blk [.fl .bool, .fl .u64, .fl .u64, .fl .int, .cst (.row 0)] 29 true, .blk [.fl .str] 9 true, .row .lease 40 true, .blk [.fl .addr] 24 true, .row .lease 40 true, .blk [.fl .bool, .fl .u64, .fl .u64, .fl .int, .cst (.row 0), .cst (.row 6)] 91 true] }, exits := [⟨none, { keep := [4], vals := [.one (.fl .int)], objs := [.row .addr 24 false, .row .lease 40 false, .blk [.fl .bool, .fl .u64, .fl .u64, .fl .int, .cst (.row 0)] 29 true, .blk [.fl .str] 9 true, .row .lease 40 true, .blk [.fl .addr] 24 true, .row .lease 40 true, .blk [.fl .bool, .fl .u64, .fl .u64, .fl .int, .cst (.row 0), .cst (.row 6)] 91 true] }⟩, ⟨some 0, { keep := [], vals := [], objs := [.row .addr 24 false, .row .lease 40 false, .blk [.fl .bool, .fl .u64, .fl .u64, .fl .int, .cst (.row 0)] 29 true, .blk [.fl .str] 9 true, .row .lease 40 true, .blk [.fl .addr] 24 true, .row .lease 40 true, .blk [.fl .bool, .fl .u64, .fl .u64, .fl .int, .cst (.row 0), .cst (.row 6)] 91 true] }⟩] }
noncomputable def lease_Raw_slices_IndexFunc___api_Lease_api_Lease__env : Env := mkEnv ty fnB [(53, lease_Raw_1_con)] [(2, (loopTr lease_Raw_slices_IndexFunc___api_Lease_api_Lease__L2_S (loopN lease_Raw_slices_IndexFunc___api_Lease_api_Lease__L2 FUEL)))]
theorem lease_Raw_slices_IndexFunc___api_Lease_api_Lease__envOk : EnvOk Tryz.prog lease_Raw_slices_IndexFunc___api_Lease_api_Lease__env := envOk tyOk fn_ok (callsCons lease_Raw_1_ok callsNil) _
theorem lease_Raw_slices_IndexFunc___api_Lease_api_Lease__L2_ok : LOk Tryz.prog (nthLoop (codeOf Tryz.f52) 0) (loopTr lease_Raw_slices_IndexFunc___api_Lease_api_Lease__L2_S (loopN lease_Raw_slices_IndexFunc___api_Lease_api_Lease__L2 FUEL)) := by
  have h : loopsOf (nthLoop (codeOf Tryz.f52) 0) = [] := by kernel_rfl
  refine loop_ok lease_Raw_slices_IndexFunc___api_Lease_api_Lease__envOk (loopsOk h lsNil) lease_Raw_slices_IndexFunc___api_Lease_api_Lease__L2_S lease_Raw_slices_IndexFunc___api_Lease_api_Lease__L2 FUEL (fun rec x => ?_)
  kernel_rfl
theorem lease_Raw_slices_IndexFunc___api_Lease_api_Lease__inl : TrOk Tryz.prog 52 (inlCon lease_Raw_slices_IndexFunc___api_Lease_api_Lease__env Tryz.f52) := by
  have h : loopsOf (codeOf Tryz.f52) = [(nthLoop (codeOf Tryz.f52) 0)] := by kernel_rfl
  exact inl_ok lease_Raw_slices_IndexFunc___api_Lease_api_Lease__envOk Tryz.func52 (bodyOk h (lsCons (one_loop (t := (loopTr lease_Raw_slices_IndexFunc___api_Lease_api_Lease__L2_S (loopN lease_Raw_slices_IndexFunc___api_Lease_api_Lease__L2 FUEL))) (by kernel_rfl) lease_Raw_slices_IndexFunc___api_Lease_api_Lease__L2_ok) lsNil))

noncomputable def lease_Raw_env : Env := mkEnv ty fnB [(41, lease_Live_con), (54, m_lease_book__first_con), (55, (flCon lease_Raw_slices_BinarySearchFunc___api_Lease_api_Lease_api_Lease__env Tryz.f55 [.one (.fl .int), .one (.fl .bool)])), (57, slices_Insert___api_Lease_api_Lease__con), (52, (inlCon lease_Raw_slices_IndexFunc___api_Lease_api_Lease__env Tryz.f52))] []
theorem lease_Raw_envOk : EnvOk Tryz.prog lease_Raw_env := envOk tyOk fn_ok (callsCons lease_Live_ok (callsCons m_lease_book__first_ok (callsCons lease_Raw_slices_BinarySearchFunc___api_Lease_api_Lease_api_Lease__fl (callsCons slices_Insert___api_Lease_api_Lease__ok (callsCons lease_Raw_slices_IndexFunc___api_Lease_api_Lease__inl callsNil))))) _
noncomputable def lease_Raw_con : Con := con [.agg [.fl .pfx, .row .addr 24], .one (.row .lease 40), .one (.fl .str), .one (.fl .int), .one (.fl .int)] [.one (.row .lease 40), .one (.fl .addr), .one (.fl .bool)] (fun x => lease_Raw_t x.1.1 x.1.2.1 x.2.1 x.2.2.1 x.2.2.2.1 x.2.2.2.2.1)
theorem lease_Raw_ok : TrOk Tryz.prog 29 lease_Raw_con := by
  have h : loopsOf (codeOf Tryz.f29) = [] := by kernel_rfl
  refine con_ok lease_Raw_envOk Tryz.func29 (bodyOk h lsNil) [.agg [.fl .pfx, .row .addr 24], .one (.row .lease 40), .one (.fl .str), .one (.fl .int), .one (.fl .int)] [.one (.row .lease 40), .one (.fl .addr), .one (.fl .bool)] _ (fun x => ?_)
  kernel_rfl

noncomputable def lease_Grant_env : Env := mkEnv ty fnB [(7, lease_Check_con), (29, lease_Raw_con), (27, lease_Who_con), (28, lease_within_con)] []
theorem lease_Grant_envOk : EnvOk Tryz.prog lease_Grant_env := envOk tyOk fn_ok (callsCons lease_Check_ok (callsCons lease_Raw_ok (callsCons lease_Who_ok (callsCons lease_within_ok callsNil)))) _
noncomputable def lease_Grant_con : Con := con [.agg [.fl .pfx, .row .addr 24], .one (.row .lease 40), .one (.fl .str), .one (.fl .int), .one (.fl .int)] [.one (.row .lease 40), .one (.fl .addr), .one (.fl .int)] (fun x => lease_Grant_t x.1.1 x.1.2.1 x.2.1 x.2.2.1 x.2.2.2.1 x.2.2.2.2.1)
theorem lease_Grant_ok : TrOk Tryz.prog 10 lease_Grant_con := by
  have h : loopsOf (codeOf Tryz.f10) = [] := by kernel_rfl
  refine con_ok lease_Grant_envOk Tryz.func10 (bodyOk h lsNil) [.agg [.fl .pfx, .row .addr 24], .one (.row .lease 40), .one (.fl .str), .one (.fl .int), .one (.fl .int)] [.one (.row .lease 40), .one (.fl .addr), .one (.fl .int)] _ (fun x => ?_)
  kernel_rfl

noncomputable def law_leaseBegun_env : Env := mkEnv ty fnB [(15, law_quad_con), (10, lease_Grant_con), (16, lease_Drop_con), (17, lease_Pool_con), (7, lease_Check_con), (18, law_v4_con)] []
theorem law_leaseBegun_envOk : EnvOk Tryz.prog law_leaseBegun_env := envOk tyOk fn_ok (callsCons law_quad_ok (callsCons lease_Grant_ok (callsCons lease_Drop_ok (callsCons lease_Pool_ok (callsCons lease_Check_ok (callsCons law_v4_ok callsNil)))))) _
noncomputable def law_leaseBegun_con : Con := con [] [.one (.fl .bool)] (fun x => law_leaseBegun_t)
theorem law_leaseBegun_ok : TrOk Tryz.prog 5 law_leaseBegun_con := by
  have h : loopsOf (codeOf Tryz.f5) = [] := by kernel_rfl
  refine con_ok law_leaseBegun_envOk Tryz.func5 (bodyOk h lsNil) [] [.one (.fl .bool)] _ (fun x => ?_)
  kernel_rfl

noncomputable def strings_Index_env : Env := mkEnv ty fnB [(102, internal_stringslite_Index_con)] []
theorem strings_Index_envOk : EnvOk Tryz.prog strings_Index_env := envOk tyOk fn_ok (callsCons internal_stringslite_Index_ok callsNil) _
noncomputable def strings_Index_con : Con := con [.one (.fl .str), .one (.fl .str)] [.one (.fl .int)] (fun x => strings_Index_t x.1 x.2.1)
theorem strings_Index_ok : TrOk Tryz.prog 88 strings_Index_con := by
  have h : loopsOf (codeOf Tryz.f88) = [] := by kernel_rfl
  refine con_ok strings_Index_envOk Tryz.func88 (bodyOk h lsNil) [.one (.fl .str), .one (.fl .str)] [.one (.fl .int)] _ (fun x => ?_)
  kernel_rfl

noncomputable def strings_Contains_env : Env := mkEnv ty fnB [(88, strings_Index_con)] []
theorem strings_Contains_envOk : EnvOk Tryz.prog strings_Contains_env := envOk tyOk fn_ok (callsCons strings_Index_ok callsNil) _
noncomputable def strings_Contains_con : Con := con [.one (.fl .str), .one (.fl .str)] [.one (.fl .bool)] (fun x => strings_Contains_t x.1 x.2.1)
theorem strings_Contains_ok : TrOk Tryz.prog 73 strings_Contains_con := by
  have h : loopsOf (codeOf Tryz.f73) = [] := by kernel_rfl
  refine con_ok strings_Contains_envOk Tryz.func73 (bodyOk h lsNil) [.one (.fl .str), .one (.fl .str)] [.one (.fl .bool)] _ (fun x => ?_)
  kernel_rfl

noncomputable def internal_stringslite_Cut_env : Env := mkEnv ty fnB [(102, internal_stringslite_Index_con)] []
theorem internal_stringslite_Cut_envOk : EnvOk Tryz.prog internal_stringslite_Cut_env := envOk tyOk fn_ok (callsCons internal_stringslite_Index_ok callsNil) _
noncomputable def internal_stringslite_Cut_con : Con := con [.one (.fl .str), .one (.fl .str)] [.one (.fl .str), .one (.fl .str), .one (.fl .bool)] (fun x => internal_stringslite_Cut_t x.1 x.2.1)
theorem internal_stringslite_Cut_ok : TrOk Tryz.prog 85 internal_stringslite_Cut_con := by
  have h : loopsOf (codeOf Tryz.f85) = [] := by kernel_rfl
  refine con_ok internal_stringslite_Cut_envOk Tryz.func85 (bodyOk h lsNil) [.one (.fl .str), .one (.fl .str)] [.one (.fl .str), .one (.fl .str), .one (.fl .bool)] _ (fun x => ?_)
  kernel_rfl

noncomputable def strings_Cut_env : Env := mkEnv ty fnB [(85, internal_stringslite_Cut_con)] []
theorem strings_Cut_envOk : EnvOk Tryz.prog strings_Cut_env := envOk tyOk fn_ok (callsCons internal_stringslite_Cut_ok callsNil) _
noncomputable def strings_Cut_con : Con := con [.one (.fl .str), .one (.fl .str)] [.one (.fl .str), .one (.fl .str), .one (.fl .bool)] (fun x => strings_Cut_t x.1 x.2.1)
theorem strings_Cut_ok : TrOk Tryz.prog 59 strings_Cut_con := by
  have h : loopsOf (codeOf Tryz.f59) = [] := by kernel_rfl
  refine con_ok strings_Cut_envOk Tryz.func59 (bodyOk h lsNil) [.one (.fl .str), .one (.fl .str)] [.one (.fl .str), .one (.fl .str), .one (.fl .bool)] _ (fun x => ?_)
  kernel_rfl

noncomputable def addr_Parse_env : Env := mkEnv ty fnB [(45, addr_told_con)] []
theorem addr_Parse_envOk : EnvOk Tryz.prog addr_Parse_env := envOk tyOk fn_ok (callsCons addr_told_ok callsNil) _
noncomputable def addr_Parse_con : Con := con [.one (.fl .str)] [.one (.fl .addr), .one (.fl .int)] (fun x => addr_Parse_t x.1)
theorem addr_Parse_ok : TrOk Tryz.prog 19 addr_Parse_con := by
  have h : loopsOf (codeOf Tryz.f19) = [] := by kernel_rfl
  refine con_ok addr_Parse_envOk Tryz.func19 (bodyOk h lsNil) [.one (.fl .str)] [.one (.fl .addr), .one (.fl .int)] _ (fun x => ?_)
  kernel_rfl

def addr_groups_L3_S : LoopS := { n := 24, base := 0, head := { keep := [2, 3, 7, 8], vals := [.one (.fl .int), .one (.cst (.ptr 0 0)), .one (.cst (.row 1)), .one (.fl .int)], objs := [.blk [.fl .addr] 24 true, .row .str 9 true] }, exits := [⟨some 0, { keep := [7], vals := [.one (.cst (.row 0))], objs := [.row .str 9 true] }⟩] }
noncomputable def addr_groups_env : Env := mkEnv ty fnB [(97, addr_group_con), (76, strconv_FormatUint_con), (77, strings_Join_con)] [(3, (loopTr addr_groups_L3_S (loopN addr_groups_L3 FUEL)))]
theorem addr_groups_envOk : EnvOk Tryz.prog addr_groups_env := envOk tyOk fn_ok (callsCons addr_group_ok (callsCons strconv_FormatUint_ok (callsCons strings_Join_ok callsNil))) _
theorem addr_groups_L3_ok : LOk Tryz.prog (nthLoop (codeOf Tryz.f79) 0) (loopTr addr_groups_L3_S (loopN addr_groups_L3 FUEL)) := by
  have h : loopsOf (nthLoop (codeOf Tryz.f79) 0) = [] := by kernel_rfl
  refine loop_ok addr_groups_envOk (loopsOk h lsNil) addr_groups_L3_S addr_groups_L3 FUEL (fun rec x => ?_)
  kernel_rfl
noncomputable def addr_groups_con : Con := con [.one (.fl .addr), .one (.fl .int), .one (.fl .int)] [.one (.fl .str)] (fun x => addr_groups_t x.1 x.2.1 x.2.2.1)
theorem addr_groups_ok : TrOk Tryz.prog 79 addr_groups_con := by
  have h : loopsOf (codeOf Tryz.f79) = [(nthLoop (codeOf Tryz.f79) 0)] := by kernel_rfl
  refine con_ok addr_groups_envOk Tryz.func79 (bodyOk h (lsCons (one_loop (t := (loopTr addr_groups_L3_S (loopN addr_groups_L3 FUEL))) (by kernel_rfl) addr_groups_L3_ok) lsNil)) [.one (.fl .addr), .one (.fl .int), .one (.fl .int)] [.one (.fl .str)] _ (fun x => ?_)
  kernel_rfl

def addr_Text_L4_S : LoopS := { n := 44, base := 0, head := { keep := [1, 3, 4], vals := [.one (.cst (.ptr 0 0)), .one (.cst (.row 1)), .one (.fl .int)], objs := [.blk [.fl .addr] 24 true, .row .str 9 true] }, exits := [⟨some 0, { keep := [3], vals := [.one (.cst (.row 0))], objs := [.row .str 9 true] }⟩] }
noncomputable def addr_Text_env : Env := mkEnv ty fnB [(76, strconv_FormatUint_con), (77, strings_Join_con), (78, addr_longest_con), (79, addr_groups_con)] [(4, (loopTr addr_Text_L4_S (loopN addr_Text_L4 FUEL)))]
theorem addr_Text_envOk : EnvOk Tryz.prog addr_Text_env := envOk tyOk fn_ok (callsCons strconv_FormatUint_ok (callsCons strings_Join_ok (callsCons addr_longest_ok (callsCons addr_groups_ok callsNil)))) _
theorem addr_Text_L4_ok : LOk Tryz.prog (nthLoop (codeOf Tryz.f46) 0) (loopTr addr_Text_L4_S (loopN addr_Text_L4 FUEL)) := by
  have h : loopsOf (nthLoop (codeOf Tryz.f46) 0) = [] := by kernel_rfl
  refine loop_ok addr_Text_envOk (loopsOk h lsNil) addr_Text_L4_S addr_Text_L4 FUEL (fun rec x => ?_)
  kernel_rfl
theorem addr_Text_key (f0 : type_of% strconv_FormatUint_t) (f1 : type_of% strings_Join_t) (f2 : type_of% addr_longest_t) (f3 : type_of% addr_groups_t) (g0 : type_of% (loopN addr_Text_L4 FUEL)) (x : PsT [.one (.fl .addr)]) : ixF (mkEnv ty fnB [(76, (con [.one (.fl .u64), .one (.fl .int)] [.one (.fl .str)] (fun x => f0 x.1 x.2.1))), (77, (con [.one (.row .str 9), .one (.fl .str)] [.one (.fl .str)] (fun x => f1 x.1 x.2.1))), (78, (con [.one (.fl .addr)] [.one (.fl .int), .one (.fl .int)] (fun x => f2 x.1))), (79, (con [.one (.fl .addr), .one (.fl .int), .one (.fl .int)] [.one (.fl .str)] (fun x => f3 x.1 x.2.1 x.2.2.1)))] [(4, (loopTr addr_Text_L4_S g0))]) Tryz.f46 (encA false [.one (.fl .addr)] x 0).1 (encA false [.one (.fl .addr)] x 0).2 (resR [.one (.fl .str)]) = (fun (a0 : Ad) => (br (!a0.v6)
    ((g0 (((()), (()), (24, ()), ()), ((a0, ()), ([] : List ByteArray), ()))).bind fun y1 =>
    (f1 y1.2.1 (⟨#[46]⟩ : ByteArray)).bind fun y2 =>
    some (y2.1, ()))
    ((f2 a0).bind fun y1 =>
    br (decide (y1.2.1 = 0))
      ((f3 a0 0 8).bind fun y2 =>
      some (y2.1, ()))
      ((f3 a0 0 y1.1).bind fun y2 =>
      req (roomS (catS y2.1 (⟨#[58, 58]⟩ : ByteArray))) <|
      req (i64ok (y1.1 + y1.2.1)) <|
      (f3 a0 (y1.1 + y1.2.1) 8).bind fun y3 =>
      req (roomS (catS (catS y2.1 (⟨#[58, 58]⟩ : ByteArray)) y3.1)) <|
      some (catS (catS y2.1 (⟨#[58, 58]⟩ : ByteArray)) y3.1, ()))) : Option (ByteArray × Unit))) x.1 := by
  kernel_rfl
noncomputable def addr_Text_con : Con := con [.one (.fl .addr)] [.one (.fl .str)] (fun x => addr_Text_t x.1)
theorem addr_Text_ok : TrOk Tryz.prog 46 addr_Text_con := by
  have h : loopsOf (codeOf Tryz.f46) = [(nthLoop (codeOf Tryz.f46) 0)] := by kernel_rfl
  refine con_ok addr_Text_envOk Tryz.func46 (bodyOk h (lsCons (one_loop (t := (loopTr addr_Text_L4_S (loopN addr_Text_L4 FUEL))) (by kernel_rfl) addr_Text_L4_ok) lsNil)) [.one (.fl .addr)] [.one (.fl .str)] _ (fun x => ?_)
  exact addr_Text_key strconv_FormatUint_t strings_Join_t addr_longest_t addr_groups_t (loopN addr_Text_L4 FUEL) x

noncomputable def addr_Print_env : Env := mkEnv ty fnB [(43, addr_Check_con), (46, addr_Text_con)] []
theorem addr_Print_envOk : EnvOk Tryz.prog addr_Print_env := envOk tyOk fn_ok (callsCons addr_Check_ok (callsCons addr_Text_ok callsNil)) _
noncomputable def addr_Print_con : Con := con [.one (.fl .addr)] [.one (.fl .str), .one (.fl .int)] (fun x => addr_Print_t x.1)
theorem addr_Print_ok : TrOk Tryz.prog 20 addr_Print_con := by
  have h : loopsOf (codeOf Tryz.f20) = [] := by kernel_rfl
  refine con_ok addr_Print_envOk Tryz.func20 (bodyOk h lsNil) [.one (.fl .addr)] [.one (.fl .str), .one (.fl .int)] _ (fun x => ?_)
  kernel_rfl

noncomputable def law_addrBegun_env : Env := mkEnv ty fnB [(19, addr_Parse_con), (20, addr_Print_con), (21, addr_Next_con), (22, addr_Less_con), (18, law_v4_con)] []
theorem law_addrBegun_envOk : EnvOk Tryz.prog law_addrBegun_env := envOk tyOk fn_ok (callsCons addr_Parse_ok (callsCons addr_Print_ok (callsCons addr_Next_ok (callsCons addr_Less_ok (callsCons law_v4_ok callsNil))))) _
noncomputable def law_addrBegun_con : Con := con [] [.one (.fl .bool)] (fun x => law_addrBegun_t)
theorem law_addrBegun_ok : TrOk Tryz.prog 6 law_addrBegun_con := by
  have h : loopsOf (codeOf Tryz.f6) = [] := by kernel_rfl
  refine con_ok law_addrBegun_envOk Tryz.func6 (bodyOk h lsNil) [] [.one (.fl .bool)] _ (fun x => ?_)
  kernel_rfl

def law_LeaseFirst_L16_S : LoopS := { n := 131, base := 2, head := { keep := [1, 3, 4, 10, 11, 12, 13, 14, 15, 16], vals := [.one (.cst (.row 1)), .one (.fl .int), .one (.cst (.ptr 2 0)), .one (.cst (.ptr 3 0)), .one (.fl .int), .one (.cst (.ptr 4 0)), .one (.cst (.ptr 5 0)), .one (.fl .int), .one (.fl .bool), .one (.fl .int)], objs := [.row .addr 24 false, .row .lease 40 false, .blk [.fl .bool, .fl .u64, .fl .u64, .fl .int, .cst (.row 0)] 29 true, .blk [.fl .addr] 24 true, .blk [.fl .addr] 24 true, .blk [.fl .addr] 24 true] }, exits := [⟨some 2, { keep := [1, 3, 4, 10, 11, 12, 13, 14, 15], vals := [.one (.cst (.row 1)), .one (.fl .int), .one (.cst (.ptr 2 0)), .one (.cst (.ptr 3 0)), .one (.fl .int), .one (.cst (.ptr 4 0)), .one (.cst (.ptr 5 0)), .one (.fl .int), .one (.fl .bool)], objs := [.row .addr 24 false, .row .lease 40 false, .blk [.fl .bool, .fl .u64, .fl .u64, .fl .int, .cst (.row 0)] 29 true, .blk [.fl .addr] 24 true, .blk [.fl .addr] 24 true, .blk [.fl .addr] 24 true] }⟩] }
def law_LeaseFirst_L20_S : LoopS := { n := 131, base := 2, head := { keep := [1, 3, 4, 10, 11, 12, 13, 14, 15, 17], vals := [.one (.cst (.row 1)), .one (.fl .int), .one (.cst (.ptr 2 0)), .one (.cst (.ptr 3 0)), .one (.fl .int), .one (.cst (.ptr 4 0)), .one (.cst (.ptr 5 0)), .one (.fl .int), .one (.fl .bool), .one (.fl .int)], objs := [.row .addr 24 false, .row .lease 40 false, .blk [.fl .bool, .fl .u64, .fl .u64, .fl .int, .cst (.row 0)] 29 true, .blk [.fl .addr] 24 true, .blk [.fl .addr] 24 true, .blk [.fl .addr] 24 true] }, exits := [⟨some 4, { keep := [1, 3, 4, 10, 11, 12, 13, 14, 15], vals := [.one (.cst (.row 1)), .one (.fl .int), .one (.cst (.ptr 2 0)), .one (.cst (.ptr 3 0)), .one (.fl .int), .one (.cst (.ptr 4 0)), .one (.cst (.ptr 5 0)), .one (.fl .int), .one (.fl .bool)], objs := [.row .addr 24 false, .row .lease 40 false, .blk [.fl .bool, .fl .u64, .fl .u64, .fl .int, .cst (.row 0)] 29 true, .blk [.fl .addr] 24 true, .blk [.fl .addr] 24 true, .blk [.fl .addr] 24 true] }⟩] }
def law_LeaseFirst_L10_S : LoopS := { n := 131, base := 2, head := { keep := [1, 3, 4, 10, 11, 12, 13, 14], vals := [.one (.cst (.row 1)), .one (.fl .int), .one (.cst (.ptr 2 0)), .one (.cst (.ptr 3 0)), .one (.fl .int), .one (.cst (.ptr 4 0)), .one (.cst (.ptr 5 0)), .one (.fl .int)], objs := [.row .addr 24 false, .row .lease 40 false, .blk [.fl .bool, .fl .u64, .fl .u64, .fl .int, .cst (.row 0)] 29 true, .blk [.fl .addr] 24 true, .blk [.fl .addr] 24 true, .blk [.fl .addr] 24 true] }, exits := [⟨none, { keep := [8], vals := [.one (.fl .bool)], objs := [.row .addr 24 false, .row .lease 40 false] }⟩, ⟨some 0, { keep := [11], vals := [.one (.fl .int)], objs := [.row .addr 24 false, .row .lease 40 false] }⟩] }
noncomputable def law_LeaseFirst_env : Env := mkEnv ty fnB [(5, law_leaseBegun_con), (6, law_addrBegun_con), (7, lease_Check_con), (8, R_IsWho_con), (9, R_WhoAt_con), (10, lease_Grant_con), (11, R_LastOf_con), (12, R_NextOf_con)] [(16, (loopTr law_LeaseFirst_L16_S (loopN law_LeaseFirst_L16 FUEL))), (20, (loopTr law_LeaseFirst_L20_S (loopN law_LeaseFirst_L20 FUEL))), (10, (loopTr law_LeaseFirst_L10_S (loopN law_LeaseFirst_L10 FUEL)))]
theorem law_LeaseFirst_envOk : EnvOk Tryz.prog law_LeaseFirst_env := envOk tyOk fn_ok (callsCons law_leaseBegun_ok (callsCons law_addrBegun_ok (callsCons lease_Check_ok (callsCons R_IsWho_ok (callsCons R_WhoAt_ok (callsCons lease_Grant_ok (callsCons R_LastOf_ok (callsCons R_NextOf_ok callsNil)))))))) _
theorem law_LeaseFirst_L20_ok : LOk Tryz.prog (nthLoop (nthLoop (codeOf Tryz.f3) 0) 1) (loopTr law_LeaseFirst_L20_S (loopN law_LeaseFirst_L20 FUEL)) := by
  have h : loopsOf (nthLoop (nthLoop (codeOf Tryz.f3) 0) 1) = [] := by kernel_rfl
  refine loop_ok law_LeaseFirst_envOk (loopsOk h lsNil) law_LeaseFirst_L20_S law_LeaseFirst_L20 FUEL (fun rec x => ?_)
  kernel_rfl
theorem law_LeaseFirst_L16_ok : LOk Tryz.prog (nthLoop (nthLoop (codeOf Tryz.f3) 0) 0) (loopTr law_LeaseFirst_L16_S (loopN law_LeaseFirst_L16 FUEL)) := by
  have h : loopsOf (nthLoop (nthLoop (codeOf Tryz.f3) 0) 0) = [] := by kernel_rfl
  refine loop_ok law_LeaseFirst_envOk (loopsOk h lsNil) law_LeaseFirst_L16_S law_LeaseFirst_L16 FUEL (fun rec x => ?_)
  kernel_rfl
theorem law_LeaseFirst_L10_ok : LOk Tryz.prog (nthLoop (codeOf Tryz.f3) 0) (loopTr law_LeaseFirst_L10_S (loopN law_LeaseFirst_L10 FUEL)) := by
  have h : loopsOf (nthLoop (codeOf Tryz.f3) 0) = [(nthLoop (nthLoop (codeOf Tryz.f3) 0) 0), (nthLoop (nthLoop (codeOf Tryz.f3) 0) 1)] := by kernel_rfl
  refine loop_ok law_LeaseFirst_envOk (loopsOk h (lsCons (one_loop (t := (loopTr law_LeaseFirst_L16_S (loopN law_LeaseFirst_L16 FUEL))) (by kernel_rfl) law_LeaseFirst_L16_ok) (lsCons (one_loop (t := (loopTr law_LeaseFirst_L20_S (loopN law_LeaseFirst_L20 FUEL))) (by kernel_rfl) law_LeaseFirst_L20_ok) lsNil))) law_LeaseFirst_L10_S law_LeaseFirst_L10 FUEL (fun rec x => ?_)
  kernel_rfl
noncomputable def law_LeaseFirst_con : Con := con [.agg [.fl .pfx, .row .addr 24], .one (.row .lease 40), .one (.fl .str), .one (.fl .int)] [.one (.fl .bool)] (fun x => law_LeaseFirst_t x.1.1 x.1.2.1 x.2.1 x.2.2.1 x.2.2.2.1)
theorem law_LeaseFirst_ok : TrOk Tryz.prog 3 law_LeaseFirst_con := by
  have h : loopsOf (codeOf Tryz.f3) = [(nthLoop (codeOf Tryz.f3) 0)] := by kernel_rfl
  refine con_ok law_LeaseFirst_envOk Tryz.func3 (bodyOk h (lsCons (one_loop (t := (loopTr law_LeaseFirst_L10_S (loopN law_LeaseFirst_L10 FUEL))) (by kernel_rfl) law_LeaseFirst_L10_ok) lsNil)) [.agg [.fl .pfx, .row .addr 24], .one (.row .lease 40), .one (.fl .str), .one (.fl .int)] [.one (.fl .bool)] _ (fun x => ?_)
  kernel_rfl

noncomputable def prefix_Parse_env : Env := mkEnv ty fnB [(59, strings_Cut_con), (19, addr_Parse_con), (60, prefix_Digits_con), (40, prefix_Check_con)] []
theorem prefix_Parse_envOk : EnvOk Tryz.prog prefix_Parse_env := envOk tyOk fn_ok (callsCons strings_Cut_ok (callsCons addr_Parse_ok (callsCons prefix_Digits_ok (callsCons prefix_Check_ok callsNil)))) _
noncomputable def prefix_Parse_con : Con := con [.one (.fl .str)] [.one (.fl .pfx), .one (.fl .int)] (fun x => prefix_Parse_t x.1)
theorem prefix_Parse_ok : TrOk Tryz.prog 33 prefix_Parse_con := by
  have h : loopsOf (codeOf Tryz.f33) = [] := by kernel_rfl
  refine con_ok prefix_Parse_envOk Tryz.func33 (bodyOk h lsNil) [.one (.fl .str)] [.one (.fl .pfx), .one (.fl .int)] _ (fun x => ?_)
  kernel_rfl

noncomputable def prefix_Text_env : Env := mkEnv ty fnB [(46, addr_Text_con), (87, strconv_Itoa_con)] []
theorem prefix_Text_envOk : EnvOk Tryz.prog prefix_Text_env := envOk tyOk fn_ok (callsCons addr_Text_ok (callsCons strconv_Itoa_ok callsNil)) _
noncomputable def prefix_Text_con : Con := con [.one (.fl .pfx)] [.one (.fl .str)] (fun x => prefix_Text_t x.1)
theorem prefix_Text_ok : TrOk Tryz.prog 67 prefix_Text_con := by
  have h : loopsOf (codeOf Tryz.f67) = [] := by kernel_rfl
  refine con_ok prefix_Text_envOk Tryz.func67 (bodyOk h lsNil) [.one (.fl .pfx)] [.one (.fl .str)] _ (fun x => ?_)
  kernel_rfl

noncomputable def prefix_Print_env : Env := mkEnv ty fnB [(40, prefix_Check_con), (67, prefix_Text_con)] []
theorem prefix_Print_envOk : EnvOk Tryz.prog prefix_Print_env := envOk tyOk fn_ok (callsCons prefix_Check_ok (callsCons prefix_Text_ok callsNil)) _
noncomputable def prefix_Print_con : Con := con [.one (.fl .pfx)] [.one (.fl .str), .one (.fl .int)] (fun x => prefix_Print_t x.1)
theorem prefix_Print_ok : TrOk Tryz.prog 39 prefix_Print_con := by
  have h : loopsOf (codeOf Tryz.f39) = [] := by kernel_rfl
  refine con_ok prefix_Print_envOk Tryz.func39 (bodyOk h lsNil) [.one (.fl .pfx)] [.one (.fl .str), .one (.fl .int)] _ (fun x => ?_)
  kernel_rfl

noncomputable def law_prefixBegun_env : Env := mkEnv ty fnB [(33, prefix_Parse_con), (35, law_net_con), (34, prefix_Has_con), (36, prefix_Ends_con), (37, prefix_Halves_con), (38, prefix_Whole_con), (39, prefix_Print_con), (40, prefix_Check_con), (18, law_v4_con)] []
theorem law_prefixBegun_envOk : EnvOk Tryz.prog law_prefixBegun_env := envOk tyOk fn_ok (callsCons prefix_Parse_ok (callsCons law_net_ok (callsCons prefix_Has_ok (callsCons prefix_Ends_ok (callsCons prefix_Halves_ok (callsCons prefix_Whole_ok (callsCons prefix_Print_ok (callsCons prefix_Check_ok (callsCons law_v4_ok callsNil))))))))) _
noncomputable def law_prefixBegun_con : Con := con [] [.one (.fl .bool)] (fun x => law_prefixBegun_t)
theorem law_prefixBegun_ok : TrOk Tryz.prog 13 law_prefixBegun_con := by
  have h : loopsOf (codeOf Tryz.f13) = [] := by kernel_rfl
  refine con_ok law_prefixBegun_envOk Tryz.func13 (bodyOk h lsNil) [] [.one (.fl .bool)] _ (fun x => ?_)
  kernel_rfl

def law_LeaseOnce_L13_S : LoopS := { n := 197, base := 2, head := { keep := [1, 2, 3, 5, 6, 13, 14, 17, 18], vals := [.one (.cst (.row 1)), .one (.fl .str), .one (.fl .int), .one (.fl .int), .one (.cst (.ptr 2 0)), .one (.cst (.row 3)), .one (.cst (.ptr 4 0)), .one (.fl .bool), .one (.fl .int)], objs := [.row .addr 24 false, .row .lease 40 false, .blk [.fl .bool, .fl .u64, .fl .u64, .fl .int, .cst (.row 0)] 29 true, .row .lease 40 true, .blk [.fl .addr] 24 true] }, exits := [⟨none, { keep := [12], vals := [.one (.fl .bool)], objs := [.row .addr 24 false, .row .lease 40 false] }⟩, ⟨some 0, { keep := [2, 3, 5, 6, 13, 14, 17], vals := [.one (.fl .str), .one (.fl .int), .one (.fl .int), .one (.cst (.ptr 2 0)), .one (.cst (.row 3)), .one (.cst (.ptr 4 0)), .one (.fl .bool)], objs := [.row .addr 24 false, .row .lease 40 false, .blk [.fl .bool, .fl .u64, .fl .u64, .fl .int, .cst (.row 0)] 29 true, .row .lease 40 true, .blk [.fl .addr] 24 true] }⟩] }
def law_LeaseOnce_L22_S : LoopS := { n := 197, base := 2, head := { keep := [2, 3, 5, 6, 13, 14, 17, 20], vals := [.one (.fl .str), .one (.fl .int), .one (.fl .int), .one (.cst (.ptr 2 0)), .one (.cst (.row 3)), .one (.cst (.ptr 4 0)), .one (.fl .bool), .one (.fl .int)], objs := [.row .addr 24 false, .row .lease 40 false, .blk [.fl .bool, .fl .u64, .fl .u64, .fl .int, .cst (.row 0)] 29 true, .row .lease 40 true, .blk [.fl .addr] 24 true] }, exits := [⟨none, { keep := [12], vals := [.one (.fl .bool)], objs := [.row .addr 24 false, .row .lease 40 false] }⟩, ⟨some 2, { keep := [2, 3, 5, 6, 13, 14], vals := [.one (.fl .str), .one (.fl .int), .one (.fl .int), .one (.cst (.ptr 2 0)), .one (.cst (.row 3)), .one (.cst (.ptr 4 0))], objs := [.row .addr 24 false, .row .lease 40 false, .blk [.fl .bool, .fl .u64, .fl .u64, .fl .int, .cst (.row 0)] 29 true, .row .lease 40 true, .blk [.fl .addr] 24 true] }⟩] }
noncomputable def law_LeaseOnce_env : Env := mkEnv ty fnB [(5, law_leaseBegun_con), (13, law_prefixBegun_con), (10, lease_Grant_con), (7, lease_Check_con), (14, R_HasAddr_con), (9, R_WhoAt_con)] [(13, (loopTr law_LeaseOnce_L13_S (loopN law_LeaseOnce_L13 FUEL))), (22, (loopTr law_LeaseOnce_L22_S (loopN law_LeaseOnce_L22 FUEL)))]
theorem law_LeaseOnce_envOk : EnvOk Tryz.prog law_LeaseOnce_env := envOk tyOk fn_ok (callsCons law_leaseBegun_ok (callsCons law_prefixBegun_ok (callsCons lease_Grant_ok (callsCons lease_Check_ok (callsCons R_HasAddr_ok (callsCons R_WhoAt_ok callsNil)))))) _
theorem law_LeaseOnce_L22_ok : LOk Tryz.prog (nthLoop (codeOf Tryz.f4) 1) (loopTr law_LeaseOnce_L22_S (loopN law_LeaseOnce_L22 FUEL)) := by
  have h : loopsOf (nthLoop (codeOf Tryz.f4) 1) = [] := by kernel_rfl
  refine loop_ok law_LeaseOnce_envOk (loopsOk h lsNil) law_LeaseOnce_L22_S law_LeaseOnce_L22 FUEL (fun rec x => ?_)
  kernel_rfl
theorem law_LeaseOnce_L13_ok : LOk Tryz.prog (nthLoop (codeOf Tryz.f4) 0) (loopTr law_LeaseOnce_L13_S (loopN law_LeaseOnce_L13 FUEL)) := by
  have h : loopsOf (nthLoop (codeOf Tryz.f4) 0) = [] := by kernel_rfl
  refine loop_ok law_LeaseOnce_envOk (loopsOk h lsNil) law_LeaseOnce_L13_S law_LeaseOnce_L13 FUEL (fun rec x => ?_)
  kernel_rfl
noncomputable def law_LeaseOnce_con : Con := con [.agg [.fl .pfx, .row .addr 24], .one (.row .lease 40), .one (.fl .str), .one (.fl .int), .one (.fl .int), .one (.fl .int)] [.one (.fl .bool)] (fun x => law_LeaseOnce_t x.1.1 x.1.2.1 x.2.1 x.2.2.1 x.2.2.2.1 x.2.2.2.2.1 x.2.2.2.2.2.1)
theorem law_LeaseOnce_ok : TrOk Tryz.prog 4 law_LeaseOnce_con := by
  have h : loopsOf (codeOf Tryz.f4) = [(nthLoop (codeOf Tryz.f4) 0), (nthLoop (codeOf Tryz.f4) 1)] := by kernel_rfl
  refine con_ok law_LeaseOnce_envOk Tryz.func4 (bodyOk h (lsCons (one_loop (t := (loopTr law_LeaseOnce_L13_S (loopN law_LeaseOnce_L13 FUEL))) (by kernel_rfl) law_LeaseOnce_L13_ok) (lsCons (one_loop (t := (loopTr law_LeaseOnce_L22_S (loopN law_LeaseOnce_L22 FUEL))) (by kernel_rfl) law_LeaseOnce_L22_ok) lsNil))) [.agg [.fl .pfx, .row .addr 24], .one (.row .lease 40), .one (.fl .str), .one (.fl .int), .one (.fl .int), .one (.fl .int)] [.one (.fl .bool)] _ (fun x => ?_)
  kernel_rfl

end Go.Proofs.YthmdbgejdeblnaaGreatDoor
