/-
  The program's functions come to their plain forms: those that hang on the contracts made by hand. Written by a program of mine.
-/
import Derived.Test.YtaicmdnpjgijjaaGreatDoorQb
import Derived.Test.YtaicmdnpjgijjaaGreatDoorWk
import Derived.Test.YtaicmdnpjgijjaaGreatDoorPm
namespace Go.Proofs.YtaicmdnpjgijjaaGreatDoor
open Go Go.Ma
noncomputable def internal_stringslite_Cut_env : Env := mkEnv ty fnB [(67, internal_stringslite_Index_con)] []
theorem internal_stringslite_Cut_envOk : EnvOk Tryz.prog internal_stringslite_Cut_env := envOk tyOk fn_ok (callsCons internal_stringslite_Index_ok callsNil) _
noncomputable def internal_stringslite_Cut_con : Con := con [.one (.fl .str), .one (.fl .str)] [.one (.fl .str), .one (.fl .str), .one (.fl .bool)] (fun x => internal_stringslite_Cut_t x.1 x.2.1)
theorem internal_stringslite_Cut_ok : TrOk Tryz.prog 55 internal_stringslite_Cut_con := by
  have h : loopsOf (codeOf Tryz.f55) = [] := by kernel_rfl
  refine con_ok internal_stringslite_Cut_envOk Tryz.func55 (bodyOk h lsNil) [.one (.fl .str), .one (.fl .str)] [.one (.fl .str), .one (.fl .str), .one (.fl .bool)] _ (fun x => ?_)
  kernel_rfl

noncomputable def strings_Cut_env : Env := mkEnv ty fnB [(55, internal_stringslite_Cut_con)] []
theorem strings_Cut_envOk : EnvOk Tryz.prog strings_Cut_env := envOk tyOk fn_ok (callsCons internal_stringslite_Cut_ok callsNil) _
noncomputable def strings_Cut_con : Con := con [.one (.fl .str), .one (.fl .str)] [.one (.fl .str), .one (.fl .str), .one (.fl .bool)] (fun x => strings_Cut_t x.1 x.2.1)
theorem strings_Cut_ok : TrOk Tryz.prog 37 strings_Cut_con := by
  have h : loopsOf (codeOf Tryz.f37) = [] := by kernel_rfl
  refine con_ok strings_Cut_envOk Tryz.func37 (bodyOk h lsNil) [.one (.fl .str), .one (.fl .str)] [.one (.fl .str), .one (.fl .str), .one (.fl .bool)] _ (fun x => ?_)
  kernel_rfl

noncomputable def strings_Index_env : Env := mkEnv ty fnB [(67, internal_stringslite_Index_con)] []
theorem strings_Index_envOk : EnvOk Tryz.prog strings_Index_env := envOk tyOk fn_ok (callsCons internal_stringslite_Index_ok callsNil) _
noncomputable def strings_Index_con : Con := con [.one (.fl .str), .one (.fl .str)] [.one (.fl .int)] (fun x => strings_Index_t x.1 x.2.1)
theorem strings_Index_ok : TrOk Tryz.prog 70 strings_Index_con := by
  have h : loopsOf (codeOf Tryz.f70) = [] := by kernel_rfl
  refine con_ok strings_Index_envOk Tryz.func70 (bodyOk h lsNil) [.one (.fl .str), .one (.fl .str)] [.one (.fl .int)] _ (fun x => ?_)
  kernel_rfl

noncomputable def strings_Contains_env : Env := mkEnv ty fnB [(70, strings_Index_con)] []
theorem strings_Contains_envOk : EnvOk Tryz.prog strings_Contains_env := envOk tyOk fn_ok (callsCons strings_Index_ok callsNil) _
noncomputable def strings_Contains_con : Con := con [.one (.fl .str), .one (.fl .str)] [.one (.fl .bool)] (fun x => strings_Contains_t x.1 x.2.1)
theorem strings_Contains_ok : TrOk Tryz.prog 59 strings_Contains_con := by
  have h : loopsOf (codeOf Tryz.f59) = [] := by kernel_rfl
  refine con_ok strings_Contains_envOk Tryz.func59 (bodyOk h lsNil) [.one (.fl .str), .one (.fl .str)] [.one (.fl .bool)] _ (fun x => ?_)
  kernel_rfl

def addr_four_L6_S : LoopS := { n := 27, base := 0, head := { keep := [4, 14, 15, 16], vals := [.one (.fl .u64), .one (.cst (.row 0)), .one (.fl .int), .one (.fl .int)], objs := [.row .str 9 true] }, exits := [⟨some 0, { keep := [4], vals := [.one (.fl .u64)], objs := [] }⟩] }
noncomputable def addr_four_env : Env := mkEnv ty fnB [(72, strings_Split_con), (73, addr_part_con)] [(6, (loopTr addr_four_L6_S (loopN addr_four_L6 FUEL)))]
theorem addr_four_envOk : EnvOk Tryz.prog addr_four_env := envOk tyOk fn_ok (callsCons strings_Split_ok (callsCons addr_part_ok callsNil)) _
theorem addr_four_L6_ok : LOk Tryz.prog (nthLoop (codeOf Tryz.f61) 0) (loopTr addr_four_L6_S (loopN addr_four_L6 FUEL)) := by
  have h : loopsOf (nthLoop (codeOf Tryz.f61) 0) = [] := by kernel_rfl
  refine loop_ok addr_four_envOk (loopsOk h lsNil) addr_four_L6_S addr_four_L6 FUEL (fun rec x => ?_)
  kernel_rfl
noncomputable def addr_four_con : Con := con [.one (.fl .str)] [.one (.fl .u64)] (fun x => addr_four_t x.1)
theorem addr_four_ok : TrOk Tryz.prog 61 addr_four_con := by
  have h : loopsOf (codeOf Tryz.f61) = [(nthLoop (codeOf Tryz.f61) 0)] := by kernel_rfl
  refine con_ok addr_four_envOk Tryz.func61 (bodyOk h (lsCons (one_loop (t := (loopTr addr_four_L6_S (loopN addr_four_L6 FUEL))) (by kernel_rfl) addr_four_L6_ok) lsNil)) [.one (.fl .str)] [.one (.fl .u64)] _ (fun x => ?_)
  kernel_rfl

def addr_some_L6_S : LoopS := { n := 49, base := 0, head := { keep := [1, 5, 6, 14, 15, 16], vals := [.one (.fl .bool), .one (.cst (.row 0)), .one (.cst (.row 1)), .one (.cst (.row 1)), .one (.fl .int), .one (.fl .int)], objs := [.row .u64 22 true, .row .str 9 true] }, exits := [⟨some 0, { keep := [5], vals := [.one (.cst (.row 0))], objs := [.row .u64 22 true] }⟩] }
noncomputable def addr_some_env : Env := mkEnv ty fnB [(72, strings_Split_con), (59, strings_Contains_con), (61, addr_four_con), (73, addr_part_con)] [(6, (loopTr addr_some_L6_S (loopN addr_some_L6 FUEL)))]
theorem addr_some_envOk : EnvOk Tryz.prog addr_some_env := envOk tyOk fn_ok (callsCons strings_Split_ok (callsCons strings_Contains_ok (callsCons addr_four_ok (callsCons addr_part_ok callsNil)))) _
theorem addr_some_L6_ok : LOk Tryz.prog (nthLoop (codeOf Tryz.f71) 0) (loopTr addr_some_L6_S (loopN addr_some_L6 FUEL)) := by
  have h : loopsOf (nthLoop (codeOf Tryz.f71) 0) = [] := by kernel_rfl
  refine loop_ok addr_some_envOk (loopsOk h lsNil) addr_some_L6_S addr_some_L6 FUEL (fun rec x => ?_)
  kernel_rfl
noncomputable def addr_some_con : Con := con [.one (.fl .str), .one (.fl .bool)] [.one (.row .u64 22)] (fun x => addr_some_t x.1 x.2.1)
theorem addr_some_ok : TrOk Tryz.prog 71 addr_some_con := by
  have h : loopsOf (codeOf Tryz.f71) = [(nthLoop (codeOf Tryz.f71) 0)] := by kernel_rfl
  refine con_ok addr_some_envOk Tryz.func71 (bodyOk h (lsCons (one_loop (t := (loopTr addr_some_L6_S (loopN addr_some_L6 FUEL))) (by kernel_rfl) addr_some_L6_ok) lsNil)) [.one (.fl .str), .one (.fl .bool)] [.one (.row .u64 22)] _ (fun x => ?_)
  kernel_rfl

noncomputable def internal_strconv_FormatUint_env : Env := mkEnv ty fnB [(92, internal_strconv_small_con)] []
theorem internal_strconv_FormatUint_envOk : EnvOk Tryz.prog internal_strconv_FormatUint_env := envOk tyOk fn_ok (callsCons internal_strconv_small_ok callsNil) _
noncomputable def internal_strconv_FormatUint_con : Con := con [.one (.fl .u64), .one (.fl .int)] [.one (.fl .str)] (fun x => internal_strconv_FormatUint_t x.1 x.2.1)
theorem internal_strconv_FormatUint_ok : TrOk Tryz.prog 74 internal_strconv_FormatUint_con := by
  have h : loopsOf (codeOf Tryz.f74) = [] := by kernel_rfl
  refine con_ok internal_strconv_FormatUint_envOk Tryz.func74 (bodyOk h lsNil) [.one (.fl .u64), .one (.fl .int)] [.one (.fl .str)] _ (fun x => ?_)
  kernel_rfl

noncomputable def strconv_FormatUint_env : Env := mkEnv ty fnB [(74, internal_strconv_FormatUint_con)] []
theorem strconv_FormatUint_envOk : EnvOk Tryz.prog strconv_FormatUint_env := envOk tyOk fn_ok (callsCons internal_strconv_FormatUint_ok callsNil) _
noncomputable def strconv_FormatUint_con : Con := con [.one (.fl .u64), .one (.fl .int)] [.one (.fl .str)] (fun x => strconv_FormatUint_t x.1 x.2.1)
theorem strconv_FormatUint_ok : TrOk Tryz.prog 62 strconv_FormatUint_con := by
  have h : loopsOf (codeOf Tryz.f62) = [] := by kernel_rfl
  refine con_ok strconv_FormatUint_envOk Tryz.func62 (bodyOk h lsNil) [.one (.fl .u64), .one (.fl .int)] [.one (.fl .str)] _ (fun x => ?_)
  kernel_rfl

def addr_groups_L3_S : LoopS := { n := 24, base := 0, head := { keep := [2, 3, 7, 8], vals := [.one (.fl .int), .one (.cst (.ptr 0 0)), .one (.cst (.row 1)), .one (.fl .int)], objs := [.blk [.fl .addr] 24 true, .row .str 9 true] }, exits := [⟨some 0, { keep := [7], vals := [.one (.cst (.row 0))], objs := [.row .str 9 true] }⟩] }
noncomputable def addr_groups_env : Env := mkEnv ty fnB [(79, addr_group_con), (62, strconv_FormatUint_con), (63, strings_Join_con)] [(3, (loopTr addr_groups_L3_S (loopN addr_groups_L3 FUEL)))]
theorem addr_groups_envOk : EnvOk Tryz.prog addr_groups_env := envOk tyOk fn_ok (callsCons addr_group_ok (callsCons strconv_FormatUint_ok (callsCons strings_Join_ok callsNil))) _
theorem addr_groups_L3_ok : LOk Tryz.prog (nthLoop (codeOf Tryz.f65) 0) (loopTr addr_groups_L3_S (loopN addr_groups_L3 FUEL)) := by
  have h : loopsOf (nthLoop (codeOf Tryz.f65) 0) = [] := by kernel_rfl
  refine loop_ok addr_groups_envOk (loopsOk h lsNil) addr_groups_L3_S addr_groups_L3 FUEL (fun rec x => ?_)
  kernel_rfl
noncomputable def addr_groups_con : Con := con [.one (.fl .addr), .one (.fl .int), .one (.fl .int)] [.one (.fl .str)] (fun x => addr_groups_t x.1 x.2.1 x.2.2.1)
theorem addr_groups_ok : TrOk Tryz.prog 65 addr_groups_con := by
  have h : loopsOf (codeOf Tryz.f65) = [(nthLoop (codeOf Tryz.f65) 0)] := by kernel_rfl
  refine con_ok addr_groups_envOk Tryz.func65 (bodyOk h (lsCons (one_loop (t := (loopTr addr_groups_L3_S (loopN addr_groups_L3 FUEL))) (by kernel_rfl) addr_groups_L3_ok) lsNil)) [.one (.fl .addr), .one (.fl .int), .one (.fl .int)] [.one (.fl .str)] _ (fun x => ?_)
  kernel_rfl

def addr_Text_L4_S : LoopS := { n := 44, base := 0, head := { keep := [1, 3, 4], vals := [.one (.cst (.ptr 0 0)), .one (.cst (.row 1)), .one (.fl .int)], objs := [.blk [.fl .addr] 24 true, .row .str 9 true] }, exits := [⟨some 0, { keep := [3], vals := [.one (.cst (.row 0))], objs := [.row .str 9 true] }⟩] }
noncomputable def addr_Text_env : Env := mkEnv ty fnB [(62, strconv_FormatUint_con), (63, strings_Join_con), (64, addr_longest_con), (65, addr_groups_con)] [(4, (loopTr addr_Text_L4_S (loopN addr_Text_L4 FUEL)))]
theorem addr_Text_envOk : EnvOk Tryz.prog addr_Text_env := envOk tyOk fn_ok (callsCons strconv_FormatUint_ok (callsCons strings_Join_ok (callsCons addr_longest_ok (callsCons addr_groups_ok callsNil)))) _
theorem addr_Text_L4_ok : LOk Tryz.prog (nthLoop (codeOf Tryz.f51) 0) (loopTr addr_Text_L4_S (loopN addr_Text_L4 FUEL)) := by
  have h : loopsOf (nthLoop (codeOf Tryz.f51) 0) = [] := by kernel_rfl
  refine loop_ok addr_Text_envOk (loopsOk h lsNil) addr_Text_L4_S addr_Text_L4 FUEL (fun rec x => ?_)
  kernel_rfl
noncomputable def addr_Text_con : Con := con [.one (.fl .addr)] [.one (.fl .str)] (fun x => addr_Text_t x.1)
theorem addr_Text_ok : TrOk Tryz.prog 51 addr_Text_con := by
  have h : loopsOf (codeOf Tryz.f51) = [(nthLoop (codeOf Tryz.f51) 0)] := by kernel_rfl
  refine con_ok addr_Text_envOk Tryz.func51 (bodyOk h (lsCons (one_loop (t := (loopTr addr_Text_L4_S (loopN addr_Text_L4 FUEL))) (by kernel_rfl) addr_Text_L4_ok) lsNil)) [.one (.fl .addr)] [.one (.fl .str)] _ (fun x => ?_)
  kernel_rfl

noncomputable def prefix_Text_env : Env := mkEnv ty fnB [(51, addr_Text_con), (54, strconv_Itoa_con)] []
theorem prefix_Text_envOk : EnvOk Tryz.prog prefix_Text_env := envOk tyOk fn_ok (callsCons addr_Text_ok (callsCons strconv_Itoa_ok callsNil)) _
noncomputable def prefix_Text_con : Con := con [.one (.fl .pfx)] [.one (.fl .str)] (fun x => prefix_Text_t x.1)
theorem prefix_Text_ok : TrOk Tryz.prog 36 prefix_Text_con := by
  have h : loopsOf (codeOf Tryz.f36) = [] := by kernel_rfl
  refine con_ok prefix_Text_envOk Tryz.func36 (bodyOk h lsNil) [.one (.fl .pfx)] [.one (.fl .str)] _ (fun x => ?_)
  kernel_rfl

noncomputable def prefix_Print_env : Env := mkEnv ty fnB [(28, prefix_Check_con), (36, prefix_Text_con)] []
theorem prefix_Print_envOk : EnvOk Tryz.prog prefix_Print_env := envOk tyOk fn_ok (callsCons prefix_Check_ok (callsCons prefix_Text_ok callsNil)) _
noncomputable def prefix_Print_con : Con := con [.one (.fl .pfx)] [.one (.fl .str), .one (.fl .int)] (fun x => prefix_Print_t x.1)
theorem prefix_Print_ok : TrOk Tryz.prog 14 prefix_Print_con := by
  have h : loopsOf (codeOf Tryz.f14) = [] := by kernel_rfl
  refine con_ok prefix_Print_envOk Tryz.func14 (bodyOk h lsNil) [.one (.fl .pfx)] [.one (.fl .str), .one (.fl .int)] _ (fun x => ?_)
  kernel_rfl

noncomputable def addr_Print_env : Env := mkEnv ty fnB [(18, addr_Check_con), (51, addr_Text_con)] []
theorem addr_Print_envOk : EnvOk Tryz.prog addr_Print_env := envOk tyOk fn_ok (callsCons addr_Check_ok (callsCons addr_Text_ok callsNil)) _
noncomputable def addr_Print_con : Con := con [.one (.fl .addr)] [.one (.fl .str), .one (.fl .int)] (fun x => addr_Print_t x.1)
theorem addr_Print_ok : TrOk Tryz.prog 31 addr_Print_con := by
  have h : loopsOf (codeOf Tryz.f31) = [] := by kernel_rfl
  refine con_ok addr_Print_envOk Tryz.func31 (bodyOk h lsNil) [.one (.fl .addr)] [.one (.fl .str), .one (.fl .int)] _ (fun x => ?_)
  kernel_rfl

end Go.Proofs.YtaicmdnpjgijjaaGreatDoor
