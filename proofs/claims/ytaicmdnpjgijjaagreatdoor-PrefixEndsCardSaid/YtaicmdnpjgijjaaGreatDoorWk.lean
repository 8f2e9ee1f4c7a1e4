/-
  The program's functions come to their plain forms. Written by a program of mine.
-/
import Derived.Test.YtaicmdnpjgijjaaGreatDoorTy
import Derived.Test.YtaicmdnpjgijjaaGreatDoorPl
namespace Go.Proofs.YtaicmdnpjgijjaaGreatDoor
open Go Go.Ma
noncomputable def addr_Check_env : Env := mkEnv ty fnB [] []
theorem addr_Check_envOk : EnvOk Tryz.prog addr_Check_env := envOk tyOk fn_ok callsNil _
noncomputable def addr_Check_con : Con := con [.one (.fl .addr)] [.one (.fl .int)] (fun x => addr_Check_t x.1)
theorem addr_Check_ok : TrOk Tryz.prog 18 addr_Check_con := by
  have h : loopsOf (codeOf Tryz.f18) = [] := by kernel_rfl
  refine con_ok addr_Check_envOk Tryz.func18 (bodyOk h lsNil) [.one (.fl .addr)] [.one (.fl .int)] _ (fun x => ?_)
  kernel_rfl

noncomputable def prefix_Wide_env : Env := mkEnv ty fnB [] []
theorem prefix_Wide_envOk : EnvOk Tryz.prog prefix_Wide_env := envOk tyOk fn_ok callsNil _
noncomputable def prefix_Wide_con : Con := con [.one (.fl .addr)] [.one (.fl .int)] (fun x => prefix_Wide_t x.1)
theorem prefix_Wide_ok : TrOk Tryz.prog 34 prefix_Wide_con := by
  have h : loopsOf (codeOf Tryz.f34) = [] := by kernel_rfl
  refine con_ok prefix_Wide_envOk Tryz.func34 (bodyOk h lsNil) [.one (.fl .addr)] [.one (.fl .int)] _ (fun x => ?_)
  kernel_rfl

noncomputable def prefix_mask_env : Env := mkEnv ty fnB [(34, prefix_Wide_con)] []
theorem prefix_mask_envOk : EnvOk Tryz.prog prefix_mask_env := envOk tyOk fn_ok (callsCons prefix_Wide_ok callsNil) _
noncomputable def prefix_mask_con : Con := con [.one (.fl .addr), .one (.fl .int)] [.one (.fl .addr)] (fun x => prefix_mask_t x.1 x.2.1)
theorem prefix_mask_ok : TrOk Tryz.prog 52 prefix_mask_con := by
  have h : loopsOf (codeOf Tryz.f52) = [] := by kernel_rfl
  refine con_ok prefix_mask_envOk Tryz.func52 (bodyOk h lsNil) [.one (.fl .addr), .one (.fl .int)] [.one (.fl .addr)] _ (fun x => ?_)
  kernel_rfl

noncomputable def prefix_Cut_env : Env := mkEnv ty fnB [(52, prefix_mask_con)] []
theorem prefix_Cut_envOk : EnvOk Tryz.prog prefix_Cut_env := envOk tyOk fn_ok (callsCons prefix_mask_ok callsNil) _
noncomputable def prefix_Cut_con : Con := con [.one (.fl .addr), .one (.fl .int)] [.one (.fl .addr)] (fun x => prefix_Cut_t x.1 x.2.1)
theorem prefix_Cut_ok : TrOk Tryz.prog 49 prefix_Cut_con := by
  have h : loopsOf (codeOf Tryz.f49) = [] := by kernel_rfl
  refine con_ok prefix_Cut_envOk Tryz.func49 (bodyOk h lsNil) [.one (.fl .addr), .one (.fl .int)] [.one (.fl .addr)] _ (fun x => ?_)
  kernel_rfl

noncomputable def prefix_Check_env : Env := mkEnv ty fnB [(18, addr_Check_con), (34, prefix_Wide_con), (49, prefix_Cut_con)] []
theorem prefix_Check_envOk : EnvOk Tryz.prog prefix_Check_env := envOk tyOk fn_ok (callsCons addr_Check_ok (callsCons prefix_Wide_ok (callsCons prefix_Cut_ok callsNil))) _
noncomputable def prefix_Check_con : Con := con [.one (.fl .pfx)] [.one (.fl .int)] (fun x => prefix_Check_t x.1)
theorem prefix_Check_ok : TrOk Tryz.prog 28 prefix_Check_con := by
  have h : loopsOf (codeOf Tryz.f28) = [] := by kernel_rfl
  refine con_ok prefix_Check_envOk Tryz.func28 (bodyOk h lsNil) [.one (.fl .pfx)] [.one (.fl .int)] _ (fun x => ?_)
  kernel_rfl

def prefix_two_L2_S : LoopS := { n := 18, base := 1, head := { keep := [6, 7, 8], vals := [.one (.cst (.row 0)), .one (.fl .int), .one (.fl .int)], objs := [.row .pfx 26 false] }, exits := [⟨none, { keep := [2], vals := [.one (.fl .int)], objs := [.row .pfx 26 false] }⟩, ⟨some 0, { keep := [], vals := [], objs := [.row .pfx 26 false] }⟩] }
noncomputable def prefix_two_env : Env := mkEnv ty fnB [(28, prefix_Check_con)] [(2, (loopTr prefix_two_L2_S (loopN prefix_two_L2 FUEL)))]
theorem prefix_two_envOk : EnvOk Tryz.prog prefix_two_env := envOk tyOk fn_ok (callsCons prefix_Check_ok callsNil) _
theorem prefix_two_L2_ok : LOk Tryz.prog (nthLoop (codeOf Tryz.f25) 0) (loopTr prefix_two_L2_S (loopN prefix_two_L2 FUEL)) := by
  have h : loopsOf (nthLoop (codeOf Tryz.f25) 0) = [] := by kernel_rfl
  refine loop_ok prefix_two_envOk (loopsOk h lsNil) prefix_two_L2_S prefix_two_L2 FUEL (fun rec x => ?_)
  kernel_rfl
noncomputable def prefix_two_con : Con := con [.one (.row .pfx 26)] [.one (.fl .int)] (fun x => prefix_two_t x.1)
theorem prefix_two_ok : TrOk Tryz.prog 25 prefix_two_con := by
  have h : loopsOf (codeOf Tryz.f25) = [(nthLoop (codeOf Tryz.f25) 0)] := by kernel_rfl
  refine con_ok prefix_two_envOk Tryz.func25 (bodyOk h (lsCons (one_loop (t := (loopTr prefix_two_L2_S (loopN prefix_two_L2 FUEL))) (by kernel_rfl) prefix_two_L2_ok) lsNil)) [.one (.row .pfx 26)] [.one (.fl .int)] _ (fun x => ?_)
  kernel_rfl

noncomputable def prefix_Holds_env : Env := mkEnv ty fnB [(49, prefix_Cut_con)] []
theorem prefix_Holds_envOk : EnvOk Tryz.prog prefix_Holds_env := envOk tyOk fn_ok (callsCons prefix_Cut_ok callsNil) _
noncomputable def prefix_Holds_con : Con := con [.one (.fl .pfx), .one (.fl .addr)] [.one (.fl .bool)] (fun x => prefix_Holds_t x.1 x.2.1)
theorem prefix_Holds_ok : TrOk Tryz.prog 48 prefix_Holds_con := by
  have h : loopsOf (codeOf Tryz.f48) = [] := by kernel_rfl
  refine con_ok prefix_Holds_envOk Tryz.func48 (bodyOk h lsNil) [.one (.fl .pfx), .one (.fl .addr)] [.one (.fl .bool)] _ (fun x => ?_)
  kernel_rfl

noncomputable def prefix_Over_env : Env := mkEnv ty fnB [(48, prefix_Holds_con)] []
theorem prefix_Over_envOk : EnvOk Tryz.prog prefix_Over_env := envOk tyOk fn_ok (callsCons prefix_Holds_ok callsNil) _
noncomputable def prefix_Over_con : Con := con [.one (.fl .pfx), .one (.fl .pfx)] [.one (.fl .bool)] (fun x => prefix_Over_t x.1 x.2.1)
theorem prefix_Over_ok : TrOk Tryz.prog 26 prefix_Over_con := by
  have h : loopsOf (codeOf Tryz.f26) = [] := by kernel_rfl
  refine con_ok prefix_Over_envOk Tryz.func26 (bodyOk h lsNil) [.one (.fl .pfx), .one (.fl .pfx)] [.one (.fl .bool)] _ (fun x => ?_)
  kernel_rfl

noncomputable def prefix_Has_env : Env := mkEnv ty fnB [(25, prefix_two_con), (26, prefix_Over_con)] []
theorem prefix_Has_envOk : EnvOk Tryz.prog prefix_Has_env := envOk tyOk fn_ok (callsCons prefix_two_ok (callsCons prefix_Over_ok callsNil)) _
noncomputable def prefix_Has_con : Con := con [.one (.fl .pfx), .one (.fl .pfx)] [.one (.fl .bool), .one (.fl .int)] (fun x => prefix_Has_t x.1 x.2.1)
theorem prefix_Has_ok : TrOk Tryz.prog 8 prefix_Has_con := by
  have h : loopsOf (codeOf Tryz.f8) = [] := by kernel_rfl
  refine con_ok prefix_Has_envOk Tryz.func8 (bodyOk h lsNil) [.one (.fl .pfx), .one (.fl .pfx)] [.one (.fl .bool), .one (.fl .int)] _ (fun x => ?_)
  kernel_rfl

noncomputable def internal_bytealg_Cutover_env : Env := mkEnv ty fnB [] []
theorem internal_bytealg_Cutover_envOk : EnvOk Tryz.prog internal_bytealg_Cutover_env := envOk tyOk fn_ok callsNil _
noncomputable def internal_bytealg_Cutover_con : Con := con [.one (.fl .int)] [.one (.fl .int)] (fun x => internal_bytealg_Cutover_t x.1)
theorem internal_bytealg_Cutover_ok : TrOk Tryz.prog 83 internal_bytealg_Cutover_con := by
  have h : loopsOf (codeOf Tryz.f83) = [] := by kernel_rfl
  refine con_ok internal_bytealg_Cutover_envOk Tryz.func83 (bodyOk h lsNil) [.one (.fl .int)] [.one (.fl .int)] _ (fun x => ?_)
  kernel_rfl

noncomputable def internal_strconv_lower_env : Env := mkEnv ty fnB [] []
theorem internal_strconv_lower_envOk : EnvOk Tryz.prog internal_strconv_lower_env := envOk tyOk fn_ok callsNil _
noncomputable def internal_strconv_lower_con : Con := con [.one (.fl .u8)] [.one (.fl .u8)] (fun x => internal_strconv_lower_t x.1)
theorem internal_strconv_lower_ok : TrOk Tryz.prog 112 internal_strconv_lower_con := by
  have h : loopsOf (codeOf Tryz.f112) = [] := by kernel_rfl
  refine con_ok internal_strconv_lower_envOk Tryz.func112 (bodyOk h lsNil) [.one (.fl .u8)] [.one (.fl .u8)] _ (fun x => ?_)
  kernel_rfl

noncomputable def math_bits_Len64_env : Env := mkEnv ty fnB [] []
theorem math_bits_Len64_envOk : EnvOk Tryz.prog math_bits_Len64_env := envOk tyOk fn_ok callsNil _
noncomputable def math_bits_Len64_con : Con := con [.one (.fl .u64)] [.one (.fl .int)] (fun x => math_bits_Len64_t x.1)
theorem math_bits_Len64_ok : TrOk Tryz.prog 106 math_bits_Len64_con := by
  have h : loopsOf (codeOf Tryz.f106) = [] := by kernel_rfl
  refine con_ok math_bits_Len64_envOk Tryz.func106 (bodyOk h lsNil) [.one (.fl .u64)] [.one (.fl .int)] _ (fun x => ?_)
  kernel_rfl

noncomputable def internal_strconv_log10Pow2_env : Env := mkEnv ty fnB [] []
theorem internal_strconv_log10Pow2_envOk : EnvOk Tryz.prog internal_strconv_log10Pow2_env := envOk tyOk fn_ok callsNil _
noncomputable def internal_strconv_log10Pow2_con : Con := con [.one (.fl .int)] [.one (.fl .int)] (fun x => internal_strconv_log10Pow2_t x.1)
theorem internal_strconv_log10Pow2_ok : TrOk Tryz.prog 105 internal_strconv_log10Pow2_con := by
  have h : loopsOf (codeOf Tryz.f105) = [] := by kernel_rfl
  refine con_ok internal_strconv_log10Pow2_envOk Tryz.func105 (bodyOk h lsNil) [.one (.fl .int)] [.one (.fl .int)] _ (fun x => ?_)
  kernel_rfl

noncomputable def internal_strconv_bool2_int__env : Env := mkEnv ty fnB [] []
theorem internal_strconv_bool2_int__envOk : EnvOk Tryz.prog internal_strconv_bool2_int__env := envOk tyOk fn_ok callsNil _
noncomputable def internal_strconv_bool2_int__con : Con := con [.one (.fl .bool)] [.one (.fl .int)] (fun x => internal_strconv_bool2_int__t x.1)
theorem internal_strconv_bool2_int__ok : TrOk Tryz.prog 107 internal_strconv_bool2_int__con := by
  have h : loopsOf (codeOf Tryz.f107) = [] := by kernel_rfl
  refine con_ok internal_strconv_bool2_int__envOk Tryz.func107 (bodyOk h lsNil) [.one (.fl .bool)] [.one (.fl .int)] _ (fun x => ?_)
  kernel_rfl

noncomputable def internal_strconv_isPowerOfTwo_env : Env := mkEnv ty fnB [] []
theorem internal_strconv_isPowerOfTwo_envOk : EnvOk Tryz.prog internal_strconv_isPowerOfTwo_env := envOk tyOk fn_ok callsNil _
noncomputable def internal_strconv_isPowerOfTwo_con : Con := con [.one (.fl .int)] [.one (.fl .bool)] (fun x => internal_strconv_isPowerOfTwo_t x.1)
theorem internal_strconv_isPowerOfTwo_ok : TrOk Tryz.prog 108 internal_strconv_isPowerOfTwo_con := by
  have h : loopsOf (codeOf Tryz.f108) = [] := by kernel_rfl
  refine con_ok internal_strconv_isPowerOfTwo_envOk Tryz.func108 (bodyOk h lsNil) [.one (.fl .int)] [.one (.fl .bool)] _ (fun x => ?_)
  kernel_rfl

noncomputable def law_v4_env : Env := mkEnv ty fnB [] []
theorem law_v4_envOk : EnvOk Tryz.prog law_v4_env := envOk tyOk fn_ok callsNil _
noncomputable def law_v4_con : Con := con [.one (.fl .u64)] [.one (.fl .addr)] (fun x => law_v4_t x.1)
theorem law_v4_ok : TrOk Tryz.prog 29 law_v4_con := by
  have h : loopsOf (codeOf Tryz.f29) = [] := by kernel_rfl
  refine con_ok law_v4_envOk Tryz.func29 (bodyOk h lsNil) [.one (.fl .u64)] [.one (.fl .addr)] _ (fun x => ?_)
  kernel_rfl

noncomputable def law_net_env : Env := mkEnv ty fnB [(29, law_v4_con)] []
theorem law_net_envOk : EnvOk Tryz.prog law_net_env := envOk tyOk fn_ok (callsCons law_v4_ok callsNil) _
noncomputable def law_net_con : Con := con [.one (.fl .u64), .one (.fl .int)] [.one (.fl .pfx)] (fun x => law_net_t x.1 x.2.1)
theorem law_net_ok : TrOk Tryz.prog 27 law_net_con := by
  have h : loopsOf (codeOf Tryz.f27) = [] := by kernel_rfl
  refine con_ok law_net_envOk Tryz.func27 (bodyOk h lsNil) [.one (.fl .u64), .one (.fl .int)] [.one (.fl .pfx)] _ (fun x => ?_)
  kernel_rfl

noncomputable def prefix_Last_env : Env := mkEnv ty fnB [(52, prefix_mask_con)] []
theorem prefix_Last_envOk : EnvOk Tryz.prog prefix_Last_env := envOk tyOk fn_ok (callsCons prefix_mask_ok callsNil) _
noncomputable def prefix_Last_con : Con := con [.one (.fl .pfx)] [.one (.fl .addr)] (fun x => prefix_Last_t x.1)
theorem prefix_Last_ok : TrOk Tryz.prog 32 prefix_Last_con := by
  have h : loopsOf (codeOf Tryz.f32) = [] := by kernel_rfl
  refine con_ok prefix_Last_envOk Tryz.func32 (bodyOk h lsNil) [.one (.fl .pfx)] [.one (.fl .addr)] _ (fun x => ?_)
  kernel_rfl

noncomputable def prefix_Ends_env : Env := mkEnv ty fnB [(28, prefix_Check_con), (32, prefix_Last_con)] []
theorem prefix_Ends_envOk : EnvOk Tryz.prog prefix_Ends_env := envOk tyOk fn_ok (callsCons prefix_Check_ok (callsCons prefix_Last_ok callsNil)) _
noncomputable def prefix_Ends_con : Con := con [.one (.fl .pfx)] [.one (.fl .addr), .one (.fl .addr), .one (.fl .int)] (fun x => prefix_Ends_t x.1)
theorem prefix_Ends_ok : TrOk Tryz.prog 11 prefix_Ends_con := by
  have h : loopsOf (codeOf Tryz.f11) = [] := by kernel_rfl
  refine con_ok prefix_Ends_envOk Tryz.func11 (bodyOk h lsNil) [.one (.fl .pfx)] [.one (.fl .addr), .one (.fl .addr), .one (.fl .int)] _ (fun x => ?_)
  kernel_rfl

noncomputable def addr_After_env : Env := mkEnv ty fnB [] []
theorem addr_After_envOk : EnvOk Tryz.prog addr_After_env := envOk tyOk fn_ok callsNil _
noncomputable def addr_After_con : Con := con [.one (.fl .addr)] [.one (.fl .addr), .one (.fl .bool)] (fun x => addr_After_t x.1)
theorem addr_After_ok : TrOk Tryz.prog 40 addr_After_con := by
  have h : loopsOf (codeOf Tryz.f40) = [] := by kernel_rfl
  refine con_ok addr_After_envOk Tryz.func40 (bodyOk h lsNil) [.one (.fl .addr)] [.one (.fl .addr), .one (.fl .bool)] _ (fun x => ?_)
  kernel_rfl

noncomputable def prefix_Split_env : Env := mkEnv ty fnB [(32, prefix_Last_con), (40, addr_After_con)] []
theorem prefix_Split_envOk : EnvOk Tryz.prog prefix_Split_env := envOk tyOk fn_ok (callsCons prefix_Last_ok (callsCons addr_After_ok callsNil)) _
noncomputable def prefix_Split_con : Con := con [.one (.fl .pfx)] [.one (.fl .pfx), .one (.fl .pfx)] (fun x => prefix_Split_t x.1)
theorem prefix_Split_ok : TrOk Tryz.prog 35 prefix_Split_con := by
  have h : loopsOf (codeOf Tryz.f35) = [] := by kernel_rfl
  refine con_ok prefix_Split_envOk Tryz.func35 (bodyOk h lsNil) [.one (.fl .pfx)] [.one (.fl .pfx), .one (.fl .pfx)] _ (fun x => ?_)
  kernel_rfl

noncomputable def prefix_Halves_env : Env := mkEnv ty fnB [(28, prefix_Check_con), (34, prefix_Wide_con), (35, prefix_Split_con)] []
theorem prefix_Halves_envOk : EnvOk Tryz.prog prefix_Halves_env := envOk tyOk fn_ok (callsCons prefix_Check_ok (callsCons prefix_Wide_ok (callsCons prefix_Split_ok callsNil))) _
noncomputable def prefix_Halves_con : Con := con [.one (.fl .pfx)] [.one (.fl .pfx), .one (.fl .pfx), .one (.fl .int)] (fun x => prefix_Halves_t x.1)
theorem prefix_Halves_ok : TrOk Tryz.prog 13 prefix_Halves_con := by
  have h : loopsOf (codeOf Tryz.f13) = [] := by kernel_rfl
  refine con_ok prefix_Halves_envOk Tryz.func13 (bodyOk h lsNil) [.one (.fl .pfx)] [.one (.fl .pfx), .one (.fl .pfx), .one (.fl .int)] _ (fun x => ?_)
  kernel_rfl

noncomputable def prefix_Joined_env : Env := mkEnv ty fnB [(49, prefix_Cut_con), (35, prefix_Split_con)] []
theorem prefix_Joined_envOk : EnvOk Tryz.prog prefix_Joined_env := envOk tyOk fn_ok (callsCons prefix_Cut_ok (callsCons prefix_Split_ok callsNil)) _
noncomputable def prefix_Joined_con : Con := con [.one (.fl .pfx), .one (.fl .pfx)] [.one (.fl .pfx), .one (.fl .bool)] (fun x => prefix_Joined_t x.1 x.2.1)
theorem prefix_Joined_ok : TrOk Tryz.prog 39 prefix_Joined_con := by
  have h : loopsOf (codeOf Tryz.f39) = [] := by kernel_rfl
  refine con_ok prefix_Joined_envOk Tryz.func39 (bodyOk h lsNil) [.one (.fl .pfx), .one (.fl .pfx)] [.one (.fl .pfx), .one (.fl .bool)] _ (fun x => ?_)
  kernel_rfl

noncomputable def prefix_Whole_env : Env := mkEnv ty fnB [(25, prefix_two_con), (39, prefix_Joined_con)] []
theorem prefix_Whole_envOk : EnvOk Tryz.prog prefix_Whole_env := envOk tyOk fn_ok (callsCons prefix_two_ok (callsCons prefix_Joined_ok callsNil)) _
noncomputable def prefix_Whole_con : Con := con [.one (.fl .pfx), .one (.fl .pfx)] [.one (.fl .pfx), .one (.fl .int)] (fun x => prefix_Whole_t x.1 x.2.1)
theorem prefix_Whole_ok : TrOk Tryz.prog 16 prefix_Whole_con := by
  have h : loopsOf (codeOf Tryz.f16) = [] := by kernel_rfl
  refine con_ok prefix_Whole_envOk Tryz.func16 (bodyOk h lsNil) [.one (.fl .pfx), .one (.fl .pfx)] [.one (.fl .pfx), .one (.fl .int)] _ (fun x => ?_)
  kernel_rfl

noncomputable def addr_group_env : Env := mkEnv ty fnB [] []
theorem addr_group_envOk : EnvOk Tryz.prog addr_group_env := envOk tyOk fn_ok callsNil _
noncomputable def addr_group_con : Con := con [.one (.fl .addr), .one (.fl .int)] [.one (.fl .u64)] (fun x => addr_group_t x.1 x.2.1)
theorem addr_group_ok : TrOk Tryz.prog 79 addr_group_con := by
  have h : loopsOf (codeOf Tryz.f79) = [] := by kernel_rfl
  refine con_ok addr_group_envOk Tryz.func79 (bodyOk h lsNil) [.one (.fl .addr), .one (.fl .int)] [.one (.fl .u64)] _ (fun x => ?_)
  kernel_rfl

def addr_row_L2_S : LoopS := { n := 21, base := 0, head := { keep := [1, 2, 5], vals := [.one (.fl .int), .one (.cst (.ptr 0 0)), .one (.fl .int)], objs := [.blk [.fl .addr] 24 true] }, exits := [⟨some 0, { keep := [5], vals := [.one (.fl .int)], objs := [] }⟩] }
noncomputable def addr_row_env : Env := mkEnv ty fnB [(79, addr_group_con)] [(2, (loopTr addr_row_L2_S (loopN addr_row_L2 FUEL)))]
theorem addr_row_envOk : EnvOk Tryz.prog addr_row_env := envOk tyOk fn_ok (callsCons addr_group_ok callsNil) _
theorem addr_row_L2_ok : LOk Tryz.prog (nthLoop (codeOf Tryz.f78) 0) (loopTr addr_row_L2_S (loopN addr_row_L2 FUEL)) := by
  have h : loopsOf (nthLoop (codeOf Tryz.f78) 0) = [] := by kernel_rfl
  refine loop_ok addr_row_envOk (loopsOk h lsNil) addr_row_L2_S addr_row_L2 FUEL (fun rec x => ?_)
  kernel_rfl
noncomputable def addr_row_con : Con := con [.one (.fl .addr), .one (.fl .int)] [.one (.fl .int)] (fun x => addr_row_t x.1 x.2.1)
theorem addr_row_ok : TrOk Tryz.prog 78 addr_row_con := by
  have h : loopsOf (codeOf Tryz.f78) = [(nthLoop (codeOf Tryz.f78) 0)] := by kernel_rfl
  refine con_ok addr_row_envOk Tryz.func78 (bodyOk h (lsCons (one_loop (t := (loopTr addr_row_L2_S (loopN addr_row_L2 FUEL))) (by kernel_rfl) addr_row_L2_ok) lsNil)) [.one (.fl .addr), .one (.fl .int)] [.one (.fl .int)] _ (fun x => ?_)
  kernel_rfl

def addr_longest_L3_S : LoopS := { n := 24, base := 0, head := { keep := [1, 4, 5, 8], vals := [.one (.cst (.ptr 0 0)), .one (.fl .int), .one (.fl .int), .one (.fl .int)], objs := [.blk [.fl .addr] 24 true] }, exits := [⟨some 0, { keep := [4, 5], vals := [.one (.fl .int), .one (.fl .int)], objs := [] }⟩] }
noncomputable def addr_longest_env : Env := mkEnv ty fnB [(78, addr_row_con)] [(3, (loopTr addr_longest_L3_S (loopN addr_longest_L3 FUEL)))]
theorem addr_longest_envOk : EnvOk Tryz.prog addr_longest_env := envOk tyOk fn_ok (callsCons addr_row_ok callsNil) _
theorem addr_longest_L3_ok : LOk Tryz.prog (nthLoop (codeOf Tryz.f64) 0) (loopTr addr_longest_L3_S (loopN addr_longest_L3 FUEL)) := by
  have h : loopsOf (nthLoop (codeOf Tryz.f64) 0) = [] := by kernel_rfl
  refine loop_ok addr_longest_envOk (loopsOk h lsNil) addr_longest_L3_S addr_longest_L3 FUEL (fun rec x => ?_)
  kernel_rfl
noncomputable def addr_longest_con : Con := con [.one (.fl .addr)] [.one (.fl .int), .one (.fl .int)] (fun x => addr_longest_t x.1)
theorem addr_longest_ok : TrOk Tryz.prog 64 addr_longest_con := by
  have h : loopsOf (codeOf Tryz.f64) = [(nthLoop (codeOf Tryz.f64) 0)] := by kernel_rfl
  refine con_ok addr_longest_envOk Tryz.func64 (bodyOk h (lsCons (one_loop (t := (loopTr addr_longest_L3_S (loopN addr_longest_L3 FUEL))) (by kernel_rfl) addr_longest_L3_ok) lsNil)) [.one (.fl .addr)] [.one (.fl .int), .one (.fl .int)] _ (fun x => ?_)
  kernel_rfl

noncomputable def addr_Next_env : Env := mkEnv ty fnB [(18, addr_Check_con), (40, addr_After_con)] []
theorem addr_Next_envOk : EnvOk Tryz.prog addr_Next_env := envOk tyOk fn_ok (callsCons addr_Check_ok (callsCons addr_After_ok callsNil)) _
noncomputable def addr_Next_con : Con := con [.one (.fl .addr)] [.one (.fl .addr), .one (.fl .bool), .one (.fl .int)] (fun x => addr_Next_t x.1)
theorem addr_Next_ok : TrOk Tryz.prog 17 addr_Next_con := by
  have h : loopsOf (codeOf Tryz.f17) = [] := by kernel_rfl
  refine con_ok addr_Next_envOk Tryz.func17 (bodyOk h lsNil) [.one (.fl .addr)] [.one (.fl .addr), .one (.fl .bool), .one (.fl .int)] _ (fun x => ?_)
  kernel_rfl

noncomputable def addr_Order_1_env : Env := mkEnv ty fnB [] []
theorem addr_Order_1_envOk : EnvOk Tryz.prog addr_Order_1_env := envOk tyOk fn_ok callsNil _
noncomputable def addr_Order_1_con : Con := con [.one (.fl .u64), .one (.fl .u64)] [.one (.fl .int)] (fun x => addr_Order_1_t x.1 x.2.1)
theorem addr_Order_1_ok : TrOk Tryz.prog 53 addr_Order_1_con := by
  have h : loopsOf (codeOf Tryz.f53) = [] := by kernel_rfl
  refine con_ok addr_Order_1_envOk Tryz.func53 (bodyOk h lsNil) [.one (.fl .u64), .one (.fl .u64)] [.one (.fl .int)] _ (fun x => ?_)
  kernel_rfl

noncomputable def addr_Order_env : Env := mkEnv ty fnB [(53, addr_Order_1_con)] []
theorem addr_Order_envOk : EnvOk Tryz.prog addr_Order_env := envOk tyOk fn_ok (callsCons addr_Order_1_ok callsNil) _
noncomputable def addr_Order_con : Con := con [.one (.fl .addr), .one (.fl .addr)] [.one (.fl .int)] (fun x => addr_Order_t x.1 x.2.1)
theorem addr_Order_ok : TrOk Tryz.prog 33 addr_Order_con := by
  have h : loopsOf (codeOf Tryz.f33) = [] := by kernel_rfl
  refine con_ok addr_Order_envOk Tryz.func33 (bodyOk h lsNil) [.one (.fl .addr), .one (.fl .addr)] [.one (.fl .int)] _ (fun x => ?_)
  kernel_rfl

def addr_Less_L2_S : LoopS := { n := 27, base := 0, head := { keep := [2, 3, 11, 12, 13], vals := [.one (.cst (.ptr 0 0)), .one (.cst (.ptr 1 0)), .one (.cst (.row 2)), .one (.fl .int), .one (.fl .int)], objs := [.blk [.fl .addr] 24 true, .blk [.fl .addr] 24 true, .row .addr 24 true] }, exits := [⟨none, { keep := [4, 5], vals := [.one (.fl .bool), .one (.fl .int)], objs := [] }⟩, ⟨some 0, { keep := [2, 3], vals := [.one (.cst (.ptr 0 0)), .one (.cst (.ptr 1 0))], objs := [.blk [.fl .addr] 24 true, .blk [.fl .addr] 24 true] }⟩] }
noncomputable def addr_Less_env : Env := mkEnv ty fnB [(18, addr_Check_con), (33, addr_Order_con)] [(2, (loopTr addr_Less_L2_S (loopN addr_Less_L2 FUEL)))]
theorem addr_Less_envOk : EnvOk Tryz.prog addr_Less_env := envOk tyOk fn_ok (callsCons addr_Check_ok (callsCons addr_Order_ok callsNil)) _
theorem addr_Less_L2_ok : LOk Tryz.prog (nthLoop (codeOf Tryz.f12) 0) (loopTr addr_Less_L2_S (loopN addr_Less_L2 FUEL)) := by
  have h : loopsOf (nthLoop (codeOf Tryz.f12) 0) = [] := by kernel_rfl
  refine loop_ok addr_Less_envOk (loopsOk h lsNil) addr_Less_L2_S addr_Less_L2 FUEL (fun rec x => ?_)
  kernel_rfl
noncomputable def addr_Less_con : Con := con [.one (.fl .addr), .one (.fl .addr)] [.one (.fl .bool), .one (.fl .int)] (fun x => addr_Less_t x.1 x.2.1)
theorem addr_Less_ok : TrOk Tryz.prog 12 addr_Less_con := by
  have h : loopsOf (codeOf Tryz.f12) = [(nthLoop (codeOf Tryz.f12) 0)] := by kernel_rfl
  refine con_ok addr_Less_envOk Tryz.func12 (bodyOk h (lsCons (one_loop (t := (loopTr addr_Less_L2_S (loopN addr_Less_L2 FUEL))) (by kernel_rfl) addr_Less_L2_ok) lsNil)) [.one (.fl .addr), .one (.fl .addr)] [.one (.fl .bool), .one (.fl .int)] _ (fun x => ?_)
  kernel_rfl

noncomputable def R_wide_env : Env := mkEnv ty fnB [] []
theorem R_wide_envOk : EnvOk Tryz.prog R_wide_env := envOk tyOk fn_ok callsNil _
noncomputable def R_wide_con : Con := con [.one (.fl .addr)] [.one (.fl .int)] (fun x => R_wide_t x.1)
theorem R_wide_ok : TrOk Tryz.prog 41 R_wide_con := by
  have h : loopsOf (codeOf Tryz.f41) = [] := by kernel_rfl
  refine con_ok R_wide_envOk Tryz.func41 (bodyOk h lsNil) [.one (.fl .addr)] [.one (.fl .int)] _ (fun x => ?_)
  kernel_rfl

noncomputable def R_Host_env : Env := mkEnv ty fnB [(41, R_wide_con)] []
theorem R_Host_envOk : EnvOk Tryz.prog R_Host_env := envOk tyOk fn_ok (callsCons R_wide_ok callsNil) _
noncomputable def R_Host_con : Con := con [.one (.fl .addr)] [.one (.fl .pfx)] (fun x => R_Host_t x.1)
theorem R_Host_ok : TrOk Tryz.prog 19 R_Host_con := by
  have h : loopsOf (codeOf Tryz.f19) = [] := by kernel_rfl
  refine con_ok R_Host_envOk Tryz.func19 (bodyOk h lsNil) [.one (.fl .addr)] [.one (.fl .pfx)] _ (fun x => ?_)
  kernel_rfl

noncomputable def law_routes_env : Env := mkEnv ty fnB [(27, law_net_con)] []
theorem law_routes_envOk : EnvOk Tryz.prog law_routes_env := envOk tyOk fn_ok (callsCons law_net_ok callsNil) _
noncomputable def law_routes_con : Con := con [] [.one (.row .pfx 26)] (fun x => law_routes_t)
theorem law_routes_ok : TrOk Tryz.prog 42 law_routes_con := by
  have h : loopsOf (codeOf Tryz.f42) = [] := by kernel_rfl
  refine con_ok law_routes_envOk Tryz.func42 (bodyOk h lsNil) [] [.one (.row .pfx 26)] _ (fun x => ?_)
  kernel_rfl

noncomputable def prefix_Order_env : Env := mkEnv ty fnB [(33, addr_Order_con)] []
theorem prefix_Order_envOk : EnvOk Tryz.prog prefix_Order_env := envOk tyOk fn_ok (callsCons addr_Order_ok callsNil) _
noncomputable def prefix_Order_con : Con := con [.one (.fl .pfx), .one (.fl .pfx)] [.one (.fl .int)] (fun x => prefix_Order_t x.1 x.2.1)
theorem prefix_Order_ok : TrOk Tryz.prog 43 prefix_Order_con := by
  have h : loopsOf (codeOf Tryz.f43) = [] := by kernel_rfl
  refine con_ok prefix_Order_envOk Tryz.func43 (bodyOk h lsNil) [.one (.fl .pfx), .one (.fl .pfx)] [.one (.fl .int)] _ (fun x => ?_)
  kernel_rfl

def table_Check_L4_S : LoopS := { n := 47, base := 1, head := { keep := [0, 9, 10, 11], vals := [.one (.cst (.row 0)), .one (.cst (.row 0)), .one (.fl .int), .one (.fl .int)], objs := [.row .pfx 26 false] }, exits := [⟨none, { keep := [2], vals := [.one (.fl .int)], objs := [.row .pfx 26 false] }⟩, ⟨some 0, { keep := [], vals := [], objs := [.row .pfx 26 false] }⟩] }
noncomputable def table_Check_env : Env := mkEnv ty fnB [(28, prefix_Check_con), (43, prefix_Order_con)] [(4, (loopTr table_Check_L4_S (loopN table_Check_L4 FUEL)))]
theorem table_Check_envOk : EnvOk Tryz.prog table_Check_env := envOk tyOk fn_ok (callsCons prefix_Check_ok (callsCons prefix_Order_ok callsNil)) _
theorem table_Check_L4_ok : LOk Tryz.prog (nthLoop (codeOf Tryz.f21) 0) (loopTr table_Check_L4_S (loopN table_Check_L4 FUEL)) := by
  have h : loopsOf (nthLoop (codeOf Tryz.f21) 0) = [] := by kernel_rfl
  refine loop_ok table_Check_envOk (loopsOk h lsNil) table_Check_L4_S table_Check_L4 FUEL (fun rec x => ?_)
  kernel_rfl
noncomputable def table_Check_con : Con := con [.one (.row .pfx 26)] [.one (.fl .int)] (fun x => table_Check_t x.1)
theorem table_Check_ok : TrOk Tryz.prog 21 table_Check_con := by
  have h : loopsOf (codeOf Tryz.f21) = [(nthLoop (codeOf Tryz.f21) 0)] := by kernel_rfl
  refine con_ok table_Check_envOk Tryz.func21 (bodyOk h (lsCons (one_loop (t := (loopTr table_Check_L4_S (loopN table_Check_L4 FUEL))) (by kernel_rfl) table_Check_L4_ok) lsNil)) [.one (.row .pfx 26)] [.one (.fl .int)] _ (fun x => ?_)
  kernel_rfl

noncomputable def table_Find_1_env : Env := mkEnv ty fnB [(48, prefix_Holds_con)] []
theorem table_Find_1_envOk : EnvOk Tryz.prog table_Find_1_env := envOk tyOk fn_ok (callsCons prefix_Holds_ok callsNil) _
noncomputable def table_Find_1_con : Con := con [.one (.fl .int), .ref [.row .pfx 26] 48, .ref [.fl .addr] 24] [.one (.fl .bool)] (fun x => table_Find_1_t x.1 x.2.1.1 x.2.2.1.1)
theorem table_Find_1_ok : TrOk Tryz.prog 47 table_Find_1_con := by
  have h : loopsOf (codeOf Tryz.f47) = [] := by kernel_rfl
  refine con_ok table_Find_1_envOk Tryz.func47 (bodyOk h lsNil) [.one (.fl .int), .ref [.row .pfx 26] 48, .ref [.fl .addr] 24] [.one (.fl .bool)] _ (fun x => ?_)
  kernel_rfl

def table_Find_table_nearest_L3_S : LoopS := { n := 35, base := 3, head := { keep := [0, 1, 5, 8, 9, 10], vals := [.one (.cst (.row 0)), .one (.cst (.fn 47 [.ptr 1 0, .ptr 2 0])), .one (.fl .int), .one (.cst (.row 0)), .one (.fl .int), .one (.fl .int)], objs := [.row .pfx 26 false, .blk [.cst (.row 0)] 48 true, .blk [.fl .addr] 24 true] }, exits := [⟨some 0, { keep := [5], vals := [.one (.fl .int)], objs := [.row .pfx 26 false, .blk [.cst (.row 0)] 48 true, .blk [.fl .addr] 24 true] }⟩] }
noncomputable def table_Find_table_nearest_env : Env := mkEnv ty fnB [(47, table_Find_1_con)] [(3, (loopTr table_Find_table_nearest_L3_S (loopN table_Find_table_nearest_L3 FUEL)))]
theorem table_Find_table_nearest_envOk : EnvOk Tryz.prog table_Find_table_nearest_env := envOk tyOk fn_ok (callsCons table_Find_1_ok callsNil) _
theorem table_Find_table_nearest_L3_ok : LOk Tryz.prog (nthLoop (codeOf Tryz.f46) 0) (loopTr table_Find_table_nearest_L3_S (loopN table_Find_table_nearest_L3 FUEL)) := by
  have h : loopsOf (nthLoop (codeOf Tryz.f46) 0) = [] := by kernel_rfl
  refine loop_ok table_Find_table_nearest_envOk (loopsOk h lsNil) table_Find_table_nearest_L3_S table_Find_table_nearest_L3 FUEL (fun rec x => ?_)
  kernel_rfl
theorem table_Find_table_nearest_inl : TrOk Tryz.prog 46 (inlCon table_Find_table_nearest_env Tryz.f46) := by
  have h : loopsOf (codeOf Tryz.f46) = [(nthLoop (codeOf Tryz.f46) 0)] := by kernel_rfl
  exact inl_ok table_Find_table_nearest_envOk Tryz.func46 (bodyOk h (lsCons (one_loop (t := (loopTr table_Find_table_nearest_L3_S (loopN table_Find_table_nearest_L3 FUEL))) (by kernel_rfl) table_Find_table_nearest_L3_ok) lsNil))

def table_Find_table_nearest_1_L3_S : LoopS := { n := 35, base := 3, head := { keep := [0, 1, 5, 8, 9, 10], vals := [.one (.cst (.row 0)), .one (.cst (.fn 47 [.ptr 1 0, .ptr 2 0])), .one (.fl .int), .one (.cst (.row 0)), .one (.fl .int), .one (.fl .int)], objs := [.row .pfx 26 false, .blk [.cst (.row 0)] 48 true, .blk [.fl .addr] 24 true] }, exits := [⟨some 0, { keep := [5], vals := [.one (.fl .int)], objs := [.row .pfx 26 false, .blk [.cst (.row 0)] 48 true, .blk [.fl .addr] 24 true] }⟩] }
noncomputable def table_Find_table_nearest_1_env : Env := mkEnv ty fnB [(47, table_Find_1_con)] [(3, (loopTr table_Find_table_nearest_1_L3_S (loopN table_Find_table_nearest_1_L3 FUEL)))]
theorem table_Find_table_nearest_1_envOk : EnvOk Tryz.prog table_Find_table_nearest_1_env := envOk tyOk fn_ok (callsCons table_Find_1_ok callsNil) _
theorem table_Find_table_nearest_1_L3_ok : LOk Tryz.prog (nthLoop (codeOf Tryz.f46) 0) (loopTr table_Find_table_nearest_1_L3_S (loopN table_Find_table_nearest_1_L3 FUEL)) := by
  have h : loopsOf (nthLoop (codeOf Tryz.f46) 0) = [] := by kernel_rfl
  refine loop_ok table_Find_table_nearest_1_envOk (loopsOk h lsNil) table_Find_table_nearest_1_L3_S table_Find_table_nearest_1_L3 FUEL (fun rec x => ?_)
  kernel_rfl
theorem table_Find_table_nearest_1_inl : TrOk Tryz.prog 46 (inlCon table_Find_table_nearest_1_env Tryz.f46) := by
  have h : loopsOf (codeOf Tryz.f46) = [(nthLoop (codeOf Tryz.f46) 0)] := by kernel_rfl
  exact inl_ok table_Find_table_nearest_1_envOk Tryz.func46 (bodyOk h (lsCons (one_loop (t := (loopTr table_Find_table_nearest_1_L3_S (loopN table_Find_table_nearest_1_L3 FUEL))) (by kernel_rfl) table_Find_table_nearest_1_L3_ok) lsNil))

noncomputable def table_Find_env : Env := mkEnv ty fnB [(21, table_Check_con), (18, addr_Check_con), (46, (inlCon table_Find_table_nearest_env Tryz.f46))] []
theorem table_Find_envOk : EnvOk Tryz.prog table_Find_env := envOk tyOk fn_ok (callsCons table_Check_ok (callsCons addr_Check_ok (callsCons table_Find_table_nearest_inl callsNil))) _
noncomputable def table_Find_con : Con := con [.one (.row .pfx 26), .one (.fl .addr)] [.one (.fl .int), .one (.fl .int)] (fun x => table_Find_t x.1 x.2.1)
theorem table_Find_ok : TrOk Tryz.prog 24 table_Find_con := by
  have h : loopsOf (codeOf Tryz.f24) = [] := by kernel_rfl
  refine con_ok table_Find_envOk Tryz.func24 (bodyOk h lsNil) [.one (.row .pfx 26), .one (.fl .addr)] [.one (.fl .int), .one (.fl .int)] _ (fun x => ?_)
  kernel_rfl

noncomputable def table_ready_env : Env := mkEnv ty fnB [(21, table_Check_con)] []
theorem table_ready_envOk : EnvOk Tryz.prog table_ready_env := envOk tyOk fn_ok (callsCons table_Check_ok callsNil) _
noncomputable def table_ready_con : Con := con [.one (.row .pfx 26), .one (.fl .int)] [.one (.fl .int)] (fun x => table_ready_t x.1 x.2.1)
theorem table_ready_ok : TrOk Tryz.prog 44 table_ready_con := by
  have h : loopsOf (codeOf Tryz.f44) = [] := by kernel_rfl
  refine con_ok table_ready_envOk Tryz.func44 (bodyOk h lsNil) [.one (.row .pfx 26), .one (.fl .int)] [.one (.fl .int)] _ (fun x => ?_)
  kernel_rfl

noncomputable def table_above_1_env : Env := mkEnv ty fnB [(26, prefix_Over_con)] []
theorem table_above_1_envOk : EnvOk Tryz.prog table_above_1_env := envOk tyOk fn_ok (callsCons prefix_Over_ok callsNil) _
noncomputable def table_above_1_con : Con := con [.one (.fl .int), .ref [.fl .int] 3, .ref [.row .pfx 26] 48] [.one (.fl .bool)] (fun x => table_above_1_t x.1 x.2.1.1 x.2.2.1.1)
theorem table_above_1_ok : TrOk Tryz.prog 57 table_above_1_con := by
  have h : loopsOf (codeOf Tryz.f57) = [] := by kernel_rfl
  refine con_ok table_above_1_envOk Tryz.func57 (bodyOk h lsNil) [.one (.fl .int), .ref [.fl .int] 3, .ref [.row .pfx 26] 48] [.one (.fl .bool)] _ (fun x => ?_)
  kernel_rfl

def table_above_table_nearest_L3_S : LoopS := { n := 35, base := 3, head := { keep := [0, 1, 5, 8, 9, 10], vals := [.one (.cst (.row 0)), .one (.cst (.fn 57 [.ptr 2 0, .ptr 1 0])), .one (.fl .int), .one (.cst (.row 0)), .one (.fl .int), .one (.fl .int)], objs := [.row .pfx 26 false, .blk [.cst (.row 0)] 48 true, .blk [.fl .int] 3 true] }, exits := [⟨some 0, { keep := [5], vals := [.one (.fl .int)], objs := [.row .pfx 26 false, .blk [.cst (.row 0)] 48 true, .blk [.fl .int] 3 true] }⟩] }
noncomputable def table_above_table_nearest_env : Env := mkEnv ty fnB [(57, table_above_1_con)] [(3, (loopTr table_above_table_nearest_L3_S (loopN table_above_table_nearest_L3 FUEL)))]
theorem table_above_table_nearest_envOk : EnvOk Tryz.prog table_above_table_nearest_env := envOk tyOk fn_ok (callsCons table_above_1_ok callsNil) _
theorem table_above_table_nearest_L3_ok : LOk Tryz.prog (nthLoop (codeOf Tryz.f46) 0) (loopTr table_above_table_nearest_L3_S (loopN table_above_table_nearest_L3 FUEL)) := by
  have h : loopsOf (nthLoop (codeOf Tryz.f46) 0) = [] := by kernel_rfl
  refine loop_ok table_above_table_nearest_envOk (loopsOk h lsNil) table_above_table_nearest_L3_S table_above_table_nearest_L3 FUEL (fun rec x => ?_)
  kernel_rfl
theorem table_above_table_nearest_inl : TrOk Tryz.prog 46 (inlCon table_above_table_nearest_env Tryz.f46) := by
  have h : loopsOf (codeOf Tryz.f46) = [(nthLoop (codeOf Tryz.f46) 0)] := by kernel_rfl
  exact inl_ok table_above_table_nearest_envOk Tryz.func46 (bodyOk h (lsCons (one_loop (t := (loopTr table_above_table_nearest_L3_S (loopN table_above_table_nearest_L3 FUEL))) (by kernel_rfl) table_above_table_nearest_L3_ok) lsNil))

noncomputable def table_above_env : Env := mkEnv ty fnB [(46, (inlCon table_above_table_nearest_env Tryz.f46))] []
theorem table_above_envOk : EnvOk Tryz.prog table_above_env := envOk tyOk fn_ok (callsCons table_above_table_nearest_inl callsNil) _
noncomputable def table_above_con : Con := con [.one (.row .pfx 26), .one (.fl .int)] [.one (.fl .int)] (fun x => table_above_t x.1 x.2.1)
theorem table_above_ok : TrOk Tryz.prog 45 table_above_con := by
  have h : loopsOf (codeOf Tryz.f45) = [] := by kernel_rfl
  refine con_ok table_above_envOk Tryz.func45 (bodyOk h lsNil) [.one (.row .pfx 26), .one (.fl .int)] [.one (.fl .int)] _ (fun x => ?_)
  kernel_rfl

noncomputable def table_Above_env : Env := mkEnv ty fnB [(44, table_ready_con), (45, table_above_con)] []
theorem table_Above_envOk : EnvOk Tryz.prog table_Above_env := envOk tyOk fn_ok (callsCons table_ready_ok (callsCons table_above_ok callsNil)) _
noncomputable def table_Above_con : Con := con [.one (.row .pfx 26), .one (.fl .int)] [.one (.fl .int), .one (.fl .int)] (fun x => table_Above_t x.1 x.2.1)
theorem table_Above_ok : TrOk Tryz.prog 23 table_Above_con := by
  have h : loopsOf (codeOf Tryz.f23) = [] := by kernel_rfl
  refine con_ok table_Above_envOk Tryz.func23 (bodyOk h lsNil) [.one (.row .pfx 26), .one (.fl .int)] [.one (.fl .int), .one (.fl .int)] _ (fun x => ?_)
  kernel_rfl

end Go.Proofs.YtaicmdnpjgijjaaGreatDoor
