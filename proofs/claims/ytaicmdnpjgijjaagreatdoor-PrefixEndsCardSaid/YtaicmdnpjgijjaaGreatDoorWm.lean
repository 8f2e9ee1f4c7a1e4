/-
  The program's functions come to their plain forms: those that hang on the contracts made by hand. Written by a program of mine.
-/
import Derived.Test.YtaicmdnpjgijjaaGreatDoorQb
import Derived.Test.YtaicmdnpjgijjaaGreatDoorQr
import Derived.Test.YtaicmdnpjgijjaaGreatDoorQo
import Derived.Test.YtaicmdnpjgijjaaGreatDoorWk
import Derived.Test.YtaicmdnpjgijjaaGreatDoorPm
namespace Go.Proofs.YtaicmdnpjgijjaaGreatDoor
open Go Go.Ma
noncomputable def internal_stringslite_Cut_env : Env := mkEnv ty fnB [(67, internal_stringslite_Index_con)] []
theorem internal_stringslite_Cut_envOk : EnvOk Tryz.prog internal_stringslite_Cut_env := envOk tyOk fn_ok (callsCons internal_stringslite_Index_ok callsNil) _
noncomputable def internal_stringslite_Cut_con : Con := con [.one (.fl .str), .one (.fl .str)] [.one (.fl .str), .one (.fl .str), .one (.fl .bool)] (fun x => internal_stringslite_Cut_t x.1 x.2.1)
theorem internal_stringslite_Cut_ok : TrOk Tryz.prog 55 internal_stringslite_Cut_con := by
  have h : loopsOf (codeOf Tryz.f55) = [] := by kernel_rfl
  refine con_ok internal_stringslite_Cut_envOk Tryz.func55 (bodyOk h lsNil) [.one (.fl .str), .one (.fl .str)] [.one (.fl .str), .one (.fl .str), .one (.fl .bool)] _ (fun x => ?_)
  kernel_rfl

noncomputable def strings_Cut_env : Env := mkEnv ty fnB [(55, internal_stringslite_Cut_con)] []
theorem strings_Cut_envOk : EnvOk Tryz.prog strings_Cut_env := envOk tyOk fn_ok (callsCons internal_stringslite_Cut_ok callsNil) _
noncomputable def strings_Cut_con : Con := con [.one (.fl .str), .one (.fl .str)] [.one (.fl .str), .one (.fl .str), .one (.fl .bool)] (fun x => strings_Cut_t x.1 x.2.1)
theorem strings_Cut_ok : TrOk Tryz.prog 37 strings_Cut_con := by
  have h : loopsOf (codeOf Tryz.f37) = [] := by kernel_rfl
  refine con_ok strings_Cut_envOk Tryz.func37 (bodyOk h lsNil) [.one (.fl .str), .one (.fl .str)] [.one (.fl .str), .one (.fl .str), .one (.fl .bool)] _ (fun x => ?_)
  kernel_rfl

noncomputable def strings_Index_env : Env := mkEnv ty fnB [(67, internal_stringslite_Index_con)] []
theorem strings_Index_envOk : EnvOk Tryz.prog strings_Index_env := envOk tyOk fn_ok (callsCons internal_stringslite_Index_ok callsNil) _
noncomputable def strings_Index_con : Con := con [.one (.fl .str), .one (.fl .str)] [.one (.fl .int)] (fun x => strings_Index_t x.1 x.2.1)
theorem strings_Index_ok : TrOk Tryz.prog 70 strings_Index_con := by
  have h : loopsOf (codeOf Tryz.f70) = [] := by kernel_rfl
  refine con_ok strings_Index_envOk Tryz.func70 (bodyOk h lsNil) [.one (.fl .str), .one (.fl .str)] [.one (.fl .int)] _ (fun x => ?_)
  kernel_rfl

noncomputable def strings_Contains_env : Env := mkEnv ty fnB [(70, strings_Index_con)] []
theorem strings_Contains_envOk : EnvOk Tryz.prog strings_Contains_env := envOk tyOk fn_ok (callsCons strings_Index_ok callsNil) _
noncomputable def strings_Contains_con : Con := con [.one (.fl .str), .one (.fl .str)] [.one (.fl .bool)] (fun x => strings_Contains_t x.1 x.2.1)
theorem strings_Contains_ok : TrOk Tryz.prog 59 strings_Contains_con := by
  have h : loopsOf (codeOf Tryz.f59) = [] := by kernel_rfl
  refine con_ok strings_Contains_envOk Tryz.func59 (bodyOk h lsNil) [.one (.fl .str), .one (.fl .str)] [.one (.fl .bool)] _ (fun x => ?_)
  kernel_rfl

noncomputable def addr_Parse_env : Env := mkEnv ty fnB [(50, addr_told_con)] []
theorem addr_Parse_envOk : EnvOk Tryz.prog addr_Parse_env := envOk tyOk fn_ok (callsCons addr_told_ok callsNil) _
noncomputable def addr_Parse_con : Con := con [.one (.fl .str)] [.one (.fl .addr), .one (.fl .int)] (fun x => addr_Parse_t x.1)
theorem addr_Parse_ok : TrOk Tryz.prog 30 addr_Parse_con := by
  have h : loopsOf (codeOf Tryz.f30) = [] := by kernel_rfl
  refine con_ok addr_Parse_envOk Tryz.func30 (bodyOk h lsNil) [.one (.fl .str)] [.one (.fl .addr), .one (.fl .int)] _ (fun x => ?_)
  kernel_rfl

noncomputable def prefix_Parse_env : Env := mkEnv ty fnB [(37, strings_Cut_con), (30, addr_Parse_con), (38, prefix_Digits_con), (28, prefix_Check_con)] []
theorem prefix_Parse_envOk : EnvOk Tryz.prog prefix_Parse_env := envOk tyOk fn_ok (callsCons strings_Cut_ok (callsCons addr_Parse_ok (callsCons prefix_Digits_ok (callsCons prefix_Check_ok callsNil)))) _
noncomputable def prefix_Parse_con : Con := con [.one (.fl .str)] [.one (.fl .pfx), .one (.fl .int)] (fun x => prefix_Parse_t x.1)
theorem prefix_Parse_ok : TrOk Tryz.prog 15 prefix_Parse_con := by
  have h : loopsOf (codeOf Tryz.f15) = [] := by kernel_rfl
  refine con_ok prefix_Parse_envOk Tryz.func15 (bodyOk h lsNil) [.one (.fl .str)] [.one (.fl .pfx), .one (.fl .int)] _ (fun x => ?_)
  kernel_rfl

def addr_groups_L3_S : LoopS := { n := 24, base := 0, head := { keep := [2, 3, 7, 8], vals := [.one (.fl .int), .one (.cst (.ptr 0 0)), .one (.cst (.row 1)), .one (.fl .int)], objs := [.blk [.fl .addr] 24 true, .row .str 9 true] }, exits := [⟨some 0, { keep := [7], vals := [.one (.cst (.row 0))], objs := [.row .str 9 true] }⟩] }
noncomputable def addr_groups_env : Env := mkEnv ty fnB [(79, addr_group_con), (62, strconv_FormatUint_con), (63, strings_Join_con)] [(3, (loopTr addr_groups_L3_S (loopN addr_groups_L3 FUEL)))]
theorem addr_groups_envOk : EnvOk Tryz.prog addr_groups_env := envOk tyOk fn_ok (callsCons addr_group_ok (callsCons strconv_FormatUint_ok (callsCons strings_Join_ok callsNil))) _
theorem addr_groups_L3_ok : LOk Tryz.prog (nthLoop (codeOf Tryz.f65) 0) (loopTr addr_groups_L3_S (loopN addr_groups_L3 FUEL)) := by
  have h : loopsOf (nthLoop (codeOf Tryz.f65) 0) = [] := by kernel_rfl
  refine loop_ok addr_groups_envOk (loopsOk h lsNil) addr_groups_L3_S addr_groups_L3 FUEL (fun rec x => ?_)
  kernel_rfl
noncomputable def addr_groups_con : Con := con [.one (.fl .addr), .one (.fl .int), .one (.fl .int)] [.one (.fl .str)] (fun x => addr_groups_t x.1 x.2.1 x.2.2.1)
theorem addr_groups_ok : TrOk Tryz.prog 65 addr_groups_con := by
  have h : loopsOf (codeOf Tryz.f65) = [(nthLoop (codeOf Tryz.f65) 0)] := by kernel_rfl
  refine con_ok addr_groups_envOk Tryz.func65 (bodyOk h (lsCons (one_loop (t := (loopTr addr_groups_L3_S (loopN addr_groups_L3 FUEL))) (by kernel_rfl) addr_groups_L3_ok) lsNil)) [.one (.fl .addr), .one (.fl .int), .one (.fl .int)] [.one (.fl .str)] _ (fun x => ?_)
  kernel_rfl

def addr_Text_L4_S : LoopS := { n := 44, base := 0, head := { keep := [1, 3, 4], vals := [.one (.cst (.ptr 0 0)), .one (.cst (.row 1)), .one (.fl .int)], objs := [.blk [.fl .addr] 24 true, .row .str 9 true] }, exits := [⟨some 0, { keep := [3], vals := [.one (.cst (.row 0))], objs := [.row .str 9 true] }⟩] }
noncomputable def addr_Text_env : Env := mkEnv ty fnB [(62, strconv_FormatUint_con), (63, strings_Join_con), (64, addr_longest_con), (65, addr_groups_con)] [(4, (loopTr addr_Text_L4_S (loopN addr_Text_L4 FUEL)))]
theorem addr_Text_envOk : EnvOk Tryz.prog addr_Text_env := envOk tyOk fn_ok (callsCons strconv_FormatUint_ok (callsCons strings_Join_ok (callsCons addr_longest_ok (callsCons addr_groups_ok callsNil)))) _
theorem addr_Text_L4_ok : LOk Tryz.prog (nthLoop (codeOf Tryz.f51) 0) (loopTr addr_Text_L4_S (loopN addr_Text_L4 FUEL)) := by
  have h : loopsOf (nthLoop (codeOf Tryz.f51) 0) = [] := by kernel_rfl
  refine loop_ok addr_Text_envOk (loopsOk h lsNil) addr_Text_L4_S addr_Text_L4 FUEL (fun rec x => ?_)
  kernel_rfl
theorem addr_Text_key (f0 : type_of% strconv_FormatUint_t) (f1 : type_of% strings_Join_t) (f2 : type_of% addr_longest_t) (f3 : type_of% addr_groups_t) (g0 : type_of% (loopN addr_Text_L4 FUEL)) (x : PsT [.one (.fl .addr)]) : ixF (mkEnv ty fnB [(62, (con [.one (.fl .u64), .one (.fl .int)] [.one (.fl .str)] (fun x => f0 x.1 x.2.1))), (63, (con [.one (.row .str 9), .one (.fl .str)] [.one (.fl .str)] (fun x => f1 x.1 x.2.1))), (64, (con [.one (.fl .addr)] [.one (.fl .int), .one (.fl .int)] (fun x => f2 x.1))), (65, (con [.one (.fl .addr), .one (.fl .int), .one (.fl .int)] [.one (.fl .str)] (fun x => f3 x.1 x.2.1 x.2.2.1)))] [(4, (loopTr addr_Text_L4_S g0))]) Tryz.f51 (encA false [.one (.fl .addr)] x 0).1 (encA false [.one (.fl .addr)] x 0).2 (resR [.one (.fl .str)]) = (fun (a0 : Ad) => (br (!a0.v6)
    ((g0 (((()), (()), (24, ()), ()), ((a0, ()), ([] : List ByteArray), ()))).bind fun y1 =>
    (f1 y1.2.1 (⟨#[46]⟩ : ByteArray)).bind fun y2 =>
    some (y2.1, ()))
    ((f2 a0).bind fun y1 =>
    br (decide (y1.2.1 = 0))
      ((f3 a0 0 8).bind fun y2 =>
      some (y2.1, ()))
      ((f3 a0 0 y1.1).bind fun y2 =>
      req (roomS (catS y2.1 (⟨#[58, 58]⟩ : ByteArray))) <|
      req (i64ok (y1.1 + y1.2.1)) <|
      (f3 a0 (y1.1 + y1.2.1) 8).bind fun y3 =>
      req (roomS (catS (catS y2.1 (⟨#[58, 58]⟩ : ByteArray)) y3.1)) <|
      some (catS (catS y2.1 (⟨#[58, 58]⟩ : ByteArray)) y3.1, ()))) : Option (ByteArray × Unit))) x.1 := by
  kernel_rfl
noncomputable def addr_Text_con : Con := con [.one (.fl .addr)] [.one (.fl .str)] (fun x => addr_Text_t x.1)
theorem addr_Text_ok : TrOk Tryz.prog 51 addr_Text_con := by
  have h : loopsOf (codeOf Tryz.f51) = [(nthLoop (codeOf Tryz.f51) 0)] := by kernel_rfl
  refine con_ok addr_Text_envOk Tryz.func51 (bodyOk h (lsCons (one_loop (t := (loopTr addr_Text_L4_S (loopN addr_Text_L4 FUEL))) (by kernel_rfl) addr_Text_L4_ok) lsNil)) [.one (.fl .addr)] [.one (.fl .str)] _ (fun x => ?_)
  exact addr_Text_key strconv_FormatUint_t strings_Join_t addr_longest_t addr_groups_t (loopN addr_Text_L4 FUEL) x

noncomputable def prefix_Text_env : Env := mkEnv ty fnB [(51, addr_Text_con), (54, strconv_Itoa_con)] []
theorem prefix_Text_envOk : EnvOk Tryz.prog prefix_Text_env := envOk tyOk fn_ok (callsCons addr_Text_ok (callsCons strconv_Itoa_ok callsNil)) _
noncomputable def prefix_Text_con : Con := con [.one (.fl .pfx)] [.one (.fl .str)] (fun x => prefix_Text_t x.1)
theorem prefix_Text_ok : TrOk Tryz.prog 36 prefix_Text_con := by
  have h : loopsOf (codeOf Tryz.f36) = [] := by kernel_rfl
  refine con_ok prefix_Text_envOk Tryz.func36 (bodyOk h lsNil) [.one (.fl .pfx)] [.one (.fl .str)] _ (fun x => ?_)
  kernel_rfl

noncomputable def prefix_Print_env : Env := mkEnv ty fnB [(28, prefix_Check_con), (36, prefix_Text_con)] []
theorem prefix_Print_envOk : EnvOk Tryz.prog prefix_Print_env := envOk tyOk fn_ok (callsCons prefix_Check_ok (callsCons prefix_Text_ok callsNil)) _
noncomputable def prefix_Print_con : Con := con [.one (.fl .pfx)] [.one (.fl .str), .one (.fl .int)] (fun x => prefix_Print_t x.1)
theorem prefix_Print_ok : TrOk Tryz.prog 14 prefix_Print_con := by
  have h : loopsOf (codeOf Tryz.f14) = [] := by kernel_rfl
  refine con_ok prefix_Print_envOk Tryz.func14 (bodyOk h lsNil) [.one (.fl .pfx)] [.one (.fl .str), .one (.fl .int)] _ (fun x => ?_)
  kernel_rfl

noncomputable def law_prefixBegun_env : Env := mkEnv ty fnB [(15, prefix_Parse_con), (27, law_net_con), (8, prefix_Has_con), (11, prefix_Ends_con), (13, prefix_Halves_con), (16, prefix_Whole_con), (14, prefix_Print_con), (28, prefix_Check_con), (29, law_v4_con)] []
theorem law_prefixBegun_envOk : EnvOk Tryz.prog law_prefixBegun_env := envOk tyOk fn_ok (callsCons prefix_Parse_ok (callsCons law_net_ok (callsCons prefix_Has_ok (callsCons prefix_Ends_ok (callsCons prefix_Halves_ok (callsCons prefix_Whole_ok (callsCons prefix_Print_ok (callsCons prefix_Check_ok (callsCons law_v4_ok callsNil))))))))) _
noncomputable def law_prefixBegun_con : Con := con [] [.one (.fl .bool)] (fun x => law_prefixBegun_t)
theorem law_prefixBegun_ok : TrOk Tryz.prog 9 law_prefixBegun_con := by
  have h : loopsOf (codeOf Tryz.f9) = [] := by kernel_rfl
  refine con_ok law_prefixBegun_envOk Tryz.func9 (bodyOk h lsNil) [] [.one (.fl .bool)] _ (fun x => ?_)
  kernel_rfl

noncomputable def addr_Print_env : Env := mkEnv ty fnB [(18, addr_Check_con), (51, addr_Text_con)] []
theorem addr_Print_envOk : EnvOk Tryz.prog addr_Print_env := envOk tyOk fn_ok (callsCons addr_Check_ok (callsCons addr_Text_ok callsNil)) _
noncomputable def addr_Print_con : Con := con [.one (.fl .addr)] [.one (.fl .str), .one (.fl .int)] (fun x => addr_Print_t x.1)
theorem addr_Print_ok : TrOk Tryz.prog 31 addr_Print_con := by
  have h : loopsOf (codeOf Tryz.f31) = [] := by kernel_rfl
  refine con_ok addr_Print_envOk Tryz.func31 (bodyOk h lsNil) [.one (.fl .addr)] [.one (.fl .str), .one (.fl .int)] _ (fun x => ?_)
  kernel_rfl

noncomputable def law_addrBegun_env : Env := mkEnv ty fnB [(30, addr_Parse_con), (31, addr_Print_con), (17, addr_Next_con), (12, addr_Less_con), (29, law_v4_con)] []
theorem law_addrBegun_envOk : EnvOk Tryz.prog law_addrBegun_env := envOk tyOk fn_ok (callsCons addr_Parse_ok (callsCons addr_Print_ok (callsCons addr_Next_ok (callsCons addr_Less_ok (callsCons law_v4_ok callsNil))))) _
noncomputable def law_addrBegun_con : Con := con [] [.one (.fl .bool)] (fun x => law_addrBegun_t)
theorem law_addrBegun_ok : TrOk Tryz.prog 10 law_addrBegun_con := by
  have h : loopsOf (codeOf Tryz.f10) = [] := by kernel_rfl
  refine con_ok law_addrBegun_envOk Tryz.func10 (bodyOk h lsNil) [] [.one (.fl .bool)] _ (fun x => ?_)
  kernel_rfl

noncomputable def law_PrefixApart_env : Env := mkEnv ty fnB [(8, prefix_Has_con), (9, law_prefixBegun_con), (10, law_addrBegun_con), (11, prefix_Ends_con), (12, addr_Less_con)] []
theorem law_PrefixApart_envOk : EnvOk Tryz.prog law_PrefixApart_env := envOk tyOk fn_ok (callsCons prefix_Has_ok (callsCons law_prefixBegun_ok (callsCons law_addrBegun_ok (callsCons prefix_Ends_ok (callsCons addr_Less_ok callsNil))))) _
noncomputable def law_PrefixApart_con : Con := con [.one (.fl .pfx), .one (.fl .pfx), .one (.fl .pfx)] [.one (.fl .bool)] (fun x => law_PrefixApart_t x.1 x.2.1 x.2.2.1)
theorem law_PrefixApart_ok : TrOk Tryz.prog 3 law_PrefixApart_con := by
  have h : loopsOf (codeOf Tryz.f3) = [] := by kernel_rfl
  refine con_ok law_PrefixApart_envOk Tryz.func3 (bodyOk h lsNil) [.one (.fl .pfx), .one (.fl .pfx), .one (.fl .pfx)] [.one (.fl .bool)] _ (fun x => ?_)
  kernel_rfl

noncomputable def law_PrefixHalves_env : Env := mkEnv ty fnB [(13, prefix_Halves_con), (9, law_prefixBegun_con), (10, law_addrBegun_con), (14, prefix_Print_con), (15, prefix_Parse_con), (16, prefix_Whole_con), (11, prefix_Ends_con), (17, addr_Next_con)] []
theorem law_PrefixHalves_envOk : EnvOk Tryz.prog law_PrefixHalves_env := envOk tyOk fn_ok (callsCons prefix_Halves_ok (callsCons law_prefixBegun_ok (callsCons law_addrBegun_ok (callsCons prefix_Print_ok (callsCons prefix_Parse_ok (callsCons prefix_Whole_ok (callsCons prefix_Ends_ok (callsCons addr_Next_ok callsNil)))))))) _
noncomputable def law_PrefixHalves_con : Con := con [.one (.fl .pfx)] [.one (.fl .bool)] (fun x => law_PrefixHalves_t x.1)
theorem law_PrefixHalves_ok : TrOk Tryz.prog 4 law_PrefixHalves_con := by
  have h : loopsOf (codeOf Tryz.f4) = [] := by kernel_rfl
  refine con_ok law_PrefixHalves_envOk Tryz.func4 (bodyOk h lsNil) [.one (.fl .pfx)] [.one (.fl .bool)] _ (fun x => ?_)
  kernel_rfl

noncomputable def law_PrefixEnds_env : Env := mkEnv ty fnB [(9, law_prefixBegun_con), (10, law_addrBegun_con), (11, prefix_Ends_con), (18, addr_Check_con), (19, R_Host_con), (8, prefix_Has_con), (12, addr_Less_con)] []
theorem law_PrefixEnds_envOk : EnvOk Tryz.prog law_PrefixEnds_env := envOk tyOk fn_ok (callsCons law_prefixBegun_ok (callsCons law_addrBegun_ok (callsCons prefix_Ends_ok (callsCons addr_Check_ok (callsCons R_Host_ok (callsCons prefix_Has_ok (callsCons addr_Less_ok callsNil))))))) _
noncomputable def law_PrefixEnds_con : Con := con [.one (.fl .pfx), .one (.fl .addr)] [.one (.fl .bool)] (fun x => law_PrefixEnds_t x.1 x.2.1)
theorem law_PrefixEnds_ok : TrOk Tryz.prog 5 law_PrefixEnds_con := by
  have h : loopsOf (codeOf Tryz.f5) = [] := by kernel_rfl
  refine con_ok law_PrefixEnds_envOk Tryz.func5 (bodyOk h lsNil) [.one (.fl .pfx), .one (.fl .addr)] [.one (.fl .bool)] _ (fun x => ?_)
  kernel_rfl

end Go.Proofs.YtaicmdnpjgijjaaGreatDoor
