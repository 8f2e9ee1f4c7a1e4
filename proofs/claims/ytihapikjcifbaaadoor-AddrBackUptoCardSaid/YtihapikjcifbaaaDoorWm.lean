/-
  The program's functions come to their plain forms: those that hang on the contracts made by hand. Written by a program of mine.
-/
import Derived.Test.YtihapikjcifbaaaDoorQb
import Derived.Test.YtihapikjcifbaaaDoorQr
import Derived.Test.YtihapikjcifbaaaDoorQo
import Derived.Test.YtihapikjcifbaaaDoorWk
import Derived.Test.YtihapikjcifbaaaDoorPm
namespace Go.Proofs.YtihapikjcifbaaaDoor
open Go Go.Ma
def addr_groups_L3_S : LoopS := { n := 24, base := 0, head := { keep := [2, 3, 7, 8], vals := [.one (.fl .int), .one (.cst (.ptr 0 0)), .one (.cst (.row 1)), .one (.fl .int)], objs := [.blk [.fl .addr] 24 true, .row .str 9 true] }, exits := [⟨some 0, { keep := [7], vals := [.one (.cst (.row 0))], objs := [.row .str 9 true] }⟩] }
noncomputable def addr_groups_env : Env := mkEnv ty fnB [(46, addr_group_con), (28, strconv_FormatUint_con), (29, strings_Join_con)] [(3, (loopTr addr_groups_L3_S (loopN addr_groups_L3 FUEL)))]
theorem addr_groups_envOk : EnvOk Tryd.prog addr_groups_env := envOk tyOk fn_ok (callsCons addr_group_ok (callsCons strconv_FormatUint_ok (callsCons strings_Join_ok callsNil))) _
theorem addr_groups_L3_ok : LOk Tryd.prog (nthLoop (codeOf Tryd.f31) 0) (loopTr addr_groups_L3_S (loopN addr_groups_L3 FUEL)) := by
  have h : loopsOf (nthLoop (codeOf Tryd.f31) 0) = [] := by kernel_rfl
  refine loop_ok addr_groups_envOk (loopsOk h lsNil) addr_groups_L3_S addr_groups_L3 FUEL (fun rec x => ?_)
  kernel_rfl
noncomputable def addr_groups_con : Con := con [.one (.fl .addr), .one (.fl .int), .one (.fl .int)] [.one (.fl .str)] (fun x => addr_groups_t x.1 x.2.1 x.2.2.1)
theorem addr_groups_ok : TrOk Tryd.prog 31 addr_groups_con := by
  have h : loopsOf (codeOf Tryd.f31) = [(nthLoop (codeOf Tryd.f31) 0)] := by kernel_rfl
  refine con_ok addr_groups_envOk Tryd.func31 (bodyOk h (lsCons (one_loop (t := (loopTr addr_groups_L3_S (loopN addr_groups_L3 FUEL))) (by kernel_rfl) addr_groups_L3_ok) lsNil)) [.one (.fl .addr), .one (.fl .int), .one (.fl .int)] [.one (.fl .str)] _ (fun x => ?_)
  kernel_rfl

def addr_Text_L4_S : LoopS := { n := 44, base := 0, head := { keep := [1, 3, 4], vals := [.one (.cst (.ptr 0 0)), .one (.cst (.row 1)), .one (.fl .int)], objs := [.blk [.fl .addr] 24 true, .row .str 9 true] }, exits := [⟨some 0, { keep := [3], vals := [.one (.cst (.row 0))], objs := [.row .str 9 true] }⟩] }
noncomputable def addr_Text_env : Env := mkEnv ty fnB [(28, strconv_FormatUint_con), (29, strings_Join_con), (30, addr_longest_con), (31, addr_groups_con)] [(4, (loopTr addr_Text_L4_S (loopN addr_Text_L4 FUEL)))]
theorem addr_Text_envOk : EnvOk Tryd.prog addr_Text_env := envOk tyOk fn_ok (callsCons strconv_FormatUint_ok (callsCons strings_Join_ok (callsCons addr_longest_ok (callsCons addr_groups_ok callsNil)))) _
theorem addr_Text_L4_ok : LOk Tryd.prog (nthLoop (codeOf Tryd.f17) 0) (loopTr addr_Text_L4_S (loopN addr_Text_L4 FUEL)) := by
  have h : loopsOf (nthLoop (codeOf Tryd.f17) 0) = [] := by kernel_rfl
  refine loop_ok addr_Text_envOk (loopsOk h lsNil) addr_Text_L4_S addr_Text_L4 FUEL (fun rec x => ?_)
  kernel_rfl
theorem addr_Text_key (f0 : type_of% strconv_FormatUint_t) (f1 : type_of% strings_Join_t) (f2 : type_of% addr_longest_t) (f3 : type_of% addr_groups_t) (g0 : type_of% (loopN addr_Text_L4 FUEL)) (x : PsT [.one (.fl .addr)]) : ixF (mkEnv ty fnB [(28, (con [.one (.fl .u64), .one (.fl .int)] [.one (.fl .str)] (fun x => f0 x.1 x.2.1))), (29, (con [.one (.row .str 9), .one (.fl .str)] [.one (.fl .str)] (fun x => f1 x.1 x.2.1))), (30, (con [.one (.fl .addr)] [.one (.fl .int), .one (.fl .int)] (fun x => f2 x.1))), (31, (con [.one (.fl .addr), .one (.fl .int), .one (.fl .int)] [.one (.fl .str)] (fun x => f3 x.1 x.2.1 x.2.2.1)))] [(4, (loopTr addr_Text_L4_S g0))]) Tryd.f17 (encA false [.one (.fl .addr)] x 0).1 (encA false [.one (.fl .addr)] x 0).2 (resR [.one (.fl .str)]) = (fun (a0 : Ad) => (br (!a0.v6)
    ((g0 (((()), (()), (24, ()), ()), ((a0, ()), ([] : List ByteArray), ()))).bind fun y1 =>
    (f1 y1.2.1 (⟨#[46]⟩ : ByteArray)).bind fun y2 =>
    some (y2.1, ()))
    ((f2 a0).bind fun y1 =>
    br (decide (y1.2.1 = 0))
      ((f3 a0 0 8).bind fun y2 =>
      some (y2.1, ()))
      ((f3 a0 0 y1.1).bind fun y2 =>
      req (roomS (catS y2.1 (⟨#[58, 58]⟩ : ByteArray))) <|
      req (i64ok (y1.1 + y1.2.1)) <|
      (f3 a0 (y1.1 + y1.2.1) 8).bind fun y3 =>
      req (roomS (catS (catS y2.1 (⟨#[58, 58]⟩ : ByteArray)) y3.1)) <|
      some (catS (catS y2.1 (⟨#[58, 58]⟩ : ByteArray)) y3.1, ()))) : Option (ByteArray × Unit))) x.1 := by
  kernel_rfl
noncomputable def addr_Text_con : Con := con [.one (.fl .addr)] [.one (.fl .str)] (fun x => addr_Text_t x.1)
theorem addr_Text_ok : TrOk Tryd.prog 17 addr_Text_con := by
  have h : loopsOf (codeOf Tryd.f17) = [(nthLoop (codeOf Tryd.f17) 0)] := by kernel_rfl
  refine con_ok addr_Text_envOk Tryd.func17 (bodyOk h (lsCons (one_loop (t := (loopTr addr_Text_L4_S (loopN addr_Text_L4 FUEL))) (by kernel_rfl) addr_Text_L4_ok) lsNil)) [.one (.fl .addr)] [.one (.fl .str)] _ (fun x => ?_)
  exact addr_Text_key strconv_FormatUint_t strings_Join_t addr_longest_t addr_groups_t (loopN addr_Text_L4 FUEL) x

noncomputable def addr_Print_env : Env := mkEnv ty fnB [(15, addr_Check_con), (17, addr_Text_con)] []
theorem addr_Print_envOk : EnvOk Tryd.prog addr_Print_env := envOk tyOk fn_ok (callsCons addr_Check_ok (callsCons addr_Text_ok callsNil)) _
noncomputable def addr_Print_con : Con := con [.one (.fl .addr)] [.one (.fl .str), .one (.fl .int)] (fun x => addr_Print_t x.1)
theorem addr_Print_ok : TrOk Tryd.prog 6 addr_Print_con := by
  have h : loopsOf (codeOf Tryd.f6) = [] := by kernel_rfl
  refine con_ok addr_Print_envOk Tryd.func6 (bodyOk h lsNil) [.one (.fl .addr)] [.one (.fl .str), .one (.fl .int)] _ (fun x => ?_)
  kernel_rfl

noncomputable def addr_Parse_env : Env := mkEnv ty fnB [(18, addr_told_con)] []
theorem addr_Parse_envOk : EnvOk Tryd.prog addr_Parse_env := envOk tyOk fn_ok (callsCons addr_told_ok callsNil) _
noncomputable def addr_Parse_con : Con := con [.one (.fl .str)] [.one (.fl .addr), .one (.fl .int)] (fun x => addr_Parse_t x.1)
theorem addr_Parse_ok : TrOk Tryd.prog 7 addr_Parse_con := by
  have h : loopsOf (codeOf Tryd.f7) = [] := by kernel_rfl
  refine con_ok addr_Parse_envOk Tryd.func7 (bodyOk h lsNil) [.one (.fl .str)] [.one (.fl .addr), .one (.fl .int)] _ (fun x => ?_)
  kernel_rfl

noncomputable def law_addrBegun_env : Env := mkEnv ty fnB [(7, addr_Parse_con), (6, addr_Print_con), (8, addr_Next_con), (9, addr_Less_con), (27, law_v4_con)] []
theorem law_addrBegun_envOk : EnvOk Tryd.prog law_addrBegun_env := envOk tyOk fn_ok (callsCons addr_Parse_ok (callsCons addr_Print_ok (callsCons addr_Next_ok (callsCons addr_Less_ok (callsCons law_v4_ok callsNil))))) _
noncomputable def law_addrBegun_con : Con := con [] [.one (.fl .bool)] (fun x => law_addrBegun_t)
theorem law_addrBegun_ok : TrOk Tryd.prog 14 law_addrBegun_con := by
  have h : loopsOf (codeOf Tryd.f14) = [] := by kernel_rfl
  refine con_ok law_addrBegun_envOk Tryd.func14 (bodyOk h lsNil) [] [.one (.fl .bool)] _ (fun x => ?_)
  kernel_rfl

noncomputable def law_AddrBack_env : Env := mkEnv ty fnB [(14, law_addrBegun_con), (6, addr_Print_con), (7, addr_Parse_con), (15, addr_Check_con)] []
theorem law_AddrBack_envOk : EnvOk Tryd.prog law_AddrBack_env := envOk tyOk fn_ok (callsCons law_addrBegun_ok (callsCons addr_Print_ok (callsCons addr_Parse_ok (callsCons addr_Check_ok callsNil)))) _
noncomputable def law_AddrBack_con : Con := con [.one (.fl .addr), .one (.fl .str)] [.one (.fl .bool)] (fun x => law_AddrBack_t x.1 x.2.1)
theorem law_AddrBack_ok : TrOk Tryd.prog 4 law_AddrBack_con := by
  have h : loopsOf (codeOf Tryd.f4) = [] := by kernel_rfl
  refine con_ok law_AddrBack_envOk Tryd.func4 (bodyOk h lsNil) [.one (.fl .addr), .one (.fl .str)] [.one (.fl .bool)] _ (fun x => ?_)
  kernel_rfl

noncomputable def law_AddrOrder_env : Env := mkEnv ty fnB [(14, law_addrBegun_con), (9, addr_Less_con), (8, addr_Next_con)] []
theorem law_AddrOrder_envOk : EnvOk Tryd.prog law_AddrOrder_env := envOk tyOk fn_ok (callsCons law_addrBegun_ok (callsCons addr_Less_ok (callsCons addr_Next_ok callsNil))) _
noncomputable def law_AddrOrder_con : Con := con [.one (.fl .addr), .one (.fl .addr), .one (.fl .addr)] [.one (.fl .bool)] (fun x => law_AddrOrder_t x.1 x.2.1 x.2.2.1)
theorem law_AddrOrder_ok : TrOk Tryd.prog 5 law_AddrOrder_con := by
  have h : loopsOf (codeOf Tryd.f5) = [] := by kernel_rfl
  refine con_ok law_AddrOrder_envOk Tryd.func5 (bodyOk h lsNil) [.one (.fl .addr), .one (.fl .addr), .one (.fl .addr)] [.one (.fl .bool)] _ (fun x => ?_)
  kernel_rfl

end Go.Proofs.YtihapikjcifbaaaDoor
