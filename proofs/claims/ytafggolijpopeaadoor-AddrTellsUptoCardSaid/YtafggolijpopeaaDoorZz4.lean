/-
  For every input whose arguments are together of bulk at most 1048576 AddrTells of the package yardarmlaw returns true, and each of its arguments reads behind the call as it read before: the package variables that the row lists hold what the program lays; the walk reads none of them.
-/
import Derived.WalkKit
import Derived.ProofKit
import Derived.Laws.IdiomStrings
import Derived.RangeFuncNested
import Derived.Shelf.Strings.Builder1
import Derived.Shelf.Strings.Builder2
import Derived.Shelf.Strings.OnBuilder
import Derived.Shelf.Utf8.RuneCount
import Derived.Shelf.Strconv.Itoa0
import Derived.Shelf.Strconv.Itoa1
import Derived.Shelf.LaysM
import Derived.Shelf.Strconv.Itoa2
import Derived.Shelf.Strconv.Itoa3
import Derived.Shelf.Strconv.Clone
import Derived.Shelf.Strconv.SyntaxError
import Derived.Shelf.LaysC
import Derived.Shelf.Strconv.ToError
import Derived.Shelf.Strconv.Lower
import Derived.Shelf.Strconv.ParseUint10
import Derived.Shelf.Strconv.ParseUint10Empty
import Derived.Shelf.Strconv.ParseUint10Any
import Derived.Shelf.Strconv.RangeError
import Derived.Shelf.Strconv.ToErrorRange
import Derived.Ground.MpProg
import Derived.Shelf.Pu.ParseUintPublic10
import Derived.Shelf.Pu.ErrVarParseUint
import Derived.Shelf.Strings.Search1
import Derived.Shelf.Strings.Search2
import Derived.Shelf.Strings.Search3
import Derived.Shelf.Strings.Cut
import Derived.Shelf.Strings.Count
import Derived.Shelf.Strings.Shaped
import Derived.Shelf.Strings.Split
import Derived.Shelf.Strings.SplitShaped
import Derived.Shelf.Unicode.Decode
import Derived.Shelf.Strings.RuneCount
import Derived.Shelf.Strings.Explode
import Derived.Shelf.Unicode.DecodeSlow
import Derived.Shelf.Unicode.DecodeAny
import Derived.Test.YtafggolijpopeaaDoorProg
import Derived.Lib.AppendIntMem
import Derived.Lib.AtoiAllMem
import Derived.Laws.Strings3
import Derived.Laws.Closers25
import Derived.Laws.Closers25b
import Derived.BigCall
import Derived.BigGuard
import Derived.WalkLawsBesides
import Derived.RegionTactic
import Derived.ChangeAlike
import Derived.BigRegion
import Derived.Maps.OwnRows
import Derived.Maps.AppendAt
import Derived.Maps.GroupsBeside
import Derived.Deep.Onto
import Derived.Lib.AppendZerosOnto
import Derived.Laws.CopyRow
import Derived.Laws.AppendOwn
import Derived.Lib.Hide
import Derived.Defers
import Derived.Recover
import Derived.Laws.Pointers
import Derived.Shelf.Vars
import Derived.Lib.LaidTab
import Derived.LaidLaws
import Derived.MakeChecks
import Derived.Test.YtafggolijpopeaaDoorCards
import Derived.Test.YtafggolijpopeaaDoorTie
import Derived.OpenShut
import Derived.ShutString
import Derived.ChangeOld
import Derived.Below
import Derived.JoinedCond
import Derived.Deep.DeepHandedRow
import Derived.Test.YtafggolijpopeaaDoorZz3
set_option linter.unusedVariables false
set_option linter.unusedSimpArgs false
namespace Go.Proofs.YtafggolijpopeaaDoor
open Go Go.Ma
noncomputable def addr_Check_env : Env := mkEnv ty fnB [] []
theorem addr_Check_envOk : EnvOk Tryd.prog addr_Check_env := envOk tyOk fn_ok callsNil _
noncomputable def addr_Check_con : Con := con [.one (.fl .addr)] [.one (.fl .int)] (fun x => addr_Check_t x.1)
theorem addr_Check_ok : TrOk Tryd.prog 13 addr_Check_con := by
 have h : loopsOf (codeOf Tryd.f13) = [] := by kernel_rfl
 refine con_ok addr_Check_envOk Tryd.func13 (bodyOk h lsNil) _ _ _ (fun x => ?_)
 kernel_rfl
noncomputable def addr_group_env : Env := mkEnv ty fnB [] []
theorem addr_group_envOk : EnvOk Tryd.prog addr_group_env := envOk tyOk fn_ok callsNil _
noncomputable def addr_group_con : Con := con [.one (.fl .addr), .one (.fl .int)] [.one (.fl .u64)] (fun x => addr_group_t x.1 x.2.1)
theorem addr_group_ok : TrOk Tryd.prog 44 addr_group_con := by
 have h : loopsOf (codeOf Tryd.f44) = [] := by kernel_rfl
 refine con_ok addr_group_envOk Tryd.func44 (bodyOk h lsNil) _ _ _ (fun x => ?_)
 kernel_rfl
def addr_row_L2_S : LoopS := { n := 21, base := 0, head := { keep := [1, 2, 5], vals := [.one (.fl .int), .one (.cst (.ptr 0 0)), .one (.fl .int)], objs := [.blk [.fl .addr] 24 true] }, exits := [⟨some 0, { keep := [5], vals := [.one (.fl .int)], objs := [] }⟩] }
noncomputable def addr_row_env : Env := mkEnv ty fnB [(44, addr_group_con)] [(2, (loopTr addr_row_L2_S (loopN addr_row_L2 FUEL)))]
theorem addr_row_envOk : EnvOk Tryd.prog addr_row_env := envOk tyOk fn_ok (callsCons addr_group_ok callsNil) _
theorem addr_row_L2_ok : LOk Tryd.prog (nthLoop (codeOf Tryd.f43) 0) (loopTr addr_row_L2_S (loopN addr_row_L2 FUEL)) := by
 have h : loopsOf (nthLoop (codeOf Tryd.f43) 0) = [] := by kernel_rfl
 refine loop_ok addr_row_envOk (loopsOk h lsNil) addr_row_L2_S addr_row_L2 FUEL (fun rec x => ?_)
 kernel_rfl
noncomputable def addr_row_con : Con := con [.one (.fl .addr), .one (.fl .int)] [.one (.fl .int)] (fun x => addr_row_t x.1 x.2.1)
theorem addr_row_ok : TrOk Tryd.prog 43 addr_row_con := by
 have h : loopsOf (codeOf Tryd.f43) = [(nthLoop (codeOf Tryd.f43) 0)] := by kernel_rfl
 refine con_ok addr_row_envOk Tryd.func43 (bodyOk h (lsCons (one_loop (t := (loopTr addr_row_L2_S (loopN addr_row_L2 FUEL))) (by kernel_rfl) addr_row_L2_ok) lsNil)) _ _ _ (fun x => ?_)
 kernel_rfl
def addr_longest_L3_S : LoopS := { n := 24, base := 0, head := { keep := [1, 4, 5, 8], vals := [.one (.cst (.ptr 0 0)), .one (.fl .int), .one (.fl .int), .one (.fl .int)], objs := [.blk [.fl .addr] 24 true] }, exits := [⟨some 0, { keep := [4, 5], vals := [.one (.fl .int), .one (.fl .int)], objs := [] }⟩] }
noncomputable def addr_longest_env : Env := mkEnv ty fnB [(43, addr_row_con)] [(3, (loopTr addr_longest_L3_S (loopN addr_longest_L3 FUEL)))]
theorem addr_longest_envOk : EnvOk Tryd.prog addr_longest_env := envOk tyOk fn_ok (callsCons addr_row_ok callsNil) _
theorem addr_longest_L3_ok : LOk Tryd.prog (nthLoop (codeOf Tryd.f28) 0) (loopTr addr_longest_L3_S (loopN addr_longest_L3 FUEL)) := by
 have h : loopsOf (nthLoop (codeOf Tryd.f28) 0) = [] := by kernel_rfl
 refine loop_ok addr_longest_envOk (loopsOk h lsNil) addr_longest_L3_S addr_longest_L3 FUEL (fun rec x => ?_)
 kernel_rfl
noncomputable def addr_longest_con : Con := con [.one (.fl .addr)] [.one (.fl .int), .one (.fl .int)] (fun x => addr_longest_t x.1)
theorem addr_longest_ok : TrOk Tryd.prog 28 addr_longest_con := by
 have h : loopsOf (codeOf Tryd.f28) = [(nthLoop (codeOf Tryd.f28) 0)] := by kernel_rfl
 refine con_ok addr_longest_envOk Tryd.func28 (bodyOk h (lsCons (one_loop (t := (loopTr addr_longest_L3_S (loopN addr_longest_L3 FUEL))) (by kernel_rfl) addr_longest_L3_ok) lsNil)) _ _ _ (fun x => ?_)
 kernel_rfl
noncomputable def addr_After_env : Env := mkEnv ty fnB [] []
theorem addr_After_envOk : EnvOk Tryd.prog addr_After_env := envOk tyOk fn_ok callsNil _
noncomputable def addr_After_con : Con := con [.one (.fl .addr)] [.one (.fl .addr), .one (.fl .bool)] (fun x => addr_After_t x.1)
theorem addr_After_ok : TrOk Tryd.prog 17 addr_After_con := by
 have h : loopsOf (codeOf Tryd.f17) = [] := by kernel_rfl
 refine con_ok addr_After_envOk Tryd.func17 (bodyOk h lsNil) _ _ _ (fun x => ?_)
 kernel_rfl
noncomputable def addr_Next_env : Env := mkEnv ty fnB [(13, addr_Check_con), (17, addr_After_con)] []
theorem addr_Next_envOk : EnvOk Tryd.prog addr_Next_env := envOk tyOk fn_ok (callsCons addr_Check_ok (callsCons addr_After_ok callsNil)) _
noncomputable def addr_Next_con : Con := con [.one (.fl .addr)] [.one (.fl .addr), .one (.fl .bool), .one (.fl .int)] (fun x => addr_Next_t x.1)
theorem addr_Next_ok : TrOk Tryd.prog 6 addr_Next_con := by
 have h : loopsOf (codeOf Tryd.f6) = [] := by kernel_rfl
 refine con_ok addr_Next_envOk Tryd.func6 (bodyOk h lsNil) _ _ _ (fun x => ?_)
 kernel_rfl
noncomputable def addr_Order_1_env : Env := mkEnv ty fnB [] []
theorem addr_Order_1_envOk : EnvOk Tryd.prog addr_Order_1_env := envOk tyOk fn_ok callsNil _
noncomputable def addr_Order_1_con : Con := con [.one (.fl .u64), .one (.fl .u64)] [.one (.fl .int)] (fun x => addr_Order_1_t x.1 x.2.1)
theorem addr_Order_1_ok : TrOk Tryd.prog 34 addr_Order_1_con := by
 have h : loopsOf (codeOf Tryd.f34) = [] := by kernel_rfl
 refine con_ok addr_Order_1_envOk Tryd.func34 (bodyOk h lsNil) _ _ _ (fun x => ?_)
 kernel_rfl
noncomputable def addr_Order_env : Env := mkEnv ty fnB [(34, addr_Order_1_con)] []
theorem addr_Order_envOk : EnvOk Tryd.prog addr_Order_env := envOk tyOk fn_ok (callsCons addr_Order_1_ok callsNil) _
noncomputable def addr_Order_con : Con := con [.one (.fl .addr), .one (.fl .addr)] [.one (.fl .int)] (fun x => addr_Order_t x.1 x.2.1)
theorem addr_Order_ok : TrOk Tryd.prog 18 addr_Order_con := by
 have h : loopsOf (codeOf Tryd.f18) = [] := by kernel_rfl
 refine con_ok addr_Order_envOk Tryd.func18 (bodyOk h lsNil) _ _ _ (fun x => ?_)
 kernel_rfl
def addr_Less_L2_S : LoopS := { n := 27, base := 0, head := { keep := [2, 3, 11, 12, 13], vals := [.one (.cst (.ptr 0 0)), .one (.cst (.ptr 1 0)), .one (.cst (.row 2)), .one (.fl .int), .one (.fl .int)], objs := [.blk [.fl .addr] 24 true, .blk [.fl .addr] 24 true, .row .addr 24 true] }, exits := [⟨none, { keep := [4, 5], vals := [.one (.fl .bool), .one (.fl .int)], objs := [] }⟩, ⟨some 0, { keep := [2, 3], vals := [.one (.cst (.ptr 0 0)), .one (.cst (.ptr 1 0))], objs := [.blk [.fl .addr] 24 true, .blk [.fl .addr] 24 true] }⟩] }
noncomputable def addr_Less_env : Env := mkEnv ty fnB [(13, addr_Check_con), (18, addr_Order_con)] [(2, (loopTr addr_Less_L2_S (loopN addr_Less_L2 FUEL)))]
theorem addr_Less_envOk : EnvOk Tryd.prog addr_Less_env := envOk tyOk fn_ok (callsCons addr_Check_ok (callsCons addr_Order_ok callsNil)) _
theorem addr_Less_L2_ok : LOk Tryd.prog (nthLoop (codeOf Tryd.f7) 0) (loopTr addr_Less_L2_S (loopN addr_Less_L2 FUEL)) := by
 have h : loopsOf (nthLoop (codeOf Tryd.f7) 0) = [] := by kernel_rfl
 refine loop_ok addr_Less_envOk (loopsOk h lsNil) addr_Less_L2_S addr_Less_L2 FUEL (fun rec x => ?_)
 kernel_rfl
noncomputable def addr_Less_con : Con := con [.one (.fl .addr), .one (.fl .addr)] [.one (.fl .bool), .one (.fl .int)] (fun x => addr_Less_t x.1 x.2.1)
theorem addr_Less_ok : TrOk Tryd.prog 7 addr_Less_con := by
 have h : loopsOf (codeOf Tryd.f7) = [(nthLoop (codeOf Tryd.f7) 0)] := by kernel_rfl
 refine con_ok addr_Less_envOk Tryd.func7 (bodyOk h (lsCons (one_loop (t := (loopTr addr_Less_L2_S (loopN addr_Less_L2 FUEL))) (by kernel_rfl) addr_Less_L2_ok) lsNil)) _ _ _ (fun x => ?_)
 kernel_rfl
noncomputable def R_CheckAddr_env : Env := mkEnv ty fnB [] []
theorem R_CheckAddr_envOk : EnvOk Tryd.prog R_CheckAddr_env := envOk tyOk fn_ok callsNil _
noncomputable def R_CheckAddr_con : Con := con [.one (.fl .addr)] [.one (.fl .int)] (fun x => R_CheckAddr_t x.1)
theorem R_CheckAddr_ok : TrOk Tryd.prog 8 R_CheckAddr_con := by
 have h : loopsOf (codeOf Tryd.f8) = [] := by kernel_rfl
 refine con_ok R_CheckAddr_envOk Tryd.func8 (bodyOk h lsNil) _ _ _ (fun x => ?_)
 kernel_rfl
def R_Bits_L3_S : LoopS := { n := 42, base := 0, head := { keep := [1, 3, 4], vals := [.one (.cst (.ptr 0 0)), .one (.cst (.row 1)), .one (.fl .int)], objs := [.blk [.fl .addr] 24 true, .row .u8 5 true] }, exits := [⟨some 0, { keep := [1, 3], vals := [.one (.cst (.ptr 0 0)), .one (.cst (.row 1))], objs := [.blk [.fl .addr] 24 true, .row .u8 5 true] }⟩] }
def R_Bits_L7_S : LoopS := { n := 42, base := 0, head := { keep := [1, 3, 5], vals := [.one (.cst (.ptr 0 0)), .one (.cst (.row 1)), .one (.fl .int)], objs := [.blk [.fl .addr] 24 true, .row .u8 5 true] }, exits := [⟨some 2, { keep := [1, 3], vals := [.one (.cst (.ptr 0 0)), .one (.cst (.row 1))], objs := [.blk [.fl .addr] 24 true, .row .u8 5 true] }⟩] }
noncomputable def R_Bits_env : Env := mkEnv ty fnB [] [(3, (loopTr R_Bits_L3_S (loopN R_Bits_L3 FUEL))), (7, (loopTr R_Bits_L7_S (loopN R_Bits_L7 FUEL)))]
theorem R_Bits_envOk : EnvOk Tryd.prog R_Bits_env := envOk tyOk fn_ok callsNil _
theorem R_Bits_L7_ok : LOk Tryd.prog (nthLoop (codeOf Tryd.f19) 1) (loopTr R_Bits_L7_S (loopN R_Bits_L7 FUEL)) := by
 have h : loopsOf (nthLoop (codeOf Tryd.f19) 1) = [] := by kernel_rfl
 refine loop_ok R_Bits_envOk (loopsOk h lsNil) R_Bits_L7_S R_Bits_L7 FUEL (fun rec x => ?_)
 kernel_rfl
theorem R_Bits_L3_ok : LOk Tryd.prog (nthLoop (codeOf Tryd.f19) 0) (loopTr R_Bits_L3_S (loopN R_Bits_L3 FUEL)) := by
 have h : loopsOf (nthLoop (codeOf Tryd.f19) 0) = [] := by kernel_rfl
 refine loop_ok R_Bits_envOk (loopsOk h lsNil) R_Bits_L3_S R_Bits_L3 FUEL (fun rec x => ?_)
 kernel_rfl
noncomputable def R_Bits_con : Con := con [.one (.fl .addr)] [.one (.fl .str)] (fun x => R_Bits_t x.1)
theorem R_Bits_ok : TrOk Tryd.prog 19 R_Bits_con := by
 have h : loopsOf (codeOf Tryd.f19) = [(nthLoop (codeOf Tryd.f19) 0), (nthLoop (codeOf Tryd.f19) 1)] := by kernel_rfl
 refine con_ok R_Bits_envOk Tryd.func19 (bodyOk h (lsCons (one_loop (t := (loopTr R_Bits_L3_S (loopN R_Bits_L3 FUEL))) (by kernel_rfl) R_Bits_L3_ok) (lsCons (one_loop (t := (loopTr R_Bits_L7_S (loopN R_Bits_L7 FUEL))) (by kernel_rfl) R_Bits_L7_ok) lsNil))) _ _ _ (fun x => ?_)
 kernel_rfl
def R_numberOf_L3_S : LoopS := { n := 20, base := 0, head := { keep := [0, 3, 4], vals := [.one (.fl .str), .one (.fl .int), .one (.fl .int)], objs := [] }, exits := [⟨some 0, { keep := [3], vals := [.one (.fl .int)], objs := [] }⟩] }
noncomputable def R_numberOf_env : Env := mkEnv ty fnB [] [(3, (loopTr R_numberOf_L3_S (loopN R_numberOf_L3 FUEL)))]
theorem R_numberOf_envOk : EnvOk Tryd.prog R_numberOf_env := envOk tyOk fn_ok callsNil _
theorem R_numberOf_L3_ok : LOk Tryd.prog (nthLoop (codeOf Tryd.f21) 0) (loopTr R_numberOf_L3_S (loopN R_numberOf_L3 FUEL)) := by
 have h : loopsOf (nthLoop (codeOf Tryd.f21) 0) = [] := by kernel_rfl
 refine loop_ok R_numberOf_envOk (loopsOk h lsNil) R_numberOf_L3_S R_numberOf_L3 FUEL (fun rec x => ?_)
 kernel_rfl
noncomputable def R_numberOf_con : Con := con [.one (.fl .str)] [.one (.fl .int)] (fun x => R_numberOf_t x.1)
theorem R_numberOf_ok : TrOk Tryd.prog 21 R_numberOf_con := by
 have h : loopsOf (codeOf Tryd.f21) = [(nthLoop (codeOf Tryd.f21) 0)] := by kernel_rfl
 refine con_ok R_numberOf_envOk Tryd.func21 (bodyOk h (lsCons (one_loop (t := (loopTr R_numberOf_L3_S (loopN R_numberOf_L3 FUEL))) (by kernel_rfl) R_numberOf_L3_ok) lsNil)) _ _ _ (fun x => ?_)
 kernel_rfl
noncomputable def R_Digits_env (R_Digits_rec_con : Con) : Env := mkEnv ty fnB [(20, R_Digits_rec_con)] []
theorem R_Digits_envOk {R_Digits_rec_con : Con} (R_Digits_rec_ok : TrOk Tryd.prog 20 R_Digits_rec_con) : EnvOk Tryd.prog (R_Digits_env R_Digits_rec_con) := envOk tyOk fn_ok (callsCons R_Digits_rec_ok callsNil) _
theorem R_Digits_step_ok (R_Digits_rec_t : Int → Int → Option (ByteArray × Unit)) (R_Digits_rec_ok : TrOk Tryd.prog 20 (con [.one (.fl .int), .one (.fl .int)] [.one (.fl .str)] (fun x => R_Digits_rec_t x.1 x.2.1))) : TrOk Tryd.prog 20 (con [.one (.fl .int), .one (.fl .int)] [.one (.fl .str)] (fun x => R_Digits_step R_Digits_rec_t x.1 x.2.1)) := by
 have h : loopsOf (codeOf Tryd.f20) = [] := by kernel_rfl
 refine con_ok (R_Digits_envOk R_Digits_rec_ok) Tryd.func20 (bodyOk h lsNil) _ _ _ (fun x => ?_)
 kernel_rfl
theorem R_Digits_fuel_ok : ∀ n, TrOk Tryd.prog 20 (con [.one (.fl .int), .one (.fl .int)] [.one (.fl .str)] (fun x => R_Digits_fuel n x.1 x.2.1))
 | 0 => con_none Tryd.prog 20 [.one (.fl .int), .one (.fl .int)] [.one (.fl .str)]
 | n + 1 => R_Digits_step_ok _ (R_Digits_fuel_ok n)
noncomputable def R_Digits_con : Con := con [.one (.fl .int), .one (.fl .int)] [.one (.fl .str)] (fun x => R_Digits_t x.1 x.2.1)
theorem R_Digits_ok : TrOk Tryd.prog 20 R_Digits_con := R_Digits_fuel_ok RECN
def R_TextOf_L6_S : LoopS := { n := 108, base := 0, head := { keep := [3, 4, 5], vals := [.one (.fl .str), .one (.cst (.ep 0 0 1 0)), .one (.fl .int)], objs := [.row .int 46 true] }, exits := [⟨some 0, { keep := [4], vals := [.one (.cst (.ep 0 0 1 0))], objs := [.row .int 46 true] }⟩] }
def R_TextOf_L14_S : LoopS := { n := 108, base := 0, head := { keep := [4, 6, 7, 8, 9], vals := [.one (.cst (.ep 0 0 1 0)), .one (.fl .int), .one (.fl .int), .one (.fl .int), .one (.fl .int)], objs := [.row .int 46 true] }, exits := [⟨some 4, { keep := [4, 6, 7, 8, 9], vals := [.one (.cst (.ep 0 0 1 0)), .one (.fl .int), .one (.fl .int), .one (.fl .int), .one (.fl .int)], objs := [.row .int 46 true] }⟩] }
def R_TextOf_L11_S : LoopS := { n := 108, base := 0, head := { keep := [4, 6, 7, 8], vals := [.one (.cst (.ep 0 0 1 0)), .one (.fl .int), .one (.fl .int), .one (.fl .int)], objs := [.row .int 46 true] }, exits := [⟨some 2, { keep := [4, 6, 7], vals := [.one (.cst (.ep 0 0 1 0)), .one (.fl .int), .one (.fl .int)], objs := [.row .int 46 true] }⟩] }
def R_TextOf_L20_S : LoopS := { n := 108, base := 0, head := { keep := [4, 6, 7, 10, 11], vals := [.one (.cst (.ep 0 0 1 0)), .one (.fl .int), .one (.fl .int), .one (.fl .str), .one (.fl .int)], objs := [.row .int 46 true] }, exits := [⟨some 6, { keep := [10], vals := [.one (.fl .str)], objs := [] }⟩] }
noncomputable def R_TextOf_env : Env := mkEnv ty fnB [(19, R_Bits_con), (21, R_numberOf_con), (20, R_Digits_con)] [(6, (loopTr R_TextOf_L6_S (loopN R_TextOf_L6 FUEL))), (14, (loopTr R_TextOf_L14_S (loopN R_TextOf_L14 FUEL))), (11, (loopTr R_TextOf_L11_S (loopN R_TextOf_L11 FUEL))), (20, (loopTr R_TextOf_L20_S (loopN R_TextOf_L20 FUEL)))]
theorem R_TextOf_envOk : EnvOk Tryd.prog R_TextOf_env := envOk tyOk fn_ok (callsCons R_Bits_ok (callsCons R_numberOf_ok (callsCons R_Digits_ok callsNil))) _
theorem R_TextOf_L14_ok : LOk Tryd.prog (nthLoop (nthLoop (codeOf Tryd.f9) 1) 0) (loopTr R_TextOf_L14_S (loopN R_TextOf_L14 FUEL)) := by
 have h : loopsOf (nthLoop (nthLoop (codeOf Tryd.f9) 1) 0) = [] := by kernel_rfl
 refine loop_ok R_TextOf_envOk (loopsOk h lsNil) R_TextOf_L14_S R_TextOf_L14 FUEL (fun rec x => ?_)
 kernel_rfl
theorem R_TextOf_L20_ok : LOk Tryd.prog (nthLoop (codeOf Tryd.f9) 2) (loopTr R_TextOf_L20_S (loopN R_TextOf_L20 FUEL)) := by
 have h : loopsOf (nthLoop (codeOf Tryd.f9) 2) = [] := by kernel_rfl
 refine loop_ok R_TextOf_envOk (loopsOk h lsNil) R_TextOf_L20_S R_TextOf_L20 FUEL (fun rec x => ?_)
 kernel_rfl
theorem R_TextOf_L6_ok : LOk Tryd.prog (nthLoop (codeOf Tryd.f9) 0) (loopTr R_TextOf_L6_S (loopN R_TextOf_L6 FUEL)) := by
 have h : loopsOf (nthLoop (codeOf Tryd.f9) 0) = [] := by kernel_rfl
 refine loop_ok R_TextOf_envOk (loopsOk h lsNil) R_TextOf_L6_S R_TextOf_L6 FUEL (fun rec x => ?_)
 kernel_rfl
theorem R_TextOf_L11_ok : LOk Tryd.prog (nthLoop (codeOf Tryd.f9) 1) (loopTr R_TextOf_L11_S (loopN R_TextOf_L11 FUEL)) := by
 have h : loopsOf (nthLoop (codeOf Tryd.f9) 1) = [(nthLoop (nthLoop (codeOf Tryd.f9) 1) 0)] := by kernel_rfl
 refine loop_ok R_TextOf_envOk (loopsOk h (lsCons (one_loop (t := (loopTr R_TextOf_L14_S (loopN R_TextOf_L14 FUEL))) (by kernel_rfl) R_TextOf_L14_ok) lsNil)) R_TextOf_L11_S R_TextOf_L11 FUEL (fun rec x => ?_)
 kernel_rfl
noncomputable def R_TextOf_con : Con := con [.one (.fl .addr)] [.one (.fl .str)] (fun x => R_TextOf_t x.1)
theorem R_TextOf_ok : TrOk Tryd.prog 9 R_TextOf_con := by
 have h : loopsOf (codeOf Tryd.f9) = [(nthLoop (codeOf Tryd.f9) 0), (nthLoop (codeOf Tryd.f9) 1), (nthLoop (codeOf Tryd.f9) 2)] := by kernel_rfl
 refine con_ok R_TextOf_envOk Tryd.func9 (bodyOk h (lsCons (one_loop (t := (loopTr R_TextOf_L6_S (loopN R_TextOf_L6 FUEL))) (by kernel_rfl) R_TextOf_L6_ok) (lsCons (one_loop (t := (loopTr R_TextOf_L11_S (loopN R_TextOf_L11 FUEL))) (by kernel_rfl) R_TextOf_L11_ok) (lsCons (one_loop (t := (loopTr R_TextOf_L20_S (loopN R_TextOf_L20 FUEL))) (by kernel_rfl) R_TextOf_L20_ok) lsNil)))) _ _ _ (fun x => ?_)
 kernel_rfl
def R_AddrOf_L3_S : LoopS := { n := 39, base := 0, head := { keep := [0, 2, 3, 4], vals := [.one (.fl .str), .one (.cst (.ptr 0 0)), .one (.cst (.ptr 1 0)), .one (.fl .int)], objs := [.blk [.fl .addr] 24 true, .blk [.fl .addr] 24 true] }, exits := [⟨some 0, { keep := [2, 3], vals := [.one (.cst (.ptr 0 0)), .one (.cst (.ptr 1 0))], objs := [.blk [.fl .addr] 24 true, .blk [.fl .addr] 24 true] }⟩] }
noncomputable def R_AddrOf_env : Env := mkEnv ty fnB [] [(3, (loopTr R_AddrOf_L3_S (loopN R_AddrOf_L3 FUEL)))]
theorem R_AddrOf_envOk : EnvOk Tryd.prog R_AddrOf_env := envOk tyOk fn_ok callsNil _
theorem R_AddrOf_L3_ok : LOk Tryd.prog (nthLoop (codeOf Tryd.f22) 0) (loopTr R_AddrOf_L3_S (loopN R_AddrOf_L3 FUEL)) := by
 have h : loopsOf (nthLoop (codeOf Tryd.f22) 0) = [] := by kernel_rfl
 refine loop_ok R_AddrOf_envOk (loopsOk h lsNil) R_AddrOf_L3_S R_AddrOf_L3 FUEL (fun rec x => ?_)
 kernel_rfl
noncomputable def R_AddrOf_con : Con := con [.one (.fl .str)] [.one (.fl .addr)] (fun x => R_AddrOf_t x.1)
theorem R_AddrOf_ok : TrOk Tryd.prog 22 R_AddrOf_con := by
 have h : loopsOf (codeOf Tryd.f22) = [(nthLoop (codeOf Tryd.f22) 0)] := by kernel_rfl
 refine con_ok R_AddrOf_envOk Tryd.func22 (bodyOk h (lsCons (one_loop (t := (loopTr R_AddrOf_L3_S (loopN R_AddrOf_L3 FUEL))) (by kernel_rfl) R_AddrOf_L3_ok) lsNil)) _ _ _ (fun x => ?_)
 kernel_rfl
def R_splitAt_L4_S : LoopS := { n := 34, base := 0, head := { keep := [0, 1, 5, 6, 7], vals := [.one (.fl .str), .one (.fl .u8), .one (.cst (.row 0)), .one (.fl .str), .one (.fl .int)], objs := [.row .str 9 true] }, exits := [⟨some 0, { keep := [5, 6], vals := [.one (.cst (.row 0)), .one (.fl .str)], objs := [.row .str 9 true] }⟩] }
noncomputable def R_splitAt_env : Env := mkEnv ty fnB [] [(4, (loopTr R_splitAt_L4_S (loopN R_splitAt_L4 FUEL)))]
theorem R_splitAt_envOk : EnvOk Tryd.prog R_splitAt_env := envOk tyOk fn_ok callsNil _
theorem R_splitAt_L4_ok : LOk Tryd.prog (nthLoop (codeOf Tryd.f35) 0) (loopTr R_splitAt_L4_S (loopN R_splitAt_L4 FUEL)) := by
 have h : loopsOf (nthLoop (codeOf Tryd.f35) 0) = [] := by kernel_rfl
 refine loop_ok R_splitAt_envOk (loopsOk h lsNil) R_splitAt_L4_S R_splitAt_L4 FUEL (fun rec x => ?_)
 kernel_rfl
noncomputable def R_splitAt_con : Con := con [.one (.fl .str), .one (.fl .u8)] [.one (.row .str 9)] (fun x => R_splitAt_t x.1 x.2.1)
theorem R_splitAt_ok : TrOk Tryd.prog 35 R_splitAt_con := by
 have h : loopsOf (codeOf Tryd.f35) = [(nthLoop (codeOf Tryd.f35) 0)] := by kernel_rfl
 refine con_ok R_splitAt_envOk Tryd.func35 (bodyOk h (lsCons (one_loop (t := (loopTr R_splitAt_L4_S (loopN R_splitAt_L4 FUEL))) (by kernel_rfl) R_splitAt_L4_ok) lsNil)) _ _ _ (fun x => ?_)
 kernel_rfl
noncomputable def R_between_env : Env := mkEnv ty fnB [] []
theorem R_between_envOk : EnvOk Tryd.prog R_between_env := envOk tyOk fn_ok callsNil _
noncomputable def R_between_con : Con := con [.one (.fl .int), .one (.fl .int), .one (.fl .int)] [.one (.fl .bool)] (fun x => R_between_t x.1 x.2.1 x.2.2.1)
theorem R_between_ok : TrOk Tryd.prog 36 R_between_con := by
 have h : loopsOf (codeOf Tryd.f36) = [] := by kernel_rfl
 refine con_ok R_between_envOk Tryd.func36 (bodyOk h lsNil) _ _ _ (fun x => ?_)
 kernel_rfl
noncomputable def R_bitsOf_env (R_bitsOf_rec_con : Con) : Env := mkEnv ty fnB [(37, R_bitsOf_rec_con), (20, R_Digits_con)] []
theorem R_bitsOf_envOk {R_bitsOf_rec_con : Con} (R_bitsOf_rec_ok : TrOk Tryd.prog 37 R_bitsOf_rec_con) : EnvOk Tryd.prog (R_bitsOf_env R_bitsOf_rec_con) := envOk tyOk fn_ok (callsCons R_bitsOf_rec_ok (callsCons R_Digits_ok callsNil)) _
theorem R_bitsOf_step_ok (R_bitsOf_rec_t : Int → Int → Option (ByteArray × Unit)) (R_bitsOf_rec_ok : TrOk Tryd.prog 37 (con [.one (.fl .int), .one (.fl .int)] [.one (.fl .str)] (fun x => R_bitsOf_rec_t x.1 x.2.1))) : TrOk Tryd.prog 37 (con [.one (.fl .int), .one (.fl .int)] [.one (.fl .str)] (fun x => R_bitsOf_step R_bitsOf_rec_t x.1 x.2.1)) := by
 have h : loopsOf (codeOf Tryd.f37) = [] := by kernel_rfl
 refine con_ok (R_bitsOf_envOk R_bitsOf_rec_ok) Tryd.func37 (bodyOk h lsNil) _ _ _ (fun x => ?_)
 kernel_rfl
theorem R_bitsOf_fuel_ok : ∀ n, TrOk Tryd.prog 37 (con [.one (.fl .int), .one (.fl .int)] [.one (.fl .str)] (fun x => R_bitsOf_fuel n x.1 x.2.1))
 | 0 => con_none Tryd.prog 37 [.one (.fl .int), .one (.fl .int)] [.one (.fl .str)]
 | n + 1 => R_bitsOf_step_ok _ (R_bitsOf_fuel_ok n)
noncomputable def R_bitsOf_con : Con := con [.one (.fl .int), .one (.fl .int)] [.one (.fl .str)] (fun x => R_bitsOf_t x.1 x.2.1)
theorem R_bitsOf_ok : TrOk Tryd.prog 37 R_bitsOf_con := R_bitsOf_fuel_ok RECN
def R_fourOf_L10_S : LoopS := { n := 74, base := 0, head := { keep := [4, 5, 6, 7, 8], vals := [.one (.cst (.row 0)), .one (.fl .str), .one (.fl .int), .one (.fl .int), .one (.fl .int)], objs := [.row .str 9 true] }, exits := [⟨none, { keep := [2, 3], vals := [.one (.fl .str), .one (.fl .bool)], objs := [] }⟩, ⟨some 2, { keep := [4, 5, 6, 7], vals := [.one (.cst (.row 0)), .one (.fl .str), .one (.fl .int), .one (.fl .int)], objs := [.row .str 9 true] }⟩] }
def R_fourOf_L6_S : LoopS := { n := 74, base := 0, head := { keep := [4, 5, 6], vals := [.one (.cst (.row 0)), .one (.fl .str), .one (.fl .int)], objs := [.row .str 9 true] }, exits := [⟨none, { keep := [2, 3], vals := [.one (.fl .str), .one (.fl .bool)], objs := [] }⟩, ⟨some 0, { keep := [5], vals := [.one (.fl .str)], objs := [] }⟩] }
noncomputable def R_fourOf_env : Env := mkEnv ty fnB [(35, R_splitAt_con), (36, R_between_con), (20, R_Digits_con), (37, R_bitsOf_con)] [(10, (loopTr R_fourOf_L10_S (loopN R_fourOf_L10 FUEL))), (6, (loopTr R_fourOf_L6_S (loopN R_fourOf_L6 FUEL)))]
theorem R_fourOf_envOk : EnvOk Tryd.prog R_fourOf_env := envOk tyOk fn_ok (callsCons R_splitAt_ok (callsCons R_between_ok (callsCons R_Digits_ok (callsCons R_bitsOf_ok callsNil)))) _
theorem R_fourOf_L10_ok : LOk Tryd.prog (nthLoop (nthLoop (codeOf Tryd.f23) 0) 0) (loopTr R_fourOf_L10_S (loopN R_fourOf_L10 FUEL)) := by
 have h : loopsOf (nthLoop (nthLoop (codeOf Tryd.f23) 0) 0) = [] := by kernel_rfl
 refine loop_ok R_fourOf_envOk (loopsOk h lsNil) R_fourOf_L10_S R_fourOf_L10 FUEL (fun rec x => ?_)
 kernel_rfl
theorem R_fourOf_L6_ok : LOk Tryd.prog (nthLoop (codeOf Tryd.f23) 0) (loopTr R_fourOf_L6_S (loopN R_fourOf_L6 FUEL)) := by
 have h : loopsOf (nthLoop (codeOf Tryd.f23) 0) = [(nthLoop (nthLoop (codeOf Tryd.f23) 0) 0)] := by kernel_rfl
 refine loop_ok R_fourOf_envOk (loopsOk h (lsCons (one_loop (t := (loopTr R_fourOf_L10_S (loopN R_fourOf_L10 FUEL))) (by kernel_rfl) R_fourOf_L10_ok) lsNil)) R_fourOf_L6_S R_fourOf_L6 FUEL (fun rec x => ?_)
 kernel_rfl
noncomputable def R_fourOf_con : Con := con [.one (.fl .str)] [.one (.fl .str), .one (.fl .bool)] (fun x => R_fourOf_t x.1)
theorem R_fourOf_ok : TrOk Tryd.prog 23 R_fourOf_con := by
 have h : loopsOf (codeOf Tryd.f23) = [(nthLoop (codeOf Tryd.f23) 0)] := by kernel_rfl
 refine con_ok R_fourOf_envOk Tryd.func23 (bodyOk h (lsCons (one_loop (t := (loopTr R_fourOf_L6_S (loopN R_fourOf_L6 FUEL))) (by kernel_rfl) R_fourOf_L6_ok) lsNil)) _ _ _ (fun x => ?_)
 kernel_rfl
def R_groupOf_L5_S : LoopS := { n := 49, base := 0, head := { keep := [0, 4, 5], vals := [.one (.fl .str), .one (.fl .int), .one (.fl .int)], objs := [] }, exits := [⟨none, { keep := [2, 3], vals := [.one (.fl .str), .one (.fl .bool)], objs := [] }⟩, ⟨some 0, { keep := [4], vals := [.one (.fl .int)], objs := [] }⟩] }
noncomputable def R_groupOf_env : Env := mkEnv ty fnB [(36, R_between_con), (37, R_bitsOf_con)] [(5, (loopTr R_groupOf_L5_S (loopN R_groupOf_L5 FUEL)))]
theorem R_groupOf_envOk : EnvOk Tryd.prog R_groupOf_env := envOk tyOk fn_ok (callsCons R_between_ok (callsCons R_bitsOf_ok callsNil)) _
theorem R_groupOf_L5_ok : LOk Tryd.prog (nthLoop (codeOf Tryd.f38) 0) (loopTr R_groupOf_L5_S (loopN R_groupOf_L5 FUEL)) := by
 have h : loopsOf (nthLoop (codeOf Tryd.f38) 0) = [] := by kernel_rfl
 refine loop_ok R_groupOf_envOk (loopsOk h lsNil) R_groupOf_L5_S R_groupOf_L5 FUEL (fun rec x => ?_)
 kernel_rfl
noncomputable def R_groupOf_con : Con := con [.one (.fl .str)] [.one (.fl .str), .one (.fl .bool)] (fun x => R_groupOf_t x.1)
theorem R_groupOf_ok : TrOk Tryd.prog 38 R_groupOf_con := by
 have h : loopsOf (codeOf Tryd.f38) = [(nthLoop (codeOf Tryd.f38) 0)] := by kernel_rfl
 refine con_ok R_groupOf_envOk Tryd.func38 (bodyOk h (lsCons (one_loop (t := (loopTr R_groupOf_L5_S (loopN R_groupOf_L5 FUEL))) (by kernel_rfl) R_groupOf_L5_ok) lsNil)) _ _ _ (fun x => ?_)
 kernel_rfl
def R_groupsOf_L6_S : LoopS := { n := 55, base := 0, head := { keep := [1, 6, 7, 8], vals := [.one (.fl .bool), .one (.cst (.row 0)), .one (.fl .str), .one (.fl .int)], objs := [.row .str 9 true] }, exits := [⟨none, { keep := [4, 5], vals := [.one (.fl .str), .one (.fl .bool)], objs := [] }⟩, ⟨some 0, { keep := [7], vals := [.one (.fl .str)], objs := [] }⟩] }
noncomputable def R_groupsOf_env : Env := mkEnv ty fnB [(35, R_splitAt_con), (38, R_groupOf_con), (23, R_fourOf_con)] [(6, (loopTr R_groupsOf_L6_S (loopN R_groupsOf_L6 FUEL)))]
theorem R_groupsOf_envOk : EnvOk Tryd.prog R_groupsOf_env := envOk tyOk fn_ok (callsCons R_splitAt_ok (callsCons R_groupOf_ok (callsCons R_fourOf_ok callsNil))) _
theorem R_groupsOf_L6_ok : LOk Tryd.prog (nthLoop (codeOf Tryd.f24) 0) (loopTr R_groupsOf_L6_S (loopN R_groupsOf_L6 FUEL)) := by
 have h : loopsOf (nthLoop (codeOf Tryd.f24) 0) = [] := by kernel_rfl
 refine loop_ok R_groupsOf_envOk (loopsOk h lsNil) R_groupsOf_L6_S R_groupsOf_L6 FUEL (fun rec x => ?_)
 kernel_rfl
noncomputable def R_groupsOf_con : Con := con [.one (.fl .str), .one (.fl .bool)] [.one (.fl .str), .one (.fl .bool)] (fun x => R_groupsOf_t x.1 x.2.1)
theorem R_groupsOf_ok : TrOk Tryd.prog 24 R_groupsOf_con := by
 have h : loopsOf (codeOf Tryd.f24) = [(nthLoop (codeOf Tryd.f24) 0)] := by kernel_rfl
 refine con_ok R_groupsOf_envOk Tryd.func24 (bodyOk h (lsCons (one_loop (t := (loopTr R_groupsOf_L6_S (loopN R_groupsOf_L6 FUEL))) (by kernel_rfl) R_groupsOf_L6_ok) lsNil)) _ _ _ (fun x => ?_)
 kernel_rfl
def R_ParseOf_L3_S : LoopS := { n := 119, base := 0, head := { keep := [0, 2, 4, 5, 6], vals := [.one (.fl .str), .one (.cst (.ptr 0 0)), .one (.fl .bool), .one (.fl .int), .one (.fl .int)], objs := [.blk [.fl .addr] 24 true] }, exits := [⟨some 0, { keep := [0, 2, 4, 5], vals := [.one (.fl .str), .one (.cst (.ptr 0 0)), .one (.fl .bool), .one (.fl .int)], objs := [.blk [.fl .addr] 24 true] }⟩] }
def R_ParseOf_L23_S : LoopS := { n := 119, base := 0, head := { keep := [2, 12, 14], vals := [.one (.cst (.ptr 0 0)), .one (.fl .str), .one (.fl .str)], objs := [.blk [.fl .addr] 24 true] }, exits := [⟨some 2, { keep := [2, 12, 14], vals := [.one (.cst (.ptr 0 0)), .one (.fl .str), .one (.fl .str)], objs := [.blk [.fl .addr] 24 true] }⟩] }
noncomputable def R_ParseOf_env : Env := mkEnv ty fnB [(23, R_fourOf_con), (22, R_AddrOf_con), (24, R_groupsOf_con)] [(3, (loopTr R_ParseOf_L3_S (loopN R_ParseOf_L3 FUEL))), (23, (loopTr R_ParseOf_L23_S (loopN R_ParseOf_L23 FUEL)))]
theorem R_ParseOf_envOk : EnvOk Tryd.prog R_ParseOf_env := envOk tyOk fn_ok (callsCons R_fourOf_ok (callsCons R_AddrOf_ok (callsCons R_groupsOf_ok callsNil))) _
theorem R_ParseOf_L23_ok : LOk Tryd.prog (nthLoop (codeOf Tryd.f11) 1) (loopTr R_ParseOf_L23_S (loopN R_ParseOf_L23 FUEL)) := by
 have h : loopsOf (nthLoop (codeOf Tryd.f11) 1) = [] := by kernel_rfl
 refine loop_ok R_ParseOf_envOk (loopsOk h lsNil) R_ParseOf_L23_S R_ParseOf_L23 FUEL (fun rec x => ?_)
 kernel_rfl
theorem R_ParseOf_L3_ok : LOk Tryd.prog (nthLoop (codeOf Tryd.f11) 0) (loopTr R_ParseOf_L3_S (loopN R_ParseOf_L3 FUEL)) := by
 have h : loopsOf (nthLoop (codeOf Tryd.f11) 0) = [] := by kernel_rfl
 refine loop_ok R_ParseOf_envOk (loopsOk h lsNil) R_ParseOf_L3_S R_ParseOf_L3 FUEL (fun rec x => ?_)
 kernel_rfl
noncomputable def R_ParseOf_con : Con := con [.one (.fl .str)] [.one (.fl .addr), .one (.fl .bool)] (fun x => R_ParseOf_t x.1)
theorem R_ParseOf_ok : TrOk Tryd.prog 11 R_ParseOf_con := by
 have h : loopsOf (codeOf Tryd.f11) = [(nthLoop (codeOf Tryd.f11) 0), (nthLoop (codeOf Tryd.f11) 1)] := by kernel_rfl
 refine con_ok R_ParseOf_envOk Tryd.func11 (bodyOk h (lsCons (one_loop (t := (loopTr R_ParseOf_L3_S (loopN R_ParseOf_L3 FUEL))) (by kernel_rfl) R_ParseOf_L3_ok) (lsCons (one_loop (t := (loopTr R_ParseOf_L23_S (loopN R_ParseOf_L23 FUEL))) (by kernel_rfl) R_ParseOf_L23_ok) lsNil))) _ _ _ (fun x => ?_)
 kernel_rfl
noncomputable def law_v4_env : Env := mkEnv ty fnB [] []
theorem law_v4_envOk : EnvOk Tryd.prog law_v4_env := envOk tyOk fn_ok callsNil _
noncomputable def law_v4_con : Con := con [.one (.fl .u64)] [.one (.fl .addr)] (fun x => law_v4_t x.1)
theorem law_v4_ok : TrOk Tryd.prog 25 law_v4_con := by
 have h : loopsOf (codeOf Tryd.f25) = [] := by kernel_rfl
 refine con_ok law_v4_envOk Tryd.func25 (bodyOk h lsNil) _ _ _ (fun x => ?_)
 kernel_rfl
def R_IsAhead_L5_S : LoopS := { n := 39, base := 0, head := { keep := [5, 6, 7], vals := [.one (.fl .str), .one (.fl .str), .one (.fl .int)], objs := [] }, exits := [⟨none, { keep := [4], vals := [.one (.fl .bool)], objs := [] }⟩, ⟨some 0, { keep := [], vals := [], objs := [] }⟩] }
noncomputable def R_IsAhead_env : Env := mkEnv ty fnB [(19, R_Bits_con)] [(5, (loopTr R_IsAhead_L5_S (loopN R_IsAhead_L5 FUEL)))]
theorem R_IsAhead_envOk : EnvOk Tryd.prog R_IsAhead_env := envOk tyOk fn_ok (callsCons R_Bits_ok callsNil) _
theorem R_IsAhead_L5_ok : LOk Tryd.prog (nthLoop (codeOf Tryd.f14) 0) (loopTr R_IsAhead_L5_S (loopN R_IsAhead_L5 FUEL)) := by
 have h : loopsOf (nthLoop (codeOf Tryd.f14) 0) = [] := by kernel_rfl
 refine loop_ok R_IsAhead_envOk (loopsOk h lsNil) R_IsAhead_L5_S R_IsAhead_L5 FUEL (fun rec x => ?_)
 kernel_rfl
noncomputable def R_IsAhead_con : Con := con [.one (.fl .addr), .one (.fl .addr)] [.one (.fl .bool)] (fun x => R_IsAhead_t x.1 x.2.1)
theorem R_IsAhead_ok : TrOk Tryd.prog 14 R_IsAhead_con := by
 have h : loopsOf (codeOf Tryd.f14) = [(nthLoop (codeOf Tryd.f14) 0)] := by kernel_rfl
 refine con_ok R_IsAhead_envOk Tryd.func14 (bodyOk h (lsCons (one_loop (t := (loopTr R_IsAhead_L5_S (loopN R_IsAhead_L5 FUEL))) (by kernel_rfl) R_IsAhead_L5_ok) lsNil)) _ _ _ (fun x => ?_)
 kernel_rfl
end Go.Proofs.YtafggolijpopeaaDoor
namespace Go.Proofs.YtafggolijpopeaaDoor
open Go Go.Ma Go.RowKit Go.Proofs
def cur (bs : List UInt8) (j : Nat) : List UInt8 := bs.take j ++ List.replicate (bs.length - j) 48
theorem cur_len (bs : List UInt8) (j : Nat) (h : j ≤ bs.length) : (cur bs j).length = bs.length := by simp [cur]; omega
theorem cur_full (bs : List UInt8) : cur bs bs.length = bs := by simp [cur]
theorem cur_at (bs : List UInt8) (q : Nat) (h : q < bs.length) : (cur bs (q + 1))[q]? = some bs[q] := by
 unfold cur
 rw [List.getElem?_append_left (by simp; omega), List.getElem?_take_of_lt (by omega), List.getElem?_eq_getElem h]
theorem cur_set (bs : List UInt8) (q : Nat) (h : q < bs.length) : (cur bs (q + 1)).set q 48 = cur bs q := by
 unfold cur
 rw [List.take_succ_eq_append_getElem h, List.append_assoc, List.set_append_right _ _ (by simp; omega)]
 have : q - (bs.take q).length = 0 := by simp; omega
 rw [this]
 have h2 : bs.length - q = bs.length - (q + 1) + 1 := by omega
 rw [h2, List.replicate_succ]
 rfl
theorem cur_one (bs : List UInt8) (q : Nat) (h : q < bs.length) : (cur bs (q + 1)).set q 49 = bs.take q ++ 49 :: List.replicate (bs.length - (q + 1)) 48 := by
 unfold cur
 rw [List.take_succ_eq_append_getElem h, List.append_assoc, List.set_append_right _ _ (by simp; omega)]
 have : q - (bs.take q).length = 0 := by simp; omega
 rw [this]
 rfl
def IncAt (bs : List UInt8) (j : Nat) : Prop := incR bs.reverse = (incR (bs.take j).reverse).map (List.replicate (bs.length - j) 48 ++ ·)
theorem incAt_full (bs : List UInt8) : IncAt bs bs.length := by simp [IncAt]
theorem incAt_zero {bs : List UInt8} (h : IncAt bs 0) : incR bs.reverse = none := by simpa [IncAt, incR] using h
theorem incAt_step {bs : List UInt8} {q : Nat} (h : q < bs.length) (hi : IncAt bs (q + 1)) (hc : ¬ bs[q] = 48) : IncAt bs q := by
 unfold IncAt at *
 rw [hi, List.take_succ_eq_append_getElem h, List.reverse_append]
 show Option.map _ (incR (bs[q] :: (bs.take q).reverse)) = _
 simp only [incR, hc, if_false, Option.map_map]
 congr 1
 funext l
 have h2 : bs.length - q = bs.length - (q + 1) + 1 := by omega
 simp only [Function.comp, h2, List.replicate_succ', List.append_assoc]
 rfl
theorem incAt_hit {bs : List UInt8} {q : Nat} (h : q < bs.length) (hi : IncAt bs (q + 1)) (hc : bs[q] = 48) : ∃ l, incR bs.reverse = some l ∧ l.reverse = (cur bs (q + 1)).set q 49 := by
 unfold IncAt at *
 rw [List.take_succ_eq_append_getElem h, List.reverse_append] at hi
 have : incR ((bs[q] :: (bs.take q).reverse)) = some (49 :: (bs.take q).reverse) := by simp only [incR, hc, if_true]
 rw [show [bs[q]].reverse ++ (bs.take q).reverse = bs[q] :: (bs.take q).reverse from rfl, this] at hi
 exact ⟨_, hi, by rw [cur_one _ _ h]; simp⟩
theorem set3h {w : World} {N : Nat} {x y z a b c : Value} {t : TypeId} (h : w.heap[N]? = some (Go.Obj.cells #[x, y, z] t (0, 0))) :
  (((w.setCell ⟨N, 0, none⟩ a).setCell ⟨N, 1, none⟩ b).setCell ⟨N, 2, none⟩ c).heap[N]? = some (Go.Obj.cells #[a, b, c] t (0, 0)) ∧
  (∀ k, k ≠ N → (((w.setCell ⟨N, 0, none⟩ a).setCell ⟨N, 1, none⟩ b).setCell ⟨N, 2, none⟩ c).heap[k]? = w.heap[k]?) ∧
  Below N w (((w.setCell ⟨N, 0, none⟩ a).setCell ⟨N, 1, none⟩ b).setCell ⟨N, 2, none⟩ c) := by
 obtain ⟨h1, h2, _⟩ := setCells_spec w N 0 [a, b, c] #[x, y, z] t (0, 0) h
 refine ⟨h1, h2, ?_⟩
 exact (((Below.refl N w).setCell (p := ⟨N, 0, none⟩) (Nat.le_refl _) _).setCell (p := ⟨N, 1, none⟩) (Nat.le_refl _) _).setCell (p := ⟨N, 2, none⟩) (Nat.le_refl _) _
theorem three_cellsh {w : World} {N : Nat} {a b c : Value} {t : TypeId} (this : w.heap[N]? = some (Go.Obj.cells #[a, b, c] t (0, 0))) :
  w.cell? ⟨N, 0, none⟩ = some a ∧ w.cell? ⟨N, 1, none⟩ = some b ∧ w.cell? ⟨N, 2, none⟩ = some c ∧ w.frozen? ⟨N, 0, none⟩ = false ∧ w.frozen? ⟨N, 1, none⟩ = false ∧ w.frozen? ⟨N, 2, none⟩ = false := by
 refine ⟨?_, ?_, ?_, ?_, ?_, ?_⟩ <;> simp [World.cell?, World.frozen?, this]
def adV3 (a : Ad) : Value := .agg #[.bool a.v6, .int .u64 a.hi, .int .u64 a.lo]
def ByteCells (C : Array Value) (l : List UInt8) : Prop := ∀ q (h : q < l.length), C[q]? = some (.int .u8 (l[q].toNat : Int))
theorem byteCells_set {C : Array Value} {l : List UInt8} (h : ByteCells C l) {q : Nat} (hq : q < l.length) (c : UInt8) : ByteCells (C.setIfInBounds q (.int .u8 (c.toNat : Int))) (l.set q c) := by
 intro k hk
 have hk' : k < l.length := by simpa using hk
 by_cases e : k = q
 ·subst e
  have := (Array.getElem?_eq_some_iff.1 (h k hk')).1
  simp [this]
 ·rw [Array.getElem?_setIfInBounds_ne (by omega), List.getElem_set_ne (by omega)]
  exact h k hk'
set_option maxRecDepth 100000 in
set_option maxHeartbeats 4000000 in
theorem nextOf_walk (a : Ad) (s : ByteArray) (w : World) (hs : s.size ≤ 1024) (r : Ad × Bool) (HB : ∀ W, Below w.heap.size w W → Calls Tryd.prog 19 #[adV3 a] W fun e w' => e = .returned (.string s) ∧ Below W.heap.size W w')
  (hnone : incR s.data.toList.reverse = none → r = (⟨false, 0, 0⟩, false))
  (hsome : ∀ l, incR s.data.toList.reverse = some l → ∃ b, r = (b, true) ∧ ∀ W, Below w.heap.size w W → Calls Tryd.prog 22 #[.string ⟨l.reverse.toArray⟩] W fun e w' => e = .returned (adV3 b) ∧ Below W.heap.size W w') :
  Calls Tryd.prog 10 #[adV3 a] w fun e w' => e = .returned (.tuple #[adV3 r.1, .bool r.2]) ∧ Below w.heap.size w w' := by
 have hcv := fun w s => run_bytes_of_string (P := Tryd.prog) w 9 47 5 s Tryd.underlying9 Tryd.underlying47 Tryd.underlying5
 have HBx := HB _ ((((Below.refl w.heap.size w).alloc (Nat.le_refl _) (.cells #[.bool a.v6, .int .u64 a.hi, .int .u64 a.lo] 24)).alloc (by simp) (.cells #[.bool false, .int .u64 0, .int .u64 0] 24)))
 simp only [adV3] at HBx ⊢
 go_enter Tryd.func10, Tryd.ntmps10
 go_wp2_with (go_at_call 19; refine HBx.mono ?_; rintro e w1 ⟨rfl, hb1⟩)
 obtain ⟨B, hB⟩ : ∃ B, B = w1.heap.size := ⟨_, rfl⟩
 obtain ⟨cap, hcap⟩ : ∃ cap, cap = grownCap w1 s.size 0 5 := ⟨_, rfl⟩
 rw [← hB, ← hcap]
 obtain ⟨C0, hC0⟩ : ∃ C0, C0 = bytesRow s cap := ⟨_, rfl⟩
 rw [← hC0]
 obtain ⟨bs, hbs⟩ : ∃ bs, bs = s.data.toList := ⟨_, rfl⟩
 have hn : s.size = bs.length := by rw [hbs]; simp
 have hcells0 : ByteCells C0 bs := fun q hq => by
  rw [hC0, bytesRow, Array.getElem?_append_left (by simp; omega)]
  subst hbs
  simp at hq
  simp [hq]
 have hw1 : w.heap.size + 1 < w1.heap.size := by have := hb1.size; simp at this; omega
 have hres : w1.heap[w.heap.size + 1]? = some (Go.Obj.cells #[.bool false, .int .u64 0, .int .u64 0] 24 (0, 0)) := by
  refine (hb1.block (w.heap.size + 1) (by simp)).trans ?_
  have := heap_alloc_new (w.alloc (Go.Obj.cells #[.bool a.v6, .int .u64 a.hi, .int .u64 a.lo] 24)) (Go.Obj.cells #[.bool false, .int .u64 0, .int .u64 0] 24)
  simpa using this
 have hbw : Below w.heap.size w w1 := (((Below.refl w.heap.size w).alloc (Nat.le_refl _) _).alloc (by simp) _).trans (hb1.mono (by simp; omega))
 rw [hn]
 have HN : Hid (incR bs.reverse = none → r = (⟨false, 0, 0⟩, false)) := by rw [hbs]; exact hnone
 have HS : Hid (∀ l, incR bs.reverse = some l → ∃ b, r = (b, true) ∧ ∀ W, Below w.heap.size w W → Calls Tryd.prog 22 #[.string ⟨l.reverse.toArray⟩] W fun e w' => e = .returned (adV3 b) ∧ Below W.heap.size W w') := by rw [hbs]; exact hsome
 have HM : Hid (bs.length ≤ 1024) := by rw [← hn]; exact hs
 clear hnone hsome hcv HBx HB hbs hC0 hcap hs hn
 go_loopw [5] (fun i wr => ∃ (j : Nat) (C : Array Value) (iv : Int), j ≤ bs.length ∧ i = .int .i64 iv ∧ iv = (j : Int) - 1 ∧ wr.heap[B]? = some (.cells C 5 (C.size, C.size + 1)) ∧ ByteCells C (cur bs j) ∧ IncAt bs j ∧
   wr.heap[w.heap.size + 1]? = some (.cells #[.bool false, .int .u64 0, .int .u64 0] 24 (0, 0)) ∧ Below w.heap.size w wr)
  (fun i _ => (intOf i + 1).toNat)
 case atStart =>
  refine ⟨bs.length, C0, _, Nat.le_refl _, rfl, ?_, ?_, by rw [cur_full]; exact hcells0, incAt_full _, ?_, ?_⟩
  ·have := HM.out
   first | rfl | omega
  ·subst hB
   exact heap_alloc_new w1.drew _
  ·exact (Below.heap_alloc w1.drew _ (w.heap.size + 1) hw1).trans hres
  ·exact (show Below w.heap.size w w1.drew from ⟨hbw.os, hbw.tape, hbw.output, hbw.size, hbw.block⟩).alloc (show w.heap.size ≤ w1.heap.size by omega) _
 case round =>
  obtain ⟨j, C, iv, hj, rfl, hiv, hC, hbc, hinc, hz, hbw⟩ := hrel
  have hwB : w.heap.size + 1 < B := by omega
  cases j with
  | zero =>
   have hneg : ¬ (0 : Int) ≤ iv := by omega
   have hr := HN.out (incAt_zero hinc)
   obtain ⟨z0, z1, z2, z3, z4, z5⟩ := three_cellsh hz
   obtain ⟨s1, s2, s3⟩ := set3h (a := .bool false) (b := .int .u64 0) (c := .int .u64 0) hz
   obtain ⟨y0, y1, y2, _⟩ := three_cellsh s1
   have HP : Hid (Below (w.heap.size + 1) wr (((wr.setCell ⟨w.heap.size + 1, 0, none⟩ (.bool false)).setCell ⟨w.heap.size + 1, 1, none⟩ (.int .u64 0)).setCell ⟨w.heap.size + 1, 2, none⟩ (.int .u64 0)) ∧ Below w.heap.size w wr ∧ r = (⟨false, 0, 0⟩, false)) := ⟨s3, hbw, hr⟩
   clear HS HM HN hr s1 s2 s3 hbw hbc hinc hC hz hres hcells0 hb1 hB hw1 hiv
   go_wp2
   have hB3 := HP.out.2.1.trans (HP.out.1.mono (by omega))
   refine bodyPost_ret (v := .tuple #[.agg #[.bool false, .int .u64 0, .int .u64 0], .bool false]) ?_ rfl ⟨?_, hB3⟩
   ·simp [results, Tryd.f10, go_sem, y0, y1, y2]
   ·rw [HP.out.2.2]
  | succ q =>
   obtain rfl : iv = (q : Int) := by omega
   have hlt : q < bs.length := by omega
   have hwr : wrap64 ((q : Int) - 1) = (q : Int) - 1 := by have := HM.out; unfold wrap64; omega
   have hlc := cur_len bs (q + 1) hj
   have hat : (cur bs (q + 1))[q]'(by omega) = bs[q] := by
    have := cur_at bs q hlt
    rw [List.getElem?_eq_getElem (by omega)] at this
    simpa using this
   have hcell := hbc q (by omega)
   rw [hat] at hcell
   have cB : wr.cell? ⟨B, q, none⟩ = some (.int .u8 (bs[q].toNat : Int)) := by simp [World.cell?, hC, hcell]
   have fB : wr.frozen? ⟨B, q, none⟩ = false := by
    have := (Array.getElem?_eq_some_iff.1 hcell).1
    simp [World.frozen?, hC]
    omega
   have hset := fun v => setCell_heap wr B q v C 5 (C.size, C.size + 1) hC
   by_cases hc : bs[q] = 48
   ·have hcI : (bs[q].toNat : Int) = 48 := by rw [hc]; rfl
    obtain ⟨l, hl1, hl2⟩ := incAt_hit hlt hinc hc
    obtain ⟨b, hr, HA⟩ := HS.out l hl1
    simp only [adV3] at HA
    have hl3 : (l.reverse).length = bs.length := by rw [hl2]; simpa using hlc
    have hback : ∀ W, W = wr.setCell ⟨B, q, none⟩ (.int .u8 49) → (convert 47 9 (.slice (some ⟨B, 0, none⟩) bs.length cap)).run Tryd.prog W = .ok (.string ⟨l.reverse.toArray⟩) W := by
     rintro W rfl
     have hb := byteCells_set hbc (q := q) (by omega) 49
     rw [← hl2] at hb
     have := run_convert_bytes_back (P := Tryd.prog) (wr.setCell ⟨B, q, none⟩ (.int .u8 49)) 47 9 5 ⟨B, 0, none⟩ cap l.reverse Tryd.underlying47 Tryd.underlying5 Tryd.underlying9 (fun j hj => by
      rw [Addr.add_lit, Nat.zero_add]
      have e := hset (.int .u8 49)
      simp only [World.cell?, e]
      exact hb j hj)
     rwa [hl3] at this
    have HK : Hid (∀ W, W = wr.setCell ⟨B, q, none⟩ (.int .u8 49) → (convert 47 9 (.slice (some ⟨B, 0, none⟩) bs.length cap)).run Tryd.prog W = .ok (.string ⟨l.reverse.toArray⟩) W) := hback
    have hback1 := hback _ rfl
    have HA' : Hid (∀ W, Below w.heap.size w W → Calls Tryd.prog 22 #[.string ⟨l.reverse.toArray⟩] W fun e w' => e = .returned (.agg #[.bool b.v6, .int .u64 b.hi, .int .u64 b.lo]) ∧ Below W.heap.size W w') := HA
    have hz2 : (wr.setCell ⟨B, q, none⟩ (.int .u8 49)).heap[w.heap.size + 1]? = some (.cells #[.bool false, .int .u64 0, .int .u64 0] 24 (0, 0)) := (Below.heap_setCell _ ⟨B, q, none⟩ _ _ (by show w.heap.size + 1 ≠ B; omega)).trans hz
    have hbw2 : Below w.heap.size w (wr.setCell ⟨B, q, none⟩ (.int .u8 49)) := hbw.setCell (p := ⟨B, q, none⟩) (by show w.heap.size ≤ B; omega) _
    have HP : Hid ((wr.setCell ⟨B, q, none⟩ (.int .u8 49)).heap[w.heap.size + 1]? = some (.cells #[.bool false, .int .u64 0, .int .u64 0] 24 (0, 0)) ∧ Below w.heap.size w (wr.setCell ⟨B, q, none⟩ (.int .u8 49)) ∧ r = (b, true)) := ⟨hz2, hbw2, hr⟩
    clear HS HM HN hset hcell hat hlc hbc hinc hC hz hbw hres hcells0 hb1 hB hw1 hiv hz2 hbw2 hr HA HK hback hl2 hl1 hl3 hc
    go_wp2_with (go_at_call 22; refine (HA'.out _ HP.out.2.1).mono ?_; rintro e w2 ⟨rfl, hb2⟩; obtain ⟨z0, z1, z2, z3, z4, z5⟩ := three_cellsh ((hb2.block _ (Array.getElem?_eq_some_iff.1 HP.out.1).1).trans HP.out.1))
    obtain ⟨hz2, hbw2, hr⟩ := HP.out
    obtain ⟨s1, s2, s3⟩ := set3h (a := .bool b.v6) (b := .int .u64 b.hi) (c := .int .u64 b.lo) ((hb2.block _ (Array.getElem?_eq_some_iff.1 hz2).1).trans hz2)
    obtain ⟨y0, y1, y2, _⟩ := three_cellsh s1
    have hB3 := (hbw2.trans (hb2.mono hbw2.size)).trans (s3.mono (by omega))
    refine bodyPost_ret (v := .tuple #[.agg #[.bool b.v6, .int .u64 b.hi, .int .u64 b.lo], .bool true]) ?_ rfl ⟨?_, hB3⟩
    ·simp [results, Tryd.f10, go_sem, y0, y1, y2]
    ·rw [hr]
   ·have hcI : ¬ (bs[q].toNat : Int) = 48 := fun e => hc (by
     have : bs[q].toNat = 48 := by omega
     exact UInt8.toNat_inj.1 (by rw [this]; rfl))
    have HP : Hid ((wr.heap[B]? = some (.cells C 5 (C.size, C.size + 1)) ∧ ByteCells C (cur bs (q + 1)) ∧ IncAt bs (q + 1)) ∧ (wr.heap[w.heap.size + 1]? = some (.cells #[.bool false, .int .u64 0, .int .u64 0] 24 (0, 0)) ∧ Below w.heap.size w wr)) := ⟨⟨hC, hbc, hinc⟩, hz, hbw⟩
    clear HS HM HN hset hcell hat hlc hbc hinc hC hz hbw hres hcells0 hb1 hB hw1 hiv
    go_wp2
    go_roundw
    case rel =>
     obtain ⟨⟨hC, hbc, hinc⟩, hz, hbw⟩ := HP.out
     have hlc := cur_len bs (q + 1) hj
     have hset := setCell_heap wr B q (.int .u8 48) C 5 (C.size, C.size + 1) hC
     refine ⟨q, C.setIfInBounds q (.int .u8 48), (q : Int) - 1, by omega, ?_, rfl, ?_, ?_, incAt_step hlt hinc hc, ?_, ?_⟩
     ·first | rw [hwr] | rfl
     ·rw [hset]; simp
     ·rw [← cur_set bs q hlt]
      exact byteCells_set hbc (by omega) 48
     ·exact (Below.heap_setCell _ ⟨B, q, none⟩ _ _ (by show w.heap.size + 1 ≠ B; omega)).trans hz
     ·exact hbw.setCell (p := ⟨B, q, none⟩) (by show w.heap.size ≤ B; omega) _
    case measure =>
     first | (simp only [hwr, intOf]; omega) | (simp only [intOf]; omega)
theorem flv_seg2 {k : K} (w : World) (ρ : Nat → Value) (a : k.T) (v : Value) (n : Nat) (h : ∀ ρ, v = den ρ (flV k a)) : ArgsOk w ρ n [v] [flV k a] [] [] :=
 ⟨rfl, fun ρ' _ => by simp only [denL, h ρ'], fun _ _ _ i o v h => by simp at h, by simp only [ltL, flV_lt, Bool.and_self], fun o h => by cases h⟩
noncomputable def R_NextOf_con : Con := con [.one (.fl .addr)] [.one (.fl .addr), .one (.fl .bool)] (fun x => R_NextOf_t x.1)
theorem nextOf_main (a : Ad) (y : Ad × Bool × Unit) (hx : R_NextOf_t a = some y) (ρ : Nat → Value) (us vals : List Value) (w : World) (hG : Glob Tryd.prog w)
  (hu : ArgsOk w ρ 0 vals (encA false [.one (.fl .addr)] (a, ()) 0).1 (encA false [.one (.fl .addr)] (a, ()) 0).2 us) :
  Calls Tryd.prog 10 vals.toArray w fun e w' => ∃ ρc r m', e = .returned (den ρc r) ∧ RelM w ρc m' w' ∧ resR [.one (.fl .addr), .one (.fl .bool)] r m' = some y := by
 have hg := gives_nameOf us
 have hdenv := hu.den _ hg
 have hvals : vals = [adV3 a] := hdenv.symm
 subst hvals
 obtain ⟨ra, rb, ru⟩ := y
 unfold R_NextOf_t at hx
 obtain ⟨y1, h1, hx⟩ := Option.bind_eq_some_iff.1 hx
 obtain ⟨s, us1⟩ := y1
 obtain ⟨hq, hx⟩ := req_some hx
 have hq : s.size ≤ 1024 := Nat.le_of_ble_eq_true hq
 refine (nextOf_walk a s w hq (ra, rb) (fun W hW => ?_) (fun hn => ?_) (fun l hl => ?_)).mono ?_
 ·have ha := flv_seg2 (k := .addr) W (fun _ => Go.undef) a (adV3 a) 0 (fun _ => rfl)
  refine (flat_calls (hG.mono hW) R_Bits_ok (x := (a, ())) h1 rfl rfl ha).mono ?_
  rintro e w' ⟨⟨ρ', rfl⟩, hb'⟩
  exact ⟨rfl, hb'⟩
 ·rw [show (s, us1).1.data.toList = s.data.toList from rfl, hn] at hx
  cases hx
  rfl
 ·rw [show (s, us1).1.data.toList = s.data.toList from rfl, hl] at hx
  obtain ⟨z, hz, hx⟩ := Option.bind_eq_some_iff.1 hx
  cases hx
  refine ⟨z.1, rfl, fun W hW => ?_⟩
  have ha := flv_seg2 (k := .str) W (fun _ => Go.undef) (⟨l.reverse.toArray⟩ : ByteArray) (.string ⟨l.reverse.toArray⟩) 0 (fun _ => rfl)
  refine (flat_calls (hG.mono hW) R_AddrOf_ok (x := ((⟨l.reverse.toArray⟩ : ByteArray), ())) hz rfl rfl ha).mono ?_
  rintro e w' ⟨⟨ρ', rfl⟩, hb'⟩
  exact ⟨rfl, hb'⟩
 ·rintro e w' ⟨rfl, hb⟩
  refine ⟨fun _ => Go.undef, .tup [.agg [.b ra.v6, .i .u64 ra.hi, .i .u64 ra.lo], .b rb], [], rfl, ?_, rfl⟩
  exact ⟨hb, fun j o h => by simp at h, fun i j o o' _ h => by simp at h, fun j o h => by simp at h⟩
theorem R_NextOf_ok : TrOk Tryd.prog 10 R_NextOf_con := con_of _ _ _ fun x y hx ρ us vals w hG hu => nextOf_main x.1 y hx ρ us vals w hG hu
end Go.Proofs.YtafggolijpopeaaDoor
namespace Go.Proofs
open Go.Shelf
def Tryd.lays156_ren : Go.Shelf.Ren := ⟨fun | 156 => 27 | 165 => 40 | 166 => 41 | 169 => 42 | 240 => 54 | 241 => 55 | 276 => 65 | 277 => 66 | n => n, fun | 31 => 53 | 9 => 9 | 3 => 3 | 4 => 4 | 0 => 0 | 20 => 20 | 72 => 69 | 76 => 73 | 70 => 67 | 37 => 47 | 75 => 72 | 127 => 92 | 164 => 103 | 5 => 5 | 80 => 75 | n => n, fun | n => n⟩
theorem Tryd.lays156 : Go.Proofs.Lays.n156 Tryd.prog Tryd.lays156_ren := {
 mixed := by kernel_rfl
 f156 := Tryd.func27.trans (congrArg some (by kernel_rfl))
 f165 := Tryd.func40.trans (congrArg some (by kernel_rfl))
 f166 := Tryd.func41.trans (congrArg some (by kernel_rfl))
 f169 := Tryd.func42.trans (congrArg some (by kernel_rfl))
 f240 := Tryd.func54.trans (congrArg some (by kernel_rfl))
 f241 := Tryd.func55.trans (congrArg some (by kernel_rfl))
 f276 := Tryd.func65.trans (congrArg some (by kernel_rfl))
 f277 := Tryd.func66.trans (congrArg some (by kernel_rfl))
 t0 := Tryd.underlying0
 a0 := Tryd.isAgg0
 z0 := Tryd.sizeOf0
 v0 := Tryd.zeroValue0
 t3 := Tryd.underlying3
 a3 := Tryd.isAgg3
 z3 := Tryd.sizeOf3
 v3 := Tryd.zeroValue3
 t4 := Tryd.underlying4
 a4 := Tryd.isAgg4
 z4 := Tryd.sizeOf4
 v4 := Tryd.zeroValue4
 t9 := Tryd.underlying9
 a9 := Tryd.isAgg9
 z9 := Tryd.sizeOf9
 v9 := Tryd.zeroValue9
 t20 := Tryd.underlying20
 a20 := Tryd.isAgg20
 z20 := Tryd.sizeOf20
 v20 := Tryd.zeroValue20
 t31 := Tryd.underlying53
 a31 := Tryd.isAgg53
 z31 := Tryd.sizeOf53
 v31 := Tryd.zeroValue53
 t37 := Tryd.underlying47
 a37 := Tryd.isAgg47
 z37 := Tryd.sizeOf47
 v37 := Tryd.zeroValue47
 t70 := Tryd.underlying67
 a70 := Tryd.isAgg67
 z70 := Tryd.sizeOf67
 v70 := Tryd.zeroValue67
 t72 := Tryd.underlying69
 a72 := Tryd.isAgg69
 z72 := Tryd.sizeOf69
 v72 := Tryd.zeroValue69
 t75 := Tryd.underlying72
 a75 := Tryd.isAgg72
 z75 := Tryd.sizeOf72
 v75 := Tryd.zeroValue72
 t76 := Tryd.underlying73
 a76 := Tryd.isAgg73
 z76 := Tryd.sizeOf73
 v76 := Tryd.zeroValue73
 t127 := Tryd.underlying92
 a127 := Tryd.isAgg92
 z127 := Tryd.sizeOf92
 v127 := Tryd.zeroValue92
 t164 := Tryd.underlying103
 a164 := Tryd.isAgg103
 z164 := Tryd.sizeOf103
 v164 := Tryd.zeroValue103 }
theorem Tryd.Builder_Extra_156 : Builder.Extra Tryd.prog Tryd.lays156_ren := {
 sizeBuilder := by kernel_rfl
 liesBuilder := by kernel_rfl
 t5 := Tryd.underlying5
 a5 := Tryd.isAgg5
 z5 := Tryd.sizeOf5
 v5 := Tryd.zeroValue5
 infoByte := by kernel_rfl
 cellsByte := by kernel_rfl
 sizeByte := by kernel_rfl
 neB5 := by decide }
open Go.RowKit in
theorem Tryd.strings_Join_none (a : Option Addr) (c : Nat) (sep : ByteArray) (w : World) :
  Calls Tryd.prog 27 #[.slice a 0 c, .string sep] w fun e w' => e = .returned (.string ⟨#[]⟩) ∧ w' = w := Any.strings_Join_none Tryd.lays156 Tryd.Builder_Extra_156 a c sep w
open Go.RowKit in
theorem Tryd.strings_Join (bk o c : Nat) (xs : List ByteArray) (sep : ByteArray) (w : World) (hcells : ∀ (j : Nat) x, xs[j]? = some x → w.cell? ⟨bk, o + j, none⟩ = some (.string x)) (hbk : bk < w.heap.size) (hN : xs.length ≤ 140737488355328) (hcap : xs.length ≤ c) (hlen : (Lib.join (xs.map (·.data.toList)) sep.data.toList).length ≤ 140737488355328) :
  Calls Tryd.prog 27 #[.slice (some ⟨bk, o, none⟩) xs.length c, .string sep] w fun e w' => e = .returned (.string ⟨(Lib.join (xs.map (·.data.toList)) sep.data.toList).toArray⟩) ∧ Below w.heap.size w w' := Any.strings_Join Tryd.lays156 Tryd.Builder_Extra_156 bk o c xs sep w hcells hbk hN hcap hlen
def Tryd.lays283_ren : Go.Shelf.Ren := ⟨fun | 283 => 50 | n => n, fun | 3 => 3 | 9 => 9 | 4 => 4 | n => n, fun | n => n⟩
theorem Tryd.lays283 : Go.Proofs.Lays.n283 Tryd.prog Tryd.lays283_ren := {
 mixed := by kernel_rfl
 f283 := Tryd.func50.trans (congrArg some (by kernel_rfl))
 t3 := Tryd.underlying3
 a3 := Tryd.isAgg3
 z3 := Tryd.sizeOf3
 v3 := Tryd.zeroValue3
 t4 := Tryd.underlying4
 a4 := Tryd.isAgg4
 z4 := Tryd.sizeOf4
 v4 := Tryd.zeroValue4
 t9 := Tryd.underlying9
 a9 := Tryd.isAgg9
 z9 := Tryd.sizeOf9
 v9 := Tryd.zeroValue9 }
open Go.Lib in
theorem Tryd.internal_strconv_small (i : Nat) (h : i < 100) (w : World) :
  Calls Tryd.prog 50 #[.int .i64 i] w fun e w' => e = .returned (.string ⟨(Lib.decDigits i).toArray⟩) ∧ w' = w := Any.internal_strconv_small Tryd.lays283 i h w
def Tryd.laysM284_ren : Go.Shelf.Ren := ⟨fun | 284 => 51 | 129 => 61 | 317 => 60 | 318 => 62 | n => n, fun | 53 => 22 | 3 => 3 | 212 => 98 | 0 => 0 | 4 => 4 | 46 => 83 | 5 => 5 | 9 => 9 | n => n, fun | 17 => 0 | n => n⟩
theorem Tryd.laysM284 : Go.Proofs.LaysM.n284 Tryd.prog Tryd.laysM284_ren := {
 mixed := by kernel_rfl
 f129 := Tryd.func61.trans (congrArg some (by kernel_rfl))
 f284 := Tryd.func51.trans (congrArg some (by kernel_rfl))
 f317 := Tryd.func60.trans (congrArg some (by kernel_rfl))
 f318 := Tryd.func62.trans (congrArg some (by kernel_rfl))
 t0 := Tryd.underlying0
 a0 := Tryd.isAgg0
 z0 := Tryd.sizeOf0
 v0 := Tryd.zeroValue0
 t3 := Tryd.underlying3
 a3 := Tryd.isAgg3
 z3 := Tryd.sizeOf3
 v3 := Tryd.zeroValue3
 t4 := Tryd.underlying4
 a4 := Tryd.isAgg4
 z4 := Tryd.sizeOf4
 v4 := Tryd.zeroValue4
 t5 := Tryd.underlying5
 a5 := Tryd.isAgg5
 z5 := Tryd.sizeOf5
 v5 := Tryd.zeroValue5
 t9 := Tryd.underlying9
 a9 := Tryd.isAgg9
 z9 := Tryd.sizeOf9
 v9 := Tryd.zeroValue9
 t46 := Tryd.underlying83
 a46 := Tryd.isAgg83
 z46 := Tryd.sizeOf83
 v46 := Tryd.zeroValue83
 t53 := Tryd.underlying22
 a53 := Tryd.isAgg22
 z53 := Tryd.sizeOf22
 v53 := Tryd.zeroValue22
 t212 := Tryd.underlying98
 a212 := Tryd.isAgg98
 z212 := Tryd.sizeOf98
 v212 := Tryd.zeroValue98
 g17 := by kernel_rfl
 i0 := by kernel_rfl
 i3 := by kernel_rfl
 i4 := by kernel_rfl
 i5 := by kernel_rfl
 i9 := by kernel_rfl
 i46 := by kernel_rfl
 i53 := by kernel_rfl
 i212 := by kernel_rfl
 m17 := by kernel_rfl }
open Go.Lib in
theorem Tryd.internal_strconv_numDigits (u : Nat) (h1 : 1 ≤ u) (h2 : u < 18446744073709551616) (w : World) (htab : Lib.TabIs Tryd.prog w "internal/strconv.uint64pow10" .u64 Lib.pow10Tab) :
  Calls Tryd.prog 51 #[.int .u64 u] w fun e w' => e = .returned (.int .i64 (Lib.nDigits u)) ∧ w' = w := Any.internal_strconv_numDigits Tryd.laysM284 u h1 h2 w htab
def Tryd.lays285_ren : Go.Shelf.Ren := ⟨fun | 285 => 52 | n => n, fun | 37 => 47 | 53 => 22 | 3 => 3 | 4 => 4 | 51 => 99 | 9 => 9 | 5 => 5 | 0 => 0 | n => n, fun | n => n⟩
theorem Tryd.lays285 : Go.Proofs.Lays.n285 Tryd.prog Tryd.lays285_ren := {
 mixed := by kernel_rfl
 f285 := Tryd.func52.trans (congrArg some (by kernel_rfl))
 t0 := Tryd.underlying0
 a0 := Tryd.isAgg0
 z0 := Tryd.sizeOf0
 v0 := Tryd.zeroValue0
 t3 := Tryd.underlying3
 a3 := Tryd.isAgg3
 z3 := Tryd.sizeOf3
 v3 := Tryd.zeroValue3
 t4 := Tryd.underlying4
 a4 := Tryd.isAgg4
 z4 := Tryd.sizeOf4
 v4 := Tryd.zeroValue4
 t5 := Tryd.underlying5
 a5 := Tryd.isAgg5
 z5 := Tryd.sizeOf5
 v5 := Tryd.zeroValue5
 t9 := Tryd.underlying9
 a9 := Tryd.isAgg9
 z9 := Tryd.sizeOf9
 v9 := Tryd.zeroValue9
 t37 := Tryd.underlying47
 a37 := Tryd.isAgg47
 z37 := Tryd.sizeOf47
 v37 := Tryd.zeroValue47
 t51 := Tryd.underlying99
 a51 := Tryd.isAgg99
 z51 := Tryd.sizeOf99
 v51 := Tryd.zeroValue99
 t53 := Tryd.underlying22
 a53 := Tryd.isAgg22
 z53 := Tryd.sizeOf22
 v53 := Tryd.zeroValue22 }
open Go.RowKit Go.Sort Go.Lib in
theorem Tryd.internal_strconv_formatBase10 (blk off cap : Nat) (u : Nat) (d : Array UInt8) (w : World) (hH : Holds (fun (b : UInt8) => Value.int .u8 (b.toNat : Int)) w blk off d) (hu : u < 10 ^ d.size) (hu64 : u < 18446744073709551616) (hsz : d.size < 4611686018427387904) :
  Calls Tryd.prog 52 #[.slice (some ⟨blk, off, none⟩) d.size cap, .int .u64 u] w fun e w' =>
   e = .returned (.tuple #[]) ∧ ∃ (n v' : Nat) (dk : Array UInt8), w' = (putRow (fun (b : UInt8) => Value.int .u8 (b.toNat : Int)) w blk off dk).drewN n ∧ FmtInv d.size u 0 v' dk := Any.internal_strconv_formatBase10 Tryd.lays285 blk off cap u d w hH hu hu64 hsz
def Tryd.laysPu14_ren : Go.Shelf.Ren := ⟨fun | 14 => 59 | 16 => 73 | 17 => 74 | 19 => 82 | 20 => 83 | 21 => 84 | 22 => 85 | 23 => 86 | 24 => 87 | 25 => 89 | 27 => 91 | 26 => 90 | 28 => 92 | 29 => 93 | 30 => 50 | 31 => 51 | 32 => 52 | 33 => 53 | 35 => 61 | 34 => 60 | 36 => 62 | 37 => 63 | 38 => 64 | 39 => 75 | 40 => 76 | n => n, fun | 9 => 9 | 3 => 3 | 22 => 22 | 24 => 72 | 25 => 94 | 4 => 4 | 34 => 114 | 5 => 5 | 36 => 83 | 37 => 47 | 0 => 0 | 39 => 117 | 21 => 21 | 44 => 124 | 47 => 92 | 50 => 132 | 48 => 130 | 2 => 2 | 52 => 87 | 55 => 90 | 59 => 98 | 60 => 99 | 20 => 20 | 61 => 100 | 65 => 120 | 66 => 121 | 67 => 75 | n => n, fun | 0 => 4 | 1 => 5 | 2 => 0 | 3 => 2 | 4 => 3 | n => n⟩
theorem Tryd.laysPu14 : Go.Proofs.LaysPu.n14 Tryd.prog Tryd.laysPu14_ren := {
 mixed := by kernel_rfl
 f14 := Tryd.func59.trans (congrArg some (by kernel_rfl))
 f16 := Tryd.func73.trans (congrArg some (by kernel_rfl))
 f17 := Tryd.func74.trans (congrArg some (by kernel_rfl))
 f19 := Tryd.func82.trans (congrArg some (by kernel_rfl))
 f20 := Tryd.func83.trans (congrArg some (by kernel_rfl))
 f21 := Tryd.func84.trans (congrArg some (by kernel_rfl))
 f22 := Tryd.func85.trans (congrArg some (by kernel_rfl))
 f23 := Tryd.func86.trans (congrArg some (by kernel_rfl))
 f24 := Tryd.func87.trans (congrArg some (by kernel_rfl))
 f25 := Tryd.func89.trans (congrArg some (by kernel_rfl))
 f26 := Tryd.func90.trans (congrArg some (by kernel_rfl))
 f27 := Tryd.func91.trans (congrArg some (by kernel_rfl))
 f28 := Tryd.func92.trans (congrArg some (by kernel_rfl))
 f29 := Tryd.func93.trans (congrArg some (by kernel_rfl))
 f30 := Tryd.func50.trans (congrArg some (by kernel_rfl))
 f31 := Tryd.func51.trans (congrArg some (by kernel_rfl))
 f32 := Tryd.func52.trans (congrArg some (by kernel_rfl))
 f33 := Tryd.func53.trans (congrArg some (by kernel_rfl))
 f34 := Tryd.func60.trans (congrArg some (by kernel_rfl))
 f35 := Tryd.func61.trans (congrArg some (by kernel_rfl))
 f36 := Tryd.func62.trans (congrArg some (by kernel_rfl))
 f37 := Tryd.func63.trans (congrArg some (by kernel_rfl))
 f38 := Tryd.func64.trans (congrArg some (by kernel_rfl))
 f39 := Tryd.func75.trans (congrArg some (by kernel_rfl))
 f40 := Tryd.func76.trans (congrArg some (by kernel_rfl))
 t0 := Tryd.underlying0
 a0 := Tryd.isAgg0
 z0 := Tryd.sizeOf0
 v0 := Tryd.zeroValue0
 i0 := by kernel_rfl
 t2 := Tryd.underlying2
 a2 := Tryd.isAgg2
 z2 := Tryd.sizeOf2
 v2 := Tryd.zeroValue2
 i2 := by kernel_rfl
 t3 := Tryd.underlying3
 a3 := Tryd.isAgg3
 z3 := Tryd.sizeOf3
 v3 := Tryd.zeroValue3
 i3 := by kernel_rfl
 t4 := Tryd.underlying4
 a4 := Tryd.isAgg4
 z4 := Tryd.sizeOf4
 v4 := Tryd.zeroValue4
 i4 := by kernel_rfl
 t5 := Tryd.underlying5
 a5 := Tryd.isAgg5
 z5 := Tryd.sizeOf5
 v5 := Tryd.zeroValue5
 i5 := by kernel_rfl
 t9 := Tryd.underlying9
 a9 := Tryd.isAgg9
 z9 := Tryd.sizeOf9
 v9 := Tryd.zeroValue9
 i9 := by kernel_rfl
 t20 := Tryd.underlying20
 a20 := Tryd.isAgg20
 z20 := Tryd.sizeOf20
 v20 := Tryd.zeroValue20
 i20 := by kernel_rfl
 t21 := Tryd.underlying21
 a21 := Tryd.isAgg21
 z21 := Tryd.sizeOf21
 v21 := Tryd.zeroValue21
 i21 := by kernel_rfl
 t22 := Tryd.underlying22
 a22 := Tryd.isAgg22
 z22 := Tryd.sizeOf22
 v22 := Tryd.zeroValue22
 i22 := by kernel_rfl
 t24 := Tryd.underlying72
 a24 := Tryd.isAgg72
 z24 := Tryd.sizeOf72
 v24 := Tryd.zeroValue72
 i24 := by kernel_rfl
 t25 := Tryd.underlying94
 a25 := Tryd.isAgg94
 z25 := Tryd.sizeOf94
 v25 := Tryd.zeroValue94
 i25 := by kernel_rfl
 t34 := Tryd.underlying114
 a34 := Tryd.isAgg114
 z34 := Tryd.sizeOf114
 v34 := Tryd.zeroValue114
 i34 := by kernel_rfl
 c34 := by kernel_rfl
 t36 := Tryd.underlying83
 a36 := Tryd.isAgg83
 z36 := Tryd.sizeOf83
 v36 := Tryd.zeroValue83
 i36 := by kernel_rfl
 t37 := Tryd.underlying47
 a37 := Tryd.isAgg47
 z37 := Tryd.sizeOf47
 v37 := Tryd.zeroValue47
 i37 := by kernel_rfl
 t39 := Tryd.underlying117
 a39 := Tryd.isAgg117
 z39 := Tryd.sizeOf117
 v39 := Tryd.zeroValue117
 i39 := by kernel_rfl
 t44 := Tryd.underlying124
 a44 := Tryd.isAgg124
 z44 := Tryd.sizeOf124
 v44 := Tryd.zeroValue124
 i44 := by kernel_rfl
 t47 := Tryd.underlying92
 a47 := Tryd.isAgg92
 z47 := Tryd.sizeOf92
 v47 := Tryd.zeroValue92
 i47 := by kernel_rfl
 t48 := Tryd.underlying130
 a48 := Tryd.isAgg130
 z48 := Tryd.sizeOf130
 v48 := Tryd.zeroValue130
 i48 := by kernel_rfl
 t50 := Tryd.underlying132
 a50 := Tryd.isAgg132
 z50 := Tryd.sizeOf132
 v50 := Tryd.zeroValue132
 i50 := by kernel_rfl
 t52 := Tryd.underlying87
 a52 := Tryd.isAgg87
 z52 := Tryd.sizeOf87
 v52 := Tryd.zeroValue87
 i52 := by kernel_rfl
 t55 := Tryd.underlying90
 a55 := Tryd.isAgg90
 z55 := Tryd.sizeOf90
 v55 := Tryd.zeroValue90
 i55 := by kernel_rfl
 t59 := Tryd.underlying98
 a59 := Tryd.isAgg98
 z59 := Tryd.sizeOf98
 v59 := Tryd.zeroValue98
 i59 := by kernel_rfl
 t60 := Tryd.underlying99
 a60 := Tryd.isAgg99
 z60 := Tryd.sizeOf99
 v60 := Tryd.zeroValue99
 i60 := by kernel_rfl
 t61 := Tryd.underlying100
 a61 := Tryd.isAgg100
 z61 := Tryd.sizeOf100
 t65 := Tryd.underlying120
 a65 := Tryd.isAgg120
 z65 := Tryd.sizeOf120
 v65 := Tryd.zeroValue120
 i65 := by kernel_rfl
 t66 := Tryd.underlying121
 a66 := Tryd.isAgg121
 z66 := Tryd.sizeOf121
 v66 := Tryd.zeroValue121
 i66 := by kernel_rfl
 t67 := Tryd.underlying75
 a67 := Tryd.isAgg75
 z67 := Tryd.sizeOf75
 v67 := Tryd.zeroValue75
 i67 := by kernel_rfl
 g0 := by kernel_rfl
 m0 := by kernel_rfl
 g1 := by kernel_rfl
 m1 := by kernel_rfl
 g2 := by kernel_rfl
 m2 := by kernel_rfl
 g3 := by kernel_rfl
 m3 := by kernel_rfl
 g4 := by kernel_rfl
 m4 := by kernel_rfl }
open Go.RowKit in
theorem Tryd.strconv_ParseUint_10_at32_ok (s : ByteArray) (hmax : s.size ≤ 9223372036854775806) (u : Nat) (h : Lib.parseUintB 32 s.data.toList = .ok u) (w : World) :
  Calls Tryd.prog 59 #[.string s, .int .i64 10, .int .i64 32] w fun e w' => e = .returned (.tuple #[.int .u64 u, .nilIface]) ∧ (w' = w ∨ w' = Lib.bytesWorld w 5 s) := Any.strconv_ParseUint_10_at32_ok Tryd.laysPu14 s hmax u h w
open Go.RowKit in
theorem Tryd.strconv_ParseUint_10_at32_syntax (s : ByteArray) (hlim : s.size ≤ 281474976710656) (h : Lib.parseUintB 32 s.data.toList = Lib.parseUintB 32 []) (ev : Value) (w : World) (hv : w.cell? ⟨4, 0, none⟩ = some ev) (hev : ev = .nilIface ∨ ∃ te pe, ev = .iface te pe) :
  Calls Tryd.prog 59 #[.string s, .int .i64 10, .int .i64 32] w fun e w' => ∃ N, e = .returned (.tuple #[.int .u64 0, .iface 117 (.pointer (some ⟨N, 0, none⟩))]) ∧ w.heap.size ≤ N ∧ w'.heap[N]? = some (.cells #[.string ⟨#[80, 97, 114, 115, 101, 85, 105, 110, 116]⟩, .string s, ev] 124 (0, 0)) ∧ Below w.heap.size w w' := Any.strconv_ParseUint_10_at32_syntax Tryd.laysPu14 s hlim h ev w hv hev
open Go.RowKit in
theorem Tryd.strconv_ParseUint_10_at32_range (s : ByteArray) (hlim : s.size ≤ 281474976710656) (h : Lib.parseUintB 32 s.data.toList = .range) (ev : Value) (w : World) (hv : w.cell? ⟨5, 0, none⟩ = some ev) (hev : ev = .nilIface ∨ ∃ te pe, ev = .iface te pe) :
  Calls Tryd.prog 59 #[.string s, .int .i64 10, .int .i64 32] w fun e w' => ∃ N, e = .returned (.tuple #[.int .u64 4294967295, .iface 117 (.pointer (some ⟨N, 0, none⟩))]) ∧ w.heap.size ≤ N ∧ w'.heap[N]? = some (.cells #[.string ⟨#[80, 97, 114, 115, 101, 85, 105, 110, 116]⟩, .string s, ev] 124 (0, 0)) ∧ Below w.heap.size w w' := Any.strconv_ParseUint_10_at32_range Tryd.laysPu14 s hlim h ev w hv hev
def Tryd.lays219_ren : Go.Shelf.Ren := ⟨fun | 219 => 56 | 217 => 67 | 225 => 68 | 224 => 69 | 267 => 70 | 266 => 77 | 314 => 78 | n => n, fun | 9 => 9 | 3 => 3 | 4 => 4 | 5 => 5 | 46 => 83 | 146 => 110 | 51 => 99 | n => n, fun | 1 => 1 | n => n⟩
theorem Tryd.lays219 : Go.Proofs.Lays.n219 Tryd.prog Tryd.lays219_ren := {
 mixed := by kernel_rfl
 f217 := Tryd.func67.trans (congrArg some (by kernel_rfl))
 f219 := Tryd.func56.trans (congrArg some (by kernel_rfl))
 f224 := Tryd.func69.trans (congrArg some (by kernel_rfl))
 f225 := Tryd.func68.trans (congrArg some (by kernel_rfl))
 f266 := Tryd.func77.trans (congrArg some (by kernel_rfl))
 f267 := Tryd.func70.trans (congrArg some (by kernel_rfl))
 f314 := Tryd.func78.trans (congrArg some (by kernel_rfl))
 t3 := Tryd.underlying3
 a3 := Tryd.isAgg3
 z3 := Tryd.sizeOf3
 v3 := Tryd.zeroValue3
 t4 := Tryd.underlying4
 a4 := Tryd.isAgg4
 z4 := Tryd.sizeOf4
 v4 := Tryd.zeroValue4
 t5 := Tryd.underlying5
 a5 := Tryd.isAgg5
 z5 := Tryd.sizeOf5
 v5 := Tryd.zeroValue5
 t9 := Tryd.underlying9
 a9 := Tryd.isAgg9
 z9 := Tryd.sizeOf9
 v9 := Tryd.zeroValue9
 t46 := Tryd.underlying83
 a46 := Tryd.isAgg83
 z46 := Tryd.sizeOf83
 v46 := Tryd.zeroValue83
 t51 := Tryd.underlying99
 a51 := Tryd.isAgg99
 z51 := Tryd.sizeOf99
 v51 := Tryd.zeroValue99
 t146 := Tryd.underlying110
 a146 := Tryd.isAgg110
 z146 := Tryd.sizeOf110
 v146 := Tryd.zeroValue110
 g1 := by kernel_rfl }
def Tryd.lays143_ren : Go.Shelf.Ren := ⟨fun | 143 => 45 | 219 => 56 | 217 => 67 | 225 => 68 | 224 => 69 | 267 => 70 | 266 => 77 | 314 => 78 | n => n, fun | 9 => 9 | 3 => 3 | 4 => 4 | 5 => 5 | 46 => 83 | 146 => 110 | 51 => 99 | n => n, fun | 1 => 1 | n => n⟩
theorem Tryd.lays143 : Go.Proofs.Lays.n143 Tryd.prog Tryd.lays143_ren := {
 mixed := by kernel_rfl
 f143 := Tryd.func45.trans (congrArg some (by kernel_rfl))
 f217 := Tryd.func67.trans (congrArg some (by kernel_rfl))
 f219 := Tryd.func56.trans (congrArg some (by kernel_rfl))
 f224 := Tryd.func69.trans (congrArg some (by kernel_rfl))
 f225 := Tryd.func68.trans (congrArg some (by kernel_rfl))
 f266 := Tryd.func77.trans (congrArg some (by kernel_rfl))
 f267 := Tryd.func70.trans (congrArg some (by kernel_rfl))
 f314 := Tryd.func78.trans (congrArg some (by kernel_rfl))
 t3 := Tryd.underlying3
 a3 := Tryd.isAgg3
 z3 := Tryd.sizeOf3
 v3 := Tryd.zeroValue3
 t4 := Tryd.underlying4
 a4 := Tryd.isAgg4
 z4 := Tryd.sizeOf4
 v4 := Tryd.zeroValue4
 t5 := Tryd.underlying5
 a5 := Tryd.isAgg5
 z5 := Tryd.sizeOf5
 v5 := Tryd.zeroValue5
 t9 := Tryd.underlying9
 a9 := Tryd.isAgg9
 z9 := Tryd.sizeOf9
 v9 := Tryd.zeroValue9
 t46 := Tryd.underlying83
 a46 := Tryd.isAgg83
 z46 := Tryd.sizeOf83
 v46 := Tryd.zeroValue83
 t51 := Tryd.underlying99
 a51 := Tryd.isAgg99
 z51 := Tryd.sizeOf99
 v51 := Tryd.zeroValue99
 t146 := Tryd.underlying110
 a146 := Tryd.isAgg110
 z146 := Tryd.sizeOf110
 v146 := Tryd.zeroValue110
 g1 := by kernel_rfl }
open Go.RowKit Go.Lib in
theorem Tryd.strings_Index_one (s : ByteArray) (c : UInt8) (w : World) :
  Calls Tryd.prog 45 #[.string s, .string ⟨#[c]⟩] w fun e w' => e = .returned (.int .i64 (Lib.indexByte s.data.toList c)) ∧ w' = w := Any.strings_Index_one Tryd.lays143 s c w
def Tryd.lays144_ren : Go.Shelf.Ren := ⟨fun | 144 => 31 | 143 => 45 | 219 => 56 | 217 => 67 | 225 => 68 | 224 => 69 | 267 => 70 | 266 => 77 | 314 => 78 | n => n, fun | 9 => 9 | 4 => 4 | 3 => 3 | 5 => 5 | 46 => 83 | 146 => 110 | 51 => 99 | n => n, fun | 1 => 1 | n => n⟩
theorem Tryd.lays144 : Go.Proofs.Lays.n144 Tryd.prog Tryd.lays144_ren := {
 mixed := by kernel_rfl
 f143 := Tryd.func45.trans (congrArg some (by kernel_rfl))
 f144 := Tryd.func31.trans (congrArg some (by kernel_rfl))
 f217 := Tryd.func67.trans (congrArg some (by kernel_rfl))
 f219 := Tryd.func56.trans (congrArg some (by kernel_rfl))
 f224 := Tryd.func69.trans (congrArg some (by kernel_rfl))
 f225 := Tryd.func68.trans (congrArg some (by kernel_rfl))
 f266 := Tryd.func77.trans (congrArg some (by kernel_rfl))
 f267 := Tryd.func70.trans (congrArg some (by kernel_rfl))
 f314 := Tryd.func78.trans (congrArg some (by kernel_rfl))
 t3 := Tryd.underlying3
 a3 := Tryd.isAgg3
 z3 := Tryd.sizeOf3
 v3 := Tryd.zeroValue3
 t4 := Tryd.underlying4
 a4 := Tryd.isAgg4
 z4 := Tryd.sizeOf4
 v4 := Tryd.zeroValue4
 t5 := Tryd.underlying5
 a5 := Tryd.isAgg5
 z5 := Tryd.sizeOf5
 v5 := Tryd.zeroValue5
 t9 := Tryd.underlying9
 a9 := Tryd.isAgg9
 z9 := Tryd.sizeOf9
 v9 := Tryd.zeroValue9
 t46 := Tryd.underlying83
 a46 := Tryd.isAgg83
 z46 := Tryd.sizeOf83
 v46 := Tryd.zeroValue83
 t51 := Tryd.underlying99
 a51 := Tryd.isAgg99
 z51 := Tryd.sizeOf99
 v51 := Tryd.zeroValue99
 t146 := Tryd.underlying110
 a146 := Tryd.isAgg110
 z146 := Tryd.sizeOf110
 v146 := Tryd.zeroValue110
 g1 := by kernel_rfl }
open Go.RowKit Go.Lib in
theorem Tryd.strings_Contains_one (s : ByteArray) (c : UInt8) (w : World) :
  Calls Tryd.prog 31 #[.string s, .string ⟨#[c]⟩] w fun e w' => e = .returned (.bool (decide (0 ≤ Lib.indexByte s.data.toList c))) ∧ w' = w := Any.strings_Contains_one Tryd.lays144 s c w
def Tryd.lays145_ren : Go.Shelf.Ren := ⟨fun | 145 => 46 | 220 => 57 | 219 => 56 | 217 => 67 | 225 => 68 | 224 => 69 | 267 => 70 | 266 => 77 | 314 => 78 | n => n, fun | 9 => 9 | 4 => 4 | 59 => 79 | 3 => 3 | 5 => 5 | 46 => 83 | 146 => 110 | 51 => 99 | n => n, fun | 1 => 1 | n => n⟩
theorem Tryd.lays145 : Go.Proofs.Lays.n145 Tryd.prog Tryd.lays145_ren := {
 mixed := by kernel_rfl
 f145 := Tryd.func46.trans (congrArg some (by kernel_rfl))
 f217 := Tryd.func67.trans (congrArg some (by kernel_rfl))
 f219 := Tryd.func56.trans (congrArg some (by kernel_rfl))
 f220 := Tryd.func57.trans (congrArg some (by kernel_rfl))
 f224 := Tryd.func69.trans (congrArg some (by kernel_rfl))
 f225 := Tryd.func68.trans (congrArg some (by kernel_rfl))
 f266 := Tryd.func77.trans (congrArg some (by kernel_rfl))
 f267 := Tryd.func70.trans (congrArg some (by kernel_rfl))
 f314 := Tryd.func78.trans (congrArg some (by kernel_rfl))
 t3 := Tryd.underlying3
 a3 := Tryd.isAgg3
 z3 := Tryd.sizeOf3
 v3 := Tryd.zeroValue3
 t4 := Tryd.underlying4
 a4 := Tryd.isAgg4
 z4 := Tryd.sizeOf4
 v4 := Tryd.zeroValue4
 t5 := Tryd.underlying5
 a5 := Tryd.isAgg5
 z5 := Tryd.sizeOf5
 v5 := Tryd.zeroValue5
 t9 := Tryd.underlying9
 a9 := Tryd.isAgg9
 z9 := Tryd.sizeOf9
 v9 := Tryd.zeroValue9
 t46 := Tryd.underlying83
 a46 := Tryd.isAgg83
 z46 := Tryd.sizeOf83
 v46 := Tryd.zeroValue83
 t51 := Tryd.underlying99
 a51 := Tryd.isAgg99
 z51 := Tryd.sizeOf99
 v51 := Tryd.zeroValue99
 t59 := Tryd.underlying79
 a59 := Tryd.isAgg79
 z59 := Tryd.sizeOf79
 v59 := Tryd.zeroValue79
 t146 := Tryd.underlying110
 a146 := Tryd.isAgg110
 z146 := Tryd.sizeOf110
 v146 := Tryd.zeroValue110
 g1 := by kernel_rfl }
open Go.RowKit Go.Lib in
theorem Tryd.strings_Cut (s sep : ByteArray) (m : Int) (w : World) (hs : s.size < 4294967281) (hm : w.cell? ⟨1, 0, none⟩ = some (.int .i64 m)) :
  Calls Tryd.prog 46 #[.string s, .string sep] w fun e w' => e = .returned (.tuple #[.string ⟨(Lib.cut s.data.toList sep.data.toList).1.toArray⟩, .string ⟨(Lib.cut s.data.toList sep.data.toList).2.1.toArray⟩, .bool (Lib.cut s.data.toList sep.data.toList).2.2]) ∧ ∃ n, w' = w.drewN n := Any.strings_Cut Tryd.lays145 s sep m w hs hm
def Tryd.lays138_ren : Go.Shelf.Ren := ⟨fun | 138 => 72 | 195 => 79 | 218 => 81 | 143 => 45 | 219 => 56 | 217 => 67 | 225 => 68 | 224 => 69 | 267 => 70 | 266 => 77 | 314 => 78 | n => n, fun | 9 => 9 | 3 => 3 | 4 => 4 | 5 => 5 | 0 => 0 | 46 => 83 | 146 => 110 | 51 => 99 | n => n, fun | 1 => 1 | n => n⟩
theorem Tryd.lays138 : Go.Proofs.Lays.n138 Tryd.prog Tryd.lays138_ren := {
 mixed := by kernel_rfl
 f138 := Tryd.func72.trans (congrArg some (by kernel_rfl))
 f143 := Tryd.func45.trans (congrArg some (by kernel_rfl))
 f195 := Tryd.func79.trans (congrArg some (by kernel_rfl))
 f217 := Tryd.func67.trans (congrArg some (by kernel_rfl))
 f218 := Tryd.func81.trans (congrArg some (by kernel_rfl))
 f219 := Tryd.func56.trans (congrArg some (by kernel_rfl))
 f224 := Tryd.func69.trans (congrArg some (by kernel_rfl))
 f225 := Tryd.func68.trans (congrArg some (by kernel_rfl))
 f266 := Tryd.func77.trans (congrArg some (by kernel_rfl))
 f267 := Tryd.func70.trans (congrArg some (by kernel_rfl))
 f314 := Tryd.func78.trans (congrArg some (by kernel_rfl))
 t0 := Tryd.underlying0
 a0 := Tryd.isAgg0
 z0 := Tryd.sizeOf0
 v0 := Tryd.zeroValue0
 t3 := Tryd.underlying3
 a3 := Tryd.isAgg3
 z3 := Tryd.sizeOf3
 v3 := Tryd.zeroValue3
 t4 := Tryd.underlying4
 a4 := Tryd.isAgg4
 z4 := Tryd.sizeOf4
 v4 := Tryd.zeroValue4
 t5 := Tryd.underlying5
 a5 := Tryd.isAgg5
 z5 := Tryd.sizeOf5
 v5 := Tryd.zeroValue5
 t9 := Tryd.underlying9
 a9 := Tryd.isAgg9
 z9 := Tryd.sizeOf9
 v9 := Tryd.zeroValue9
 t46 := Tryd.underlying83
 a46 := Tryd.isAgg83
 z46 := Tryd.sizeOf83
 v46 := Tryd.zeroValue83
 t51 := Tryd.underlying99
 a51 := Tryd.isAgg99
 z51 := Tryd.sizeOf99
 v51 := Tryd.zeroValue99
 t146 := Tryd.underlying110
 a146 := Tryd.isAgg110
 z146 := Tryd.sizeOf110
 v146 := Tryd.zeroValue110
 g1 := by kernel_rfl }
open Go.RowKit Go.Lib in
theorem Tryd.strings_Count_one (s : ByteArray) (c : UInt8) (w : World) :
  Calls Tryd.prog 72 #[.string s, .string ⟨#[c]⟩] w fun e w' => e = .returned (.int .i64 (Lib.countByte s.data.toList c)) ∧ w' = w := Any.strings_Count_one Tryd.lays138 s c w
def Tryd.lays146_ren : Go.Shelf.Ren := ⟨fun | 146 => 48 | 221 => 58 | 268 => 71 | 138 => 72 | 143 => 45 | 195 => 79 | 197 => 80 | 218 => 81 | 219 => 56 | 260 => 88 | 217 => 67 | 225 => 68 | 224 => 69 | 267 => 70 | 266 => 77 | 314 => 78 | n => n, fun | 9 => 9 | 31 => 53 | 3 => 3 | 4 => 4 | 0 => 0 | 105 => 112 | 21 => 21 | 5 => 5 | 46 => 83 | 119 => 126 | 139 => 129 | 138 => 128 | 146 => 110 | 51 => 99 | n => n, fun | 1 => 1 | 3 => 6 | 4 => 7 | n => n⟩
theorem Tryd.lays146 : Go.Proofs.Lays.n146 Tryd.prog Tryd.lays146_ren := {
 mixed := by kernel_rfl
 f138 := Tryd.func72.trans (congrArg some (by kernel_rfl))
 f143 := Tryd.func45.trans (congrArg some (by kernel_rfl))
 f146 := Tryd.func48.trans (congrArg some (by kernel_rfl))
 f195 := Tryd.func79.trans (congrArg some (by kernel_rfl))
 f197 := Tryd.func80.trans (congrArg some (by kernel_rfl))
 f217 := Tryd.func67.trans (congrArg some (by kernel_rfl))
 f218 := Tryd.func81.trans (congrArg some (by kernel_rfl))
 f219 := Tryd.func56.trans (congrArg some (by kernel_rfl))
 f221 := Tryd.func58.trans (congrArg some (by kernel_rfl))
 f224 := Tryd.func69.trans (congrArg some (by kernel_rfl))
 f225 := Tryd.func68.trans (congrArg some (by kernel_rfl))
 f260 := Tryd.func88.trans (congrArg some (by kernel_rfl))
 f266 := Tryd.func77.trans (congrArg some (by kernel_rfl))
 f267 := Tryd.func70.trans (congrArg some (by kernel_rfl))
 f268 := Tryd.func71.trans (congrArg some (by kernel_rfl))
 f314 := Tryd.func78.trans (congrArg some (by kernel_rfl))
 t0 := Tryd.underlying0
 a0 := Tryd.isAgg0
 z0 := Tryd.sizeOf0
 v0 := Tryd.zeroValue0
 t3 := Tryd.underlying3
 a3 := Tryd.isAgg3
 z3 := Tryd.sizeOf3
 v3 := Tryd.zeroValue3
 t4 := Tryd.underlying4
 a4 := Tryd.isAgg4
 z4 := Tryd.sizeOf4
 v4 := Tryd.zeroValue4
 t5 := Tryd.underlying5
 a5 := Tryd.isAgg5
 z5 := Tryd.sizeOf5
 v5 := Tryd.zeroValue5
 t9 := Tryd.underlying9
 a9 := Tryd.isAgg9
 z9 := Tryd.sizeOf9
 v9 := Tryd.zeroValue9
 t21 := Tryd.underlying21
 a21 := Tryd.isAgg21
 z21 := Tryd.sizeOf21
 v21 := Tryd.zeroValue21
 t31 := Tryd.underlying53
 a31 := Tryd.isAgg53
 z31 := Tryd.sizeOf53
 v31 := Tryd.zeroValue53
 t46 := Tryd.underlying83
 a46 := Tryd.isAgg83
 z46 := Tryd.sizeOf83
 v46 := Tryd.zeroValue83
 t51 := Tryd.underlying99
 a51 := Tryd.isAgg99
 z51 := Tryd.sizeOf99
 v51 := Tryd.zeroValue99
 t105 := Tryd.underlying112
 a105 := Tryd.isAgg112
 z105 := Tryd.sizeOf112
 v105 := Tryd.zeroValue112
 t119 := Tryd.underlying126
 a119 := Tryd.isAgg126
 z119 := Tryd.sizeOf126
 t138 := Tryd.underlying128
 a138 := Tryd.isAgg128
 z138 := Tryd.sizeOf128
 v138 := Tryd.zeroValue128
 t139 := Tryd.underlying129
 a139 := Tryd.isAgg129
 z139 := Tryd.sizeOf129
 v139 := Tryd.zeroValue129
 t146 := Tryd.underlying110
 a146 := Tryd.isAgg110
 z146 := Tryd.sizeOf110
 v146 := Tryd.zeroValue110
 g1 := by kernel_rfl
 g3 := by kernel_rfl
 g4 := by kernel_rfl }
end Go.Proofs
namespace Go.Proofs.YtafggolijpopeaaDoor
open Go Go.Ma Go.RowKit Go.Proofs
theorem below_drewN (w : World) (n : Nat) : Below w.heap.size w (w.drewN n) := ⟨rfl, rfl, rfl, Nat.le_refl _, fun _ _ => rfl⟩
theorem str_den (ρ : Nat → Value) : ∀ l : List ByteArray, (List.flatMap (fun a => denL ρ (K.enc .str a)) (show List K.str.T from l)) = l.map Value.string
 | [] => rfl
 | a :: r => by
  show denL ρ (K.enc .str a) ++ List.flatMap (fun a => denL ρ (K.enc .str a)) (show List K.str.T from r) = _
  rw [str_den ρ r]
  rfl
noncomputable def strings_Join_con : Con := con [.one (.row .str 9), .one (.fl .str)] [.one (.fl .str)] (fun x => strings_Join_t x.1 x.2.1)
theorem join_main (l : List ByteArray) (sep : ByteArray) (y : ByteArray × Unit) (hx : strings_Join_t l sep = some y) (ρ : Nat → Value) (us vals : List Value) (w : World)
  (hu : ArgsOk w ρ 0 vals (encA false [.one (.row .str 9), .one (.fl .str)] (l, sep, ()) 0).1 (encA false [.one (.row .str 9), .one (.fl .str)] (l, sep, ()) 0).2 us) :
  Calls Tryd.prog 27 vals.toArray w fun e w' => ∃ ρc r m', e = .returned (den ρc r) ∧ RelM w ρc m' w' ∧ resR [.one (.fl .str)] r m' = some y := by
 have hg := gives_nameOf us
 have hlen := hu.len
 have hdenv := hu.den _ hg
 obtain ⟨v, rfl⟩ : ∃ v, us = [v] := by
  have hl1 : us.length = 1 := hlen
  match us, hl1 with
  | [v], _ => exact ⟨v, rfl⟩
 obtain ⟨hob, _⟩ := hu.obj w _ hg 0 (.row (.ty .str l) 9 false) v rfl rfl
 obtain ⟨_, _, hrow0⟩ := hob
 rw [if_neg (by simp)] at hrow0
 have hrow : RowIs w v l.length 1 (List.flatMap (fun a => denL (nameOf [v]) (K.enc .str a)) (show List K.str.T from l)) := hrow0
 rw [str_den] at hrow
 unfold strings_Join_t at hx
 obtain ⟨hq, hx⟩ := req_some hx
 simp only [Bool.and_eq_true] at hq
 have q2 := Nat.le_of_ble_eq_true hq.1
 have q3 := Nat.le_of_ble_eq_true hq.2
 injection hx with hx
 subst hx
 obtain ⟨_, A, cap, hv, hn, hc, hA, hcells⟩ := hrow
 have hvals : vals = [.slice A l.length cap, .string sep] := hdenv.symm.trans (by rw [hv]; rfl)
 subst hvals
 by_cases hl0 : l = []
 ·subst hl0
  refine (Go.Proofs.Tryd.strings_Join_none A cap sep w).mono ?_
  rintro e w' ⟨rfl, rfl⟩
  exact ⟨fun _ => Go.undef, .s ⟨#[]⟩, [], rfl, ⟨Below.refl _ _, fun j o h => by simp at h, fun i j o o' _ h => by simp at h, fun j o h => by simp at h⟩, rfl⟩
 have q1 : 1 ≤ l.length := by
  cases l with
  | nil => exact absurd rfl hl0
  | cons x r => simp
 cases A with
 | none => have := hA rfl; omega
 | some a =>
  obtain ⟨hlt, hcl⟩ := hcells a rfl
  obtain ⟨blk, off, spot⟩ := a
  have hs : spot = none := by
   have h0 := hcl 0 (.string (l[0]'(by omega))) (by simp)
   rw [show Addr.add ⟨blk, off, spot⟩ 0 = ⟨blk, off, spot⟩ from rfl] at h0
   cases spot with
   | none => rfl
   | some q =>
    unfold World.cell? at h0
    split at h0
    ·simp at h0
    ·cases h0
  subst hs
  have hj := Go.Proofs.Tryd.strings_Join blk off cap l sep w (fun j x hx => by
   have := hcl j (.string x) (by simp [hx])
   rwa [Addr.add_lit] at this) (by first | exact hlt | exact hlt (by omega)) (by omega) hn (by omega)
  refine hj.mono ?_
  rintro e w' ⟨rfl, hb⟩
  refine ⟨fun _ => Go.undef, .s ⟨(Lib.join (l.map (·.data.toList)) sep.data.toList).toArray⟩, [], rfl, ?_, rfl⟩
  exact ⟨hb, fun j o h => by simp at h, fun i j o o' _ h => by simp at h, fun j o h => by simp at h⟩
theorem strings_Join_ok : TrOk Tryd.prog 27 strings_Join_con := con_of _ _ _ fun x y hx ρ us vals w _ hu => join_main x.1 x.2.1 y hx ρ us vals w hu
theorem info9 : (Tryd.prog.info? 9).map (fun i => (i.zero, i.size, i.bytes)) = some (some (.string ByteArray.empty), 1, 16) := by kernel_rfl
set_option maxHeartbeats 1000000 in
theorem split_one (s : ByteArray) (c : UInt8) (w : World) (hs : s.size < 4294967281) :
  Calls Tryd.prog 48 #[.string s, .string ⟨#[c]⟩] w fun e w' =>
   e = .returned (.slice (some ⟨w.heap.size, 0, none⟩) (Lib.countB s ⟨#[c]⟩ + 1) (Lib.countB s ⟨#[c]⟩ + 1)) ∧ w' = w.alloc (.cells ((Lib.splitB ⟨#[c]⟩ 0 (Lib.countB s ⟨#[c]⟩) s).map Value.string).toArray 9) := by
 have h1 : 1 ≤ (⟨#[c]⟩ : ByteArray).size := Nat.le_refl _
 have hle := Lib.countB_le ⟨#[c]⟩ h1 s.size s (Nat.le_refl _)
 have hlen := Lib.splitB_all ⟨#[c]⟩ h1 0 _ s rfl
 have c0 := Go.Proofs.Any.strings_genSplit_core { Go.Proofs.Tryd.lays146 with } info9 s ⟨#[c]⟩ 0 (-1) (Lib.countB s ⟨#[c]⟩ + 1) w hs h1 (Nat.zero_le _)
  (fun x cc hx => (Go.Proofs.Tryd.strings_Index_one x c _).mono fun e w' ⟨he, hw⟩ => ⟨by rw [he, ← Lib.index_one], hw⟩)
  ((Go.Proofs.Tryd.strings_Count_one s c w).mono fun e w' ⟨he, hw⟩ => ⟨by rw [he]; show _ = Ending.returned (Value.int .i64 ((Lib.count s.data.toList [c] : Nat) : Int)); rw [Lib.count_one]; rfl, hw⟩)
  (by decide) (by decide) (by rw [if_pos (by decide)]; omega)
 rw [Nat.add_sub_cancel, hlen] at c0
 have e2 : Lib.cellsOf (Lib.splitB ⟨#[c]⟩ 0 (Lib.countB s ⟨#[c]⟩) s) (Lib.countB s ⟨#[c]⟩ + 1) = ((Lib.splitB ⟨#[c]⟩ 0 (Lib.countB s ⟨#[c]⟩) s).map Value.string).toArray := by rw [← hlen]; exact Lib.cellsOf_full _
 rw [e2] at c0
 have HC : Hid (Calls Tryd.prog 58 #[.string s, .string ⟨#[c]⟩, .int .i64 0, .int .i64 (-1)] w fun e w' => e = .returned (.slice (some ⟨w.heap.size, 0, none⟩) (Lib.countB s ⟨#[c]⟩ + 1) (Lib.countB s ⟨#[c]⟩ + 1)) ∧ w' = w.alloc (.cells ((Lib.splitB ⟨#[c]⟩ 0 (Lib.countB s ⟨#[c]⟩) s).map Value.string).toArray 9)) := c0
 clear c0
 go_enter Tryd.func48, Tryd.ntmps48
 go_wp2_with (go_at_call 58; refine HC.out.mono ?_; rintro e w' ⟨rfl, hw⟩; rw [hw])
 go_ret
 exact ⟨rfl, rfl⟩
end Go.Proofs.YtafggolijpopeaaDoor
namespace Go.Proofs.YtafggolijpopeaaDoor
open Go Go.Ma Go.RowKit Go.Proofs
theorem lower_walk (c : Int) (w : World) : Calls Tryd.prog 82 #[.int .u8 c] w fun e w' => e = .returned (.int .u8 (bits .or .u8 c 32)) ∧ w' = w := by
 go_enter Tryd.func82, Tryd.ntmps82
 go_wp2
 go_ret
 exact ⟨rfl, rfl⟩
set_option maxHeartbeats 32000000 in
set_option maxRecDepth 100000 in
theorem hexInner (t : ByteArray) (hne : t.size ≠ 0) (hmax : t.size ≤ 9223372036854775806) (w : World) :
  Calls Tryd.prog 73 #[.string t, .int .i64 16, .int .i64 32] w fun e w' => (∃ u ev, e = .returned (.tuple #[.int .u64 u, ev]) ∧ HexEnd 114 t.data.toList 0 u ev) ∧ w' = Lib.bytesWorld w 5 t := by
 have hemp : t.toList.isEmpty = false := by
  rw [← decide_eq_emptyBytes]
  exact decide_eq_false (fun h => hne (by rw [h]; rfl))
 have hcv := Lib.run_convert_string_bytes (P := Tryd.prog) w 9 47 5 t (u := .string) Tryd.underlying9 Tryd.underlying47 Tryd.underlying5
 have hB : ∀ j, j < t.size → (Lib.bytesWorld w 5 t).cell? ⟨w.heap.size, j, none⟩ = some (.int .u8 (t.data.toList.getD j 0).toNat) := fun j hj => Lib.bytesWorld_cell w 5 t j hj
 obtain ⟨W1, hW1⟩ : ∃ W1, W1 = Lib.bytesWorld w 5 t := ⟨_, rfl⟩
 rw [← hW1] at hcv hB ⊢
 clear hW1
 obtain ⟨bs, hL⟩ : ∃ bs, bs = t.data.toList := ⟨_, rfl⟩
 have hLn : bs.length = t.size := by rw [hL, Lib.size_eq]
 rw [← hL] at hB ⊢
 clear hL
 have hmv : IntKind.u64.wrap (IntKind.u64.wrap 4294967296 - 1) = 4294967295 := by
  rw [IntKind.wrap_u64, IntKind.wrap_u64]
  decide
 go_enter Tryd.func73, Tryd.ntmps73
 go_wp2
 go_loop [12, 13, 101] (fun vu vn vi => ∃ (k acc : Nat) (a : Int), vu = .bool false ∧ vn = .int .u64 a ∧ vi = .int .i64 k ∧ k ≤ t.size ∧ Hid (a = (acc : Int) ∧ acc ≤ 4294967295 ∧ hexF bs 0 = hexF (bs.drop k) acc))
  (fun _ _ vi => t.size - (intOf vi).toNat)
 case atStart => exact ⟨0, 0, 0, rfl, rfl, rfl, by omega, rfl, by omega, rfl⟩
 case round =>
  obtain ⟨k, acc, a, rfl, rfl, rfl, hk, hh⟩ := hrel
  obtain ⟨ha, hacc, hdec⟩ := hh.out
  clear hh
  have a0 : 0 ≤ a := by omega
  have a1 : a ≤ 4294967295 := by omega
  by_cases hkn : k < t.size
  ·have hc := hB k hkn
   have hdrop : bs.drop k = bs[k]'(by omega) :: bs.drop (k + 1) := List.drop_eq_getElem_cons (by omega)
   have hget : bs.getD k 0 = bs[k]'(by omega) := by simp [List.getD, List.getElem?_eq_getElem (show k < bs.length by omega)]
   rw [hdrop] at hdec
   rw [hget] at hc
   generalize bs[k]'(by omega) = c at hc hdec
   have hc256 : c.toNat < 256 := c.toNat_lt
   clear hB hdrop hget
   rw [hexF] at hdec
   by_cases hdig : 48 ≤ c.toNat ∧ c.toNat ≤ 57
   ·obtain ⟨hd0, hd1⟩ := hdig
    have hv : hexv c = some (c.toNat - 48) := by unfold hexv; rw [if_pos ⟨hd0, hd1⟩]
    rw [hv] at hdec
    simp only at hdec
    by_cases hov : 4294967295 < acc * 16 + (c.toNat - 48)
    ·rw [if_pos hov] at hdec
     have iov : 4294967295 < a * 16 + ((c.toNat : Int) - 48) := by omega
     clear hacc hov ha hv
     go_wp2
     go_ret2
     exact ⟨⟨_, _, rfl, .bad hdec (.inr rfl)⟩, rfl⟩
    ·rw [if_neg hov] at hdec
     have HN : Hid (a * 16 + ((c.toNat : Int) - 48) = ((acc * 16 + (c.toNat - 48) : Nat) : Int) ∧ acc * 16 + (c.toNat - 48) ≤ 4294967295 ∧ hexF bs 0 = hexF (bs.drop (k + 1)) (acc * 16 + (c.toNat - 48))) := Lib.hid ⟨by omega, by omega, hdec⟩
     have iov : a * 16 + ((c.toNat : Int) - 48) ≤ 4294967295 := by omega
     clear hacc hov hdec ha hv
     go_wp2
     refine ⟨⟨k + 1, acc * 16 + (c.toNat - 48), a * 16 + ((c.toNat : Int) - 48), rfl, (by first | rfl | (congr 1; omega)), (by first | rfl | (congr 1; omega)), by omega, HN⟩, by simp [intOf]; omega⟩
   ·have hv0 := bits_lo_u8 .or (c.toNat : Int) 32
    have hv1 := bits_hi_u8 .or (c.toNat : Int) 32
    have hne95 : 97 ≤ bits .or .u8 (c.toNat : Int) 32 → bits .or .u8 (c.toNat : Int) 32 ≤ 122 → ¬ (c.toNat : Int) = 95 := fun h1 h2 h => by
     rw [h] at h2
     exact absurd h2 (by decide)
    have hb95 : (c.toNat : Int) = 95 → bits .or .u8 (c.toNat : Int) 32 = 127 := fun h => by rw [h]; decide
    have e95 : bits .or .u8 95 32 = 127 := by decide
    have HL : Hid (∀ W, Calls Tryd.prog 82 #[.int .u8 (c.toNat : Int)] W fun e w' => e = .returned (.int .u8 (bits .or .u8 (c.toNat : Int) 32)) ∧ w' = W) := fun W => lower_walk _ W
    have hvv : hexv c = if 97 ≤ bits .or .u8 (c.toNat : Int) 32 ∧ bits .or .u8 (c.toNat : Int) 32 ≤ 102 then some ((bits .or .u8 (c.toNat : Int) 32).toNat - 87) else none := by
     unfold hexv lowQ
     rw [if_neg hdig]
    rw [hvv] at hdec
    clear hvv
    generalize bits .or .u8 (c.toNat : Int) 32 = L at HL hv0 hv1 hne95 hb95 hdec
    by_cases hlet : 97 ≤ L ∧ L ≤ 102
    ·rw [if_pos hlet] at hdec
     simp only at hdec
     obtain ⟨l0, l1⟩ := hlet
     have l2 : L ≤ 122 := by omega
     have n95 := hne95 l0 l2
     by_cases hov : 4294967295 < acc * 16 + (L.toNat - 87)
     ·rw [if_pos hov] at hdec
      have iov : 4294967295 < a * 16 + (L - 87) := by omega
      clear hacc hov ha hne95 hb95 e95
      go_wp2_with (go_at_call 82; refine (HL.out _).mono ?_; rintro e w' ⟨rfl, rfl⟩)
      all_goals go_ret2
      all_goals exact ⟨⟨_, _, rfl, .bad hdec (.inr rfl)⟩, rfl⟩
     ·rw [if_neg hov] at hdec
      have HN : Hid (a * 16 + (L - 97 + 10) = ((acc * 16 + (L.toNat - 87) : Nat) : Int) ∧ acc * 16 + (L.toNat - 87) ≤ 4294967295 ∧ hexF bs 0 = hexF (bs.drop (k + 1)) (acc * 16 + (L.toNat - 87))) := Lib.hid ⟨by omega, by omega, hdec⟩
      have iov : a * 16 + (L - 87) ≤ 4294967295 := by omega
      clear hacc hov hdec ha hne95 hb95 e95
      go_wp2_with (go_at_call 82; refine (HL.out _).mono ?_; rintro e w' ⟨rfl, rfl⟩)
      all_goals exact ⟨⟨k + 1, acc * 16 + (L.toNat - 87), a * 16 + (L - 97 + 10), rfl, (by first | rfl | (congr 1; omega)), (by first | rfl | (congr 1; omega)), by omega, HN⟩, by simp [intOf]; omega⟩
    ·rw [if_neg hlet] at hdec
     simp only at hdec
     clear hacc ha
     by_cases h122 : 97 ≤ L ∧ L ≤ 122
     ·obtain ⟨l0, l2⟩ := h122
      have n95 := hne95 l0 l2
      have l3 : 103 ≤ L := by omega
      clear hne95 hlet hb95 e95
      go_wp2_with (go_at_call 82; refine (HL.out _).mono ?_; rintro e w' ⟨rfl, rfl⟩)
      all_goals go_ret2
      all_goals exact ⟨⟨_, _, rfl, .bad hdec (.inl rfl)⟩, rfl⟩
     ·clear hne95 hlet
      by_cases h95 : (c.toNat : Int) = 95
      ·clear hb95 h122 hv0 hv1
       clear HL
       clear L
       go_wp2_with (go_at_call 82; refine (lower_walk 95 _).mono ?_; rintro e w' ⟨rfl, rfl⟩)
       all_goals go_ret2
       all_goals exact ⟨⟨_, _, rfl, .bad hdec (.inl rfl)⟩, rfl⟩
      ·clear hb95 e95
       by_cases h97 : 97 ≤ L
       ·have l3 : 122 < L := by omega
        clear h122
        go_wp2_with (go_at_call 82; refine (HL.out _).mono ?_; rintro e w' ⟨rfl, rfl⟩)
        all_goals go_ret2
        all_goals exact ⟨⟨_, _, rfl, .bad hdec (.inl rfl)⟩, rfl⟩
       ·clear h122
        go_wp2_with (go_at_call 82; refine (HL.out _).mono ?_; rintro e w' ⟨rfl, rfl⟩)
        all_goals go_ret2
        all_goals exact ⟨⟨_, _, rfl, .bad hdec (.inl rfl)⟩, rfl⟩
  ·have hkk : k = t.size := by omega
   subst hkk
   have hF : hexF (bs.drop t.size) acc = some acc := by rw [List.drop_eq_nil_of_le (by omega)]; rfl
   rw [hF] at hdec
   subst ha
   clear hacc hF a0 a1
   go_wp2
   go_ret2
   exact ⟨⟨_, _, rfl, .ok hdec⟩, rfl⟩
def NumOut (o : Option Nat) (u : Int) (ev : Value) : Prop := match o with
 | some n => u = (n : Int) ∧ ev = .nilIface
 | none => ∃ te pe, ev = .iface te pe
def NumEnd (o : Option Nat) (e : Ending) : Prop := ∃ u ev, e = .returned (.tuple #[.int .u64 u, ev]) ∧ NumOut o u ev
theorem numEnd_ok (n : Nat) : NumEnd (some n) (.returned (.tuple #[.int .u64 (n : Int), .nilIface])) := ⟨_, _, rfl, rfl, rfl⟩
theorem numEnd_bad (u : Int) (te : TypeId) (pe : Value) : NumEnd none (.returned (.tuple #[.int .u64 u, .iface te pe])) := ⟨_, _, rfl, _, _, rfl⟩
set_option maxRecDepth 100000 in
theorem hexEmpty (w : World) : Calls Tryd.prog 73 #[.string ByteArray.empty, .int .i64 16, .int .i64 32] w fun e w' => e = .returned (.tuple #[.int .u64 0, .iface 114 (.int .i64 2)]) ∧ w' = w := by
 go_enter Tryd.func73, Tryd.ntmps73
 go_wp2
 go_ret2
 exact ⟨rfl, rfl⟩
def InnerEnd (o : Option Nat) (u : Int) (ev : Value) : Prop := match o with
 | some n => u = (n : Int) ∧ ev = .nilIface
 | none => ev = .iface 114 (.int .i64 2) ∨ ev = .iface 114 (.int .i64 1)
theorem hexAll (s : ByteArray) (hmax : s.size ≤ 9223372036854775806) (w : World) :
  Calls Tryd.prog 73 #[.string s, .int .i64 16, .int .i64 32] w fun e w' => (∃ u ev, e = .returned (.tuple #[.int .u64 u, ev]) ∧ InnerEnd (hexU s) u ev) ∧ Below w.heap.size w w' := by
 by_cases h0 : s.size = 0
 ·have hs : s = ByteArray.empty := by
   cases s with | mk a =>
   have : a = #[] := Array.eq_empty_of_size_eq_zero h0
   rw [this]; rfl
  subst hs
  refine (hexEmpty w).mono ?_
  rintro e w' ⟨rfl, rfl⟩
  exact ⟨⟨_, _, rfl, .inl rfl⟩, Below.refl _ _⟩
 ·refine (hexInner s h0 hmax w).mono ?_
  rintro e w' ⟨⟨u, ev, rfl, hh⟩, rfl⟩
  refine ⟨⟨u, ev, rfl, ?_⟩, Lib.bytesWorld_below _ _ _⟩
  unfold hexU
  rw [if_neg h0]
  cases hh with
  | ok h hu he => rw [h]; exact ⟨hu, he⟩
  | bad h he => rw [h]; exact he
theorem gErrSyntax : Tryd.prog.globalNamed "strconv.ErrSyntax" = some 4 := by kernel_rfl
theorem gErrRange : Tryd.prog.globalNamed "strconv.ErrRange" = some 5 := by kernel_rfl
set_option maxHeartbeats 4000000 in
set_option maxRecDepth 100000 in
theorem hexPublic (s : ByteArray) (hlim : s.size ≤ 281474976710656) (w : World) (hG : Glob Tryd.prog w) :
  Calls Tryd.prog 59 #[.string s, .int .i64 16, .int .i64 32] w fun e w' => NumEnd (hexU s) e ∧ Below w.heap.size w w' := by
 obtain ⟨es, hes, hes2⟩ := hG.err _ _ (.inl rfl) gErrSyntax
 obtain ⟨er, her, her2⟩ := hG.err _ _ (.inr rfl) gErrRange
 have hI := hexAll s (by omega) w
 go_enter Tryd.func59, Tryd.ntmps59
 go_wp2_with (go_at_call 73; refine hI.mono ?_)
 rintro e W1 ⟨⟨u, ev, rfl, hh⟩, hb1⟩
 have hes1 := cell_stays hb1 hes
 have her1 := cell_stays hb1 her
 cases hx : hexU s with
 | some n =>
  rw [hx] at hh
  obtain ⟨rfl, rfl⟩ := hh
  go_wp2
  go_ret2
  exact ⟨by rw [hx]; exact numEnd_ok n, hb1⟩
 | none =>
  rw [hx] at hh
  rcases hh with rfl | rfl
  ·go_wp2_with (go_at_call 74; refine (AnyPu.strconv_toError_syntax (P := Tryd.prog) { Go.Proofs.Tryd.laysPu14 with } ⟨#[80, 97, 114, 115, 101, 85, 105, 110, 116]⟩ s 16 32 es _ hlim hes1 hes2).mono ?_)
   rintro e W2 ⟨N, rfl, h1, h2, h3⟩
   go_wp2
   go_ret2
   exact ⟨by rw [hx]; exact numEnd_bad _ _ _, hb1.trans (h3.mono hb1.size)⟩
  ·go_wp2_with (go_at_call 74; refine (AnyPu.strconv_toError_range (P := Tryd.prog) { Go.Proofs.Tryd.laysPu14 with } ⟨#[80, 97, 114, 115, 101, 85, 105, 110, 116]⟩ s 16 32 er _ hlim her1 her2).mono ?_)
   rintro e W2 ⟨N, rfl, h1, h2, h3⟩
   go_wp2
   go_ret2
   exact ⟨by rw [hx]; exact numEnd_bad _ _ _, hb1.trans (h3.mono hb1.size)⟩
theorem decPublic (s : ByteArray) (hlim : s.size ≤ 281474976710656) (w : World) (hG : Glob Tryd.prog w) :
  Calls Tryd.prog 59 #[.string s, .int .i64 10, .int .i64 32] w fun e w' => NumEnd (decU s) e ∧ Below w.heap.size w w' := by
 obtain ⟨es, hes, hes2⟩ := hG.err _ _ (.inl rfl) gErrSyntax
 obtain ⟨er, her, her2⟩ := hG.err _ _ (.inr rfl) gErrRange
 unfold decU
 cases hx : Lib.parseUintB 32 s.data.toList with
 | ok u =>
  refine (Go.Proofs.Tryd.strconv_ParseUint_10_at32_ok s (by omega) u hx w).mono ?_
  rintro e w' ⟨rfl, hw⟩
  exact ⟨numEnd_ok u, by rcases hw with rfl | rfl; exact Below.refl _ _; exact Lib.bytesWorld_below _ _ _⟩
 | range =>
  refine (Go.Proofs.Tryd.strconv_ParseUint_10_at32_range s hlim hx er w her her2).mono ?_
  rintro e w' ⟨N, rfl, _, _, hb⟩
  exact ⟨numEnd_bad _ _ _, hb⟩
 | _ =>
  refine (Go.Proofs.Tryd.strconv_ParseUint_10_at32_syntax s hlim hx es w hes hes2).mono ?_
  rintro e w' ⟨N, rfl, _, _, hb⟩
  exact ⟨numEnd_bad _ _ _, hb⟩
end Go.Proofs.YtafggolijpopeaaDoor
namespace Go.Proofs.YtafggolijpopeaaDoor
open Go Go.Ma Go.RowKit Go.Proofs
def digits36 : ByteArray := ⟨#[48, 49, 50, 51, 52, 53, 54, 55, 56, 57, 97, 98, 99, 100, 101, 102, 103, 104, 105, 106, 107, 108, 109, 110, 111, 112, 113, 114, 115, 116, 117, 118, 119, 120, 121, 122]⟩
theorem idx36 {P : Program} (t : TypeId) (ht : P.underlying t = some .string) (k : IntKind) (z : Int) (i : Nat) (hz : z = (i : Int)) (hi : i < 16) (w : World) :
  (Instr.index t (.string digits36) (.int k z)).run P w = .ok (.int .u8 ((hexD i).toNat : Int)) w := by
 subst hz
 rw [run_index_string w t digits36 k _ ht, dif_pos ⟨by omega, by show (i : Int) < 36; omega⟩]
 have e : ((i : Int)).toNat = i := by omega
 simp only [e]
 have : i = 0 ∨ i = 1 ∨ i = 2 ∨ i = 3 ∨ i = 4 ∨ i = 5 ∨ i = 6 ∨ i = 7 ∨ i = 8 ∨ i = 9 ∨ i = 10 ∨ i = 11 ∨ i = 12 ∨ i = 13 ∨ i = 14 ∨ i = 15 := by omega
 rcases this with rfl | rfl | rfl | rfl | rfl | rfl | rfl | rfl | rfl | rfl | rfl | rfl | rfl | rfl | rfl | rfl <;> rfl
theorem pow2_walk (w : World) : Calls Tryd.prog 63 #[.int .i64 16] w fun e w' => e = .returned (.bool true) ∧ w' = w := by
 go_enter Tryd.func63, Tryd.ntmps63
 go_wp2
 go_ret
 exact ⟨by first | rfl | decide, rfl⟩
theorem gTab : Tryd.prog.globalNamed "math/bits.deBruijn64tab" = some 3 := by kernel_rfl
theorem key16 : IntKind.u64.wrap (bits BinOp.and IntKind.u64 16 (IntKind.u64.wrap (-16)) * 285870213051353865) / 288230376151711744 = 15 := by decide +kernel
set_option maxRecDepth 100000 in
theorem tz64_walk (w : World) (hcell : w.cell? ⟨3, 15, none⟩ = some (.int .u8 4)) :
  Calls Tryd.prog 76 #[.int .u64 16] w fun e w' => e = .returned (.int .i64 4) ∧ w' = w := by
 have key := key16
 go_enter Tryd.func76, Tryd.ntmps76
 go_wp2_with (simp only [key])
 go_ret
 exact ⟨rfl, rfl⟩
set_option maxRecDepth 100000 in
theorem tz_walk (w : World) (hcell : w.cell? ⟨3, 15, none⟩ = some (.int .u8 4)) :
  Calls Tryd.prog 64 #[.int .u64 16] w fun e w' => e = .returned (.int .i64 4) ∧ w' = w := by
 go_enter Tryd.func64, Tryd.ntmps64
 go_wp2_with (go_at_call 76; refine (tz64_walk _ hcell).mono ?_; rintro e w' ⟨rfl, rfl⟩)
 go_ret
 exact ⟨rfl, rfl⟩
def encB (b : UInt8) : Value := .int .u8 (b.toNat : Int)
theorem pre_cell {w : World} {N m : Nat} {z : Value} {s : List Value} {T : TypeId} (h : w.heap[N]? = some (Go.Obj.cells (List.replicate (m + 1) z ++ s).toArray T (0, 0))) :
  w.cell? ⟨N, m, none⟩ = some z ∧ w.frozen? ⟨N, m, none⟩ = false := by
 constructor
 ·simp [World.cell?, h, List.getElem?_append_left]
 ·simp [World.frozen?, h]
theorem pre_set {w : World} {N m : Nat} {z v : Value} {s : List Value} {T : TypeId} (h : w.heap[N]? = some (Go.Obj.cells (List.replicate (m + 1) z ++ s).toArray T (0, 0))) :
  (w.setCell ⟨N, m, none⟩ v).heap[N]? = some (Go.Obj.cells (List.replicate m z ++ v :: s).toArray T (0, 0)) := by
 rw [setCell_heap w N m v _ T (0, 0) h]
 congr 2
 apply Array.ext'
 simp [List.replicate_succ', List.set_append]
theorem suf_cell {w : World} {N i : Nat} {z : Value} {s : List UInt8} {T : TypeId} (h : w.heap[N]? = some (Go.Obj.cells (List.replicate i z ++ s.map encB).toArray T (0, 0))) (j : Nat) (hj : j < s.length) :
  w.cell? ((⟨N, i, none⟩ : Addr).add j) = some (.int .u8 (s[j].toNat : Int)) := by
 rw [Lib.add_plain]
 simp [World.cell?, h, List.getElem?_append_right, hj, encB]
theorem slice65 (m : Nat) (hm : m < 65) (b : Nat) (W : World) : (Instr.sliceAt 100 (.pointer (some ⟨b, 0, none⟩)) (some (.int .i64 (m : Int))) none none).run Tryd.prog W = .ok (.slice (some ⟨b, m, none⟩) (65 - m) (65 - m)) W := by
 have hal : Tryd.prog.arrayLen 100 = 65 := by simp [Program.arrayLen, Tryd.underlying100]
 rw [run_sliceAt_array_l W 100 ⟨b, 0, none⟩ (by simp [Program.arrayLen, Program.elem, Tryd.underlying100]) .i64 (m : Int) (by omega) (by rw [hal]; omega), hal]
 go_simp
 omega
set_option maxHeartbeats 8000000 in
set_option maxRecDepth 100000 in
theorem bits_hex (n : Nat) (hn : n < 65536) (w : World) (hG : Glob Tryd.prog w) :
  Calls Tryd.prog 53 #[.slice none 0 0, .int .u64 (n : Int), .int .i64 16, .bool false, .bool false] w fun e w' => e = .returned (.tuple #[.slice none 0 0, .string ⟨(hex4 n).toArray⟩]) ∧ Below w.heap.size w w' := by
 obtain ⟨tt, zz, htab⟩ := hG.ctz _ gTab
 have hcell : w.cell? ⟨3, 15, none⟩ = some (.int .u8 4) := by
  unfold World.cell?
  rw [htab]
  rfl
 have HT : Hid (∀ W, Below w.heap.size w W → Calls Tryd.prog 64 #[.int .u64 16] W fun e w' => e = .returned (.int .i64 4) ∧ w' = W) := fun W hb => tz_walk W (cell_stays hb hcell)
 clear hcell htab
 go_enter Tryd.func53, Tryd.ntmps53
 go_wp2_with (first | (go_at_call 63; refine (pow2_walk _).mono ?_; rintro e w' ⟨rfl, rfl⟩) | (go_at_call 64; refine (HT.out _ ((Below.refl _ w).alloc (Nat.le_refl _) _)).mono ?_; rintro e w' ⟨rfl, rfl⟩))
 go_name_world W0 hW0
 have hN0 : W0.heap[w.heap.size]? = some (.cells (List.replicate 65 (Value.int .u8 0) ++ ([] : List UInt8).map encB).toArray 100 (0, 0)) := by rw [← hW0]; exact heap_alloc_new w _
 have hb0 : Below w.heap.size w W0 := by rw [← hW0]; exact (Below.refl _ w).alloc (Nat.le_refl _) _
 clear hW0 HT
 go_loopw [1, 13] (fun vu vi wr => ∃ (u i : Nat) (suf : List UInt8), vu = .int .u64 (u : Int) ∧ vi = .int .i64 (i : Int) ∧ Hid (hex4 u ++ suf = hex4 n ∧ suf.length + i = 65 ∧ u < 16 ^ (i - 61)) ∧ 62 ≤ i ∧ i ≤ 65 ∧ Hid (wr.heap[w.heap.size]? = some (.cells (List.replicate i (Value.int .u8 0) ++ suf.map encB).toArray 100 (0, 0))) ∧ Below w.heap.size w wr) (fun _ vi _ => (intOf vi).toNat)
 case atStart => exact ⟨n, 65, [], rfl, rfl, Lib.hid ⟨List.append_nil _, rfl, hn⟩, by omega, by omega, Lib.hid hN0, hb0⟩
 case round =>
  clear hN0 hb0
  obtain ⟨u, i, suf, rfl, rfl, HS, hi0, hi1, HH, hbw⟩ := hrel
  obtain ⟨e1, e2, e3⟩ := HS.out
  obtain ⟨m, rfl⟩ : ∃ m, i = m + 1 := ⟨i - 1, by omega⟩
  have hh := HH.out
  obtain ⟨hc, hf⟩ := pre_cell hh
  clear hh
  have hu6 : u < 65536 := Nat.lt_of_lt_of_le e3 (by have : 16 ^ (m + 1 - 61) ≤ 16 ^ 4 := Nat.pow_le_pow_right (by omega) (by omega); omega)
  have iu0 : 0 ≤ (u : Int) := by omega
  have iu1 : (u : Int) < 65536 := by omega
  by_cases h16 : 16 ≤ u
  ·have hand : bits .and .u64 (u : Int) 15 = ((u % 16 : Nat) : Int) := by
    have := bits_and_u64_nat u 15 (by omega) (by omega)
    rw [show (15 : Int) = ((15 : Nat) : Int) from rfl, this, show (15 : Nat) = 2 ^ 4 - 1 from rfl, Nat.and_two_pow_sub_one_eq_mod]
   have hX : ∀ W, (Instr.index 9 (.string ⟨#[48, 49, 50, 51, 52, 53, 54, 55, 56, 57, 97, 98, 99, 100, 101, 102, 103, 104, 105, 106, 107, 108, 109, 110, 111, 112, 113, 114, 115, 116, 117, 118, 119, 120, 121, 122]⟩) (.int .u64 (bits .and .u64 (u : Int) 15))).run Tryd.prog W = .ok (.int .u8 ((hexD (u % 16)).toNat : Int)) W := idx36 9 Tryd.underlying9 .u64 _ _ hand (by omega)
   have hge : (16 : Int) ≤ (u : Int) := by omega
   have hm62 : 62 ≤ m := by
    rcases Nat.lt_or_ge m 62 with h | h
    ·have : m = 61 := by omega
     subst this
     have : u < 16 := e3
     omega
    ·exact h
   clear hand
   go_wp2
   refine ⟨⟨u / 16, m, hexD (u % 16) :: suf, by go_num, rfl, Lib.hid ⟨by rw [← e1, hex4_step u h16 hu6, List.append_assoc]; rfl, by simp only [List.length_cons]; omega, ?_⟩, hm62, by omega, Lib.hid (pre_set HH.out), hbw.setCell (Nat.le_refl _) _⟩, by simp [intOf]⟩
   rw [show m + 1 - 61 = (m - 61) + 1 by omega, Nat.pow_succ] at e3
   omega
  ·have hX : ∀ W, (Instr.index 9 (.string ⟨#[48, 49, 50, 51, 52, 53, 54, 55, 56, 57, 97, 98, 99, 100, 101, 102, 103, 104, 105, 106, 107, 108, 109, 110, 111, 112, 113, 114, 115, 116, 117, 118, 119, 120, 121, 122]⟩) (.int .u64 (u : Int))).run Tryd.prog W = .ok (.int .u8 ((hexD u).toNat : Int)) W := idx36 9 Tryd.underlying9 .u64 _ _ rfl (by omega)
   have hlt : (u : Int) < 16 := by omega
   obtain ⟨q, hq⟩ : ∃ q, q = 65 - m := ⟨_, rfl⟩
   have hsl : ∀ W, (Instr.sliceAt 100 (.pointer (some ⟨w.heap.size, 0, none⟩)) (some (.int .i64 (m : Int))) none none).run Tryd.prog W = .ok (.slice (some ⟨w.heap.size, m, none⟩) q q) W := fun W => by rw [hq]; exact slice65 m (by omega) _ W
   have hcv : (convert 47 9 (.slice (some ⟨w.heap.size, m, none⟩) q q)).run Tryd.prog (wr.setCell ⟨w.heap.size, m, none⟩ (.int .u8 ((hexD u).toNat : Int))) = .ok (.string ⟨(hex4 n).toArray⟩) (wr.setCell ⟨w.heap.size, m, none⟩ (.int .u8 ((hexD u).toNat : Int))) := by
    have hs : wr.setCell ⟨w.heap.size, m, none⟩ (.int .u8 ((hexD u).toNat : Int)) = wr.setCell ⟨w.heap.size, m, none⟩ (encB (hexD u)) := rfl
    have h := run_convert_bytes_back (P := Tryd.prog) (wr.setCell ⟨w.heap.size, m, none⟩ (encB (hexD u))) 47 9 5 ⟨w.heap.size, m, none⟩ q (hexD u :: suf) Tryd.underlying47 Tryd.underlying5 Tryd.underlying9 (fun j hj => suf_cell (s := hexD u :: suf) (pre_set HH.out) j hj)
    have hl : (hexD u :: suf).length = q := by rw [hq]; simp only [List.length_cons]; omega
    rw [hl] at h
    have h6 : hex4 n = hexD u :: suf := by rw [← e1]; unfold hex4; rw [if_pos (by omega)]; rfl
    rw [hs, h6]
    exact h
   have hbz := hbw.setCell (p := ⟨w.heap.size, m, none⟩) (Nat.le_refl _) (.int .u8 ((hexD u).toNat : Int))
   clear e1 e2 e3 HS HH hG hbw hq hu6 iu0 iu1 h16
   go_wp2
   go_ret2
   exact ⟨rfl, hbz⟩
set_option maxRecDepth 100000 in
theorem uint_hex (n : Nat) (hn : n < 65536) (w : World) (hG : Glob Tryd.prog w) :
  Calls Tryd.prog 39 #[.int .u64 (n : Int), .int .i64 16] w fun e w' => e = .returned (.string ⟨(hex4 n).toArray⟩) ∧ Below w.heap.size w w' := by
 have HB := Lib.hid (bits_hex n hn w hG)
 clear hG hn
 go_enter Tryd.func39, Tryd.ntmps39
 go_wp2_with (go_at_call 53; refine HB.out.mono ?_; rintro e w' ⟨rfl, hb⟩)
 go_ret
 exact ⟨rfl, hb⟩
theorem tab_pow {w : World} (hG : Glob Tryd.prog w) : Lib.TabIs Tryd.prog w "internal/strconv.uint64pow10" .u64 Lib.pow10Tab := by
 have hg : Tryd.prog.globalNamed "internal/strconv.uint64pow10" = some 0 := by kernel_rfl
 obtain ⟨t, z, h⟩ := hG.pow _ hg
 have e : pow10s = Lib.pow10Tab := by decide +kernel
 unfold Lib.TabIs World.var?
 simp [hg, h, e]
set_option maxHeartbeats 8000000 in
set_option maxRecDepth 100000 in
theorem uint_dec (u : Nat) (h1 : u < 256) (w : World) (hG : Glob Tryd.prog w) :
  Calls Tryd.prog 39 #[.int .u64 (u : Int), .int .i64 10] w fun e w' => e = .returned (.string ⟨(Lib.decDigits u).toArray⟩) ∧ Below w.heap.size w w' := by
 by_cases hs : u < 100
 ·have iu : (u : Int) < 100 := by omega
  go_enter Tryd.func39, Tryd.ntmps39
  go_wp2_with (go_at_call 50; refine (Go.Proofs.Tryd.internal_strconv_small u hs _).mono ?_; rintro e w' ⟨rfl, rfl⟩)
  go_ret
  exact ⟨rfl, Below.refl _ _⟩
 ·have hu : 100 ≤ u := by omega
  have htab := tab_pow hG
  have hu1 : 1 ≤ u := by omega
  have hu64 : u < 18446744073709551616 := by omega
  have hnd20 : Lib.nDigits u ≤ 20 := by have := Lib.numDigits_eq u hu1 hu64; split at this <;> omega
  have hal : Tryd.prog.arrayLen 87 = 24 := by simp [Program.arrayLen, Tryd.underlying87]
  have hsl : ∀ W, (Instr.sliceAt 87 (.pointer (some ⟨w.heap.size, 0, none⟩)) none (some (.int .i64 (Lib.nDigits u : Int))) none).run Tryd.prog W = .ok (.slice (some ⟨w.heap.size, 0, none⟩) (Lib.nDigits u) 24) W := fun W => by
   rw [run_sliceAt_array_h W 87 ⟨w.heap.size, 0, none⟩ (by simp [Program.arrayLen, Program.elem, Tryd.underlying87]) .i64 (Lib.nDigits u : Int) (by omega) (by rw [hal]; omega)]
   go_simp
  have hH0 := Lib.holds_zero0 w 87 (Lib.nDigits u) (by omega)
  have hfmt := Go.Proofs.Tryd.internal_strconv_formatBase10 w.heap.size 0 24 u (Array.replicate (Lib.nDigits u) 0) (w.alloc (.cells Lib.zeros24 87)) hH0 (by rw [Array.size_replicate]; exact Lib.lt_pow_nDigits u) hu64 (by rw [Array.size_replicate]; omega)
  rw [Array.size_replicate] at hfmt
  have HH0 := Lib.hid hH0
  have iu : (100 : Int) ≤ (u : Int) := by omega
  clear hH0 hal hs h1 hG
  go_enter Tryd.func39, Tryd.ntmps39
  go_wp2_with (go_at_call 51; refine (Go.Proofs.Tryd.internal_strconv_numDigits u hu1 hu64 _ (Lib.tabIs_alloc htab _)).mono ?_; rintro e w' ⟨rfl, rfl⟩)
  go_at_call 52
  refine hfmt.mono ?_
  rintro e w' ⟨rfl, k, v', dk, rfl, hF⟩
  have hcv : (convert 47 9 (.slice (some ⟨w.heap.size, 0, none⟩) (Lib.nDigits u) 24)).run Tryd.prog ((Sort.putRow (fun (b : UInt8) => Value.int .u8 (b.toNat : Int)) (w.alloc (.cells Lib.zeros24 87)) w.heap.size 0 dk).drewN k) = .ok (.string ⟨(Lib.decDigits u).toArray⟩) ((Sort.putRow (fun (b : UInt8) => Value.int .u8 (b.toNat : Int)) (w.alloc (.cells Lib.zeros24 87)) w.heap.size 0 dk).drewN k) := by
   have h := run_convert_bytes_back (P := Tryd.prog) ((Sort.putRow (fun (b : UInt8) => Value.int .u8 (b.toNat : Int)) (w.alloc (.cells Lib.zeros24 87)) w.heap.size 0 dk).drewN k) 47 9 5 ⟨w.heap.size, 0, none⟩ 24 (Lib.decDigits u) Tryd.underlying47 Tryd.underlying5 Tryd.underlying9 (fun j hj => by
    rw [Lib.row_is_numeral hF j hj, Lib.add_plain, World.cell?_drewN]
    exact Sort.cell?_putRow (fun (b : UInt8) => Value.int .u8 (b.toNat : Int)) _ w.heap.size 0 _ dk HH0.out (by rw [hF.size, Array.size_replicate]) j (by rw [hF.size]; rw [Lib.decDigits_length] at hj; exact hj))
   rw [Lib.decDigits_length] at h
   exact h
  obtain ⟨os, eo⟩ := Lib.fin_at w (.cells Lib.zeros24 87) dk k 0
  have hnx : Below w.heap.size w ((Sort.putRow (fun (b : UInt8) => Value.int .u8 (b.toNat : Int)) (w.alloc (.cells Lib.zeros24 87)) w.heap.size 0 dk).drewN k) := by rw [eo]; exact Lib.below_grow w.heap.size w (Nat.le_refl _) k os
  generalize (Sort.putRow (fun (b : UInt8) => Value.int .u8 (b.toNat : Int)) (w.alloc (.cells Lib.zeros24 87)) w.heap.size 0 dk).drewN k = W2 at hcv hnx ⊢
  clear eo HH0 hfmt
  go_wp2
  go_ret
  exact ⟨rfl, hnx⟩
set_option maxRecDepth 100000 in
theorem format_walk (n b : Int) (r : ByteArray) (w : World) (H : Calls Tryd.prog 39 #[.int .u64 n, .int .i64 b] w fun e w' => e = .returned (.string r) ∧ Below w.heap.size w w') :
  Calls Tryd.prog 26 #[.int .u64 n, .int .i64 b] w fun e w' => e = .returned (.string r) ∧ Below w.heap.size w w' := by
 have HB := Lib.hid H
 clear H
 go_enter Tryd.func26, Tryd.ntmps26
 go_wp2_with (go_at_call 39; refine HB.out.mono ?_; rintro e w' ⟨rfl, hb⟩)
 go_ret
 exact ⟨rfl, hb⟩
noncomputable def strconv_FormatUint_con : Con := con [.one (.fl .u64), .one (.fl .int)] [.one (.fl .str)] (fun x => zq5 x.1 x.2.1)
theorem format_end {n b : Int} {r : ByteArray} {w : World} (h : Calls Tryd.prog 26 #[.int .u64 n, .int .i64 b] w fun e w' => e = .returned (.string r) ∧ Below w.heap.size w w') :
  Calls Tryd.prog 26 #[.int .u64 n, .int .i64 b] w fun e w' => ∃ ρc r' m', e = .returned (den ρc r') ∧ RelM w ρc m' w' ∧ resR [.one (.fl .str)] r' m' = some (r, ()) := by
 refine h.mono ?_
 rintro e w' ⟨rfl, hb⟩
 exact ⟨fun _ => Go.undef, .s r, [], rfl, ⟨hb, fun j o h => by simp at h, fun i j o o' _ h => by simp at h, fun j o h => by simp at h⟩, rfl⟩
theorem strconv_FormatUint_ok : TrOk Tryd.prog 26 strconv_FormatUint_con := con_of _ _ _ fun x y hx ρ us vals w hG hu => by
 obtain ⟨n, b, z⟩ := x
 have hd := hu.den _ (gives_nameOf us)
 have hvals : vals = [.int .u64 n, .int .i64 b] := hd.symm
 subst hvals
 unfold zq5 at hx
 split at hx
 ·rename_i hb
  simp only at hb
  subst hb
  obtain ⟨hq, hx⟩ := req_some hx
  simp only [Bool.and_eq_true, decide_eq_true_eq] at hq
  injection hx with hx
  subst hx
  obtain ⟨u, rfl⟩ := Int.eq_ofNat_of_zero_le hq.1
  exact format_end (format_walk _ _ _ w (uint_hex u (by omega) w hG))
 ·obtain ⟨hq, hx⟩ := req_some hx
  simp only [Bool.and_eq_true, decide_eq_true_eq] at hq
  obtain ⟨rfl, h0, h1⟩ := hq
  injection hx with hx
  subst hx
  obtain ⟨u, rfl⟩ := Int.eq_ofNat_of_zero_le h0
  have e : (dec3 (u : Int).toNat) = Lib.decDigits u := (dec3_eq u (by omega)).symm
  rw [e]
  exact format_end (format_walk _ _ _ w (uint_dec u (by omega) w hG))
end Go.Proofs.YtafggolijpopeaaDoor
namespace Go.Proofs.YtafggolijpopeaaDoor
open Go Go.Ma Go.RowKit Go.Proofs
def badE : PanicEntry := { v := .iface 60 (.agg #[]), recovered := false }
def EndU (o : Option Int) (e : Ending) : Prop := match o with
 | some v => e = .returned (.int .u64 v)
 | none => e = .panicked [badE]
theorem endU_some {o : Option Int} {v : Int} (h : o = some v) : EndU o (.returned (.int .u64 v)) := by rw [h]; rfl
theorem endU_none {o : Option Int} (h : o = none) : EndU o (.panicked [badE]) := by rw [h]; rfl
set_option maxRecDepth 100000 in
set_option maxHeartbeats 4000000 in
theorem part_walk (s : ByteArray) (b digits most : Int) (hb : b = 10 ∨ b = 16) (hs : s.size ≤ 281474976710656) (w : World) (hG : Glob Tryd.prog w) :
  Calls Tryd.prog 49 #[.string s, .int .i64 b, .int .i64 digits, .int .u64 most] w fun e w' => EndU (partF s b digits most) e ∧ Below w.heap.size w w' := by
 have hcv := fun w s => Lib.run_convert_string_bytes (P := Tryd.prog) w 9 47 5 s Tryd.underlying9 Tryd.underlying47 Tryd.underlying5
 have HP : Hid (∀ W, Glob Tryd.prog W → Calls Tryd.prog 59 #[.string s, .int .i64 b, .int .i64 32] W fun e w' => NumEnd (numU b s) e ∧ Below W.heap.size W w') := fun W hg => by
  rcases hb with rfl | rfl
  ·exact decPublic s hs W hg
  ·exact hexPublic s hs W hg
 have hb10 : b = 10 ∨ ¬ b = 10 := by omega
 go_enter Tryd.func49, Tryd.ntmps49
 go_wp2
 obtain ⟨cap, hcap⟩ : ∃ cap, cap = grownCap w s.size 0 5 := ⟨_, rfl⟩
 rw [← hcap]
 obtain ⟨w1, hw1⟩ : ∃ w1, w1 = Lib.bytesWorld w 5 s := ⟨_, rfl⟩
 rw [← hw1]
 have HC : Hid (∀ k, k < s.size → w1.cell? ⟨w.heap.size, k, none⟩ = some (.int .u8 ((s.data.toList.getD k 0).toNat : Int))) := fun k hk => by rw [hw1]; exact Lib.bytesWorld_cell _ _ _ _ hk
 have hb1 : Below w.heap.size w w1 := by rw [hw1]; exact Lib.bytesWorld_below _ _ _
 have HA : Hid (∀ k, k < 0 → plainB (s.data.toList.getD k 0) = true) := fun k hk => absurd hk (by omega)
 clear hcv hw1 hcap hb
 go_loopw [16] (fun i wr => ∃ k : Nat, k ≤ s.size ∧ i = .int .i64 k ∧ Hid (∀ k, k < s.size → wr.cell? ⟨w.heap.size, k, none⟩ = some (.int .u8 ((s.data.toList.getD k 0).toNat : Int))) ∧ Hid (∀ j, j < k → plainB (s.data.toList.getD j 0) = true) ∧ Below w.heap.size w wr) (fun i _ => s.size - (intOf i).toNat)
 case atStart => exact ⟨0, Nat.zero_le _, rfl, HC, HA, hb1⟩
 case round =>
  clear HC hb1 HA
  obtain ⟨k, hk, rfl, HC, HA, hb1⟩ := hrel
  by_cases hlt : k < s.size
  ·have cB := HC.out k hlt
   have hgd : s.data.toList.getD k 0 ∈ s.data.toList := by
    rw [List.getD_eq_getElem?_getD, List.getElem?_eq_getElem (by simpa using hlt)]
    exact List.getElem_mem _
   have hltI : (k : Int) < (s.size : Int) := by omega
   by_cases hpl : plainB (s.data.toList.getD k 0) = true
   ·have HA' : Hid (∀ j, j < k + 1 → plainB (s.data.toList.getD j 0) = true) := Lib.hid (fun j hj => by
     by_cases hjk : j = k
     ·rw [hjk]; exact hpl
     ·exact HA.out j (by omega))
    generalize s.data.toList.getD k 0 = c at cB hpl
    have n1 : ((c.toNat : Int) == 43) = false := by
     rw [beq_eq_false_iff_ne]; intro e
     have : c = 43 := UInt8.toNat_inj.1 (by show c.toNat = 43; omega)
     subst this; revert hpl; decide
    have n2 : ((c.toNat : Int) == 45) = false := by
     rw [beq_eq_false_iff_ne]; intro e
     have : c = 45 := UInt8.toNat_inj.1 (by show c.toNat = 45; omega)
     subst this; revert hpl; decide
    have n3 : ((c.toNat : Int) == 95) = false := by
     rw [beq_eq_false_iff_ne]; intro e
     have : c = 95 := UInt8.toNat_inj.1 (by show c.toNat = 95; omega)
     subst this; revert hpl; decide
    clear hpl hgd
    go_wp2
    exact ⟨⟨k + 1, by omega, by go_num, HC, HA', hb1⟩, by simp [intOf]; omega⟩
   ·have hnone : partF s b digits most = none := by
     unfold partF
     rw [if_neg (fun h => hpl ((List.all_eq_true.1 h) _ hgd))]
    generalize s.data.toList.getD k 0 = c at cB hpl
    have hc3 : c = 43 ∨ c = 45 ∨ c = 95 := by
     unfold plainB at hpl
     simp only [Bool.and_eq_true, Bool.not_eq_true', beq_eq_false_iff_ne, not_and, Decidable.not_not, ne_eq] at hpl
     by_cases h1 : c = 43
     ·exact .inl h1
     ·by_cases h2 : c = 45
      ·exact .inr (.inl h2)
      ·exact .inr (.inr (hpl ⟨h1, h2⟩))
    clear hpl hgd HA HC
    rcases hc3 with rfl | rfl | rfl
    ·go_wp2
     exact ⟨rfl, endU_none hnone, hb1⟩
    ·go_wp2
     exact ⟨rfl, endU_none hnone, hb1⟩
    ·go_wp2
     exact ⟨rfl, endU_none hnone, hb1⟩
  ·have hkn : k = s.size := by omega
   subst hkn
   have hall : s.data.toList.all plainB = true := by
    rw [List.all_eq_true]
    intro c hc
    obtain ⟨j, hj⟩ := List.mem_iff_getElem?.1 hc
    have hjl := (List.getElem?_eq_some_iff.1 hj).1
    have := HA.out j (by simpa using hjl)
    rw [List.getD_eq_getElem?_getD, hj] at this
    exact this
   clear HC HA
   have hp0 : partF s b digits most = match numU b s with | none => none | some u => if digits < s.size ∨ most < u ∨ (b = 10 ∧ 1 < s.size ∧ s.data.toList.head? = some 48) then none else some (u : Int) := by
    unfold partF
    rw [if_pos hall]
    rfl
   cases hu : numU b s with
   | none =>
    rw [hu] at hp0 HP
    go_wp2_with (go_at_call 59; refine (HP.out _ (hG.mono hb1)).mono ?_; rintro e w2 ⟨⟨u, ev, rfl, te, pe, rfl⟩, hb2⟩)
    exact ⟨rfl, endU_none hp0, hb1.trans (hb2.mono hb1.size)⟩
   | some n =>
    rw [hu] at hp0 HP
    simp only at hp0
    by_cases g1 : digits < (s.size : Int)
    ·rw [if_pos (.inl g1)] at hp0
     have z1 : decide (digits < (s.size : Int)) = true := decide_eq_true g1
     go_wp2_with (go_at_call 59; refine (HP.out _ (hG.mono hb1)).mono ?_; rintro e w2 ⟨⟨u, ev, rfl, hue⟩, hb2⟩; obtain ⟨rfl, rfl⟩ := hue)
     exact ⟨rfl, endU_none hp0, hb1.trans (hb2.mono hb1.size)⟩
    have z1 : decide (digits < (s.size : Int)) = false := decide_eq_false g1
    by_cases g2 : most < (n : Int)
    ·rw [if_pos (.inr (.inl g2))] at hp0
     have z2 : decide (most < (n : Int)) = true := decide_eq_true g2
     go_wp2_with (go_at_call 59; refine (HP.out _ (hG.mono hb1)).mono ?_; rintro e w2 ⟨⟨u, ev, rfl, hue⟩, hb2⟩; obtain ⟨rfl, rfl⟩ := hue)
     exact ⟨rfl, endU_none hp0, hb1.trans (hb2.mono hb1.size)⟩
    have z2 : decide (most < (n : Int)) = false := decide_eq_false g2
    rcases hb10 with rfl | g3
    rotate_left
    ·rw [if_neg (by rintro (h | h | h); exact g1 h; exact g2 h; exact g3 h.1)] at hp0
     have z3 : (b == 10) = false := by rw [beq_eq_false_iff_ne]; exact g3
     go_wp2_with (go_at_call 59; refine (HP.out _ (hG.mono hb1)).mono ?_; rintro e w2 ⟨⟨u, ev, rfl, hue⟩, hb2⟩; obtain ⟨rfl, rfl⟩ := hue)
     go_ret
     exact ⟨endU_some hp0, hb1.trans (hb2.mono hb1.size)⟩
    by_cases g4 : 1 < s.size
    rotate_left
    ·rw [if_neg (by rintro (h | h | h); exact g1 h; exact g2 h; exact g4 h.2.1)] at hp0
     have z4 : decide (1 < (s.size : Int)) = false := decide_eq_false (by omega)
     go_wp2_with (go_at_call 59; refine (HP.out _ (hG.mono hb1)).mono ?_; rintro e w2 ⟨⟨u, ev, rfl, hue⟩, hb2⟩; obtain ⟨rfl, rfl⟩ := hue)
     go_ret
     exact ⟨endU_some hp0, hb1.trans (hb2.mono hb1.size)⟩
    have z4 : decide (1 < (s.size : Int)) = true := decide_eq_true (by omega)
    have hsz : 0 < s.size := by omega
    have hh0 : s.data.toList.head? = some (s[0]'hsz) := by
     rw [List.head?_eq_getElem?, List.getElem?_eq_getElem (by simpa using hsz)]
     rfl
    rw [hh0] at hp0
    by_cases g5 : s[0]'hsz = 48
    ·rw [if_pos (.inr (.inr ⟨rfl, g4, by rw [g5]⟩))] at hp0
     have z5 : (((s[0]'hsz).toNat : Int) == 48) = true := by rw [g5]; rfl
     go_wp2_with (go_at_call 59; refine (HP.out _ (hG.mono hb1)).mono ?_; rintro e w2 ⟨⟨u, ev, rfl, hue⟩, hb2⟩; obtain ⟨rfl, rfl⟩ := hue)
     exact ⟨rfl, endU_none hp0, hb1.trans (hb2.mono hb1.size)⟩
    ·rw [if_neg (by rintro (h | h | h); exact g1 h; exact g2 h; exact g5 (Option.some.inj h.2.2))] at hp0
     have z5 : (((s[0]'hsz).toNat : Int) == 48) = false := by
      rw [beq_eq_false_iff_ne]
      intro e
      exact g5 (UInt8.toNat_inj.1 (by show (s[0]'hsz).toNat = 48; omega))
     go_wp2_with (go_at_call 59; refine (HP.out _ (hG.mono hb1)).mono ?_; rintro e w2 ⟨⟨u, ev, rfl, hue⟩, hb2⟩; obtain ⟨rfl, rfl⟩ := hue)
     go_ret
     exact ⟨endU_some hp0, hb1.trans (hb2.mono hb1.size)⟩
theorem splitOn_len (s : ByteArray) (c : UInt8) : (splitOn s c).length = Lib.countB s ⟨#[c]⟩ + 1 := Lib.splitB_all ⟨#[c]⟩ (Nat.le_refl _) 0 _ s rfl
theorem splitOn_le (s : ByteArray) (c : UInt8) : (splitOn s c).length ≤ s.size + 1 := by
 rw [splitOn_len]
 have := Lib.countB_le ⟨#[c]⟩ (Nat.le_refl _) s.size s (Nat.le_refl _)
 omega
theorem split_calls (s : ByteArray) (c : UInt8) (w : World) (hs : s.size < 4294967281) :
  Calls Tryd.prog 48 #[.string s, .string ⟨#[c]⟩] w fun e w' =>
   e = .returned (.slice (some ⟨w.heap.size, 0, none⟩) (splitOn s c).length (splitOn s c).length) ∧ Below w.heap.size w w' ∧ w.heap.size < w'.heap.size ∧ ∀ (k : Nat) x, (splitOn s c)[k]? = some x → w'.cell? ⟨w.heap.size, k, none⟩ = some (.string x) := by
 refine (split_one s c w hs).mono ?_
 rintro e w' ⟨rfl, rfl⟩
 have hl := splitOn_len s c
 refine ⟨by rw [hl], (Below.refl _ w).alloc (Nat.le_refl _) _, by simp, fun k x hx => ?_⟩
 have hn := heap_alloc_new w (.cells ((splitOn s c).map Value.string).toArray 9)
 show (w.alloc (.cells ((splitOn s c).map Value.string).toArray 9)).cell? _ = _
 unfold World.cell?
 simp only
 rw [hn]
 simp [hx]
theorem splitOn_sizes (s : ByteArray) (c : UInt8) : ∀ x ∈ splitOn s c, x.size ≤ s.size := by
 have key : ∀ (k : Nat) (s : ByteArray), ∀ x ∈ Lib.splitB ⟨#[c]⟩ 0 k s, x.size ≤ s.size := by
  intro k
  induction k with
  | zero => intro s x hx; simp only [Lib.splitB, List.mem_singleton] at hx; rw [hx]; exact Nat.le_refl _
  | succ k ih =>
   intro s x hx
   rw [Lib.splitB] at hx
   split at hx
   ·simp only [List.mem_singleton] at hx; rw [hx]; exact Nat.le_refl _
   ·rcases List.mem_cons.1 hx with rfl | hx
    ·rw [ByteArray.size_extract]; omega
    ·have := ih _ x hx
     rw [ByteArray.size_extract] at this
     omega
 exact key _ s
theorem cells_stay {w w' : World} {b : Nat} {l : List ByteArray} (h : ∀ (k : Nat) x, l[k]? = some x → w.cell? ⟨b, k, none⟩ = some (.string x)) (hb : Below w.heap.size w w') : ∀ (k : Nat) x, l[k]? = some x → w'.cell? ⟨b, k, none⟩ = some (.string x) :=
 fun k x hx => cell_stays hb (h k x hx)
set_option maxRecDepth 100000 in
set_option maxHeartbeats 4000000 in
theorem four_walk (s : ByteArray) (hs : s.size ≤ 4294967200) (w : World) (hG : Glob Tryd.prog w) :
  Calls Tryd.prog 33 #[.string s] w fun e w' => EndU (fourF s) e ∧ Below w.heap.size w w' := by
 have HS := split_calls s 46 w (by omega)
 have hsz := splitOn_sizes s 46
 have hf : fourF s = if (splitOn s 46).length = 4 then fourL (splitOn s 46) 0 else none := rfl
 generalize splitOn s 46 = l at HS hsz hf
 rw [hf]
 clear hf
 have HS := Lib.hid HS
 go_enter Tryd.func33, Tryd.ntmps33
 by_cases h4 : l.length = 4
 rotate_left
 ·have h4i : ((l.length : Int) == 4) = false := by rw [beq_eq_false_iff_ne]; omega
  rw [if_neg h4]
  go_wp2_with (go_at_call 48; refine HS.out.mono ?_; rintro e w1 ⟨rfl, hb1, hn1, hc1⟩)
  exact ⟨rfl, rfl, hb1⟩
 ·rw [if_pos h4]
  have h4i : ((l.length : Int) == 4) = true := by rw [h4]; rfl
  go_wp2_with (go_at_call 48; refine HS.out.mono ?_; rintro e w1 ⟨rfl, hb1, hn1, hc1⟩)
  have HC : Hid (∀ (k : Nat) x, l[k]? = some x → w1.cell? ⟨w.heap.size, k, none⟩ = some (.string x)) := hc1
  clear hc1 HS
  go_loopw [4, 16] (fun vn vi wr => ∃ (k : Nat) (n : Int), vn = .int .u64 n ∧ vi = .int .i64 k ∧ k ≤ l.length ∧ Hid (fourL l 0 = fourL (l.drop k) n) ∧ Hid (∀ (k : Nat) x, l[k]? = some x → wr.cell? ⟨w.heap.size, k, none⟩ = some (.string x)) ∧ Below w.heap.size w wr ∧ w.heap.size < wr.heap.size) (fun _ vi _ => l.length - (intOf vi).toNat)
  case atStart => exact ⟨0, 0, rfl, rfl, Nat.zero_le _, Lib.hid rfl, HC, hb1, hn1⟩
  case round =>
   clear HC hb1 hn1
   obtain ⟨k, n, rfl, rfl, hk, HF, HC, hb1, hn1⟩ := hrel
   by_cases hlt : k < l.length
   ·obtain ⟨x, hx⟩ : ∃ x, l[k]? = some x := ⟨_, List.getElem?_eq_getElem hlt⟩
    have cB := HC.out k x hx
    have hltI : (k : Int) < (l.length : Int) := by omega
    have hfx : fourL l 0 = match partF x 10 3 255 with | none => none | some u => fourL (l.drop (k + 1)) (aop .or .u64 (aop .shl .u64 n 8) u) := by
     rw [HF.out, List.drop_eq_getElem_cons hlt, (List.getElem?_eq_some_iff.1 hx).2]
     rfl
    have HP : Hid (∀ W, Below w.heap.size w W → Calls Tryd.prog 49 #[.string x, .int .i64 10, .int .i64 3, .int .u64 255] W fun e w' => EndU (partF x 10 3 255) e ∧ Below W.heap.size W w') := fun W hW =>
     part_walk x 10 3 255 (.inl rfl) (by have := hsz x (List.mem_of_getElem? hx); omega) W (hG.mono hW)
    cases hp : partF x 10 3 255 with
    | none =>
     rw [hp] at hfx HP
     have hfx : fourL l 0 = none := hfx
     go_wp2_with (go_at_call 49; refine (HP.out _ hb1).mono ?_; rintro e w2 ⟨he, hb2⟩; have he : e = .panicked [badE] := he; subst he)
     exact ⟨rfl, endU_none hfx, hb1.trans (hb2.mono hb1.size)⟩
    | some u =>
     rw [hp] at hfx HP
     simp only at hfx
     go_wp2_with (go_at_call 49; refine (HP.out _ hb1).mono ?_; rintro e w2 ⟨he, hb2⟩; have he : e = .returned (.int .u64 u) := he; subst he)
     exact ⟨⟨k + 1, _, rfl, by go_num, by omega, Lib.hid hfx, Lib.hid (cells_stay HC.out hb2), hb1.trans (hb2.mono hb1.size), Nat.lt_of_lt_of_le hn1 hb2.size⟩, by simp [intOf]; omega⟩
   ·have hkn : k = l.length := by omega
    subst hkn
    have hfx : fourL l 0 = some n := by rw [HF.out, List.drop_length]; rfl
    go_wp2
    go_ret
    exact ⟨endU_some hfx, hb1⟩
theorem below_grown' {A C : World} (hb : Below A.heap.size A C) : A.grownBy C none := ⟨hb.os, hb.tape, hb.output, hb.size, fun k hk _ => hb.block k hk⟩
theorem infoU64 : (Tryd.prog.info? 22).map (fun i => (i.zero, i.size, i.bytes)) = some (some (.int .u64 0), 1, 8) := by kernel_rfl
theorem below_grownQ {N : Nat} {a w w1 : World} {row : Option Nat} (h : Below N a w) (hg : w.grownBy w1 row) (hr : ∀ b, row = some b → N ≤ b) (hN : N ≤ w.heap.size) : Below N a w1 :=
 ⟨hg.os.trans h.os, hg.tape.trans h.tape, hg.output.trans h.output, Nat.le_trans h.size hg.size, fun k hk => (hg.block k (Nat.lt_of_lt_of_le hk hN) (fun e => absurd (hr k e.symm) (by omega))).trans (h.block k hk)⟩
theorem cells_new (w : World) (cs : List Value) (t : TypeId) : ∀ (j : Nat) u, cs[j]? = some u → (w.alloc (.cells cs.toArray t)).cell? (Addr.add ⟨w.heap.size, 0, none⟩ j) = some u := fun j u hj => by
 have hn := heap_alloc_new w (.cells cs.toArray t)
 rw [Addr.add_lit]
 unfold World.cell?
 simp only
 rw [hn]
 simp [hj]
theorem own_block_ge {w : World} {base : Nat} {e : TypeId} {size : Nat} {v : Value} {n : Nat} {xs : List Value} (h : w.ownsRow base e size v n xs) : ∀ b, v.ownBlock = some b → base ≤ b := fun b hb => by
 obtain ⟨_, ⟨rfl, _⟩ | ⟨g, cap, cur, rfl, hg, _⟩⟩ := h
 ·cases hb
 ·cases hb; exact hg
def EndRow (base : Nat) (o : Option (List Int)) (e : Ending) (w' : World) : Prop := match o with
 | some l => ∃ v, e = .returned v ∧ w'.ownsRow base 22 1 v l.length (l.map (Value.int .u64))
 | none => e = .panicked [badE]
theorem someL_cons {last : Bool} {len : Nat} {l : List ByteArray} {k : Nat} {x : ByteArray} (hx : l[k]? = some x) (out : List Int) : someL last len (l.drop k) k out =
  if last = true ∧ k + 1 = len ∧ dotIn x = true then (match fourF x with | none => none | some n => someL last len (l.drop (k + 1)) (k + 1) (out ++ [n / 65536, aop .and .u64 n 65535]))
  else (match partF x 16 4 65535 with | none => none | some u => someL last len (l.drop (k + 1)) (k + 1) (out ++ [u])) := by
 obtain ⟨h1, h2⟩ := List.getElem?_eq_some_iff.1 hx
 rw [List.drop_eq_getElem_cons h1, h2]
 rfl
set_option maxRecDepth 100000 in
set_option maxHeartbeats 8000000 in
theorem some_walk (s : ByteArray) (last : Bool) (hs : s.size ≤ 4294967200) (w : World) (hG : Glob Tryd.prog w) :
  Calls Tryd.prog 47 #[.string s, .bool last] w fun e w' => EndRow w.heap.size (someF s last) e w' ∧ Below w.heap.size w w' := by
 obtain ⟨i0, hi, hz0, hz1, hz2⟩ := info_parts infoU64
 by_cases h0 : s.size = 0
 ·have hse : s = ByteArray.empty := by
   cases s with | mk a =>
   have : a = #[] := Array.eq_empty_of_size_eq_zero h0
   rw [this]; rfl
  subst hse
  go_enter Tryd.func47, Tryd.ntmps47
  go_wp2
  go_ret
  exact ⟨⟨_, rfl, World.ownsRow_nil _ _ _ _⟩, Below.refl _ _⟩
 have hemp : s.toList.isEmpty = false := by
  rw [← decide_eq_emptyBytes]
  exact decide_eq_false (fun h => h0 (by rw [h]; rfl))
 have HS := split_calls s 58 w (by omega)
 have hsz := splitOn_sizes s 58
 have hle := splitOn_le s 58
 have hf : someF s last = someL last (splitOn s 58).length (splitOn s 58) 0 [] := by unfold someF; rw [if_neg h0]
 generalize splitOn s 58 = l at HS hsz hle hf
 rw [hf]
 clear hf
 have HS := Lib.hid HS
 go_enter Tryd.func47, Tryd.ntmps47
 go_wp2_with (go_at_call 48; refine HS.out.mono ?_; rintro e w1 ⟨rfl, hb1, hn1, hc1⟩)
 have HC : Hid (∀ (k : Nat) x, l[k]? = some x → w1.cell? ⟨w.heap.size, k, none⟩ = some (.string x)) := hc1
 clear hc1 HS
 obtain ⟨B, hB⟩ : ∃ B, B = w1.heap.size := ⟨_, rfl⟩
 go_loopw [5, 16] (fun vo vi wr => ∃ (k : Nat) (out : List Int), vi = .int .i64 k ∧ k ≤ l.length ∧ Hid (someL last l.length l 0 [] = someL last l.length (l.drop k) k out) ∧ Hid (∀ (k : Nat) x, l[k]? = some x → wr.cell? ⟨w.heap.size, k, none⟩ = some (.string x)) ∧ wr.ownsRow B 22 1 vo out.length (out.map (Value.int .u64)) ∧ out.length ≤ 2 * k ∧ Below B w1 wr) (fun _ vi _ => l.length - (intOf vi).toNat)
 case atStart => exact ⟨0, [], rfl, Nat.zero_le _, Lib.hid rfl, HC, World.ownsRow_nil _ _ _ _, by simp, by rw [hB]; exact Below.refl _ _⟩
 case round =>
  clear HC
  obtain ⟨k, out, rfl, hk, HF, HC, hown, hol, hbr⟩ := hrel
  have hbw : Below w.heap.size w wr := hb1.trans (hbr.mono (by omega))
  have hBr : B ≤ wr.heap.size := by rw [hB]; exact hbr.size
  by_cases hlt : k < l.length
  ·obtain ⟨x, hx⟩ : ∃ x, l[k]? = some x := ⟨_, List.getElem?_eq_getElem hlt⟩
   have cB := HC.out k x hx
   have hltI : (k : Int) < (l.length : Int) := by omega
   have hxs := hsz x (List.mem_of_getElem? hx)
   have hfx : someL last l.length l 0 [] = _ := HF.out.trans (someL_cons hx out)
   have HP : Hid (∀ W, Below w.heap.size w W → Calls Tryd.prog 49 #[.string x, .int .i64 16, .int .i64 4, .int .u64 65535] W fun e w' => EndU (partF x 16 4 65535) e ∧ Below W.heap.size W w') := fun W hW =>
    part_walk x 16 4 65535 (.inr rfl) (by omega) W (hG.mono hW)
   have H4 : Hid (∀ W, Below w.heap.size w W → Calls Tryd.prog 33 #[.string x] W fun e w' => EndU (fourF x) e ∧ Below W.heap.size W w') := fun W hW =>
    four_walk x (by omega) W (hG.mono hW)
   have HD : Hid (∀ W, Calls Tryd.prog 31 #[.string x, .string ⟨#[46]⟩] W fun e w' => e = .returned (.bool (dotIn x)) ∧ w' = W) := fun W => Go.Proofs.Tryd.strings_Contains_one x 46 W
   by_cases hcond : last = true ∧ k + 1 = l.length ∧ dotIn x = true
   ·rw [if_pos hcond] at hfx
    obtain ⟨rfl, hk1, hd⟩ := hcond
    rw [hd] at HD
    have hk1i : ((k : Int) == (l.length : Int) - 1) = true := by rw [beq_iff_eq]; omega
    cases hp : fourF x with
    | none =>
     rw [hp] at hfx H4
     have hfx : someL true l.length l 0 [] = none := hfx
     go_wp2_with (first | (go_at_call 31; refine (HD.out _).mono ?_; rintro e w2 ⟨rfl, hw2⟩; have hw2 := hw2.symm; subst hw2) | (go_at_call 33; refine (H4.out _ hbw).mono ?_; rintro e w2 ⟨he, hb2⟩; have he : e = .panicked [badE] := he; subst he))
     exact ⟨rfl, by rw [hfx]; rfl, hbw.trans (hb2.mono hbw.size)⟩
    | some n =>
     rw [hp] at hfx H4
     simp only at hfx
     go_wp2_with (first | (go_at_call 31; refine (HD.out _).mono ?_; rintro e w2 ⟨rfl, hw2⟩; have hw2 := hw2.symm; subst hw2) | (go_at_call 33; refine (H4.out _ hbw).mono ?_; rintro e w2 ⟨he, hb2⟩; have he : e = .returned (.int .u64 n) := he; subst he; have hown2 := hown.kept (below_grown' hb2) (Classical.em _); have hs2 := hb2.size) | (at_builtin; refine wpList_append_own_at _ rfl _ _ 81 rfl B 22 i0 (.int .u64 0) 1 8 Tryd.underlying81 hi hz0 hz1 hz2 rfl (by decide) _ _ _ rfl (hown2.alloc _) ⟨w2.heap.size, 0, none⟩ 2 2 [.int .u64 (n / 65536), .int .u64 (bits .and .u64 n 65535)] rfl rfl (cells_new _ _ _) (by simp [Value.oneCell']) (by unfold maxLen; omega) (by omega) (by simp; omega) ?_; intro v' w3 hown' hgrow hnil hloc))
     have hg3 : w2.grownBy w3 u5.ownBlock := (World.grownBy_alloc w2 _ _).trans hgrow
     have hbe : ∀ b, u5.ownBlock = some b → B ≤ b := own_block_ge hown
     have hh : Below B wr w3 := below_grownQ (hb2.mono hBr) hg3 hbe (by omega)
     have HN : Hid (∀ (k : Nat) x, l[k]? = some x → w3.cell? ⟨w.heap.size, k, none⟩ = some (.string x)) := Lib.hid fun k x hx => (hh.cell (p := ⟨w.heap.size, k, none⟩) (by show w.heap.size < B; omega)).trans (HC.out k x hx)
     exact ⟨⟨k + 1, out ++ [n / 65536, aop .and .u64 n 65535], by go_num, by omega, Lib.hid hfx, HN, by rw [List.length_append, List.map_append]; exact hown', by simp; omega, hbr.trans hh⟩, by simp [intOf]; omega⟩
   ·rw [if_neg hcond] at hfx
    cases last with
    | false =>
     cases hp : partF x 16 4 65535 with
     | none =>
      rw [hp] at hfx HP
      have hfx : someL _ l.length l 0 [] = none := hfx
      go_wp2_with (first | (go_at_call 31; refine (HD.out _).mono ?_; rintro e w2 ⟨rfl, hw2⟩; have hw2 := hw2.symm; subst hw2) | (go_at_call 49; refine (HP.out _ hbw).mono ?_; rintro e w2 ⟨he, hb2⟩; have he : e = .panicked [badE] := he; subst he))
      exact ⟨rfl, by rw [hfx]; rfl, hbw.trans (hb2.mono hbw.size)⟩
     | some u =>
      rw [hp] at hfx HP
      simp only at hfx
      go_wp2_with (first | (go_at_call 31; refine (HD.out _).mono ?_; rintro e w2 ⟨rfl, hw2⟩; have hw2 := hw2.symm; subst hw2) | (go_at_call 49; refine (HP.out _ hbw).mono ?_; rintro e w2 ⟨he, hb2⟩; have he : e = .returned (.int .u64 u) := he; subst he; have hown2 := hown.kept (below_grown' hb2) (Classical.em _); have hs2 := hb2.size) | (at_builtin; refine wpList_append_own_at _ rfl _ _ 81 rfl B 22 i0 (.int .u64 0) 1 8 Tryd.underlying81 hi hz0 hz1 hz2 rfl (by decide) _ _ _ rfl (hown2.alloc _) ⟨w2.heap.size, 0, none⟩ 1 1 [.int .u64 u] rfl rfl (cells_new _ _ _) (by simp [Value.oneCell']) (by unfold maxLen; omega) (by omega) (by simp; omega) ?_; intro v' w3 hown' hgrow hnil hloc))
      have hg3 : w2.grownBy w3 u5.ownBlock := (World.grownBy_alloc w2 _ _).trans hgrow
      have hbe : ∀ b, u5.ownBlock = some b → B ≤ b := own_block_ge hown
      have hh : Below B wr w3 := below_grownQ (hb2.mono hBr) hg3 hbe (by omega)
      have HN : Hid (∀ (k : Nat) x, l[k]? = some x → w3.cell? ⟨w.heap.size, k, none⟩ = some (.string x)) := Lib.hid fun k x hx => (hh.cell (p := ⟨w.heap.size, k, none⟩) (by show w.heap.size < B; omega)).trans (HC.out k x hx)
      exact ⟨⟨k + 1, out ++ [u], by go_num, by omega, Lib.hid hfx, HN, by rw [List.length_append, List.map_append]; exact hown', by simp; omega, hbr.trans hh⟩, by simp [intOf]; omega⟩
    | true =>
     by_cases hk1 : k + 1 = l.length
     ·have hk1i : ((k : Int) == (l.length : Int) - 1) = true := by rw [beq_iff_eq]; omega
      have hd : dotIn x = false := by
       cases hdd : dotIn x
       ·rfl
       ·exact absurd ⟨rfl, hk1, hdd⟩ hcond
      rw [hd] at HD
      cases hp : partF x 16 4 65535 with
      | none =>
       rw [hp] at hfx HP
       have hfx : someL _ l.length l 0 [] = none := hfx
       go_wp2_with (first | (go_at_call 31; refine (HD.out _).mono ?_; rintro e w2 ⟨rfl, hw2⟩; have hw2 := hw2.symm; subst hw2) | (go_at_call 49; refine (HP.out _ hbw).mono ?_; rintro e w2 ⟨he, hb2⟩; have he : e = .panicked [badE] := he; subst he))
       exact ⟨rfl, by rw [hfx]; rfl, hbw.trans (hb2.mono hbw.size)⟩
      | some u =>
       rw [hp] at hfx HP
       simp only at hfx
       go_wp2_with (first | (go_at_call 31; refine (HD.out _).mono ?_; rintro e w2 ⟨rfl, hw2⟩; have hw2 := hw2.symm; subst hw2) | (go_at_call 49; refine (HP.out _ hbw).mono ?_; rintro e w2 ⟨he, hb2⟩; have he : e = .returned (.int .u64 u) := he; subst he; have hown2 := hown.kept (below_grown' hb2) (Classical.em _); have hs2 := hb2.size) | (at_builtin; refine wpList_append_own_at _ rfl _ _ 81 rfl B 22 i0 (.int .u64 0) 1 8 Tryd.underlying81 hi hz0 hz1 hz2 rfl (by decide) _ _ _ rfl (hown2.alloc _) ⟨w2.heap.size, 0, none⟩ 1 1 [.int .u64 u] rfl rfl (cells_new _ _ _) (by simp [Value.oneCell']) (by unfold maxLen; omega) (by omega) (by simp; omega) ?_; intro v' w3 hown' hgrow hnil hloc))
       have hg3 : w2.grownBy w3 u5.ownBlock := (World.grownBy_alloc w2 _ _).trans hgrow
       have hbe : ∀ b, u5.ownBlock = some b → B ≤ b := own_block_ge hown
       have hh : Below B wr w3 := below_grownQ (hb2.mono hBr) hg3 hbe (by omega)
       have HN : Hid (∀ (k : Nat) x, l[k]? = some x → w3.cell? ⟨w.heap.size, k, none⟩ = some (.string x)) := Lib.hid fun k x hx => (hh.cell (p := ⟨w.heap.size, k, none⟩) (by show w.heap.size < B; omega)).trans (HC.out k x hx)
       exact ⟨⟨k + 1, out ++ [u], by go_num, by omega, Lib.hid hfx, HN, by rw [List.length_append, List.map_append]; exact hown', by simp; omega, hbr.trans hh⟩, by simp [intOf]; omega⟩
     ·have hk1i : ((k : Int) == (l.length : Int) - 1) = false := by rw [beq_eq_false_iff_ne]; omega
      cases hp : partF x 16 4 65535 with
      | none =>
       rw [hp] at hfx HP
       have hfx : someL _ l.length l 0 [] = none := hfx
       go_wp2_with (first | (go_at_call 31; refine (HD.out _).mono ?_; rintro e w2 ⟨rfl, hw2⟩; have hw2 := hw2.symm; subst hw2) | (go_at_call 49; refine (HP.out _ hbw).mono ?_; rintro e w2 ⟨he, hb2⟩; have he : e = .panicked [badE] := he; subst he))
       exact ⟨rfl, by rw [hfx]; rfl, hbw.trans (hb2.mono hbw.size)⟩
      | some u =>
       rw [hp] at hfx HP
       simp only at hfx
       go_wp2_with (first | (go_at_call 31; refine (HD.out _).mono ?_; rintro e w2 ⟨rfl, hw2⟩; have hw2 := hw2.symm; subst hw2) | (go_at_call 49; refine (HP.out _ hbw).mono ?_; rintro e w2 ⟨he, hb2⟩; have he : e = .returned (.int .u64 u) := he; subst he; have hown2 := hown.kept (below_grown' hb2) (Classical.em _); have hs2 := hb2.size) | (at_builtin; refine wpList_append_own_at _ rfl _ _ 81 rfl B 22 i0 (.int .u64 0) 1 8 Tryd.underlying81 hi hz0 hz1 hz2 rfl (by decide) _ _ _ rfl (hown2.alloc _) ⟨w2.heap.size, 0, none⟩ 1 1 [.int .u64 u] rfl rfl (cells_new _ _ _) (by simp [Value.oneCell']) (by unfold maxLen; omega) (by omega) (by simp; omega) ?_; intro v' w3 hown' hgrow hnil hloc))
       have hg3 : w2.grownBy w3 u5.ownBlock := (World.grownBy_alloc w2 _ _).trans hgrow
       have hbe : ∀ b, u5.ownBlock = some b → B ≤ b := own_block_ge hown
       have hh : Below B wr w3 := below_grownQ (hb2.mono hBr) hg3 hbe (by omega)
       have HN : Hid (∀ (k : Nat) x, l[k]? = some x → w3.cell? ⟨w.heap.size, k, none⟩ = some (.string x)) := Lib.hid fun k x hx => (hh.cell (p := ⟨w.heap.size, k, none⟩) (by show w.heap.size < B; omega)).trans (HC.out k x hx)
       exact ⟨⟨k + 1, out ++ [u], by go_num, by omega, Lib.hid hfx, HN, by rw [List.length_append, List.map_append]; exact hown', by simp; omega, hbr.trans hh⟩, by simp [intOf]; omega⟩
  ·have hkn : k = l.length := by omega
   subst hkn
   have hfx : someL last l.length l 0 [] = some out := by rw [HF.out, List.drop_length]; rfl
   go_wp2
   go_ret
   refine ⟨?_, hbw⟩
   rw [hfx]
   exact ⟨_, rfl, hown.mono (by omega)⟩
end Go.Proofs.YtafggolijpopeaaDoor
namespace Go.Proofs.YtafggolijpopeaaDoor
open Go Go.Ma Go.RowKit Go.Proofs
theorem append_zeros_own {P : Program} (w : World) (base : Nat) (t tn ty e : TypeId) (i : TypeInfo) (z : Value) (bytes : Nat) (kn : IntKind) (ht : P.underlying t = some (.slice e)) (htn : P.underlying tn = some (.int kn)) (hi : P.info? e = some i) (hz : i.zero = some z)
  (hsize : i.size = 1) (hby : i.bytes = bytes) (hzs : z.cells.size = 1) (v : Value) (n : Nat) (xs : List Value) (hown : w.ownsRow base e 1 v n xs) (k : Nat) (h0 : 0 < k)
  (h63 : n + k ≤ maxLen) (hbytes : (n + k) * bytes ≤ 140737488355328) (hbase : base ≤ w.heap.size) (h1 : ∀ u ∈ (Builtin.zeroCells z.cells k).toList, u.oneCell' = true) :
  ∃ v' w', (Builtin.append_ #[t, tn] ty #[v, .int .i64 (k : Int)]).run P w = .ok v' w' ∧ w'.ownsRow base e 1 v' (n + k) (xs ++ (Builtin.zeroCells z.cells k).toList) ∧ w.grownBy w' v.ownBlock := by
 subst hby
 have hsmall : n + k ≤ 9223372036854775807 := by simp only [maxLen] at h63; omega
 have hzl : (Builtin.zeroCells z.cells k).toList.length = k := by rw [Array.length_toList, size_zeroCells, hzs, Nat.mul_one]
 have hlen : (xs ++ (Builtin.zeroCells z.cells k).toList).length = (n + k) * 1 := by rw [List.length_append, hown.1, hzl]; omega
 have grown : ∀ (old : Nat), old < n + k → ∀ (row : Option Nat),
   (w.drew.alloc (.cells (xs.toArray ++ Builtin.zeroCells z.cells k ++ Builtin.zeroCells z.cells (grownCap w (n + k) old e - (n + k))) e)).ownsRow base e 1
    (.slice (some ⟨w.heap.size, 0, none⟩) (n + k) (grownCap w (n + k) old e)) (n + k) (xs ++ (Builtin.zeroCells z.cells k).toList) ∧
   w.grownBy (w.drew.alloc (.cells (xs.toArray ++ Builtin.zeroCells z.cells k ++ Builtin.zeroCells z.cells (grownCap w (n + k) old e - (n + k))) e)) row := by
  intro old ho row
  have hge := grownCap_ge w (n + k) old e
  have hcm : grownCap w (n + k) old e ≤ maxLen := grownCap_le_maxLen w (n + k) old e h63
  refine ⟨⟨hlen, .inr ⟨w.heap.size, _, _, rfl, hbase, heap_alloc_new w.drew _, hge, hcm, ?_, ?_⟩⟩, ⟨rfl, rfl, rfl, by simp, fun j hj _ => (by first | exact heap_alloc_old w.drew _ j hj | exact heap_alloc_old w.drew _ hj)⟩⟩
  ·have := hown.1
   simp only [Array.size_append, List.size_toArray, size_zeroCells, hzs]
   omega
  ·simp only [Array.toList_append]
   rw [← hlen]
   exact List.take_left
 rcases hown.2 with ⟨rfl, rfl⟩ | ⟨g, cap, cur, rfl, hbg, hg, hnc, hcm, hcs, htake⟩
 ·have hx : xs = [] := List.eq_nil_of_length_eq_zero (by simpa using hown.1)
  subst hx
  have hr := Lib.run_append_nil_zeros (P := P) w t tn ty e i z .i64 kn ht htn hi hz k h0 (by omega) (by omega) (by simp only [Nat.zero_add] at hbytes; omega)
  have hgr := grown 0 (by omega) (Value.ownBlock (.slice none 0 0))
  simp only [Nat.zero_add, List.nil_append, Array.empty_append] at hgr ⊢
  exact ⟨_, _, hr, hgr.1, hgr.2⟩
 ·by_cases hroom : n + k ≤ cap
  ·have hfit : n + k ≤ cur.size := by rw [hcs]; omega
   have hst := run_storeCells_at P g n e (Builtin.zeroCells z.cells k).toList 0 cur w hg (by rw [hzl]; omega) h1
   simp only [Nat.add_zero] at hst
   have hk0 : k ≠ 0 := by omega
   have hw : IntKind.i64.wrap (k : Int) = k := by rw [IntKind.wrap_i64]; omega
   have hneg : ¬ ((k : Int) < 0) := by omega
   have h48i : ¬ (281474976710656 < (k : Int) * (i.bytes : Int)) := by
    rw [← Int.natCast_mul]
    have : k * i.bytes ≤ (n + k) * i.bytes := Nat.mul_le_mul_right _ (by omega)
    omega
   have hr : (Builtin.append_ #[t, tn] ty #[.slice (some ⟨g, 0, none⟩) n cap, .int .i64 (k : Int)]).run P w = .ok (.slice (some ⟨g, 0, none⟩) (n + k) cap) (w.setRow g (cur.toList.take n ++ (Builtin.zeroCells z.cells k).toList ++ cur.toList.drop (n + (Builtin.zeroCells z.cells k).toList.length)).toArray) := by
    simp [Builtin.append_, run_underlying ht, run_underlying htn, sizeOf, typeInfo, zeroValue, hi, hz, hsize, asInt, asIntOf, hw, hroom, hneg, hk0, h48i, Addr.add_lit, hst]
   refine ⟨_, _, hr, ⟨hlen, .inr ⟨g, cap, _, rfl, hbg, setRow_heap w g cur _ e _ hg, hroom, hcm, ?_, ?_⟩⟩, ⟨rfl, rfl, rfl, by simp, fun k _ hk => setRow_other w g k _ (fun e => hk (by simp [Value.ownBlock, e]))⟩⟩
   ·simp only [List.size_toArray, List.length_append, List.length_take, List.length_drop, Array.length_toList, hzl, size_zeroCells, hzs]
    omega
   ·have ht2 : cur.toList.take n = xs := by rw [← htake, Nat.mul_one]
    rw [ht2, ← hlen]
    exact List.take_left
  ·have holds : ∀ j u, xs[j]? = some u → w.cell? ((⟨g, 0, none⟩ : Addr).add j) = some u := hown.cells (g := g) rfl
   have hold : (Builtin.firstCells i.size n (.slice (some ⟨g, 0, none⟩) n cap)).run P w.drew = .ok xs.toArray w.drew := by
    have := run_firstCells_some (P := P) w.drew i.size n ⟨g, 0, none⟩ n cap xs (by rw [hsize]; exact hown.1) (fun j u hj => holds j u hj)
    exact this
   have hr := Lib.run_append_grow_zeros (P := P) w t tn ty e i z .i64 kn ht htn hi hz (some ⟨g, 0, none⟩) n cap xs hold k h0 (by omega) (by omega) (by omega) (by
     have : k * i.bytes ≤ (n + k) * i.bytes := Nat.mul_le_mul_right _ (by omega)
     omega) (growslice_fits (by omega) hbytes)
   have hgr := grown cap (by omega) (Value.ownBlock (.slice (some ⟨g, 0, none⟩) n cap))
   exact ⟨_, _, hr, hgr.1, hgr.2⟩
theorem row_form {w : World} {base : Nat} {e : TypeId} {v : Value} {l : List Int} (h : w.ownsRow base e 1 v l.length (l.map (Value.int .u64))) (h0 : 0 < l.length) :
  ∃ g cap, v = .slice (some ⟨g, 0, none⟩) l.length cap ∧ base ≤ g ∧ g < w.heap.size ∧ Hid (∀ (j : Nat) x, l[j]? = some x → w.cell? ⟨g, j, none⟩ = some (.int .u64 x)) := by
 have hc := @World.ownsRow.cells w base e 1 v l.length (l.map (Value.int .u64)) h
 obtain ⟨_, ⟨_, hn⟩ | ⟨g, cap, cur, rfl, hg, hh, _⟩⟩ := h
 ·omega
 ·refine ⟨g, cap, rfl, hg, (Array.getElem?_eq_some_iff.1 hh).1, Lib.hid fun j x hx => ?_⟩
  have := hc (g := g) rfl j (.int .u64 x) (by simp [hx])
  rwa [Addr.add_lit, Nat.zero_add] at this
theorem own_slice {w : World} {base : Nat} {e : TypeId} {v : Value} {n : Nat} {xs : List Value} (h : w.ownsRow base e 1 v n xs) :
  ∃ A c, v = .slice A n c ∧ (A = none → n = 0) ∧ ∀ ad, A = some ad → base ≤ ad.block ∧ ad.block < w.heap.size ∧ ∀ j u, xs[j]? = some u → w.cell? (ad.add j) = some u := by
 have hc := fun g => @World.ownsRow.cells w base e 1 v n xs h g
 obtain ⟨_, ⟨rfl, hn⟩ | ⟨g, cap, cur, rfl, hg, hh, _⟩⟩ := h
 ·exact ⟨none, 0, (by rw [hn]), (fun _ => hn), fun ad had => (by cases had)⟩
 ·refine ⟨_, cap, rfl, (fun h => by cases h), fun ad had => ?_⟩
  cases had
  exact ⟨hg, (Array.getElem?_eq_some_iff.1 hh).1, fun j u hj => hc g rfl j u hj⟩
theorem own_block {A : Option Addr} {n c b : Nat} (h : (Value.slice A n c).ownBlock = some b) : ∃ ad, A = some ad ∧ ad.block = b := by
 cases A with
 | none => cases h
 | some ad => exact ⟨ad, rfl, by injection h⟩
theorem zero_list (k : Nat) : (Builtin.zeroCells (Value.int IntKind.u64 0).cells k).toList = (List.replicate k (0 : Int)).map (Value.int .u64) := by
 apply List.ext_getElem?
 intro i
 by_cases h : i < k
 ·simp [Builtin.zeroCells, Value.cells, List.getElem?_replicate, h, Nat.mod_one]
 ·simp [Builtin.zeroCells, Value.cells, List.getElem?_replicate, h]
theorem zero_one (k : Nat) : ∀ u ∈ (Builtin.zeroCells (Value.int IntKind.u64 0).cells k).toList, u.oneCell' = true := by
 rw [zero_list]
 simp [Value.oneCell']
theorem below_own {N : Nat} {a w w1 : World} {row : Option Nat} (h : Below N a w) (hg : w.grownBy w1 row) (hr : ∀ b, row = some b → N ≤ b) (hN : N ≤ w.heap.size) : Below N a w1 :=
 h.trans ⟨hg.os, hg.tape, hg.output, hg.size, fun k hk => hg.block k (by omega) (fun e => by have := hr k e.symm; omega)⟩
theorem add_blockQ (a : Addr) (n : Nat) : (a.add n).block = a.block := by unfold Addr.add; split <;> rfl
theorem two_appends {P : Program} (w : World) (N base1 K : Nat) (t tn e : TypeId) (i : TypeInfo) (ht : P.underlying t = some (.slice e)) (htn : P.underlying tn = some (.int .i64)) (hi : P.info? e = some i)
  (hz0 : i.zero = some (.int .u64 0)) (hz1 : i.size = 1) (hz2 : i.bytes = 8) (A1 : Option Addr) (c1 : Nat) (l : List Int) (hown : w.ownsRow base1 e 1 (.slice A1 l.length c1) l.length (l.map (Value.int .u64)))
  (A2 : Option Addr) (c2 : Nat) (m : List Int) (hA2 : A2 = none → m.length = 0) (hA1 : ∀ ad, A1 = some ad → base1 ≤ ad.block ∧ ad.block < K) (hm : ∀ ad, A2 = some ad → K ≤ ad.block ∧ ad.block < w.heap.size ∧ ∀ (j : Nat) u, (m.map (Value.int .u64))[j]? = some u → w.cell? (ad.add j) = some u)
  (hbase : base1 ≤ w.heap.size) (hN : N ≤ base1) (kz : Nat) (hk : 0 < kz) (h8 : l.length + kz + m.length = 8) :
  ∃ A4 c4 w4 g c5 w5, (Builtin.append_ #[t, tn] t #[.slice A1 l.length c1, .int .i64 (kz : Int)]).run P w = .ok (.slice A4 (l.length + kz) c4) w4 ∧
   (Builtin.append_ #[t, t] t #[.slice A4 (l.length + kz) c4, .slice A2 m.length c2]).run P w4 = .ok (.slice (some ⟨g, 0, none⟩) 8 c5) w5 ∧
   Hid (∀ (j : Nat) x, (l ++ List.replicate kz 0 ++ m)[j]? = some x → w5.cell? ⟨g, j, none⟩ = some (.int .u64 x)) ∧ N ≤ g ∧ g < w5.heap.size ∧ (∀ a, Below N a w → Below N a w5) := by
 have own1 : ∀ b, (Value.slice A1 l.length c1).ownBlock = some b → base1 ≤ b := by
  intro b hb
  obtain ⟨ad, h1, h2⟩ := own_block hb
  have := hA1 ad h1
  omega
 obtain ⟨v4, w4, hr4, hown4, hg4⟩ := append_zeros_own (P := P) w base1 t tn t e i (.int .u64 0) 8 .i64 ht htn hi hz0 hz1 hz2 rfl _ _ _ hown kz hk (by unfold maxLen; omega) (by omega) hbase (zero_one kz)
 rw [zero_list, ← List.map_append] at hown4
 have hb4 : ∀ a, Below N a w → Below N a w4 := fun a ha => below_own ha hg4 (fun b hb => Nat.le_trans hN (own1 b hb)) (by omega)
 obtain ⟨A4, c4, rfl, hA4, hc4⟩ := own_slice hown4
 have own4 : ∀ b, (Value.slice A4 (l.length + kz) c4).ownBlock = some b → base1 ≤ b := by
  intro b hb
  obtain ⟨ad, h1, h2⟩ := own_block hb
  have := (hc4 ad h1).1
  omega
 have hm4 : ∀ ad, A2 = some ad → ∀ (j : Nat) u, (m.map (Value.int .u64))[j]? = some u → w4.cell? (ad.add j) = some u := by
  intro ad had j u hu
  obtain ⟨h1, h2, h3⟩ := hm ad had
  rw [World.cell?_of_block (a := ad.add j) (w := w) (hg4.block (ad.add j).block (by rw [add_blockQ]; exact h2) (fun e => by obtain ⟨a1, h4, h5⟩ := own_block e.symm; have := (hA1 a1 h4).2; rw [add_blockQ] at h5; omega))]
  exact h3 j u hu
 obtain ⟨v5, w5, hr5, hown5, hg5, _⟩ := append_own (P := P) w4 base1 t t e i (.int .u64 0) ht hi hz0 (by rw [hz1]; rfl) (by omega) _ _ _ (by rw [hz1]; exact hown4) A2 m.length c2 (m.map (Value.int .u64)) (by rw [hz1, List.length_map, Nat.mul_one]) hA2 hm4 (by simp [Value.oneCell']) (by unfold maxLen; omega) (by rw [hz2]; omega) (by have := hg4.size; omega)
 rw [hz1, ← List.map_append] at hown5
 have hL : (l ++ List.replicate kz 0 ++ m).length = 8 := by simp only [List.length_append, List.length_replicate]; omega
 rw [show l.length + kz + m.length = (l ++ List.replicate kz 0 ++ m).length by rw [hL, h8]] at hown5
 obtain ⟨g, c5, rfl, hgb, hgl, HR⟩ := row_form hown5 (by omega)
 rw [hL] at hr5
 exact ⟨A4, c4, w4, g, c5, w5, hr4, hr5, HR, by omega, hgl, fun a ha => below_own (hb4 a ha) hg5 (fun b hb => Nat.le_trans hN (own4 b hb)) (by have := hg4.size; omega)⟩
end Go.Proofs.YtafggolijpopeaaDoor
namespace Go.Proofs.YtafggolijpopeaaDoor
open Go Go.Ma Go.RowKit Go.Proofs
theorem gMaxLen : Tryd.prog.globalNamed "internal/bytealg.MaxLen" = some 1 := by kernel_rfl
theorem cut_calls (s : ByteArray) (hs : s.size ≤ 4294967200) (w : World) (hG : Glob Tryd.prog w) :
  Calls Tryd.prog 46 #[.string s, .string ⟨#[58, 58]⟩] w fun e w' => e = .returned (.tuple #[.string (cut1 s), .string (cut2 s), .bool (cut3 s)]) ∧ Below w.heap.size w w' := by
 obtain ⟨m, hm⟩ := hG.num _ gMaxLen
 refine (Go.Proofs.Tryd.strings_Cut s ⟨#[58, 58]⟩ m w (by omega) hm).mono ?_
 rintro e w' ⟨rfl, n, rfl⟩
 exact ⟨rfl, below_drewN w n⟩
theorem cut_sizes (s : ByteArray) : (cut1 s).size ≤ s.size ∧ (cut2 s).size ≤ s.size := by
 have h1 : (cut1 s).size = (Lib.cut s.data.toList [58, 58]).1.length := rfl
 have h2 : (cut2 s).size = (Lib.cut s.data.toList [58, 58]).2.1.length := rfl
 have h3 : s.data.toList.length = s.size := Array.length_toList
 rw [h1, h2]
 unfold Lib.cut
 generalize Lib.index s.data.toList [58, 58] = ix
 by_cases h : 0 ≤ ix
 ·rw [if_pos h]
  simp only [List.length_take, List.length_drop]; omega
 ·rw [if_neg h]
  simp only [List.length_nil]; omega
theorem heap_below {A C : World} (hb : Below A.heap.size A C) {b : Nat} {o : Go.Obj} (h : A.heap[b]? = some o) : C.heap[b]? = some o := (hb.block b (Array.getElem?_eq_some_iff.1 h).1).trans h
theorem three_cells {w : World} {N : Nat} {a b c : Value} {t : TypeId} (this : w.heap[N]? = some (Go.Obj.cells #[a, b, c] t (0, 0))) :
  w.cell? ⟨N, 0, none⟩ = some a ∧ w.cell? ⟨N, 1, none⟩ = some b ∧ w.cell? ⟨N, 2, none⟩ = some c ∧ w.frozen? ⟨N, 0, none⟩ = false ∧ w.frozen? ⟨N, 1, none⟩ = false ∧ w.frozen? ⟨N, 2, none⟩ = false := by
 refine ⟨?_, ?_, ?_, ?_, ?_, ?_⟩ <;> simp [World.cell?, World.frozen?, this]
theorem set3 {w : World} {N : Nat} {x y z a b c : Value} {t : TypeId} (h : w.heap[N]? = some (Go.Obj.cells #[x, y, z] t (0, 0))) :
  (((w.setCell ⟨N, 0, none⟩ a).setCell ⟨N, 1, none⟩ b).setCell ⟨N, 2, none⟩ c).heap[N]? = some (Go.Obj.cells #[a, b, c] t (0, 0)) ∧
  (∀ k, k ≠ N → (((w.setCell ⟨N, 0, none⟩ a).setCell ⟨N, 1, none⟩ b).setCell ⟨N, 2, none⟩ c).heap[k]? = w.heap[k]?) ∧
  Below N w (((w.setCell ⟨N, 0, none⟩ a).setCell ⟨N, 1, none⟩ b).setCell ⟨N, 2, none⟩ c) := by
 obtain ⟨h1, h2, _⟩ := setCells_spec w N 0 [a, b, c] #[x, y, z] t (0, 0) h
 refine ⟨h1, h2, ?_⟩
 exact (((Below.refl N w).setCell (p := ⟨N, 0, none⟩) (Nat.le_refl _) _).setCell (p := ⟨N, 1, none⟩) (Nat.le_refl _) _).setCell (p := ⟨N, 2, none⟩) (Nat.le_refl _) _
theorem packI_snoc (x : Int) : ∀ (l : List Int) (a : Int), packI (l ++ [x]) a = aop .or .u64 (aop .shl .u64 (packI l a) 16) x
 | [], _ => rfl
 | y :: r, a => packI_snoc x r _
theorem packI_take {l : List Int} {k : Nat} {x : Int} (hx : l[k]? = some x) (a : Int) : packI (l.take (k + 1)) a = aop .or .u64 (aop .shl .u64 (packI (l.take k) a) 16) x := by
 rw [List.take_add_one, hx]
 exact packI_snoc x _ a
theorem someL_len (last : Bool) (len : Nat) : ∀ (l : List ByteArray) (i : Nat) (out r : List Int), someL last len l i out = some r → r.length ≤ out.length + 2 * l.length
 | [], _, out, r, h => by injection h with h; rw [h]; simp
 | x :: l, i, out, r, h => by
  rw [someL] at h
  split at h
  ·split at h
   ·cases h
   ·have := someL_len last len l _ _ r h
    simp only [List.length_append, List.length_cons, List.length_nil] at this ⊢
    omega
  ·split at h
   ·cases h
   ·have := someL_len last len l _ _ r h
    simp only [List.length_append, List.length_cons, List.length_nil] at this ⊢
    omega
theorem someF_len {s : ByteArray} {last : Bool} {r : List Int} (h : someF s last = some r) : r.length ≤ 2 * (s.size + 1) := by
 unfold someF at h
 split at h
 ·injection h with h; rw [← h]; simp
 ·have h1 := someL_len _ _ _ _ _ _ h
  have h2 := splitOn_le s 58
  simp only [List.length_nil] at h1
  omega
theorem put_one {w wr : World} {N i : Nat} {a b c v : Value} {t : TypeId} (hn : wr.heap[N]? = some (Go.Obj.cells #[a, b, c] t (0, 0))) (hb : Below w.heap.size w wr) (hN : w.heap.size < N) :
  (wr.setCell ⟨N, i, none⟩ v).drew.heap[N]? = some (Go.Obj.cells (#[a, b, c].setIfInBounds i v) t (0, 0)) ∧ (∀ k, k ≠ N → (wr.setCell ⟨N, i, none⟩ v).drew.heap[k]? = wr.heap[k]?) ∧ Below w.heap.size w (wr.setCell ⟨N, i, none⟩ v).drew := by
 have h := hb.setCell (p := ⟨N, i, none⟩) (show w.heap.size ≤ N by omega) v
 exact ⟨setCell_heap wr N i v _ t (0, 0) hn, fun k hk => Below.heap_setCell wr ⟨N, i, none⟩ v k hk, ⟨h.os, h.tape, h.output, h.size, h.block⟩⟩
theorem cells_other {w w' : World} {g N : Nat} {L : List Int} (hg : g ≠ N) (h : ∀ k, k ≠ N → w'.heap[k]? = w.heap[k]?) (hc : ∀ (j : Nat) x, L[j]? = some x → w.cell? ⟨g, j, none⟩ = some (.int .u64 x)) : ∀ (j : Nat) x, L[j]? = some x → w'.cell? ⟨g, j, none⟩ = some (.int .u64 x) :=
 fun j x hx => (World.cell?_of_block (a := ⟨g, j, none⟩) (h g hg)).trans (hc j x hx)
def EndA (o : Option Ad) (e : Ending) : Prop := match o with
 | some a => e = .returned (.agg #[.bool a.v6, .int .u64 a.hi, .int .u64 a.lo])
 | none => e = .panicked [badE]
theorem endA_none {o : Option Ad} (h : o = none) : EndA o (.panicked [badE]) := by rw [h]; rfl
set_option maxRecDepth 100000 in
set_option maxHeartbeats 8000000 in
theorem sixteen_walk (s : ByteArray) (hs : s.size ≤ 4294967200) (w : World) (hG : Glob Tryd.prog w) :
  Calls Tryd.prog 32 #[.string s] w fun e w' => EndA (sixteenF s) e ∧ Below w.heap.size w w' := by
 obtain ⟨i0, hi, hz0, hz1, hz2⟩ := info_parts infoU64
 obtain ⟨hs1, hs2⟩ := cut_sizes s
 have HC : Hid (∀ W, Below w.heap.size w W → Calls Tryd.prog 46 #[.string s, .string ⟨#[58, 58]⟩] W fun e w' => e = .returned (.tuple #[.string (cut1 s), .string (cut2 s), .bool (cut3 s)]) ∧ Below W.heap.size W w') := fun W hW => cut_calls s hs W (hG.mono hW)
 have H1 : Hid (∀ W, Below w.heap.size w W → Calls Tryd.prog 47 #[.string (cut1 s), .bool false] W fun e w' => EndRow W.heap.size (someF (cut1 s) false) e w' ∧ Below W.heap.size W w') := fun W hW => some_walk _ _ (by omega) W (hG.mono hW)
 have H2 : Hid (∀ W, Below w.heap.size w W → Calls Tryd.prog 47 #[.string (cut2 s), .bool true] W fun e w' => EndRow W.heap.size (someF (cut2 s) true) e w' ∧ Below W.heap.size W w') := fun W hW => some_walk _ _ (by omega) W (hG.mono hW)
 have H3 : Hid (∀ W, Below w.heap.size w W → Calls Tryd.prog 47 #[.string s, .bool true] W fun e w' => EndRow W.heap.size (someF s true) e w' ∧ Below W.heap.size W w') := fun W hW => some_walk _ _ (by omega) W (hG.mono hW)
 have hsx : sixteenF s = if cut3 s = true then (match someF (cut1 s) false with
  | none => none
  | some l => match someF (cut2 s) true with
   | none => none
   | some m => if 7 < l.length + m.length then none else some (packA (l ++ List.replicate (8 - l.length - m.length) 0 ++ m)))
 else match someF s true with
  | none => none
  | some l => if l.length = 8 then some (packA l) else none := rfl
 generalize sixteenF s = res at hsx ⊢
 generalize cut1 s = s1 at HC H1 hs1 hsx
 generalize cut2 s = s2 at HC H2 hs2 hsx
 generalize cut3 s = ok at HC hsx
 have hba : Below w.heap.size w (w.alloc (.cells #[.bool false, .int .u64 0, .int .u64 0] 24)) := (Below.refl _ w).alloc (Nat.le_refl _) _
 have hn0 := heap_alloc_new w (.cells #[.bool false, .int .u64 0, .int .u64 0] 24)
 go_enter Tryd.func32, Tryd.ntmps32
 cases ok with
 | false =>
  rw [if_neg (by decide)] at hsx
  cases hp : someF s true with
  | none =>
   rw [hp] at hsx H3
   go_wp2_with (first | (go_at_call 46; refine (HC.out _ hba).mono ?_; rintro e w1 ⟨rfl, hb1⟩) | (go_at_call 47; refine (H3.out _ (hba.trans (hb1.mono hba.size))).mono ?_; rintro e w2 ⟨he, hb2⟩; have he : e = .panicked [badE] := he; subst he))
   exact ⟨rfl, endA_none hsx, hba.trans ((hb1.mono hba.size).trans (hb2.mono (Nat.le_trans hba.size hb1.size)))⟩
  | some l =>
   rw [hp] at hsx H3
   simp only at hsx
   by_cases h8 : l.length = 8
   rotate_left
   ·rw [if_neg h8] at hsx
    have h8i : ((l.length : Int) != 8) = true := by rw [bne_iff_ne]; omega
    go_wp2_with (first | (go_at_call 46; refine (HC.out _ hba).mono ?_; rintro e w1 ⟨rfl, hb1⟩) | (go_at_call 47; refine (H3.out _ (hba.trans (hb1.mono hba.size))).mono ?_; rintro e w2 ⟨⟨v, rfl, hown⟩, hb2⟩; obtain ⟨A, cap, rfl⟩ : ∃ A cap, v = .slice A l.length cap := by obtain ⟨_, ⟨h, h0⟩ | ⟨g, cap, cur, h, _⟩⟩ := hown; exact ⟨none, 0, by rw [h, h0]⟩; exact ⟨_, _, h⟩))
    exact ⟨rfl, endA_none hsx, hba.trans ((hb1.mono hba.size).trans (hb2.mono (Nat.le_trans hba.size hb1.size)))⟩
   rw [if_pos h8] at hsx
   have h8i : ((l.length : Int) != 8) = false := by rw [h8]; rfl
   go_wp2_with (first | (go_at_call 46; refine (HC.out _ hba).mono ?_; rintro e w1 ⟨rfl, hb1⟩) | (go_at_call 47; refine (H3.out _ (hba.trans (hb1.mono hba.size))).mono ?_; rintro e w2 ⟨⟨v, rfl, hown⟩, hb2⟩; obtain ⟨g, cap, rfl, hgw, hgl, HR⟩ := row_form hown (by omega)))
   have hbw : Below w.heap.size w w2 := hba.trans ((hb1.mono hba.size).trans (hb2.mono (Nat.le_trans hba.size hb1.size)))
   have hnw : w2.heap[w.heap.size]? = some (Go.Obj.cells #[.bool false, .int .u64 0, .int .u64 0] 24 (0, 0)) := heap_below hb2 (heap_below hb1 hn0)
   obtain ⟨L, hL⟩ : ∃ L, L = l := ⟨_, rfl⟩
   rw [← hL] at HR h8 hsx
   have hgne : g ≠ w.heap.size := by
    have := hb1.size
    have h2 : (w.alloc (.cells #[.bool false, .int .u64 0, .int .u64 0] 24)).heap.size = w.heap.size + 1 := by simp
    omega
   clear hown hb1 hb2 hba hn0 hL hgw HC H1 H2 H3 hp
   have hN0 := heap_alloc_new w2 (.cells #[.bool true, .int .u64 0, .int .u64 0] 24)
   have hbN : Below w.heap.size w (w2.alloc (.cells #[.bool true, .int .u64 0, .int .u64 0] 24)) := hbw.alloc hbw.size _
   have hnN : (w2.alloc (.cells #[.bool true, .int .u64 0, .int .u64 0] 24)).heap[w.heap.size]? = some (Go.Obj.cells #[.bool false, .int .u64 0, .int .u64 0] 24 (0, 0)) := (Below.heap_alloc _ _ _ (Array.getElem?_eq_some_iff.1 hnw).1).trans hnw
   have HRN : Hid (∀ (j : Nat) x, L[j]? = some x → (w2.alloc (.cells #[.bool true, .int .u64 0, .int .u64 0] 24)).cell? ⟨g, j, none⟩ = some (.int .u64 x)) := Lib.hid fun j x hx => cell_stays ((Below.refl w2.heap.size w2).alloc (Nat.le_refl _) _) (HR.out j x hx)
   obtain ⟨N, hN⟩ : ∃ N, N = w2.heap.size := ⟨_, rfl⟩
   have hgN : g < N := by rw [hN]; exact hgl
   have hwN : w.heap.size < N := by rw [hN]; exact (Array.getElem?_eq_some_iff.1 hnw).1
   rw [← hN] at hN0 ⊢
   generalize w2.alloc (.cells #[.bool true, .int .u64 0, .int .u64 0] 24) = wN at hN0 hbN hnN HRN ⊢
   clear HR hnw hbw hgl hN
   go_loopw [47] (fun vi wr => ∃ (k : Nat) (h l : Int), vi = .int .i64 k ∧ k ≤ 4 ∧ Hid (h = packI (L.take k) 0 ∧ l = packI ((L.drop 4).take k) 0) ∧ wr.heap[N]? = some (Go.Obj.cells #[.bool true, .int .u64 h, .int .u64 l] 24 (0, 0)) ∧ Hid (∀ (j : Nat) x, L[j]? = some x → wr.cell? ⟨g, j, none⟩ = some (.int .u64 x)) ∧ wr.heap[w.heap.size]? = some (Go.Obj.cells #[.bool false, .int .u64 0, .int .u64 0] 24 (0, 0)) ∧ Below w.heap.size w wr) (fun vi _ => 4 - (intOf vi).toNat)
   case atStart => exact ⟨0, 0, 0, rfl, by omega, Lib.hid ⟨rfl, rfl⟩, hN0, HRN, hnN, hbN⟩
   case round =>
    clear hN0 HRN hnN hbN
    obtain ⟨k, h, l, rfl, hk, HP, hN0, HR, hnw, hbw⟩ := hrel
    obtain ⟨m0, m1, m2, m3, m4, m5⟩ := three_cells hN0
    by_cases hlt : k < 4
    ·obtain ⟨x, hx⟩ : ∃ x, L[k]? = some x := ⟨_, List.getElem?_eq_getElem (by omega)⟩
     obtain ⟨y, hy⟩ : ∃ y, L[4 + k]? = some y := ⟨_, List.getElem?_eq_getElem (by omega)⟩
     have c0 := HR.out k x hx
     have c1 := HR.out (4 + k) y hy
     have hltI : (k : Int) < 4 := by omega
     go_wp2
     go_region
     obtain ⟨q1, q2, q3⟩ := put_one (i := 1) (v := .int .u64 (bits .or .u64 (IntKind.u64.wrap (h * 65536)) x)) hN0 hbw hwN
     have HR1 := Lib.hid (cells_other (by omega : g ≠ N) q2 HR.out)
     have hnw1 := (q2 w.heap.size (by omega)).trans hnw
     obtain ⟨h1, hh1⟩ : ∃ h1, h1 = bits .or .u64 (IntKind.u64.wrap (h * 65536)) x := ⟨_, rfl⟩
     rw [← hh1] at q1 q2 q3 HR1 hnw1 ⊢
     generalize (wr.setCell ⟨N, 1, none⟩ (.int .u64 h1)).drew = wA at q1 q3 HR1 hnw1 ⊢
     clear q2 HR hnw hbw hN0 m0 m1 m2 m3 m4 m5 c0 c1
     have q1 : wA.heap[N]? = some (Go.Obj.cells #[.bool true, .int .u64 h1, .int .u64 l] 24 (0, 0)) := q1
     obtain ⟨m0, m1, m2, m3, m4, m5⟩ := three_cells q1
     have c1 := HR1.out (4 + k) y hy
     go_wp2
     go_region
     obtain ⟨r1, r2, r3⟩ := put_one (i := 2) (v := .int .u64 (bits .or .u64 (IntKind.u64.wrap (l * 65536)) y)) q1 q3 hwN
     have HR2 := Lib.hid (cells_other (by omega : g ≠ N) r2 HR1.out)
     have hnw2 := (r2 w.heap.size (by omega)).trans hnw1
     obtain ⟨l1, hl1⟩ : ∃ l1, l1 = bits .or .u64 (IntKind.u64.wrap (l * 65536)) y := ⟨_, rfl⟩
     rw [← hl1] at r1 r2 r3 HR2 hnw2 ⊢
     generalize (wA.setCell ⟨N, 2, none⟩ (.int .u64 l1)).drew = wB at r1 r3 HR2 hnw2 ⊢
     clear r2
     have r1 : wB.heap[N]? = some (Go.Obj.cells #[.bool true, .int .u64 h1, .int .u64 l1] 24 (0, 0)) := r1
     have HP2 : Hid (h1 = packI (L.take (k + 1)) 0 ∧ l1 = packI ((L.drop 4).take (k + 1)) 0) := Lib.hid ⟨by rw [packI_take hx, ← HP.out.1, hh1]; rfl, by rw [packI_take (by rw [List.getElem?_drop]; exact hy), ← HP.out.2, hl1]; rfl⟩
     go_wp2
     exact ⟨⟨k + 1, h1, l1, by go_num, by omega, HP2, r1, HR2, hnw2, r3⟩, by simp [intOf]; omega⟩
    ·have hk4 : k = 4 := by omega
     subst hk4
     obtain ⟨n0, n1, n2, n3, n4, n5⟩ := three_cells hnw
     go_wp2
     obtain ⟨s1, s2, s3⟩ := set3 (a := .bool true) (b := .int .u64 h) (c := .int .u64 l) hnw
     obtain ⟨p0, p1, p2, _⟩ := three_cells s1
     refine bodyPost_ret (v := .agg #[.bool true, .int .u64 h, .int .u64 l]) ?_ rfl ⟨?_, hbw.trans s3⟩
     ·simp [results, Tryd.f32, go_sem, p0, p1, p2]
     ·rw [hsx]
      obtain ⟨e1, e2⟩ := HP.out
      show Ending.returned _ = Ending.returned _
      rw [e1, e2]
      rfl
 | true =>
  rw [if_pos rfl] at hsx
  cases hp1 : someF s1 false with
  | none =>
   rw [hp1] at hsx H1
   go_wp2_with (first | (go_at_call 46; refine (HC.out _ hba).mono ?_; rintro e w1 ⟨rfl, hb1⟩; have hbA := hba.trans (hb1.mono hba.size)) | (go_at_call 47; refine (H1.out _ hbA).mono ?_; rintro e w2 ⟨he, hb2⟩; have he : e = .panicked [badE] := he; subst he))
   exact ⟨rfl, endA_none hsx, hbA.trans (hb2.mono hbA.size)⟩
  | some l =>
   have hl1 := someF_len hp1
   rw [hp1] at hsx H1
   simp only at hsx
   cases hp2 : someF s2 true with
   | none =>
    rw [hp2] at hsx H2
    go_wp2_with (first | (go_at_call 46; refine (HC.out _ hba).mono ?_; rintro e w1 ⟨rfl, hb1⟩; have hbA := hba.trans (hb1.mono hba.size)) | (go_at_call 47; refine (H1.out _ hbA).mono ?_; rintro e w2 ⟨⟨v, rfl, hown⟩, hb2⟩; obtain ⟨A1, c1, rfl, hA1, _⟩ := own_slice hown; have hbB := hbA.trans (hb2.mono hbA.size); clear H1) | (go_at_call 47; refine (H2.out _ hbB).mono ?_; rintro e w3 ⟨he, hb3⟩; have he : e = .panicked [badE] := he; subst he))
    exact ⟨rfl, endA_none hsx, hbB.trans (hb3.mono hbB.size)⟩
   | some m =>
    have hl2 := someF_len hp2
    rw [hp2] at hsx H2
    simp only at hsx
    by_cases h7 : 7 < l.length + m.length
    ·rw [if_pos h7] at hsx
     have h7i : decide (7 < (l.length : Int) + (m.length : Int)) = true := decide_eq_true (by omega)
     go_wp2_with (first | (go_at_call 46; refine (HC.out _ hba).mono ?_; rintro e w1 ⟨rfl, hb1⟩; have hbA := hba.trans (hb1.mono hba.size)) | (go_at_call 47; refine (H1.out _ hbA).mono ?_; rintro e w2 ⟨⟨v, rfl, hown⟩, hb2⟩; obtain ⟨A1, c1, rfl, hA1, _⟩ := own_slice hown; have hbB := hbA.trans (hb2.mono hbA.size); clear H1) | (go_at_call 47; refine (H2.out _ hbB).mono ?_; rintro e w3 ⟨⟨v, rfl, hownm⟩, hb3⟩; obtain ⟨A2, c2, rfl, hA2, hcm⟩ := own_slice hownm; have hbC := hbB.trans (hb3.mono hbB.size)))
     exact ⟨rfl, endA_none hsx, hbC⟩
    ·rw [if_neg h7] at hsx
     have h7i : decide (7 < (l.length : Int) + (m.length : Int)) = false := decide_eq_false (by omega)
     obtain ⟨kz, hkze⟩ : ∃ kz, kz = 8 - l.length - m.length := ⟨_, rfl⟩
     have hkz : 0 < kz := by omega
     have hkzi : (kz : Int) = 8 - (l.length : Int) - (m.length : Int) := by omega
     have hzc : ∀ u ∈ (Builtin.zeroCells (Value.int IntKind.u64 0).cells kz).toList, u.oneCell' = true := zero_one kz
     rw [← hkze] at hsx
     have H8 := Lib.hid (show l.length + kz + m.length = 8 by omega)
     have HKZ := Lib.hid hkzi
     clear hkze hkzi
     go_wp2_with (first | (go_at_call 46; refine (HC.out _ hba).mono ?_; rintro e w1 ⟨rfl, hb1⟩; have hbA := hba.trans (hb1.mono hba.size)) | (go_at_call 47; refine (H1.out _ hbA).mono ?_; rintro e w2 ⟨⟨v, rfl, hown⟩, hb2⟩; obtain ⟨A1, c1, rfl, hA1, hc1⟩ := own_slice hown; have hbB := hbA.trans (hb2.mono hbA.size); clear H1) | (go_at_call 47; refine (H2.out _ hbB).mono ?_; rintro e w3 ⟨⟨v, rfl, hownm⟩, hb3⟩; obtain ⟨A2, c2, rfl, hA2, hc2⟩ := own_slice hownm; obtain ⟨A4, c4, w4, g, c5, w5, hr4, hr5, HR, hgN, hgl, hbE⟩ := two_appends (P := Tryd.prog) w3 w1.heap.size w1.heap.size w2.heap.size 81 3 22 i0 Tryd.underlying81 Tryd.underlying3 hi hz0 hz1 hz2 A1 c1 l (hown.kept (below_grown' hb3) (Classical.em _)) A2 c2 m hA2 (fun ad h => ⟨(hc1 ad h).1, (hc1 ad h).2.1⟩) hc2 (by have := hb2.size; have := hb3.size; omega) (Nat.le_refl _) kz hkz H8.out; rw [HKZ.out] at hr4; have hb15 := hbE _ (hb2.trans (hb3.mono hb2.size)); clear hc1 hc2 hown hownm hbE) | (at_builtin; refine Lib.wpList_append_run _ rfl _ _ _ _ rfl _ _ rfl rfl _ _ hr4 ?_) | (at_builtin; refine Lib.wpList_append_run _ rfl _ _ _ _ rfl _ _ rfl rfl _ _ hr5 ?_))
     have hbw : Below w.heap.size w w5 := hba.trans ((hb1.trans (hb15.mono hb1.size)).mono hba.size)
     have hnw : w5.heap[w.heap.size]? = some (Go.Obj.cells #[.bool false, .int .u64 0, .int .u64 0] 24 (0, 0)) := heap_below hb15 (heap_below hb1 hn0)
     obtain ⟨L, hL⟩ : ∃ L, L = l ++ List.replicate kz 0 ++ m := ⟨_, rfl⟩
     have h8 : L.length = 8 := by have h9 : l.length + kz + m.length = 8 := H8.out; rw [hL]; simp only [List.length_append, List.length_replicate]; omega
     rw [← hL] at HR hsx
     have hgne : g ≠ w.heap.size := by
      have := hb1.size
      have h2 : (w.alloc (.cells #[.bool false, .int .u64 0, .int .u64 0] 24)).heap.size = w.heap.size + 1 := by simp
      omega
     clear hb1 hb2 hb3 hb15 hba hn0 hL hgN HC H2 H3 hp1 hp2 hr4 hr5 hbA hbB H8 HKZ hkz hA1 hA2
     have hN0 := heap_alloc_new w5 (.cells #[.bool true, .int .u64 0, .int .u64 0] 24)
     have hbN : Below w.heap.size w (w5.alloc (.cells #[.bool true, .int .u64 0, .int .u64 0] 24)) := hbw.alloc hbw.size _
     have hnN : (w5.alloc (.cells #[.bool true, .int .u64 0, .int .u64 0] 24)).heap[w.heap.size]? = some (Go.Obj.cells #[.bool false, .int .u64 0, .int .u64 0] 24 (0, 0)) := (Below.heap_alloc _ _ _ (Array.getElem?_eq_some_iff.1 hnw).1).trans hnw
     have HRN : Hid (∀ (j : Nat) x, L[j]? = some x → (w5.alloc (.cells #[.bool true, .int .u64 0, .int .u64 0] 24)).cell? ⟨g, j, none⟩ = some (.int .u64 x)) := Lib.hid fun j x hx => cell_stays ((Below.refl w5.heap.size w5).alloc (Nat.le_refl _) _) (HR.out j x hx)
     obtain ⟨N, hN⟩ : ∃ N, N = w5.heap.size := ⟨_, rfl⟩
     have hgN : g < N := by rw [hN]; exact hgl
     have hwN : w.heap.size < N := by rw [hN]; exact (Array.getElem?_eq_some_iff.1 hnw).1
     rw [← hN] at hN0 ⊢
     generalize w5.alloc (.cells #[.bool true, .int .u64 0, .int .u64 0] 24) = wN at hN0 hbN hnN HRN ⊢
     clear HR hnw hbw hgl hN
     go_loopw [47] (fun vi wr => ∃ (k : Nat) (h l : Int), vi = .int .i64 k ∧ k ≤ 4 ∧ Hid (h = packI (L.take k) 0 ∧ l = packI ((L.drop 4).take k) 0) ∧ wr.heap[N]? = some (Go.Obj.cells #[.bool true, .int .u64 h, .int .u64 l] 24 (0, 0)) ∧ Hid (∀ (j : Nat) x, L[j]? = some x → wr.cell? ⟨g, j, none⟩ = some (.int .u64 x)) ∧ wr.heap[w.heap.size]? = some (Go.Obj.cells #[.bool false, .int .u64 0, .int .u64 0] 24 (0, 0)) ∧ Below w.heap.size w wr) (fun vi _ => 4 - (intOf vi).toNat)
     case atStart => exact ⟨0, 0, 0, rfl, by omega, Lib.hid ⟨rfl, rfl⟩, hN0, HRN, hnN, hbN⟩
     case round =>
      clear hN0 HRN hnN hbN
      obtain ⟨k, h, l, rfl, hk, HP, hN0, HR, hnw, hbw⟩ := hrel
      obtain ⟨m0, m1, m2, m3, m4, m5⟩ := three_cells hN0
      by_cases hlt : k < 4
      ·obtain ⟨x, hx⟩ : ∃ x, L[k]? = some x := ⟨_, List.getElem?_eq_getElem (by omega)⟩
       obtain ⟨y, hy⟩ : ∃ y, L[4 + k]? = some y := ⟨_, List.getElem?_eq_getElem (by omega)⟩
       have c0 := HR.out k x hx
       have c1 := HR.out (4 + k) y hy
       have hltI : (k : Int) < 4 := by omega
       go_wp2
       go_region
       obtain ⟨q1, q2, q3⟩ := put_one (i := 1) (v := .int .u64 (bits .or .u64 (IntKind.u64.wrap (h * 65536)) x)) hN0 hbw hwN
       have HR1 := Lib.hid (cells_other (by omega : g ≠ N) q2 HR.out)
       have hnw1 := (q2 w.heap.size (by omega)).trans hnw
       obtain ⟨h1, hh1⟩ : ∃ h1, h1 = bits .or .u64 (IntKind.u64.wrap (h * 65536)) x := ⟨_, rfl⟩
       rw [← hh1] at q1 q2 q3 HR1 hnw1 ⊢
       generalize (wr.setCell ⟨N, 1, none⟩ (.int .u64 h1)).drew = wA at q1 q3 HR1 hnw1 ⊢
       clear q2 HR hnw hbw hN0 m0 m1 m2 m3 m4 m5 c0 c1
       have q1 : wA.heap[N]? = some (Go.Obj.cells #[.bool true, .int .u64 h1, .int .u64 l] 24 (0, 0)) := q1
       obtain ⟨m0, m1, m2, m3, m4, m5⟩ := three_cells q1
       have c1 := HR1.out (4 + k) y hy
       go_wp2
       go_region
       obtain ⟨r1, r2, r3⟩ := put_one (i := 2) (v := .int .u64 (bits .or .u64 (IntKind.u64.wrap (l * 65536)) y)) q1 q3 hwN
       have HR2 := Lib.hid (cells_other (by omega : g ≠ N) r2 HR1.out)
       have hnw5 := (r2 w.heap.size (by omega)).trans hnw1
       obtain ⟨l1, hl1⟩ : ∃ l1, l1 = bits .or .u64 (IntKind.u64.wrap (l * 65536)) y := ⟨_, rfl⟩
       rw [← hl1] at r1 r2 r3 HR2 hnw5 ⊢
       generalize (wA.setCell ⟨N, 2, none⟩ (.int .u64 l1)).drew = wB at r1 r3 HR2 hnw5 ⊢
       clear r2
       have r1 : wB.heap[N]? = some (Go.Obj.cells #[.bool true, .int .u64 h1, .int .u64 l1] 24 (0, 0)) := r1
       have HP2 : Hid (h1 = packI (L.take (k + 1)) 0 ∧ l1 = packI ((L.drop 4).take (k + 1)) 0) := Lib.hid ⟨by rw [packI_take hx, ← HP.out.1, hh1]; rfl, by rw [packI_take (by rw [List.getElem?_drop]; exact hy), ← HP.out.2, hl1]; rfl⟩
       go_wp2
       exact ⟨⟨k + 1, h1, l1, by go_num, by omega, HP2, r1, HR2, hnw5, r3⟩, by simp [intOf]; omega⟩
      ·have hk4 : k = 4 := by omega
       subst hk4
       obtain ⟨n0, n1, n2, n3, n4, n5⟩ := three_cells hnw
       go_wp2
       obtain ⟨s1, s2, s3⟩ := set3 (a := .bool true) (b := .int .u64 h) (c := .int .u64 l) hnw
       obtain ⟨p0, p1, p2, _⟩ := three_cells s1
       refine bodyPost_ret (v := .agg #[.bool true, .int .u64 h, .int .u64 l]) ?_ rfl ⟨?_, hbw.trans s3⟩
       ·simp [results, Tryd.f32, go_sem, p0, p1, p2]
       ·rw [hsx]
        obtain ⟨e1, e2⟩ := HP.out
        show Ending.returned _ = Ending.returned _
        rw [e1, e2]
        rfl
end Go.Proofs.YtafggolijpopeaaDoor
namespace Go.Proofs.YtafggolijpopeaaDoor
open Go Go.Ma Go.RowKit Go.Proofs
theorem heap_push (w : World) (o : Go.Obj) (k : Nat) : (w.alloc o).heap[k]? = if k = w.heap.size then some o else w.heap[k]? := by
 show (w.heap.push o)[k]? = _
 exact Array.getElem?_push
theorem cell_of_box_l {W : World} {B : Nat} {v : Value} {t : TypeId} (h : W.heap[B]? = some (Go.Obj.cells #[v] t (0, 0))) : W.cell? ⟨B, 0, none⟩ = some v ∧ W.frozen? ⟨B, 0, none⟩ = false := by
 constructor <;> simp [World.cell?, World.frozen?, h]
theorem told_idle (p q : Addr) (w : World) :
  CallsD Tryd.prog 30 #[.pointer (some p), .pointer (some q)] .returning w fun e u' w' => e = .returned (.tuple #[]) ∧ u' = .returning ∧ w' = w := by
 refine callsD_of_wpS Tryd.func30 rfl fun c₀ cs hu => ?_
 apply wpS_seq
 apply wpS_region
 simp [wpOpsS, go_sem, recoverD, hu, Tryd.ntmps30, Exit.thenS]
 apply wpS_seq
 apply wpS_region
 simp [wpOpsS, go_sem, Exit.thenS]
 refine wpS_cond (t := false) (by simp [Act.eval, Array.replicate]) ?_
 simp only [Bool.false_eq_true, if_false]
 refine wpS_of_wp (wp_skip ?_)
 cases c₀
 simp_all [bodyPostS, results, Tryd.results30]
noncomputable def laidNo (W : World) (n : Nat) : World := ((((W.setCell ⟨n, 0, none⟩ (.bool false)).setCell ⟨n, 1, none⟩ (.int .u64 0)).setCell ⟨n, 2, none⟩ (.int .u64 0)).setCell ⟨n + 1, 0, none⟩ (.bool false))
theorem ta_bad (T : TypeId) (W : World) : (Instr.typeAssert (.iface 60 (.agg #[])) T 60 true).run Tryd.prog W = .ok (.tuple #[.agg #[], .bool true]) W := by
 simp [Instr.typeAssert, run_underlying Tryd.underlying60]
set_option maxRecDepth 100000 in
set_option maxHeartbeats 2000000 in
theorem told_catch (n : Nat) (w : World) (a b c d : Value) (older : List PanicEntry) (h1 : w.heap[n]? = some (Go.Obj.cells #[a, b, c] 24 (0, 0))) (h2 : w.heap[n + 1]? = some (Go.Obj.cells #[d] 4 (0, 0))) :
  CallsD Tryd.prog 30 #[.pointer (some ⟨n, 0, none⟩), .pointer (some ⟨n + 1, 0, none⟩)] (.panicking (badE :: older)) w fun e u' w' => e = .returned (.tuple #[]) ∧ u' = .panicking ({ badE with recovered := true } :: older) ∧ w' = laidNo (w.alloc (.cells #[] 60)) n := by
 have g1 := (Below.heap_alloc w (.cells #[] 60) n (Array.getElem?_eq_some_iff.1 h1).1).trans h1
 have g2 := (Below.heap_alloc w (.cells #[] 60) (n + 1) (Array.getElem?_eq_some_iff.1 h2).1).trans h2
 obtain ⟨m0, m1, m2, m3, m4, m5⟩ := three_cells g1
 obtain ⟨m6, m7⟩ := cell_of_box_l g2
 clear h1 h2 g1 g2
 refine callsD_of_wpS Tryd.func30 rfl fun c₀ cs hu => ?_
 apply wpS_seq
 apply wpS_region
 simp [wpOpsS, go_sem, recoverD, hu, badE, Tryd.ntmps30, Exit.thenS]
 apply wpS_seq
 apply wpS_region
 simp [wpOpsS, go_sem, Exit.thenS]
 refine wpS_cond (t := true) (by simp [Act.eval, Array.replicate]) ?_
 simp only [if_true]
 refine wpS_of_wp ?_
 have hta : ∀ T W, (Instr.typeAssert (.iface 60 (.agg #[])) T 60 true).run Tryd.prog W = .ok (.tuple #[.agg #[], .bool true]) W := ta_bad
 show Code.wp _ _ _ { tmps := #[.pointer (some ⟨n, 0, none⟩), .pointer (some ⟨n + 1, 0, none⟩), .iface 60 (.agg #[]), Go.undef, Go.undef, .iface 60 (.agg #[]), .iface 60 (.agg #[]), .bool true, Go.undef, Go.undef, Go.undef, Go.undef, Go.undef, Go.undef, Go.undef, Go.undef, Go.undef], defers := [] } _
 go_wp2
 simp [bodyPostS, results, Tryd.results30, laidNo]
theorem laidNo_spec {w : World} {n : Nat} {a b c d : Value} (h1 : w.heap[n]? = some (Go.Obj.cells #[a, b, c] 24 (0, 0))) (h2 : w.heap[n + 1]? = some (Go.Obj.cells #[d] 4 (0, 0))) :
  (laidNo w n).heap[n]? = some (Go.Obj.cells #[.bool false, .int .u64 0, .int .u64 0] 24 (0, 0)) ∧ (laidNo w n).heap[n + 1]? = some (Go.Obj.cells #[.bool false] 4 (0, 0)) ∧ Below n w (laidNo w n) := by
 obtain ⟨s1, s2, s3⟩ := set3 (a := .bool false) (b := .int .u64 0) (c := .int .u64 0) h1
 have i4' := (s2 (n + 1) (by omega)).trans h2
 have t1 := setCell_heap _ (n + 1) 0 (.bool false) #[d] 4 (0, 0) i4'
 have t2 := (Below.heap_setCell _ ⟨n + 1, 0, none⟩ (.bool false) _ (by show n ≠ n + 1; omega)).trans s1
 exact ⟨t2, t1, s3.setCell (p := ⟨n + 1, 0, none⟩) (by show n ≤ n + 1; omega) (.bool false)⟩
set_option maxRecDepth 100000 in
set_option maxHeartbeats 4000000 in
theorem told_four (s : ByteArray) (w : World) (u : Int) (hc : ∀ W, Calls Tryd.prog 31 #[.string s, .string ⟨#[58]⟩] W fun e w' => e = .returned (.bool false) ∧ w' = W) (hx : ∀ W, Below w.heap.size w W → Calls Tryd.prog 33 #[.string s] W fun e w' => e = .returned (.int .u64 u) ∧ Below W.heap.size W w') :
  Calls Tryd.prog 16 #[.string s] w fun e w' => e = .returned (.tuple #[.agg #[.bool false, .int .u64 0, .int .u64 u], .bool true]) ∧ Below w.heap.size w w' := by
 have hmf : ∀ (fn : Fn) (first cap : Array Value) (w : World), (Instr.makeFunc fn first cap).run Tryd.prog w = .ok (.func fn first cap) w := fun _ _ _ _ => rfl
 have HC : Hid (∀ W, Calls Tryd.prog 31 #[.string s, .string ⟨#[58]⟩] W fun e w' => e = .returned (.bool false) ∧ w' = W) := Lib.hid hc
 have HX := Lib.hid hx
 clear hc hx
 go_enter_defers Tryd.func16, Tryd.ntmps16
 have hz1 : ((w.alloc (.cells #[.bool false, .int .u64 0, .int .u64 0] 24)).alloc (.cells #[.bool false] 4)).heap[w.heap.size]? = some (.cells #[.bool false, .int .u64 0, .int .u64 0] 24 (0, 0)) := by
  rw [heap_push, if_neg (by simp only [World.size_alloc]; omega), heap_push, if_pos rfl]
 have hz2 : ((w.alloc (.cells #[.bool false, .int .u64 0, .int .u64 0] 24)).alloc (.cells #[.bool false] 4)).heap[w.heap.size + 1]? = some (.cells #[.bool false] 4 (0, 0)) := by
  rw [heap_push, if_pos (by simp)]
 have hz3 : Below w.heap.size w ((w.alloc (.cells #[.bool false, .int .u64 0, .int .u64 0] 24)).alloc (.cells #[.bool false] 4)) := ((Below.refl _ w).alloc (Nat.le_refl _) _).alloc (by simp) _
 go_wp2_with (first | (go_at_call 31; refine (HC.out _).mono ?_; rintro e w2 ⟨rfl, hw2⟩; have hw2 := hw2.symm; subst hw2) | (go_at_call 33; refine (HX.out _ hz3).mono ?_; rintro e w3 ⟨he, hb3⟩; have he : e = .returned (.int .u64 u) := he; subst he; have i3 := heap_below hb3 hz1; have i4 := heap_below hb3 hz2; have hb4 := hz3.trans (hb3.mono hz3.size); clear hb3 hz1 hz2 hz3 HC; obtain ⟨n0, n1, n2, n3, n4, n5⟩ := three_cells i3; obtain ⟨n6, n7⟩ := cell_of_box_l i4))
 obtain ⟨s1, s2, s3⟩ := set3 (a := .bool false) (b := .int .u64 0) (c := .int .u64 u) i3
 have i4' : (((w3.setCell ⟨w.heap.size, 0, none⟩ (.bool false)).setCell ⟨w.heap.size, 1, none⟩ (.int .u64 0)).setCell ⟨w.heap.size, 2, none⟩ (.int .u64 u)).heap[w.heap.size + 1]? = some (Go.Obj.cells #[.bool false] 4 (0, 0)) := (s2 _ (by omega)).trans i4
 have t1 := setCell_heap _ (w.heap.size + 1) 0 (.bool true) #[.bool false] 4 (0, 0) i4'
 have t2 := (Below.heap_setCell _ ⟨w.heap.size + 1, 0, none⟩ (.bool true) _ (by show w.heap.size ≠ w.heap.size + 1; omega)).trans s1
 obtain ⟨m0, m1, m2, _⟩ := three_cells t2
 obtain ⟨m6, _⟩ := cell_of_box_l t1
 have hbb := (hb4.trans s3).setCell (p := ⟨w.heap.size + 1, 0, none⟩) (by show w.heap.size ≤ w.heap.size + 1; omega) (.bool true)
 generalize (((w3.setCell ⟨w.heap.size, 0, none⟩ (.bool false)).setCell ⟨w.heap.size, 1, none⟩ (.int .u64 0)).setCell ⟨w.heap.size, 2, none⟩ (.int .u64 u)).setCell ⟨w.heap.size + 1, 0, none⟩ (.bool true) = W4 at m0 m1 m2 m6 hbb ⊢
 refine leaves_cons (f := 30) (args := #[.pointer (some ⟨w.heap.size, 0, none⟩), .pointer (some ⟨w.heap.size + 1, 0, none⟩)]) (by simp) (by simp [go_sem]) ?_
 refine (told_idle _ _ _).mono ?_
 rintro e u' w'' ⟨rfl, rfl, rfl⟩
 simp [Leaves, settle, results, Tryd.results16, go_sem, m0, m1, m2, m6]
 exact hbb
set_option maxRecDepth 100000 in
set_option maxHeartbeats 4000000 in
theorem told_sixteen (s : ByteArray) (w : World) (x : Ad) (hc : ∀ W, Calls Tryd.prog 31 #[.string s, .string ⟨#[58]⟩] W fun e w' => e = .returned (.bool true) ∧ w' = W) (hx : ∀ W, Below w.heap.size w W → Calls Tryd.prog 32 #[.string s] W fun e w' => e = .returned (.agg #[.bool x.v6, .int .u64 x.hi, .int .u64 x.lo]) ∧ Below W.heap.size W w') :
  Calls Tryd.prog 16 #[.string s] w fun e w' => e = .returned (.tuple #[.agg #[.bool x.v6, .int .u64 x.hi, .int .u64 x.lo], .bool true]) ∧ Below w.heap.size w w' := by
 have hmf : ∀ (fn : Fn) (first cap : Array Value) (w : World), (Instr.makeFunc fn first cap).run Tryd.prog w = .ok (.func fn first cap) w := fun _ _ _ _ => rfl
 have HC : Hid (∀ W, Calls Tryd.prog 31 #[.string s, .string ⟨#[58]⟩] W fun e w' => e = .returned (.bool true) ∧ w' = W) := Lib.hid hc
 have HX := Lib.hid hx
 clear hc hx
 go_enter_defers Tryd.func16, Tryd.ntmps16
 have hz1 : ((w.alloc (.cells #[.bool false, .int .u64 0, .int .u64 0] 24)).alloc (.cells #[.bool false] 4)).heap[w.heap.size]? = some (.cells #[.bool false, .int .u64 0, .int .u64 0] 24 (0, 0)) := by
  rw [heap_push, if_neg (by simp only [World.size_alloc]; omega), heap_push, if_pos rfl]
 have hz2 : ((w.alloc (.cells #[.bool false, .int .u64 0, .int .u64 0] 24)).alloc (.cells #[.bool false] 4)).heap[w.heap.size + 1]? = some (.cells #[.bool false] 4 (0, 0)) := by
  rw [heap_push, if_pos (by simp)]
 have hz3 : Below w.heap.size w ((w.alloc (.cells #[.bool false, .int .u64 0, .int .u64 0] 24)).alloc (.cells #[.bool false] 4)) := ((Below.refl _ w).alloc (Nat.le_refl _) _).alloc (by simp) _
 go_wp2_with (first | (go_at_call 31; refine (HC.out _).mono ?_; rintro e w2 ⟨rfl, hw2⟩; have hw2 := hw2.symm; subst hw2) | (go_at_call 32; refine (HX.out _ hz3).mono ?_; rintro e w3 ⟨he, hb3⟩; have he : e = .returned (.agg #[.bool x.v6, .int .u64 x.hi, .int .u64 x.lo]) := he; subst he; have i3 := heap_below hb3 hz1; have i4 := heap_below hb3 hz2; have hb4 := hz3.trans (hb3.mono hz3.size); clear hb3 hz1 hz2 hz3 HC; obtain ⟨n0, n1, n2, n3, n4, n5⟩ := three_cells i3; obtain ⟨n6, n7⟩ := cell_of_box_l i4))
 obtain ⟨s1, s2, s3⟩ := set3 (a := .bool x.v6) (b := .int .u64 x.hi) (c := .int .u64 x.lo) i3
 have i4' : (((w3.setCell ⟨w.heap.size, 0, none⟩ (.bool x.v6)).setCell ⟨w.heap.size, 1, none⟩ (.int .u64 x.hi)).setCell ⟨w.heap.size, 2, none⟩ (.int .u64 x.lo)).heap[w.heap.size + 1]? = some (Go.Obj.cells #[.bool false] 4 (0, 0)) := (s2 _ (by omega)).trans i4
 have t1 := setCell_heap _ (w.heap.size + 1) 0 (.bool true) #[.bool false] 4 (0, 0) i4'
 have t2 := (Below.heap_setCell _ ⟨w.heap.size + 1, 0, none⟩ (.bool true) _ (by show w.heap.size ≠ w.heap.size + 1; omega)).trans s1
 obtain ⟨m0, m1, m2, _⟩ := three_cells t2
 obtain ⟨m6, _⟩ := cell_of_box_l t1
 have hbb := (hb4.trans s3).setCell (p := ⟨w.heap.size + 1, 0, none⟩) (by show w.heap.size ≤ w.heap.size + 1; omega) (.bool true)
 generalize (((w3.setCell ⟨w.heap.size, 0, none⟩ (.bool x.v6)).setCell ⟨w.heap.size, 1, none⟩ (.int .u64 x.hi)).setCell ⟨w.heap.size, 2, none⟩ (.int .u64 x.lo)).setCell ⟨w.heap.size + 1, 0, none⟩ (.bool true) = W4 at m0 m1 m2 m6 hbb ⊢
 refine leaves_cons (f := 30) (args := #[.pointer (some ⟨w.heap.size, 0, none⟩), .pointer (some ⟨w.heap.size + 1, 0, none⟩)]) (by simp) (by simp [go_sem]) ?_
 refine (told_idle _ _ _).mono ?_
 rintro e u' w'' ⟨rfl, rfl, rfl⟩
 simp [Leaves, settle, results, Tryd.results16, go_sem, m0, m1, m2, m6]
 exact hbb
set_option maxRecDepth 100000 in
set_option maxHeartbeats 4000000 in
theorem told_four_bad (s : ByteArray) (w : World) (hc : ∀ W, Calls Tryd.prog 31 #[.string s, .string ⟨#[58]⟩] W fun e w' => e = .returned (.bool false) ∧ w' = W) (hx : ∀ W, Below w.heap.size w W → Calls Tryd.prog 33 #[.string s] W fun e w' => e = .panicked [badE] ∧ Below W.heap.size W w') :
  Calls Tryd.prog 16 #[.string s] w fun e w' => e = .returned (.tuple #[.agg #[.bool false, .int .u64 0, .int .u64 0], .bool false]) ∧ Below w.heap.size w w' := by
 have hmf : ∀ (fn : Fn) (first cap : Array Value) (w : World), (Instr.makeFunc fn first cap).run Tryd.prog w = .ok (.func fn first cap) w := fun _ _ _ _ => rfl
 have HC : Hid (∀ W, Calls Tryd.prog 31 #[.string s, .string ⟨#[58]⟩] W fun e w' => e = .returned (.bool false) ∧ w' = W) := Lib.hid hc
 have HX := Lib.hid hx
 clear hc hx
 go_enter_defers Tryd.func16, Tryd.ntmps16
 have hz1 : ((w.alloc (.cells #[.bool false, .int .u64 0, .int .u64 0] 24)).alloc (.cells #[.bool false] 4)).heap[w.heap.size]? = some (.cells #[.bool false, .int .u64 0, .int .u64 0] 24 (0, 0)) := by
  rw [heap_push, if_neg (by simp only [World.size_alloc]; omega), heap_push, if_pos rfl]
 have hz2 : ((w.alloc (.cells #[.bool false, .int .u64 0, .int .u64 0] 24)).alloc (.cells #[.bool false] 4)).heap[w.heap.size + 1]? = some (.cells #[.bool false] 4 (0, 0)) := by
  rw [heap_push, if_pos (by simp)]
 have hz3 : Below w.heap.size w ((w.alloc (.cells #[.bool false, .int .u64 0, .int .u64 0] 24)).alloc (.cells #[.bool false] 4)) := ((Below.refl _ w).alloc (Nat.le_refl _) _).alloc (by simp) _
 go_wp2_with (first | (go_at_call 31; refine (HC.out _).mono ?_; rintro e w2 ⟨rfl, hw2⟩; have hw2 := hw2.symm; subst hw2) | (go_at_call 33; refine (HX.out _ hz3).mono ?_; rintro e w3 ⟨he, hb3⟩; have he : e = .panicked [badE] := he; subst he; have i3 := heap_below hb3 hz1; have i4 := heap_below hb3 hz2; have hb4 := hz3.trans (hb3.mono hz3.size); clear hb3 hz1 hz2 hz3 HC; obtain ⟨n0, n1, n2, n3, n4, n5⟩ := three_cells i3; obtain ⟨n6, n7⟩ := cell_of_box_l i4))
 refine leaves_cons (f := 30) (args := #[.pointer (some ⟨w.heap.size, 0, none⟩), .pointer (some ⟨w.heap.size + 1, 0, none⟩)]) (by simp) (by simp [go_sem]) ?_
 refine (told_catch w.heap.size w3 (.bool false) (.int .u64 0) (.int .u64 0) (.bool false) [] i3 i4).mono ?_
 rintro e u' w'' ⟨rfl, rfl, rfl⟩
 have g1 := (Below.heap_alloc w3 (.cells #[] 60) _ (Array.getElem?_eq_some_iff.1 i3).1).trans i3
 have g2 := (Below.heap_alloc w3 (.cells #[] 60) _ (Array.getElem?_eq_some_iff.1 i4).1).trans i4
 obtain ⟨j1, j2, j3⟩ := laidNo_spec g1 g2
 obtain ⟨m0, m1, m2, _⟩ := three_cells j1
 obtain ⟨m6, _⟩ := cell_of_box_l j2
 have hbb := (hb4.alloc hb4.size (.cells #[] 60)).trans j3
 generalize laidNo (w3.alloc (.cells #[] 60)) w.heap.size = W4 at m0 m1 m2 m6 hbb ⊢
 simp [Leaves, settle, results, Tryd.results16, go_sem, m0, m1, m2, m6]
 exact hbb
set_option maxRecDepth 100000 in
set_option maxHeartbeats 4000000 in
theorem told_sixteen_bad (s : ByteArray) (w : World) (hc : ∀ W, Calls Tryd.prog 31 #[.string s, .string ⟨#[58]⟩] W fun e w' => e = .returned (.bool true) ∧ w' = W) (hx : ∀ W, Below w.heap.size w W → Calls Tryd.prog 32 #[.string s] W fun e w' => e = .panicked [badE] ∧ Below W.heap.size W w') :
  Calls Tryd.prog 16 #[.string s] w fun e w' => e = .returned (.tuple #[.agg #[.bool false, .int .u64 0, .int .u64 0], .bool false]) ∧ Below w.heap.size w w' := by
 have hmf : ∀ (fn : Fn) (first cap : Array Value) (w : World), (Instr.makeFunc fn first cap).run Tryd.prog w = .ok (.func fn first cap) w := fun _ _ _ _ => rfl
 have HC : Hid (∀ W, Calls Tryd.prog 31 #[.string s, .string ⟨#[58]⟩] W fun e w' => e = .returned (.bool true) ∧ w' = W) := Lib.hid hc
 have HX := Lib.hid hx
 clear hc hx
 go_enter_defers Tryd.func16, Tryd.ntmps16
 have hz1 : ((w.alloc (.cells #[.bool false, .int .u64 0, .int .u64 0] 24)).alloc (.cells #[.bool false] 4)).heap[w.heap.size]? = some (.cells #[.bool false, .int .u64 0, .int .u64 0] 24 (0, 0)) := by
  rw [heap_push, if_neg (by simp only [World.size_alloc]; omega), heap_push, if_pos rfl]
 have hz2 : ((w.alloc (.cells #[.bool false, .int .u64 0, .int .u64 0] 24)).alloc (.cells #[.bool false] 4)).heap[w.heap.size + 1]? = some (.cells #[.bool false] 4 (0, 0)) := by
  rw [heap_push, if_pos (by simp)]
 have hz3 : Below w.heap.size w ((w.alloc (.cells #[.bool false, .int .u64 0, .int .u64 0] 24)).alloc (.cells #[.bool false] 4)) := ((Below.refl _ w).alloc (Nat.le_refl _) _).alloc (by simp) _
 go_wp2_with (first | (go_at_call 31; refine (HC.out _).mono ?_; rintro e w2 ⟨rfl, hw2⟩; have hw2 := hw2.symm; subst hw2) | (go_at_call 32; refine (HX.out _ hz3).mono ?_; rintro e w3 ⟨he, hb3⟩; have he : e = .panicked [badE] := he; subst he; have i3 := heap_below hb3 hz1; have i4 := heap_below hb3 hz2; have hb4 := hz3.trans (hb3.mono hz3.size); clear hb3 hz1 hz2 hz3 HC; obtain ⟨n0, n1, n2, n3, n4, n5⟩ := three_cells i3; obtain ⟨n6, n7⟩ := cell_of_box_l i4))
 refine leaves_cons (f := 30) (args := #[.pointer (some ⟨w.heap.size, 0, none⟩), .pointer (some ⟨w.heap.size + 1, 0, none⟩)]) (by simp) (by simp [go_sem]) ?_
 refine (told_catch w.heap.size w3 (.bool false) (.int .u64 0) (.int .u64 0) (.bool false) [] i3 i4).mono ?_
 rintro e u' w'' ⟨rfl, rfl, rfl⟩
 have g1 := (Below.heap_alloc w3 (.cells #[] 60) _ (Array.getElem?_eq_some_iff.1 i3).1).trans i3
 have g2 := (Below.heap_alloc w3 (.cells #[] 60) _ (Array.getElem?_eq_some_iff.1 i4).1).trans i4
 obtain ⟨j1, j2, j3⟩ := laidNo_spec g1 g2
 obtain ⟨m0, m1, m2, _⟩ := three_cells j1
 obtain ⟨m6, _⟩ := cell_of_box_l j2
 have hbb := (hb4.alloc hb4.size (.cells #[] 60)).trans j3
 generalize laidNo (w3.alloc (.cells #[] 60)) w.heap.size = W4 at m0 m1 m2 m6 hbb ⊢
 simp [Leaves, settle, results, Tryd.results16, go_sem, m0, m1, m2, m6]
 exact hbb
theorem told_walk (s : ByteArray) (hs : s.size ≤ 4294967200) (w : World) (hG : Glob Tryd.prog w) :
  Calls Tryd.prog 16 #[.string s] w fun e w' => e = .returned (.tuple #[.agg #[.bool (toldA s).v6, .int .u64 (toldA s).hi, .int .u64 (toldA s).lo], .bool (toldF s).isSome]) ∧ Below w.heap.size w w' := by
 have hc : ∀ W, Calls Tryd.prog 31 #[.string s, .string ⟨#[58]⟩] W fun e w' => e = .returned (.bool (colonIn s)) ∧ w' = W := fun W => Go.Proofs.Tryd.strings_Contains_one s 58 W
 unfold toldA toldF
 cases hcs : colonIn s with
 | true =>
  rw [hcs] at hc
  rw [if_pos rfl]
  have hx : ∀ W, Below w.heap.size w W → Calls Tryd.prog 32 #[.string s] W fun e w' => EndA (sixteenF s) e ∧ Below W.heap.size W w' := fun W hb => sixteen_walk s hs W (hG.mono hb)
  cases h : sixteenF s with
  | some a => rw [h] at hx; exact told_sixteen s w a hc hx
  | none => rw [h] at hx; exact told_sixteen_bad s w hc hx
 | false =>
  rw [hcs] at hc
  rw [if_neg (by decide)]
  have hx : ∀ W, Below w.heap.size w W → Calls Tryd.prog 33 #[.string s] W fun e w' => EndU (fourF s) e ∧ Below W.heap.size W w' := fun W hb => four_walk s hs W (hG.mono hb)
  cases h : fourF s with
  | some u => rw [h] at hx; exact told_four s w u hc hx
  | none => rw [h] at hx; exact told_four_bad s w hc hx
noncomputable def addr_told_con : Con := con [.one (.fl .str)] [.one (.fl .addr), .one (.fl .bool)] (fun x => addr_told_t x.1)
theorem addr_told_ok : TrOk Tryd.prog 16 addr_told_con := con_of _ _ _ fun x y hx ρ us vals w hG hu => by
 obtain ⟨s, z⟩ := x
 have hd := hu.den _ (gives_nameOf us)
 have hvals : vals = [.string s] := hd.symm
 subst hvals
 unfold addr_told_t at hx
 obtain ⟨hq, hx⟩ := req_some hx
 injection hx with hx
 subst hx
 refine (told_walk s (Nat.le_of_ble_eq_true hq) w hG).mono ?_
 rintro e w' ⟨rfl, hb⟩
 exact ⟨fun _ => Go.undef, .tup [.agg [.b (toldA s).v6, .i .u64 (toldA s).hi, .i .u64 (toldA s).lo], .b (toldF s).isSome], [], rfl, ⟨hb, fun j o h => by simp at h, fun i j o o' _ h => by simp at h, fun j o h => by simp at h⟩, rfl⟩
end Go.Proofs.YtafggolijpopeaaDoor
namespace Go.Proofs.YtafggolijpopeaaDoor
open Go Go.Ma
def addr_groups_L3_S : LoopS := { n := 24, base := 0, head := { keep := [2, 3, 7, 8], vals := [.one (.fl .int), .one (.cst (.ptr 0 0)), .one (.cst (.row 1)), .one (.fl .int)], objs := [.blk [.fl .addr] 24 true, .row .str 9 true] }, exits := [⟨some 0, { keep := [7], vals := [.one (.cst (.row 0))], objs := [.row .str 9 true] }⟩] }
noncomputable def addr_groups_env : Env := mkEnv ty fnB [(44, addr_group_con), (26, strconv_FormatUint_con), (27, strings_Join_con)] [(3, (loopTr addr_groups_L3_S (loopN addr_groups_L3 FUEL)))]
theorem addr_groups_envOk : EnvOk Tryd.prog addr_groups_env := envOk tyOk fn_ok (callsCons addr_group_ok (callsCons strconv_FormatUint_ok (callsCons strings_Join_ok callsNil))) _
theorem addr_groups_L3_ok : LOk Tryd.prog (nthLoop (codeOf Tryd.f29) 0) (loopTr addr_groups_L3_S (loopN addr_groups_L3 FUEL)) := by
 have h : loopsOf (nthLoop (codeOf Tryd.f29) 0) = [] := by kernel_rfl
 refine loop_ok addr_groups_envOk (loopsOk h lsNil) addr_groups_L3_S addr_groups_L3 FUEL (fun rec x => ?_)
 kernel_rfl
noncomputable def addr_groups_con : Con := con [.one (.fl .addr), .one (.fl .int), .one (.fl .int)] [.one (.fl .str)] (fun x => zq0 x.1 x.2.1 x.2.2.1)
theorem addr_groups_ok : TrOk Tryd.prog 29 addr_groups_con := by
 have h : loopsOf (codeOf Tryd.f29) = [(nthLoop (codeOf Tryd.f29) 0)] := by kernel_rfl
 refine con_ok addr_groups_envOk Tryd.func29 (bodyOk h (lsCons (one_loop (t := (loopTr addr_groups_L3_S (loopN addr_groups_L3 FUEL))) (by kernel_rfl) addr_groups_L3_ok) lsNil)) _ _ _ (fun x => ?_)
 kernel_rfl
def addr_Text_L4_S : LoopS := { n := 44, base := 0, head := { keep := [1, 3, 4], vals := [.one (.cst (.ptr 0 0)), .one (.cst (.row 1)), .one (.fl .int)], objs := [.blk [.fl .addr] 24 true, .row .str 9 true] }, exits := [⟨some 0, { keep := [3], vals := [.one (.cst (.row 0))], objs := [.row .str 9 true] }⟩] }
noncomputable def addr_Text_env : Env := mkEnv ty fnB [(26, strconv_FormatUint_con), (27, strings_Join_con), (28, addr_longest_con), (29, addr_groups_con)] [(4, (loopTr addr_Text_L4_S (loopN addr_Text_L4 FUEL)))]
theorem addr_Text_envOk : EnvOk Tryd.prog addr_Text_env := envOk tyOk fn_ok (callsCons strconv_FormatUint_ok (callsCons strings_Join_ok (callsCons addr_longest_ok (callsCons addr_groups_ok callsNil)))) _
theorem addr_Text_L4_ok : LOk Tryd.prog (nthLoop (codeOf Tryd.f15) 0) (loopTr addr_Text_L4_S (loopN addr_Text_L4 FUEL)) := by
 have h : loopsOf (nthLoop (codeOf Tryd.f15) 0) = [] := by kernel_rfl
 refine loop_ok addr_Text_envOk (loopsOk h lsNil) addr_Text_L4_S addr_Text_L4 FUEL (fun rec x => ?_)
 kernel_rfl
theorem addr_Text_key (f0 : type_of% zq5) (f1 : type_of% strings_Join_t) (f2 : type_of% addr_longest_t) (f3 : type_of% zq0) (g0 : type_of% (loopN addr_Text_L4 FUEL)) (x : PsT [.one (.fl .addr)]) : ixF (mkEnv ty fnB [(26, (con [.one (.fl .u64), .one (.fl .int)] [.one (.fl .str)] (fun x => f0 x.1 x.2.1))), (27, (con [.one (.row .str 9), .one (.fl .str)] [.one (.fl .str)] (fun x => f1 x.1 x.2.1))), (28, (con [.one (.fl .addr)] [.one (.fl .int), .one (.fl .int)] (fun x => f2 x.1))), (29, (con [.one (.fl .addr), .one (.fl .int), .one (.fl .int)] [.one (.fl .str)] (fun x => f3 x.1 x.2.1 x.2.2.1)))] [(4, (loopTr addr_Text_L4_S g0))]) Tryd.f15 (encA false [.one (.fl .addr)] x 0).1 (encA false [.one (.fl .addr)] x 0).2 (resR [.one (.fl .str)]) = (fun (a0 : Ad) => (br (!a0.v6)
  ((g0 (((()), (()), (24, ()), ()), ((a0, ()), ([] : List ByteArray), ()))).bind fun y1 =>
  (f1 y1.2.1 (⟨#[46]⟩ : ByteArray)).bind fun y2 =>
  some (y2.1, ()))
  ((f2 a0).bind fun y1 =>
  br (decide (y1.2.1 = 0))
   ((f3 a0 0 8).bind fun y2 =>
   some (y2.1, ()))
   ((f3 a0 0 y1.1).bind fun y2 =>
   req (roomS (catS y2.1 (⟨#[58, 58]⟩ : ByteArray))) <|
   req (i64ok (y1.1 + y1.2.1)) <|
   (f3 a0 (y1.1 + y1.2.1) 8).bind fun y3 =>
   req (roomS (catS (catS y2.1 (⟨#[58, 58]⟩ : ByteArray)) y3.1)) <|
   some (catS (catS y2.1 (⟨#[58, 58]⟩ : ByteArray)) y3.1, ()))) : Option (ByteArray × Unit))) x.1 := by
 kernel_rfl
noncomputable def addr_Text_con : Con := con [.one (.fl .addr)] [.one (.fl .str)] (fun x => addr_Text_t x.1)
theorem addr_Text_ok : TrOk Tryd.prog 15 addr_Text_con := by
 have h : loopsOf (codeOf Tryd.f15) = [(nthLoop (codeOf Tryd.f15) 0)] := by kernel_rfl
 refine con_ok addr_Text_envOk Tryd.func15 (bodyOk h (lsCons (one_loop (t := (loopTr addr_Text_L4_S (loopN addr_Text_L4 FUEL))) (by kernel_rfl) addr_Text_L4_ok) lsNil)) _ _ _ (fun x => ?_)
 exact addr_Text_key zq5 strings_Join_t addr_longest_t zq0 (loopN addr_Text_L4 FUEL) x
noncomputable def addr_Print_env : Env := mkEnv ty fnB [(13, addr_Check_con), (15, addr_Text_con)] []
theorem addr_Print_envOk : EnvOk Tryd.prog addr_Print_env := envOk tyOk fn_ok (callsCons addr_Check_ok (callsCons addr_Text_ok callsNil)) _
noncomputable def addr_Print_con : Con := con [.one (.fl .addr)] [.one (.fl .str), .one (.fl .int)] (fun x => addr_Print_t x.1)
theorem addr_Print_ok : TrOk Tryd.prog 4 addr_Print_con := by
 have h : loopsOf (codeOf Tryd.f4) = [] := by kernel_rfl
 refine con_ok addr_Print_envOk Tryd.func4 (bodyOk h lsNil) _ _ _ (fun x => ?_)
 kernel_rfl
noncomputable def addr_Parse_env : Env := mkEnv ty fnB [(16, addr_told_con)] []
theorem addr_Parse_envOk : EnvOk Tryd.prog addr_Parse_env := envOk tyOk fn_ok (callsCons addr_told_ok callsNil) _
noncomputable def addr_Parse_con : Con := con [.one (.fl .str)] [.one (.fl .addr), .one (.fl .int)] (fun x => addr_Parse_t x.1)
theorem addr_Parse_ok : TrOk Tryd.prog 5 addr_Parse_con := by
 have h : loopsOf (codeOf Tryd.f5) = [] := by kernel_rfl
 refine con_ok addr_Parse_envOk Tryd.func5 (bodyOk h lsNil) _ _ _ (fun x => ?_)
 kernel_rfl
noncomputable def law_addrBegun_env : Env := mkEnv ty fnB [(5, addr_Parse_con), (4, addr_Print_con), (6, addr_Next_con), (7, addr_Less_con), (25, law_v4_con)] []
theorem law_addrBegun_envOk : EnvOk Tryd.prog law_addrBegun_env := envOk tyOk fn_ok (callsCons addr_Parse_ok (callsCons addr_Print_ok (callsCons addr_Next_ok (callsCons addr_Less_ok (callsCons law_v4_ok callsNil))))) _
noncomputable def law_addrBegun_con : Con := con [] [.one (.fl .bool)] (fun x => zq3)
theorem law_addrBegun_ok : TrOk Tryd.prog 12 law_addrBegun_con := by
 have h : loopsOf (codeOf Tryd.f12) = [] := by kernel_rfl
 refine con_ok law_addrBegun_envOk Tryd.func12 (bodyOk h lsNil) _ _ _ (fun x => ?_)
 kernel_rfl
noncomputable def law_AddrTells_env : Env := mkEnv ty fnB [(4, addr_Print_con), (5, addr_Parse_con), (6, addr_Next_con), (7, addr_Less_con), (8, R_CheckAddr_con), (9, R_TextOf_con), (10, R_NextOf_con), (11, R_ParseOf_con), (12, law_addrBegun_con), (13, addr_Check_con), (14, R_IsAhead_con)] []
theorem law_AddrTells_envOk : EnvOk Tryd.prog law_AddrTells_env := envOk tyOk fn_ok (callsCons addr_Print_ok (callsCons addr_Parse_ok (callsCons addr_Next_ok (callsCons addr_Less_ok (callsCons R_CheckAddr_ok (callsCons R_TextOf_ok (callsCons R_NextOf_ok (callsCons R_ParseOf_ok (callsCons law_addrBegun_ok (callsCons addr_Check_ok (callsCons R_IsAhead_ok callsNil))))))))))) _
noncomputable def law_AddrTells_con : Con := con [.one (.fl .addr), .one (.fl .addr), .one (.fl .str)] [.one (.fl .bool)] (fun x => law_AddrTells_t x.1 x.2.1 x.2.2.1)
theorem law_AddrTells_ok : TrOk Tryd.prog 3 law_AddrTells_con := by
 have h : loopsOf (codeOf Tryd.f3) = [] := by kernel_rfl
 refine con_ok law_AddrTells_envOk Tryd.func3 (bodyOk h lsNil) _ _ _ (fun x => ?_)
 kernel_rfl
end Go.Proofs.YtafggolijpopeaaDoor
namespace Go.Ma
open Go
theorem laidVars_reads {P : Program} {w : World} : ∀ {l : List (String × DataW Unit)} {ps : List MemPlace}, DataW.LaidVars P w l ps → ∀ n d, (n, d) ∈ l → ∃ g t cs fuel p, P.globalNamed n = some g ∧ (P.globals[g]?).map (·.type) = some t ∧ w.var? P n = some cs ∧ DataW.trod (fun _ => ()) P w 0 (fun _ => true) false fuel t cs.toList = some (d, p)
 | [], _, _, _, _, hm => by cases hm
 | (n', d') :: r, ps, h, n, d, hm => by
  obtain ⟨g, t, cs, fuel, p, q, h1, h2, h3, h4, h5, _⟩ := h
  rcases List.mem_cons.1 hm with e | e
  ·cases e
   exact ⟨g, t, cs, fuel, p, h1, h2, h3, h4⟩
  ·exact laidVars_reads h5 n d e
theorem heap_of_var {P : Program} {w : World} {n : String} {g : Nat} {cs : Array Value} (hg : P.globalNamed n = some g) (h : w.var? P n = some cs) : ∃ t z, w.heap[g]? = some (.cells cs t z) := by
 unfold World.var? at h
 rw [hg, Option.bind_some] at h
 split at h
 ·rename_i c t z hh
  injection h with h
  exact ⟨t, z, by rw [hh, h]⟩
 ·cases h
def numB (P : Program) (n : String) : Bool := match P.globalNamed n with
 | none => true
 | some g => match ((begin P (fun _ _ => 0) default).world.heap[g]?).bind Obj.row? with
  | some (zero, t) => decide (g < P.globals.size) && zero.size == 1 && P.buildable t && (match P.cellTypes P.depth t with | some [u] => u == t | _ => false) && (match P.underlying t with | some (.int k) => (match k with | .i64 => true | _ => false) | _ => false)
  | none => false
theorem num_of_B {P : Program} {w : World} (hS : w.ShapedOpen P) {n : String} (h : numB P n = true) {g : Nat} (hg : P.globalNamed n = some g) : ∃ m, w.cell? ⟨g, 0, none⟩ = some (.int .i64 m) := by
 unfold numB at h
 rw [hg] at h
 simp only at h
 split at h
 ·rename_i zero t hz
  simp only [Bool.and_eq_true, decide_eq_true_eq, beq_iff_eq] at h
  obtain ⟨⟨⟨⟨h1, h2⟩, h3⟩, h4⟩, h5⟩ := h
  split at h4
  ·rename_i u hu
   have h4 := eq_of_beq h4
   subst h4
   split at h5
   ·rename_i k hk
    split at h5
    ·exact Go.Proofs.cell_of_shapedOpen_int hS h1 hz h2 h3 hu hk
    ·cases h5
   ·cases h5
  ·cases h4
 ·cases h
def errB (P : Program) (laid : List (String × DataW Unit)) (n : String) : Bool := match P.globalNamed n with
 | none => true
 | some g => (laid.any fun x => x.1 == n && (match x.2 with | .iface _ (.ptr _) => true | _ => false)) && (match (P.globals[g]?).map (·.type) with | some t => (match P.underlying t with | some (.interface _) => true | _ => false) | none => false)
theorem err_of_B {P : Program} {w : World} {laid : List (String × DataW Unit)} (hL : laidMet P laid w) {n : String} (h : errB P laid n = true) {g : Nat} (hg : P.globalNamed n = some g) : ∃ ev, w.cell? ⟨g, 0, none⟩ = some ev ∧ (ev = .nilIface ∨ ∃ te pe, ev = .iface te pe) := by
 unfold errB at h
 rw [hg] at h
 simp only [Bool.and_eq_true, List.any_eq_true, beq_iff_eq] at h
 obtain ⟨⟨⟨n', d⟩, hm, rfl, hd⟩, ht⟩ := h
 obtain ⟨ps, hv, _⟩ := hL
 obtain ⟨g', t, cs, fuel, p, h1, h2, h3, h4⟩ := laidVars_reads hv _ _ hm
 obtain rfl := Option.some.inj (hg.symm.trans h1)
 rw [h2] at ht
 simp only at ht
 split at ht
 ·rename_i ms hi
  simp only at hd
  split at hd
  ·obtain ⟨f1, u, v, hcs, _⟩ := iface_of_trod hi h4
   obtain ⟨t', z, hh⟩ := heap_of_var h1 h3
   refine ⟨.iface u v, ?_, .inr ⟨_, _, rfl⟩⟩
   obtain ⟨l⟩ := cs
   simp only at hcs
   subst hcs
   simp [World.cell?, hh]
  ·cases hd
 ·cases ht
def tabGo (k : IntKind) : List (DataW Unit) → List Int → Bool
 | [], [] => true
 | .lit (.int k' z') :: l, z :: zs => decide (k' = k) && decide (z' = z) && tabGo k l zs
 | _, _ => false
theorem tabGo_eq (k : IntKind) : ∀ (l : List (DataW Unit)) (zs : List Int), tabGo k l zs = true → l = zs.map fun z => .lit (.int k z)
 | [], [], _ => rfl
 | [], _ :: _, h => by simp [tabGo] at h
 | d :: l, [], h => by cases d with
  | lit x => cases x <;> simp [tabGo] at h
  | _ => simp [tabGo] at h
 | d :: l, z :: zs, h => by
  cases d with
  | lit x => cases x with
   | int k' z' =>
    simp only [tabGo, Bool.and_eq_true, decide_eq_true_eq] at h
    obtain ⟨⟨rfl, rfl⟩, h⟩ := h
    rw [tabGo_eq _ l zs h]
    rfl
   | _ => simp [tabGo] at h
  | _ => simp [tabGo] at h
def tabB (P : Program) (laid : List (String × DataW Unit)) (n : String) (k : IntKind) (zs : List Int) : Bool := match P.globalNamed n with
 | none => true
 | some g => (laid.any fun x => x.1 == n && (match x.2 with | .agg l => tabGo k l zs | _ => false)) && (match (P.globals[g]?).map (·.type) with | some t => (match P.underlying t with | some (.array m e) => decide (P.cellsOf t = m) && decide (P.cellsOf e = 1) && (match P.underlying e with | some (.int k') => decide (k' = k) | _ => false) | _ => false) | none => false)
theorem tab_of_B {P : Program} {w : World} {laid : List (String × DataW Unit)} (hL : laidMet P laid w) {n : String} {k : IntKind} {zs : List Int} (h : tabB P laid n k zs = true) {g : Nat} (hg : P.globalNamed n = some g) : ∃ t z, w.heap[g]? = some (.cells (zs.map (Value.int k)).toArray t z) := by
 unfold tabB at h
 rw [hg] at h
 simp only [Bool.and_eq_true, List.any_eq_true, beq_iff_eq] at h
 obtain ⟨⟨⟨n', d⟩, hm, rfl, hd⟩, ht⟩ := h
 obtain ⟨ps, hv, _⟩ := hL
 obtain ⟨g', t, cs, fuel, p, h1, h2, h3, h4⟩ := laidVars_reads hv _ _ hm
 obtain rfl := Option.some.inj (hg.symm.trans h1)
 rw [h2] at ht
 simp only at ht
 split at ht
 ·rename_i m e hu
  simp only [Bool.and_eq_true, decide_eq_true_eq] at ht
  obtain ⟨⟨hc, he⟩, hk⟩ := ht
  split at hk
  ·rename_i k' hk'
   have hk := of_decide_eq_true hk
   subst hk
   simp only at hd
   split at hd
   ·rename_i l
    have := tabGo_eq _ _ _ hd
    subst this
    have := Lib.cells_of_tab hu hk' he hc h4
    obtain ⟨t', z, hh⟩ := heap_of_var h1 h3
    exact ⟨t', z, by rw [hh]; congr 1; rw [← this]⟩
   ·cases hd
  ·cases hk
 ·cases ht
theorem cells_of_stab {H : Type} {enc : TypeId × Value → H} {P : Program} {w : World} {base : Nat} {sp : Nat → Bool} {held : Bool} {fuel : Nat} {t e : TypeId} {n : Nat} {cs : List Value} {zs : List ByteArray} {p : List MemPlace}
  (ht : P.underlying t = some (.array n e)) (he : P.underlying e = some .string) (hce : P.cellsOf e = 1) (hct : P.cellsOf t = n)
  (h : DataW.trod enc P w base sp held fuel t cs = some (.agg (zs.map fun z => .lit (.string z.data.toList)), p)) : cs = zs.map Value.string := by
 cases fuel with
 | zero => simp [DataW.trod] at h
 | succ fuel =>
  simp only [DataW.trod, ht, hce, hct, Nat.mul_one] at h
  split at h
  ·rename_i hl
   obtain ⟨xs, hm, hx⟩ := Option.map_eq_some_iff.1 h
   have hxs : xs.map (·.1) = zs.map fun z => (DataW.lit (.string z.data.toList) : DataW H) := by
    have := congrArg Prod.fst hx
    simpa using this
   have hxl : xs.length = n := by simpa using Lib.mapM_length hm
   have hzl : zs.length = n := by
    have := congrArg List.length hxs
    simp at this
    omega
   apply List.ext_getElem?
   intro i
   by_cases hi : i < n
   ·obtain ⟨b, hb, hf⟩ := Lib.mapM_at hm i i (by simp [hi])
    obtain ⟨z, hc, rfl, _⟩ := DataW.trod_string he hf
    have h1 : cs[i]? = some (.string z) := by
     have := congrArg (·[0]?) hc
     simpa [List.getElem?_take, List.getElem?_drop] using this
    have h2 : (xs.map (·.1))[i]? = some (DataW.lit (.string z.data.toList) : DataW H) := by simp [hb]
    rw [hxs] at h2
    simp only [List.getElem?_map, Option.map_eq_some_iff, DataW.lit.injEq, Lit.string.injEq] at h2
    obtain ⟨z', hz', hzz⟩ := h2
    have : z' = z := by
     apply ByteArray.ext
     exact Array.toList_inj.1 hzz
    subst this
    simp [h1, hz']
   ·rw [List.getElem?_eq_none (by omega), List.getElem?_eq_none (by simp; omega)]
  ·cases h
def stabGo : List (DataW Unit) → List ByteArray → Bool
 | [], [] => true
 | .lit (.string b) :: l, z :: zs => decide (b = z.data.toList) && stabGo l zs
 | _, _ => false
theorem stabGo_eq : ∀ (l : List (DataW Unit)) (zs : List ByteArray), stabGo l zs = true → l = zs.map fun z => .lit (.string z.data.toList)
 | [], [], _ => rfl
 | [], _ :: _, h => by simp [stabGo] at h
 | d :: l, [], h => by cases d with
  | lit x => cases x <;> simp [stabGo] at h
  | _ => simp [stabGo] at h
 | d :: l, z :: zs, h => by
  cases d with
  | lit x => cases x with
   | string b =>
    simp only [stabGo, Bool.and_eq_true, decide_eq_true_eq] at h
    obtain ⟨rfl, h⟩ := h
    rw [stabGo_eq l zs h]
    rfl
   | _ => simp [stabGo] at h
  | _ => simp [stabGo] at h
def stabB (P : Program) (laid : List (String × DataW Unit)) (n : String) (zs : List ByteArray) : Bool := match P.globalNamed n with
 | none => true
 | some g => (laid.any fun x => x.1 == n && (match x.2 with | .agg l => stabGo l zs | _ => false)) && (match (P.globals[g]?).map (·.type) with | some t => (match P.underlying t with | some (.array m e) => decide (P.cellsOf t = m) && decide (P.cellsOf e = 1) && (match P.underlying e with | some .string => true | _ => false) | _ => false) | none => false)
theorem stab_of_B {P : Program} {w : World} {laid : List (String × DataW Unit)} (hL : laidMet P laid w) {n : String} {zs : List ByteArray} (h : stabB P laid n zs = true) {g : Nat} (hg : P.globalNamed n = some g) : ∃ t z, w.heap[g]? = some (.cells (zs.map Value.string).toArray t z) := by
 unfold stabB at h
 rw [hg] at h
 simp only [Bool.and_eq_true, List.any_eq_true, beq_iff_eq] at h
 obtain ⟨⟨⟨n', d⟩, hm, rfl, hd⟩, ht⟩ := h
 obtain ⟨ps, hv, _⟩ := hL
 obtain ⟨g', t, cs, fuel, p, h1, h2, h3, h4⟩ := laidVars_reads hv _ _ hm
 obtain rfl := Option.some.inj (hg.symm.trans h1)
 rw [h2] at ht
 simp only at ht
 split at ht
 ·rename_i m e hu
  simp only [Bool.and_eq_true, decide_eq_true_eq] at ht
  obtain ⟨⟨hc, he⟩, hk⟩ := ht
  split at hk
  ·rename_i hk'
   simp only at hd
   split at hd
   ·rename_i l
    have := stabGo_eq _ _ hd
    subst this
    have := cells_of_stab hu hk' he hc h4
    obtain ⟨t', z, hh⟩ := heap_of_var h1 h3
    exact ⟨t', z, by rw [hh]; congr 1; rw [← this]⟩
   ·cases hd
  ·cases hk
 ·cases ht
def globB (P : Program) (laid : List (String × DataW Unit)) : Bool := numB P "internal/bytealg.MaxLen" && errB P laid "strconv.ErrSyntax" && errB P laid "strconv.ErrRange" && tabB P laid "internal/strconv.uint64pow10" .u64 pow10s && tabB P laid "math/bits.deBruijn64tab" .u8 places64 && stabB P laid "yardarm/text.words" wordsL
theorem Glob.of_B {P : Program} {w : World} {laid : List (String × DataW Unit)} (hS : w.ShapedOpen P) (hL : laidMet P laid w) (h : globB P laid = true) : Glob P w := by
 simp only [globB, Bool.and_eq_true] at h
 obtain ⟨⟨⟨⟨⟨h1, h2⟩, h3⟩, h4⟩, h5⟩, h6⟩ := h
 refine ⟨fun g hg => num_of_B hS h1 hg, fun n g hn hg => ?_, fun g hg => tab_of_B hL h4 hg, fun g hg => tab_of_B hL h5 hg, fun g hg => stab_of_B hL h6 hg⟩
 rcases hn with rfl | rfl
 ·exact err_of_B hL h2 hg
 ·exact err_of_B hL h3 hg
end Go.Ma
namespace Go.Proofs.YtafggolijpopeaaDoor.addrTells
open Go Go.Ma Go.ChangeShapes Go.WideShapes Go.ChangeAt Go.RowKit
set_option linter.unusedVariables false
theorem own : ownKnob Tryd.prog.godebug = none := by kernel_rfl
theorem laidOut : laidOutB Tryd.prog = true := by kernel_rfl
theorem one {H : Type} (d : DataW H) : 1 ≤ Rows.uptoBulk d := by
 cases d with
 | lit l => cases l <;> simp [Rows.uptoBulk]
 | _ => simp [Rows.uptoBulk]
theorem len {H : Type} : ∀ l : List (DataW H), l.length ≤ Rows.uptoBulkAll l
 | [] => Nat.zero_le _
 | d :: r => by
  have h1 := one d
  have h2 := len r
  simp only [Rows.uptoBulkAll, List.length_cons]
  omega
theorem part {H : Type} {d : DataW H} : ∀ {l : List (DataW H)}, d ∈ l → Rows.uptoBulk d ≤ Rows.uptoBulkAll l
 | e :: r, h => by
  simp only [Rows.uptoBulkAll]
  rcases List.mem_cons.1 h with rfl | h
  ·omega
  ·have := part h
   omega
theorem small {H : Type} : Small (H := H) 1048576 (fun d => Rows.uptoBulk d ≤ 1048576) := by
 refine ⟨fun es sp _ h => ?_, fun l q hq h => ?_, fun es sp q hq h => ?_, fun s _ h => ?_⟩
 ·have h1 := len es
  simp only [Rows.uptoBulk] at h
  omega
 ·have h1 := part hq
  simp only [Rows.uptoBulk] at h
  omega
 ·have h1 := part hq
  simp only [Rows.uptoBulk] at h
  omega
 ·simp only [Rows.uptoBulk] at h
  omega
theorem plainly : ∀ x, PsIn [.one (.fl .addr), .one (.fl .addr), .one (.fl .str)] x → PsLe 1048576 [.one (.fl .addr), .one (.fl .addr), .one (.fl .str)] x → (fun x => law_AddrTells_t x.1 x.2.1 x.2.2.1) x = some ((true : Bool), ()) := fun x hx hl => AddrTells_eq hx.1 hx.2.1 hl.2.2.1
set_option maxRecDepth 100000 in
/-- What the walk gives. -/
theorem contract (H : Type) (enc : TypeId × Value → H) (W : World) (base : Nat) (args : Array Value) (ds gs : List (DataW H)) (before : List MemPlace)
  (hval : ∀ (j : Nat) t v, Tryd.f3.params[j]? = some t → args[j]? = some v → Value.okWide Tryd.prog W .any base t v)
  (hW : DataW.Whole enc Tryd.prog Tryd.f3.params.toList Rows.addrTellsSpec.vars false W args.toList ds gs before) (hk : Rows.uptoSmall H (ds ++ gs) = true) (hG : Glob Tryd.prog W) :
  Calls Tryd.prog 3 args W fun e W' => ∃ v, e = .returned v ∧ Rows.addrTellsSpec.post enc Tryd.prog Tryd.f3 false true false false W args v W' := by
 have hW' := hW
 obtain ⟨p, q, hA0, hV, rfl, hfz, hnd⟩ := hW
 have hA : DataW.TrodAll enc Tryd.prog W 0 (fun _ => true) true Tryd.f3.params.toList args.toList ds p := hA0
 rw [Tryd.params3] at hA hval
 have hA2 := hA
 obtain ⟨v0, vs0, d0, ds0, p0, q0, hargs, rfl, rfl, h0, r0⟩ := trodAll_cons hA
 obtain ⟨v1, vs1, d1, ds1, p1, q1, rfl, rfl, rfl, h1, r1⟩ := trodAll_cons r0
 obtain ⟨v2, vs2, d2, ds2, p2, q2, rfl, rfl, rfl, h2, r2⟩ := trodAll_cons r1
 obtain ⟨rfl, rfl, rfl⟩ := trodAll_nil r2
 obtain rfl : args = #[v0, v1, v2] := by cases args; simp_all
 obtain ⟨rfl, rfl⟩ := trodVars_none hV
 have hb : Rows.uptoBulkAll ([d0, d1, d2] ++ []) ≤ 1048576 := of_decide_eq_true hk
 rw [List.append_nil] at hb
 have call := law_calls_le (enc := enc) small hG law_AddrTells_ok plainly (fun x => rfl) (fun x => rfl) (ts := [24, 24, 9]) (vs := [v0, v1, v2]) (by kernel_rfl) (fun j t v h1 h2 => hval j t v (by simpa using h1) (by simpa using h2)) hA2 (fun d hd => Nat.le_trans (part hd) hb)
 refine call.mono fun e W' ⟨he, bel⟩ => ?_
 subst he
 exact ⟨_, rfl, _, _, _, [], _, [], hW', trodAll_mk1 (shut_bool Tryd.underlying4 _), all_back laidOut bel _ _ _ _ (by kernel_rfl) hA2, rfl, bel.frame _, fun h => by cases h⟩
mutual
def flat : DataW Unit → List Value
 | .lit (.int k x) => [.int k x]
 | .agg l => flats l
 | _ => []
def flats : List (DataW Unit) → List Value
 | [] => []
 | d :: r => flat d ++ flats r
end
noncomputable def low : Nat := (World.holding Tryd.prog default ⟨#[], #[], []⟩).heap.size
noncomputable def laidWorld (os : Os) : World :=
 let w0 := World.holding Tryd.prog os ⟨#[.cells #[.string ⟨#[118, 97, 108, 117, 101, 32, 111, 117, 116, 32, 111, 102, 32, 114, 97, 110, 103, 101]⟩] 132, .cells #[.string ⟨#[105, 110, 118, 97, 108, 105, 100, 32, 115, 121, 110, 116, 97, 120]⟩] 132], #[], []⟩
 {w0 with heap := (((((((w0.heap.modify 2 fun | .cells _ t frozen => .cells (flat Rows.laid_math_bits_deBruijn32tab).toArray t frozen | o => o).modify 3 fun | .cells _ t frozen => .cells (flat Rows.laid_math_bits_deBruijn64tab).toArray t frozen | o => o).modify 0 fun | .cells _ t frozen => .cells (flat Rows.laid_internal_strconv_uint64pow10).toArray t frozen | o => o).modify 7 fun | .cells _ t frozen => .cells (flat Rows.laid_unicode_utf8_acceptRanges).toArray t frozen | o => o).modify 5 fun | .cells _ t frozen => .cells #[.iface 130 (.pointer (some ⟨low + 0, 0, none⟩))] t frozen | o => o).modify 4 fun | .cells _ t frozen => .cells #[.iface 130 (.pointer (some ⟨low + 1, 0, none⟩))] t frozen | o => o).modify 6 fun | .cells _ t frozen => .cells (flat Rows.laid_unicode_utf8_first).toArray t frozen | o => o) }
theorem laid_met (os : Os) (args : Array Value) : laidMet Tryd.prog Rows.addrTellsUptoRow.laid ((laidWorld os).forCall (fun _ _ => 0) ⟨#[], args, []⟩).memory :=
 laidMet_of_run' 8 (by kernel_rfl) (by kernel_rfl)
theorem reads (os : Os) {H : Type} (enc : TypeId × Value → H) : ∃ places, DataW.whole enc Tryd.prog ((laidWorld os).forCall (fun _ _ => 0) ⟨#[], #[.agg #[.bool false, .int .u64 0, .int .u64 0], .agg #[.bool false, .int .u64 0, .int .u64 0], .string ByteArray.empty], []⟩).memory Tryd.f3.params.toList Rows.addrTellsSpec.vars false (#[.agg #[.bool false, .int .u64 0, .int .u64 0], .agg #[.bool false, .int .u64 0, .int .u64 0], .string ByteArray.empty] : Array Value).toList 8 = some ([.agg [.lit (.bool false), .lit (.int .u64 0), .lit (.int .u64 0)], .agg [.lit (.bool false), .lit (.int .u64 0), .lit (.int .u64 0)], .lit (.string [])], [], places) :=
 ⟨[], by kernel_rfl⟩
set_option maxRecDepth 100000 in
theorem lifted (os : Os) (started : os.Started) (H : Type) (enc : TypeId × Value → H) (F : Stop.Interp) :
  ReturnsInHanded {} Tryd.checked os 3 .any ((Rows.OpenSpec.upto Rows.addrTellsSpec).preRow enc Tryd.prog Tryd.f3 Rows.addrTellsUptoRow.domain false Rows.addrTellsUptoRow.laid) (((Rows.OpenSpec.upto Rows.addrTellsSpec).at F).post enc Tryd.prog Tryd.f3 false true false false) := by
 obtain ⟨places, hx⟩ := reads os enc
 refine returnsInHanded_of_row (C := Tryd.checked) (s := Rows.OpenSpec.upto Rows.addrTellsSpec) own started (by kernel_rfl) Tryd.func3
  (witness_row_at (enc := enc) (C := Tryd.checked) false (laidWorld os) #[.agg #[.bool false, .int .u64 0, .int .u64 0], .agg #[.bool false, .int .u64 0, .int .u64 0], .string ByteArray.empty] rfl (by kernel_rfl) (by kernel_rfl) (by kernel_rfl)
   (OpenSpec.preRow_of_cond 8 hx (by kernel_rfl) (fun k hk => by cases hk; kernel_rfl) (by kernel_rfl) (laid_met os _))) ?_
 intro W base args ds gs before hval hW _ hcond _ hL hS _
 have hL2 : laidMet Tryd.prog Rows.addrTellsUptoRow.laid W := by rw [← MakeChecks.laidMetH_plain _ _ _ (by kernel_rfl)]; exact hL
 exact contract H enc W base args ds gs before hval hW (hcond _ rfl) (Glob.of_B hS hL2 (by kernel_rfl))
theorem said : Rows.AddrTellsUptoSaid :=
 OpenClaim.holds_of_cond 3 Tryd.f3 rfl rfl rfl rfl rfl rfl rfl ⟨rfl, rfl, rfl, rfl, rfl⟩ rfl rfl rfl rfl rfl (by kernel_rfl) Tryd.func3 (by kernel_rfl)
  (of_decide_eq_true (by kernel_rfl)) (by unfold Func.isWrapper; first | (rw [if_pos (by decide +kernel)]; kernel_rfl) | (rw [if_neg (by decide +kernel)]; exact ⟨rfl, rfl⟩))
  (fun os started H enc _ F => by rw [OpenClaim.pre_eq_preRow]; exact lifted os started H enc F)
theorem plain (f : FuncId) (fn : Func) (hf : Tryd.pinned.checked.prog.funcNamed "yardarm/yardarmlaw.AddrTells" = some f) (hfn : Tryd.pinned.checked.prog.funcs[f]? = some fn) :
  true = Tryd.pinned.checked.prog.looks [] ∧ ∀ (j : Nat) t, fn.params[j]? = some t → Tryd.pinned.checked.prog.wantsStandIn t = false := by
 obtain rfl : f = 3 := Option.some.inj ((show Tryd.prog.funcNamed "yardarm/yardarmlaw.AddrTells" = some 3 by kernel_rfl).symm.trans hf) |>.symm
 obtain rfl : fn = Tryd.f3 := (Option.some.inj (Tryd.func3.symm.trans hfn)).symm
 refine ⟨by kernel_rfl, fun j t ht => ?_⟩
 rw [Tryd.params3] at ht
 have hm := Array.mem_of_getElem? ht
 have hm2 : t = 24 ∨ t = 24 ∨ t = 9 := by simpa using hm
 rcases hm2 with rfl | rfl | rfl
 ·exact (show Tryd.prog.wantsStandIn 24 = false by kernel_rfl)
 ·exact (show Tryd.prog.wantsStandIn 24 = false by kernel_rfl)
 ·exact (show Tryd.prog.wantsStandIn 9 = false by kernel_rfl)
theorem card : Rows.AddrTellsUptoCardSaid :=
 Claim7.holds_tied_plain_at .later [] _ _ _ _ said (fun _ h => by cases h) (by kernel_rfl) (fun _ h => by cases h) addrTellsUpto_row_tie rfl ⟨rfl, rfl⟩ (by kernel_rfl) rfl plain (by kernel_rfl)
end Go.Proofs.YtafggolijpopeaaDoor.addrTells
namespace Go.Proofs.YtafggolijpopeaaDoor
theorem addrTells_said : Rows.AddrTellsUptoCardSaid := addrTells.card
end Go.Proofs.YtafggolijpopeaaDoor
