/-
  The table of the types of this seat, for the executor, and that it says what the program says. Written by a program of mine (wip/tools/Ti.lean).
-/
import Derived.Test.YtghbkkmelbobcaaRows
import Derived.Test.YtghbkkmelbobcaaMaJ
namespace Go.Proofs.Ytghbkkmelbobcaa
open Go Go.Ma
def noTi : TI := { known := false, kind := .other, agg := false, size := 0, zero := [], fields := [], elem := 0 }
def ti_1 : TI := { kind := .other, agg := false, size := 1, zero := [.nilFunc], fields := [], elem := 0, bytes := 8, eq := false, k := none }
def ti_2 : TI := { kind := (.int .i64), agg := false, size := 1, zero := [.int .i64 0], fields := [], elem := 0, bytes := 8, eq := false, k := some .int }
def ti_3 : TI := { kind := (.int .i64), agg := false, size := 1, zero := [.int .i64 0], fields := [], elem := 0, bytes := 8, eq := false, k := some .int }
def ti_4 : TI := { kind := .bool, agg := false, size := 1, zero := [.bool false], fields := [], elem := 0, bytes := 1, eq := false, k := some .bool }
def ti_5 : TI := { kind := (.int .u8), agg := false, size := 1, zero := [.int .u8 0], fields := [], elem := 0, bytes := 1, eq := false, k := some .u8 }
def ti_6 : TI := { kind := (.int .u8), agg := false, size := 1, zero := [.int .u8 0], fields := [], elem := 0, bytes := 1, eq := false, k := some .u8 }
def ti_7 : TI := { kind := .struct, agg := true, size := 4, zero := [.int .i64 0, .int .i64 0, .bool false, .int .u8 0], fields := [(0, 2), (1, 3), (2, 4), (3, 6)], elem := 0, bytes := 24, eq := false, k := none }
def ti_8 : TI := { kind := .struct, agg := true, size := 4, zero := [.int .i64 0, .int .i64 0, .bool false, .int .u8 0], fields := [(0, 2), (1, 3), (2, 4), (3, 6)], elem := 0, bytes := 24, eq := false, k := none }
def ti_9 : TI := { kind := .str, agg := false, size := 1, zero := [.string .empty], fields := [], elem := 0, bytes := 16, eq := false, k := some .str }
def ti_10 : TI := { kind := .str, agg := false, size := 1, zero := [.string .empty], fields := [], elem := 0, bytes := 16, eq := false, k := some .str }
def ti_11 : TI := { kind := .str, agg := false, size := 1, zero := [.string .empty], fields := [], elem := 0, bytes := 16, eq := false, k := some .str }
def ti_12 : TI := { kind := (.int .u64), agg := false, size := 1, zero := [.int .u64 0], fields := [], elem := 0, bytes := 8, eq := false, k := some .u64 }
def ti_13 : TI := { kind := .struct, agg := true, size := 2, zero := [.string .empty, .int .u64 0], fields := [(0, 9), (1, 12)], elem := 0, bytes := 24, eq := false, k := none }
def ti_14 : TI := { kind := .struct, agg := true, size := 2, zero := [.string .empty, .int .u64 0], fields := [(0, 9), (1, 12)], elem := 0, bytes := 24, eq := false, k := none }
def ti_15 : TI := { kind := .other, agg := false, size := 1, zero := [.pointer none], fields := [], elem := 0, bytes := 8, eq := false, k := none }
def ti_16 : TI := { kind := .other, agg := false, size := 1, zero := [.pointer none], fields := [], elem := 0, bytes := 8, eq := false, k := none }
def ti_17 : TI := { kind := .other, agg := false, size := 1, zero := [.pointer none], fields := [], elem := 0, bytes := 8, eq := false, k := none }
def ti_18 : TI := { kind := .struct, agg := true, size := 1, zero := [.pointer none], fields := [(0, 17)], elem := 0, bytes := 8, eq := false, k := none }
def ti_19 : TI := { kind := .struct, agg := true, size := 1, zero := [.pointer none], fields := [(0, 17)], elem := 0, bytes := 8, eq := false, k := none }
def ti_20 : TI := { kind := .other, agg := false, size := 1, zero := [.nilIface], fields := [], elem := 0, bytes := 16, eq := false, k := none }
def ti_21 : TI := { kind := (.int .i32), agg := false, size := 1, zero := [.int .i32 0], fields := [], elem := 0, bytes := 4, eq := false, k := none }
def ti_22 : TI := { kind := .slice, agg := false, size := 1, zero := [.slice none 0 0], fields := [], elem := 37, bytes := 24, eq := false, k := none }
def ti_23 : TI := { kind := (.int .u64), agg := false, size := 1, zero := [.int .u64 0], fields := [], elem := 0, bytes := 8, eq := false, k := some .u64 }
def ti_24 : TI := { kind := .struct, agg := true, size := 3, zero := [.bool false, .int .u64 0, .int .u64 0], fields := [(0, 4), (1, 23), (2, 23)], elem := 0, bytes := 24, eq := false, k := none }
def ti_25 : TI := { kind := .struct, agg := true, size := 3, zero := [.bool false, .int .u64 0, .int .u64 0], fields := [(0, 4), (1, 23), (2, 23)], elem := 0, bytes := 24, eq := true, k := some .addr }
def ti_26 : TI := { kind := (.int .i64), agg := false, size := 1, zero := [.int .i64 0], fields := [], elem := 0, bytes := 8, eq := false, k := some .int }
def ti_28 : TI := { kind := .other, agg := false, size := 1, zero := [.nilFunc], fields := [], elem := 0, bytes := 8, eq := false, k := none }
def ti_29 : TI := { kind := .other, agg := false, size := 1, zero := [.nilFunc], fields := [], elem := 0, bytes := 8, eq := false, k := none }
def ti_30 : TI := { kind := .slice, agg := false, size := 1, zero := [.slice none 0 0], fields := [], elem := 3, bytes := 24, eq := false, k := none }
def ti_32 : TI := { kind := .other, agg := false, size := 1, zero := [.nilFunc], fields := [], elem := 0, bytes := 8, eq := false, k := none }
def ti_33 : TI := { kind := .other, agg := false, size := 1, zero := [.nilFunc], fields := [], elem := 0, bytes := 8, eq := false, k := none }
def ti_34 : TI := { kind := .other, agg := false, size := 1, zero := [.nilFunc], fields := [], elem := 0, bytes := 8, eq := false, k := none }
def ti_35 : TI := { kind := .other, agg := false, size := 1, zero := [.nilFunc], fields := [], elem := 0, bytes := 8, eq := false, k := none }
def ti_36 : TI := { kind := .struct, agg := true, size := 4, zero := [.bool false, .int .u64 0, .int .u64 0, .int .i64 0], fields := [(0, 25), (3, 3)], elem := 0, bytes := 32, eq := false, k := none }
def ti_37 : TI := { kind := .struct, agg := true, size := 4, zero := [.bool false, .int .u64 0, .int .u64 0, .int .i64 0], fields := [(0, 25), (3, 3)], elem := 0, bytes := 32, eq := true, k := some .pfx }
def ti_38 : TI := { kind := .other, agg := false, size := 1, zero := [.nilFunc], fields := [], elem := 0, bytes := 8, eq := false, k := none }
def ti_39 : TI := { kind := .other, agg := false, size := 1, zero := [.nilFunc], fields := [], elem := 0, bytes := 8, eq := false, k := none }
def ti_40 : TI := { kind := .other, agg := false, size := 1, zero := [.nilFunc], fields := [], elem := 0, bytes := 8, eq := false, k := none }
def ti_41 : TI := { kind := .other, agg := false, size := 1, zero := [.nilFunc], fields := [], elem := 0, bytes := 8, eq := false, k := none }
def ti_42 : TI := { kind := .other, agg := false, size := 1, zero := [.nilFunc], fields := [], elem := 0, bytes := 8, eq := false, k := none }
def ti_43 : TI := { kind := .other, agg := false, size := 1, zero := [.nilFunc], fields := [], elem := 0, bytes := 8, eq := false, k := none }
def ti_44 : TI := { kind := .other, agg := false, size := 1, zero := [.nilFunc], fields := [], elem := 0, bytes := 8, eq := false, k := none }
def ti_45 : TI := { kind := .other, agg := false, size := 1, zero := [.nilFunc], fields := [], elem := 0, bytes := 8, eq := false, k := none }
def ti_46 : TI := { kind := .other, agg := false, size := 1, zero := [.map none], fields := [], elem := 0, bytes := 8, eq := false, k := none }
def ti_47 : TI := { kind := .other, agg := false, size := 1, zero := [.nilFunc], fields := [], elem := 0, bytes := 8, eq := false, k := none }
def ti_48 : TI := { kind := .other, agg := false, size := 1, zero := [.nilFunc], fields := [], elem := 0, bytes := 8, eq := false, k := none }
def ti_49 : TI := { kind := .other, agg := false, size := 1, zero := [.nilFunc], fields := [], elem := 0, bytes := 8, eq := false, k := none }
def ti_50 : TI := { kind := .other, agg := false, size := 1, zero := [.nilFunc], fields := [], elem := 0, bytes := 8, eq := false, k := none }
def ti_51 : TI := { kind := .other, agg := false, size := 1, zero := [.nilFunc], fields := [], elem := 0, bytes := 8, eq := false, k := none }
def ti_52 : TI := { kind := .other, agg := false, size := 1, zero := [.nilFunc], fields := [], elem := 0, bytes := 8, eq := false, k := none }
def ti_53 : TI := { kind := .other, agg := false, size := 1, zero := [.nilFunc], fields := [], elem := 0, bytes := 8, eq := false, k := none }
def ti_54 : TI := { kind := .other, agg := false, size := 1, zero := [.nilFunc], fields := [], elem := 0, bytes := 8, eq := false, k := none }
def ti_55 : TI := { kind := .other, agg := false, size := 1, zero := [.nilFunc], fields := [], elem := 0, bytes := 8, eq := false, k := none }
def ti_56 : TI := { kind := .other, agg := false, size := 1, zero := [.nilFunc], fields := [], elem := 0, bytes := 8, eq := false, k := none }
def ti_57 : TI := { kind := .other, agg := false, size := 1, zero := [.nilFunc], fields := [], elem := 0, bytes := 8, eq := false, k := none }
def ti_58 : TI := { kind := .other, agg := false, size := 1, zero := [.nilFunc], fields := [], elem := 0, bytes := 8, eq := false, k := none }
def ti_59 : TI := { kind := .slice, agg := false, size := 1, zero := [.slice none 0 0], fields := [], elem := 5, bytes := 24, eq := false, k := none }
def ti_60 : TI := { kind := .other, agg := false, size := 1, zero := [.nilFunc], fields := [], elem := 0, bytes := 8, eq := false, k := none }
def ti_61 : TI := { kind := .other, agg := false, size := 1, zero := [.nilFunc], fields := [], elem := 0, bytes := 8, eq := false, k := none }
def ti_62 : TI := { kind := .struct, agg := true, size := 4, zero := [.pointer none, .pointer none, .pointer none, .string .empty], fields := [(0, 17), (1, 17), (2, 17), (3, 9)], elem := 0, bytes := 40, eq := false, k := none }
def ti_63 : TI := { kind := .struct, agg := true, size := 4, zero := [.pointer none, .pointer none, .pointer none, .string .empty], fields := [(0, 17), (1, 17), (2, 17), (3, 9)], elem := 0, bytes := 40, eq := false, k := none }
def ti_64 : TI := { kind := .other, agg := true, size := 0, zero := [], fields := [], elem := 16, bytes := 0, eq := false, k := none }
def ti_65 : TI := { kind := .struct, agg := true, size := 0, zero := [], fields := [(0, 64)], elem := 0, bytes := 0, eq := false, k := none }
def ti_66 : TI := { kind := .struct, agg := true, size := 0, zero := [], fields := [(0, 64)], elem := 0, bytes := 0, eq := false, k := none }
def ti_67 : TI := { kind := .other, agg := false, size := 1, zero := [.nilFunc], fields := [], elem := 0, bytes := 8, eq := false, k := none }
def ti_68 : TI := { kind := (.int .u32), agg := false, size := 1, zero := [.int .u32 0], fields := [], elem := 0, bytes := 4, eq := false, k := none }
def ti_69 : TI := { kind := (.int .u8), agg := false, size := 1, zero := [.int .u8 0], fields := [], elem := 0, bytes := 1, eq := false, k := some .u8 }
def ti_70 : TI := { kind := (.int .u8), agg := false, size := 1, zero := [.int .u8 0], fields := [], elem := 0, bytes := 1, eq := false, k := some .u8 }
def ti_71 : TI := { kind := .other, agg := false, size := 1, zero := [.nilFunc], fields := [], elem := 0, bytes := 8, eq := false, k := none }
def ti_72 : TI := { kind := .other, agg := false, size := 1, zero := [.pointer none], fields := [], elem := 0, bytes := 8, eq := false, k := none }
def ti_73 : TI := { kind := (.int .i32), agg := false, size := 1, zero := [.int .i32 0], fields := [], elem := 0, bytes := 4, eq := false, k := none }
def ti_74 : TI := { kind := (.int .i32), agg := false, size := 1, zero := [.int .i32 0], fields := [], elem := 0, bytes := 4, eq := false, k := none }
def ti_75 : TI := { kind := .struct, agg := true, size := 11, zero := [.int .u64 0, .int .u64 0, .int .u32 0, .int .u8 0, .int .u8 0, .int .u8 0, .int .u8 0, .nilFunc, .pointer none, .int .i32 0, .int .i32 0], fields := [(0, 12), (1, 12), (2, 68), (3, 69), (4, 5), (5, 5), (6, 70), (7, 71), (8, 72), (9, 73), (10, 74)], elem := 0, bytes := 48, eq := false, k := none }
def ti_76 : TI := { kind := .struct, agg := true, size := 11, zero := [.int .u64 0, .int .u64 0, .int .u32 0, .int .u8 0, .int .u8 0, .int .u8 0, .int .u8 0, .nilFunc, .pointer none, .int .i32 0, .int .i32 0], fields := [(0, 12), (1, 12), (2, 68), (3, 69), (4, 5), (5, 5), (6, 70), (7, 71), (8, 72), (9, 73), (10, 74)], elem := 0, bytes := 48, eq := false, k := none }
def ti_77 : TI := { kind := .other, agg := false, size := 1, zero := [.pointer none], fields := [], elem := 0, bytes := 8, eq := false, k := none }
def ty (t : Nat) : TI := bif Nat.blt t 80 then (bif Nat.blt t 40 then (bif Nat.blt t 20 then (bif Nat.blt t 10 then (bif Nat.blt t 5 then (bif Nat.blt t 2 then (bif Nat.blt t 1 then noTi else ti_1) else (bif Nat.blt t 3 then ti_2 else (bif Nat.blt t 4 then ti_3 else ti_4))) else (bif Nat.blt t 7 then (bif Nat.blt t 6 then ti_5 else ti_6) else (bif Nat.blt t 8 then ti_7 else (bif Nat.blt t 9 then ti_8 else ti_9)))) else (bif Nat.blt t 15 then (bif Nat.blt t 12 then (bif Nat.blt t 11 then ti_10 else ti_11) else (bif Nat.blt t 13 then ti_12 else (bif Nat.blt t 14 then ti_13 else ti_14))) else (bif Nat.blt t 17 then (bif Nat.blt t 16 then ti_15 else ti_16) else (bif Nat.blt t 18 then ti_17 else (bif Nat.blt t 19 then ti_18 else ti_19))))) else (bif Nat.blt t 30 then (bif Nat.blt t 25 then (bif Nat.blt t 22 then (bif Nat.blt t 21 then ti_20 else ti_21) else (bif Nat.blt t 23 then ti_22 else (bif Nat.blt t 24 then ti_23 else ti_24))) else (bif Nat.blt t 27 then (bif Nat.blt t 26 then ti_25 else ti_26) else (bif Nat.blt t 28 then noTi else (bif Nat.blt t 29 then ti_28 else ti_29)))) else (bif Nat.blt t 35 then (bif Nat.blt t 32 then (bif Nat.blt t 31 then ti_30 else noTi) else (bif Nat.blt t 33 then ti_32 else (bif Nat.blt t 34 then ti_33 else ti_34))) else (bif Nat.blt t 37 then (bif Nat.blt t 36 then ti_35 else ti_36) else (bif Nat.blt t 38 then ti_37 else (bif Nat.blt t 39 then ti_38 else ti_39)))))) else (bif Nat.blt t 60 then (bif Nat.blt t 50 then (bif Nat.blt t 45 then (bif Nat.blt t 42 then (bif Nat.blt t 41 then ti_40 else ti_41) else (bif Nat.blt t 43 then ti_42 else (bif Nat.blt t 44 then ti_43 else ti_44))) else (bif Nat.blt t 47 then (bif Nat.blt t 46 then ti_45 else ti_46) else (bif Nat.blt t 48 then ti_47 else (bif Nat.blt t 49 then ti_48 else ti_49)))) else (bif Nat.blt t 55 then (bif Nat.blt t 52 then (bif Nat.blt t 51 then ti_50 else ti_51) else (bif Nat.blt t 53 then ti_52 else (bif Nat.blt t 54 then ti_53 else ti_54))) else (bif Nat.blt t 57 then (bif Nat.blt t 56 then ti_55 else ti_56) else (bif Nat.blt t 58 then ti_57 else (bif Nat.blt t 59 then ti_58 else ti_59))))) else (bif Nat.blt t 70 then (bif Nat.blt t 65 then (bif Nat.blt t 62 then (bif Nat.blt t 61 then ti_60 else ti_61) else (bif Nat.blt t 63 then ti_62 else (bif Nat.blt t 64 then ti_63 else ti_64))) else (bif Nat.blt t 67 then (bif Nat.blt t 66 then ti_65 else ti_66) else (bif Nat.blt t 68 then ti_67 else (bif Nat.blt t 69 then ti_68 else ti_69)))) else (bif Nat.blt t 75 then (bif Nat.blt t 72 then (bif Nat.blt t 71 then ti_70 else ti_71) else (bif Nat.blt t 73 then ti_72 else (bif Nat.blt t 74 then ti_73 else ti_74))) else (bif Nat.blt t 77 then (bif Nat.blt t 76 then ti_75 else ti_76) else (bif Nat.blt t 78 then ti_77 else (bif Nat.blt t 79 then noTi else noTi))))))) else noTi
theorem ty_dflt (t : Nat) (h : 80 ≤ t) : ty t = noTi := by
  have e : Nat.blt t 80 = false := by
    cases hb : Nat.blt t 80
    · rfl
    · have := Nat.le_of_ble_eq_true hb
      omega
  unfold ty
  rw [e]
  rfl
def tyKnown : List Nat := [1, 2, 3, 4, 5, 6, 7, 8, 9, 10, 11, 12, 13, 14, 15, 16, 17, 18, 19, 20, 21, 22, 23, 24, 25, 26, 28, 29, 30, 32, 33, 34, 35, 36, 37, 38, 39, 40, 41, 42, 43, 44, 45, 46, 47, 48, 49, 50, 51, 52, 53, 54, 55, 56, 57, 58, 59, 60, 61, 62, 63, 64, 65, 66, 67, 68, 69, 70, 71, 72, 73, 74, 75, 76, 77]
theorem ty_list : tyKnown.map (fun t => ({ ty t with eq := false, k := none } : TI)) = tyKnown.map (tiOf Try.prog) := by kernel_rfl
theorem ty_in : (List.range 80).all (fun t => !(ty t).known || tyKnown.contains t) = true := by kernel_rfl
theorem ty_fact (t : Nat) (h : (ty t).known = true) : TyFact Try.prog t (ty t) := by
  refine tyFact_of h ?_
  have hlt : t < 80 := by
    rcases Nat.lt_or_ge t 80 with h' | h'
    · exact h'
    · have : (ty t) = noTi := ty_dflt t h'
      rw [this] at h
      cases h
  have h1 := List.all_eq_true.1 ty_in t (List.mem_range.2 hlt)
  rw [h] at h1
  have hmem : t ∈ tyKnown := by simpa using h1
  have := List.map_inj_left.1 ty_list t hmem
  exact this
theorem eq_25 : StructEq Try.prog 25 (ty 25).zero := structEq ty_fact 25 (ty 25).zero (by kernel_rfl) (by kernel_rfl) (by kernel_rfl)
theorem eq_37 : StructEq Try.prog 37 (ty 37).zero := structEq ty_fact 37 (ty 37).zero (by kernel_rfl) (by kernel_rfl) (by kernel_rfl)
def tyEqs : List Nat := [25, 37]
theorem eq_in : (List.range 80).all (fun t => !(ty t).eq || tyEqs.contains t) = true := by kernel_rfl
theorem ty_eq (t : Nat) (h : (ty t).eq = true) : StructEq Try.prog t (ty t).zero := by
  have hlt : t < 80 := by
    rcases Nat.lt_or_ge t 80 with h' | h'
    · exact h'
    · rw [ty_dflt t h'] at h
      cases h
  have h1 := List.all_eq_true.1 eq_in t (List.mem_range.2 hlt)
  rw [h] at h1
  have hmem : t ∈ tyEqs := by simpa using h1
  simp only [tyEqs, List.mem_cons, List.not_mem_nil, or_false] at hmem
  rcases hmem with rfl | rfl
  · exact eq_25
  · exact eq_37
theorem tyOk : TOk Try.prog ty := ⟨ty_fact, ty_eq, by kernel_rfl⟩
def fnExt : List Nat := [0, 1, 39, 40, 41, 42, 43, 44, 45, 46, 47, 48, 49, 50, 51, 52, 53, 54]
def fnB (f : Nat) : Bool := decide (f < 55) && !fnExt.contains f
theorem fn_all : (List.range 55).all (fun f => !fnB f || (match Try.prog.funcs[f]? with | some fn => fn.body.isSome && !(fn.name == "runtime.NumGoroutine") | none => false)) = true := by kernel_rfl
theorem fn_ok (f : Nat) (h : fnB f = true) : HasBody Try.prog f := by
  have hlt : f < 55 := by
    unfold fnB at h
    simp only [Bool.and_eq_true, decide_eq_true_eq] at h
    exact h.1
  have h1 := List.all_eq_true.1 fn_all f (List.mem_range.2 hlt)
  rw [h] at h1
  simp only [Bool.not_true, Bool.false_or] at h1
  unfold HasBody
  cases hf : Try.prog.funcs[f]? with
  | none => rw [hf] at h1; cases h1
  | some fn =>
    rw [hf] at h1
    simp only [Bool.and_eq_true, Bool.not_eq_true'] at h1
    exact ⟨fn, rfl, h1.1, h1.2⟩
end Go.Proofs.Ytghbkkmelbobcaa
