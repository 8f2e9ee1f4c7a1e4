/-
  slices.Grow of no slice, for so many entries: a row of the call's own, of no elements. The walk by hand.
-/
import Derived.Test.YtgfcgbhocdlleaaTy
import Derived.Test.YtgfcgbhocdlleaaMaR
import Derived.WalkKit
import Derived.ProofKit
import Derived.Lib.AppendZerosOnto
import Derived.Laws.AppendOwn
namespace Go.Proofs.Ytgfcgbhocdlleaa
open Go Go.Ma Go.RowKit Go.Lib

theorem Try.info57 : (Try.prog.info? 57).map (fun i => (i.zero.map (·.cells.size), i.size, i.bytes)) = some (some 13, 13, 112) := by kernel_rfl
theorem grow_zero (w : World) : Calls Try.prog 42 #[.slice none 0 0, .int .i64 0] w fun e w' => e = .returned (.slice none 0 0) ∧ w' = w := by
  go_enter Try.func42, Try.ntmps42
  go_wp2
  go_ret
  exact ⟨rfl, rfl⟩
set_option maxRecDepth 100000 in
theorem grow_more (n : Nat) (w : World) (hn : 0 < n) (hbig : n * 112 ≤ 140737488355328) :
    Calls Try.prog 42 #[.slice none 0 0, .int .i64 (n : Int)] w fun e w' => ∃ v, e = .returned v ∧ w'.ownsRow w.heap.size 57 13 v 0 [] ∧ Below w.heap.size w w' := by
  obtain ⟨i0, hi0, hz⟩ := Option.map_eq_some_iff.1 Try.info57
  simp only [Prod.mk.injEq] at hz
  obtain ⟨hz0, hz1, hz2⟩ := hz
  obtain ⟨z, hz0, hzc⟩ := Option.map_eq_some_iff.1 hz0
  have h1 : ¬ ((n : Int) < 0) := by omega
  have h3 : wrap64 (n : Int) = (n : Int) := by unfold wrap64; omega
  have h4 : (n : Int) > 0 := by omega
  have z57 : ∀ w, (Go.sizeOf 57).run Try.prog w = .ok i0.size w := fun w => by simp [Go.sizeOf, typeInfo, hi0]
  have hrz : ∀ ty, (Builtin.append_ #[22, 3] ty #[.slice none 0 0, .int .i64 (n : Int)]).run Try.prog w =
      .ok (.slice (some ⟨w.heap.size, 0, none⟩) n (grownCap w n 0 57)) (w.drew.alloc (.cells ((#[] : Array Value) ++ Builtin.zeroCells z.cells n ++ Builtin.zeroCells z.cells (grownCap w n 0 57 - n)) 57)) := fun ty => by
    have h := Lib.run_append_grow_zeros w 22 3 ty 57 i0 z .i64 .i64 Try.underlying22 Try.underlying3 hi0 hz0 none 0 0 [] (run_firstCells_none w.drew i0.size 0 0 0) n hn (by omega) (by omega) (by omega) (by rw [hz2]; omega)
      (by rw [hz2, Nat.zero_add]; exact growslice_fits hn hbig)
    rw [Nat.zero_add] at h
    exact h
  have hG := grownCap_ge w n 0 57
  have hGm := grownCap_le_maxLen w n 0 57 (by unfold maxLen; omega)
  obtain ⟨G, hGe⟩ : ∃ G, G = grownCap w n 0 57 := ⟨_, rfl⟩
  rw [← hGe] at hrz hG hGm
  obtain ⟨ROW, hROW⟩ : ∃ ROW : Array Value, ROW = ((#[] : Array Value) ++ Builtin.zeroCells z.cells n ++ Builtin.zeroCells z.cells (G - n)) := ⟨_, rfl⟩
  rw [← hROW] at hrz
  have hRs : ROW.size = G * 13 := by
    rw [hROW]
    simp [Builtin.zeroCells, hzc]
    have : n * 13 + (G - n) * 13 = G * 13 := by rw [← Nat.add_mul]; congr 1; omega
    omega
  have hfin : (w.drew.alloc (.cells ROW 57)).ownsRow w.heap.size 57 13 (.slice (some ⟨w.heap.size, 0, none⟩) 0 G) 0 [] ∧ Below w.heap.size w (w.drew.alloc (.cells ROW 57)) :=
    ⟨⟨rfl, .inr ⟨w.heap.size, G, ROW, rfl, Nat.le_refl _, by show (w.drew.heap.push (Obj.cells ROW 57))[w.drew.heap.size]? = _; exact Array.getElem?_push_size, Nat.zero_le _, hGm, hRs, by simp⟩⟩, ((Below.refl w.heap.size w).drew).alloc (Nat.le_refl _) _⟩
  clear hROW hRs hzc hGe hG
  go_enter Try.func42, Try.ntmps42
  go_wp2_with (at_builtin; refine Lib.wpList_append_run _ rfl _ _ _ _ rfl _ _ rfl rfl _ _ (hrz _) ?_)
  all_goals (go_ret; exact ⟨_, rfl, hfin.1, hfin.2⟩)
noncomputable def slices_Grow___api_Entry_api_Entry__con : Con := growCon .entry 57 1099511627776
theorem slices_Grow___api_Entry_api_Entry__ok : TrOk Try.prog 42 slices_Grow___api_Entry_api_Entry__con := by
  refine grow_ok .entry 57 1099511627776 fun n w hn => ?_
  by_cases h0 : n = 0
  · subst h0
    refine (grow_zero w).mono ?_
    rintro e w' ⟨rfl, rfl⟩
    exact ⟨_, rfl, World.ownsRow_nil _ _ _ _, Below.refl _ _⟩
  · exact grow_more n w (by omega) (by omega)
end Go.Proofs.Ytgfcgbhocdlleaa
