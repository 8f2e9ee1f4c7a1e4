/-
  TableTells: all calls of tables answer what the document says.
-/
import Derived.Test.YtaicmdnpjgijjaaGreatDoorPj
import Derived.Test.YtaicmdnpjgijjaaGreatDoorPm
import Derived.Test.YtaicmdnpjgijjaaGreatDoorHa
import Derived.Test.YtaicmdnpjgijjaaGreatDoorPn
namespace Go.Ma
open Go

/-- Which of the first k stand below place n. -/
def stands (l : List Pf) (n : Int) : Nat → List Int
  | 0 => []
  | k + 1 => if aboveOf l (k : Int) = n then stands l n k ++ [(k : Int)] else stands l n k
theorem stands_len (l : List Pf) (n : Int) : ∀ k, (stands l n k).length ≤ k
  | 0 => Nat.le_refl _
  | k + 1 => by
    have := stands_len l n k
    unfold stands
    split
    · simp; omega
    · omega
theorem aboveOf_ok {l : List Pf} (hl : l.length ≤ 12) (n : Int) : i64ok (aboveOf l n) = true := by
  unfold aboveOf
  split
  · rename_i q _
    rcases best_bound (okOver l q n) l l.length with h | ⟨j, hj, h⟩ <;> rw [h] <;> exact i64ok_of (by omega) (by omega)
  · decide
theorem belowTo_eq {l : List Pf} (h : tabIn l) (hc : chkTab l = 0) (n : Int) : ∀ k, k ≤ l.length → belowTo l n k = some (stands l n k)
  | 0, _ => rfl
  | k + 1, hk => by
    rw [belowTo, belowTo_eq h hc n k (by omega), bind_s, table_above_eq h hc (by omega) (by unfold lenL; omega), bind_s, req_of (aboveOf_ok (chkTab_ok hc).1 _), stands]
def belowT (l : List Pf) (n : Int) : (List Int) × Int × Unit := if rdy l n ≠ 0 then ([], rdy l n, ()) else (stands l n l.length, 0, ())
theorem table_Below_eq {l : List Pf} (h : tabIn l) (n : Int) : table_Below_t l n = some (belowT l n) := by
  unfold table_Below_t belowT
  rw [table_ready_eq h, bind_s]
  by_cases hr : rdy l n = 0
  · obtain ⟨c0, c1, c2⟩ := rdy_ok hr
    have hl := (chkTab_ok c0).1
    rw [decide_eq_true (show (rdy l n, ()).1 = 0 from hr), Bool.not_true, br_false, if_neg (fun h => h hr), req_of (by unfold lenL at c2; simp; omega), belowTo_eq h c0 n _ (Nat.le_refl _), bind_s]
  · rw [decide_eq_false (show ¬ (rdy l n, ()).1 = 0 from hr), Bool.not_false, br_true, if_pos hr]
/-! What must be in any case. -/
def routesL : List Pf := [⟨⟨false, 0, 0⟩, 0⟩, ⟨⟨false, 0, 167772160⟩, 8⟩, ⟨⟨false, 0, 167837696⟩, 16⟩]
theorem routes_eq : law_routes_t = some (routesL, ()) := rfl
theorem routes_in : tabIn routesL := by
  have n : ∀ x : Int, 0 ≤ x → x < 1000000000 → u64In x := fun x h h' => ⟨h, by omega⟩
  have m : ∀ x : Int, 0 ≤ x → x < 1000000000 → i64In x := fun x h h' => ⟨by omega, by omega⟩
  intro p hp
  simp only [routesL, List.mem_cons, List.not_mem_nil, or_false] at hp
  rcases hp with rfl | rfl | rfl <;> exact ⟨⟨n _ (by decide) (by decide), n _ (by decide) (by decide)⟩, m _ (by decide) (by decide)⟩
theorem begun1 : findOf routesL ⟨false, 0, 167838211⟩ = (2, 0, ()) := by decide +kernel
theorem begun2 : aboveT routesL 2 = (1, 0, ()) := by decide +kernel
theorem begun3 : belowT routesL 0 = ([1], 0, ()) := by decide +kernel
theorem begun4 : chkTab routesL = 0 := by decide +kernel
theorem tableBegun_eq : law_tableBegun_t = some (true, ()) := by
  have ha : (⟨false, 0, 167838211⟩ : Ad).In := ⟨⟨by decide, by decide⟩, ⟨by decide, by decide⟩⟩
  unfold law_tableBegun_t
  simp only [routes_eq, law_v4_t, bind_s, table_Find_eq routes_in ha, table_Above_eq routes_in, table_Below_eq routes_in, table_Check_eq routes_in, begun1, begun2, begun3, begun4, decide_true, br_true]
  rfl

end Go.Ma
