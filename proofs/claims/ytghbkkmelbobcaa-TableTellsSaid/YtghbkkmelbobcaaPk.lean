/-
  TableTells: all calls of tables answer what the document says.
-/
import Derived.Test.YtghbkkmelbobcaaPj
import Derived.Test.YtghbkkmelbobcaaPm
namespace Go.Ma
open Go

/-- Which of the first k stand below place n. -/
def stands (l : List Pf) (n : Int) : Nat → List Int
  | 0 => []
  | k + 1 => if aboveOf l (k : Int) = n then stands l n k ++ [(k : Int)] else stands l n k
theorem stands_len (l : List Pf) (n : Int) : ∀ k, (stands l n k).length ≤ k
  | 0 => Nat.le_refl _
  | k + 1 => by
    have := stands_len l n k
    unfold stands
    split
    · simp; omega
    · omega
theorem aboveOf_ok {l : List Pf} (hl : l.length ≤ 12) (n : Int) : i64ok (aboveOf l n) = true := by
  unfold aboveOf
  split
  · rename_i q _
    rcases best_bound (okOver l q n) l l.length with h | ⟨j, hj, h⟩ <;> rw [h] <;> exact i64ok_of (by omega) (by omega)
  · decide
theorem belowTo_eq {l : List Pf} (h : tabIn l) (hc : chkTab l = 0) (n : Int) : ∀ k, k ≤ l.length → belowTo l n k = some (stands l n k)
  | 0, _ => rfl
  | k + 1, hk => by
    rw [belowTo, belowTo_eq h hc n k (by omega), bind_s, table_above_eq h hc (by omega) (by unfold lenL; omega), bind_s, req_of (aboveOf_ok (chkTab_ok hc).1 _), stands]
def belowT (l : List Pf) (n : Int) : (List Int) × Int × Unit := if rdy l n ≠ 0 then ([], rdy l n, ()) else (stands l n l.length, 0, ())
theorem table_Below_eq {l : List Pf} (h : tabIn l) (n : Int) : table_Below_t l n = some (belowT l n) := by
  unfold table_Below_t belowT
  rw [table_ready_eq h, bind_s]
  by_cases hr : rdy l n = 0
  · obtain ⟨c0, c1, c2⟩ := rdy_ok hr
    have hl := (chkTab_ok c0).1
    rw [decide_eq_true (show (rdy l n, ()).1 = 0 from hr), Bool.not_true, br_false, if_neg (fun h => h hr), req_of (by unfold lenL at c2; simp; omega), belowTo_eq h c0 n _ (Nat.le_refl _), bind_s]
  · rw [decide_eq_false (show ¬ (rdy l n, ()).1 = 0 from hr), Bool.not_false, br_true, if_pos hr]
/-- The document's nearest one but for itself is the one above. -/
theorem near_above {l : List Pf} (h : tabIn l) (hc : chkTab l = 0) {n : Int} {q : Pf} (hq : geti l n = some q) (hm : q ∈ l) : R_NearestOf_t l q n = some (aboveOf l n, ()) := by
  obtain ⟨c1, c2⟩ := chkTab_ok hc
  rw [R_NearestOf_eq n c1 h c2 (h q hm) (chkP_ad (c2 q hm))]
  unfold aboveOf
  rw [hq]

/-! What must be in any case. -/
def routesL : List Pf := [⟨⟨false, 0, 0⟩, 0⟩, ⟨⟨false, 0, 167772160⟩, 8⟩, ⟨⟨false, 0, 167837696⟩, 16⟩]
theorem routes_eq : law_routes_t = some (routesL, ()) := rfl
theorem routes_in : tabIn routesL := by
  have n : ∀ x : Int, 0 ≤ x → x < 1000000000 → u64In x := fun x h h' => ⟨h, by omega⟩
  have m : ∀ x : Int, 0 ≤ x → x < 1000000000 → i64In x := fun x h h' => ⟨by omega, by omega⟩
  intro p hp
  simp only [routesL, List.mem_cons, List.not_mem_nil, or_false] at hp
  rcases hp with rfl | rfl | rfl <;> exact ⟨⟨n _ (by decide) (by decide), n _ (by decide) (by decide)⟩, m _ (by decide) (by decide)⟩
theorem begun1 : findOf routesL ⟨false, 0, 167838211⟩ = (2, 0, ()) := by decide +kernel
theorem begun2 : aboveT routesL 2 = (1, 0, ()) := by decide +kernel
theorem begun3 : belowT routesL 0 = ([1], 0, ()) := by decide +kernel
theorem begun4 : chkTab routesL = 0 := by decide +kernel
theorem tableBegun_eq : law_tableBegun_t = some (true, ()) := by
  have ha : (⟨false, 0, 167838211⟩ : Ad).In := ⟨⟨by decide, by decide⟩, ⟨by decide, by decide⟩⟩
  unfold law_tableBegun_t
  simp only [routes_eq, law_v4_t, bind_s, table_Find_eq routes_in ha, table_Above_eq routes_in, table_Below_eq routes_in, table_Check_eq routes_in, begun1, begun2, begun3, begun4, decide_true, br_true]
  rfl

/-! The law's loops. -/
theorem cmp_loop (l : List Pf) (b : List Int) (hb : b.length < 9223372036854775808) (v0 v1 v2 v3 v4 v5 v6 v7 v8 : Int) :
    loopN law_TableTells_L29 FUEL (((), (v0, ()), (v1, ()), (v2, ()), (v3, ()), (), (v4, ()), (v5, ()), (v6, ()), (v7, ()), (v8, ()), (), (0, ()), ()), (l, b, b, ())) =
      some (Sum.inr (((), (v0, ()), (v1, ()), (v2, ()), (v3, ()), (v4, ()), (v5, ()), (v6, ()), (v7, ()), (v8, ()), ()), (l, ()))) := by
  refine loop_up (step := law_TableTells_L29) (fun i => (((), (v0, ()), (v1, ()), (v2, ()), (v3, ()), (), (v4, ()), (v5, ()), (v6, ()), (v7, ()), (v8, ()), (), ((i : Int), ()), ()), (l, b, b, ()))) b.length (fun _ => some (Sum.inr (((), (v0, ()), (v1, ()), (v2, ()), (v3, ()), (v4, ()), (v5, ()), (v6, ()), (v7, ()), (v8, ()), ()), (l, ())))) (fun rec i hi hr => ?_) (fun rec => ?_) FUEL 0 (Nat.zero_le _) (fuel_gt (by omega))
  · obtain ⟨x, hx⟩ : ∃ e, b[i]? = some e := ⟨_, List.getElem?_eq_getElem hi⟩
    simp only [law_TableTells_L29]
    rw [decide_eq_true (show (i : Int) < lenL b by unfold lenL; omega), br_true, req_of (inRange_of (by omega) (by unfold lenL; omega)), geti_at hx, bind_s, req_of (inRange_of (by omega) (by unfold lenL; omega)), bind_s, decide_eq_true rfl, Bool.not_true, br_false,
      show ((i : Int) + 1) = ((i + 1 : Nat) : Int) by omega, req_of (i64ok_of (by omega) (by omega)), hr]
  · simp only [law_TableTells_L29]
    rw [decide_eq_false (show ¬ (b.length : Int) < lenL b by unfold lenL; omega), br_false]
theorem ref_loop {l : List Pf} (h : tabIn l) (hc : chkTab l = 0) (n : Int) (b : List Int) (v1 v2 v3 v4 v5 v6 v7 v8 v9 v10 v11 : Int) :
    loopN law_TableTells_L20 FUEL (((), (n, ()), (v1, ()), (v2, ()), (v3, ()), (v4, ()), (), (v5, ()), (v6, ()), (v7, ()), (v8, ()), (v9, ()), (v10, ()), (v11, ()), (), (0, ()), ()), (l, b, [], ())) =
      some (((), (v1, ()), (v2, ()), (v3, ()), (v4, ()), (), (v5, ()), (v6, ()), (v7, ()), (v8, ()), (v9, ()), (v10, ()), (v11, ()), (), ()), (l, b, stands l n l.length, ())) := by
  have hl := (chkTab_ok hc).1
  refine loop_up (step := law_TableTells_L20) (fun i => (((), (n, ()), (v1, ()), (v2, ()), (v3, ()), (v4, ()), (), (v5, ()), (v6, ()), (v7, ()), (v8, ()), (v9, ()), (v10, ()), (v11, ()), (), ((i : Int), ()), ()), (l, b, stands l n i, ()))) l.length (fun _ => some (((), (v1, ()), (v2, ()), (v3, ()), (v4, ()), (), (v5, ()), (v6, ()), (v7, ()), (v8, ()), (v9, ()), (v10, ()), (v11, ()), (), ()), (l, b, stands l n l.length, ()))) (fun rec i hi hr => ?_) (fun rec => ?_) FUEL 0 (Nat.zero_le _) (fuel_gt (by omega))
  · obtain ⟨q, hq⟩ : ∃ e, l[i]? = some e := ⟨_, List.getElem?_eq_getElem hi⟩
    simp only [law_TableTells_L20]
    rw [decide_eq_true (show (i : Int) < lenL l by unfold lenL; omega), br_true, req_of (inRange_of (by omega) (by unfold lenL; omega)), geti_at hq, bind_s, near_above h hc (geti_at hq) (List.mem_of_getElem? hq), bind_s]
    have hsl := stands_len l n i
    have i1 : i64ok ((i : Int) + 1) = true := i64ok_of (by omega) (by omega)
    have r1 : room (lenL (stands l n i)) (lenL [(i : Int)]) = true := room_of (lenL_nonneg _) (lenL_nonneg _) (by simp only [lenL, List.length_cons, List.length_nil]; omega)
    simp only [i1, r1, req_true]
    rw [← hr, show ((i : Int) + 1) = ((i + 1 : Nat) : Int) by omega, stands]
    by_cases he : aboveOf l (i : Int) = n
    · rw [decide_eq_true he, br_true, if_pos he]
    · rw [decide_eq_false he, br_false, if_neg he]
  · simp only [law_TableTells_L20]
    rw [decide_eq_false (show ¬ (l.length : Int) < lenL l by unfold lenL; omega), br_false]
/-- **TableTells**. -/
theorem TableTells_eq {l : List Pf} {a : Ad} (h : tabIn l) (ha : a.In) (n : Int) : law_TableTells_t l a n = some (true, ()) := by
  unfold law_TableTells_t
  have hz : (([] : List Int)).length < 9223372036854775808 := by decide
  rw [table_Find_eq h ha, bind_s, table_Above_eq h, bind_s, table_Below_eq h, bind_s, R_CheckTable_eq h, bind_s]
  by_cases hc : chkTab l = 0
  rotate_left
  · have e1 : findOf l a = (0, chkTab l, ()) := by unfold findOf; rw [if_pos hc]
    have e0 : rdy l n = chkTab l := by unfold rdy; rw [if_pos hc]
    have e2 : aboveT l n = (0, chkTab l, ()) := by unfold aboveT; rw [e0, if_pos hc]
    have e3 : belowT l n = ([], chkTab l, ()) := by unfold belowT; rw [e0, if_pos hc]
    rw [e1, e2, e3]
    simp only [decide_eq_false hc, br_false, bind_s, decide_true, Bool.not_true, cmp_loop _ _ hz, sumC, tableBegun_eq, table_Check_eq h, br_true]
  obtain ⟨hl, hall⟩ := chkTab_ok hc
  have hst := stands_len l n l.length
  have hsb : (stands l n l.length).length < 9223372036854775808 := by omega
  simp only [decide_eq_true hc, br_true]
  rw [R_CheckAddr_eq ha, bind_s, br_sb, bind_s]
  have hf : findOf l a = if chkA a ≠ 0 then (0, chkA a, ()) else if bestTo (okFind l a) l l.length < 0 then (0, 5, ()) else (bestTo (okFind l a) l l.length, 0, ()) := by unfold findOf; rw [if_neg (fun h => h hc)]
  have hnear : chkA a = 0 → R_NearestOf_t l ⟨a, (wid a.v6 : Nat)⟩ (-1) = some (bestTo (okFind l a) l l.length, ()) := fun hca => by
    have hw := wid_le a.v6
    have hi : i64In ((wid a.v6 : Nat) : Int) := ⟨by omega, by omega⟩
    rw [R_NearestOf_eq (-1) hl h hall ⟨ha, hi⟩ hca, bestTo_congr _ (fun i _ => ok_host hall i)]
  by_cases hr : n < 0 ∨ n ≥ lenL l
  · have e0 : rdy l n = 3 := by unfold rdy; rw [if_neg (fun h => h hc), if_pos hr]
    have e2 : aboveT l n = (0, 3, ()) := by unfold aboveT; rw [e0, if_pos (by decide)]
    have e3 : belowT l n = ([], 3, ()) := by unfold belowT; rw [e0, if_pos (by decide)]
    have eb : (bif decide (n < 0) then true else decide (n ≥ lenL l)) = true := by rcases hr with hr | hr <;> simp [hr]
    rw [e2, e3, eb, br_true, hf]
    by_cases hca : chkA a = 0
    · rw [if_neg (fun h => h hca)]
      simp only [decide_eq_true hca, br_true, R_Host_eq, bind_s, hnear hca]
      by_cases hb : bestTo (okFind l a) l l.length < 0
      · simp only [hb, if_true, decide_true, br_true, Bool.not_true, br_false, bind_s, cmp_loop _ _ hz, sumC, tableBegun_eq, table_Check_eq h]
      · simp only [hb, if_false, decide_false, decide_true, br_true, Bool.not_true, br_false, bind_s, cmp_loop _ _ hz, sumC, tableBegun_eq, table_Check_eq h, hca]
    · rw [if_pos hca]
      simp only [decide_eq_false hca, br_false, decide_true, br_true, Bool.not_true, bind_s, cmp_loop _ _ hz, sumC, tableBegun_eq, table_Check_eq h]
  · have hr0 : 0 ≤ n ∧ n < lenL l := by omega
    have e0 : rdy l n = 0 := by unfold rdy; rw [if_neg (fun h => h hc), if_neg hr]
    have e2 : aboveT l n = if aboveOf l n < 0 then (0, 5, ()) else (aboveOf l n, 0, ()) := by unfold aboveT; rw [e0, if_neg (by decide)]
    have e3 : belowT l n = (stands l n l.length, 0, ()) := by unfold belowT; rw [e0, if_neg (by decide)]
    have eb : (bif decide (n < 0) then true else decide (n ≥ lenL l)) = false := by
      have h1 : ¬ n < 0 := by omega
      have h2 : ¬ n ≥ lenL l := by omega
      simp [h1, h2]
    obtain ⟨q, hq, hm⟩ := at_of hr0.1 hr0.2
    have hir : inRange n (lenL l) = true := inRange_of hr0.1 hr0.2
    rw [e2, e3, eb, br_false, hf]
    by_cases hca : chkA a = 0
    · rw [if_neg (fun h => h hca)]
      simp only [decide_eq_true hca, br_true, R_Host_eq, bind_s, hnear hca, hir, req_true, hq, near_above h hc hq hm, ref_loop h hc]
      by_cases hb : bestTo (okFind l a) l l.length < 0 <;> by_cases hb2 : aboveOf l n < 0 <;>
        simp only [hb, hb2, if_true, if_false, decide_true, decide_false, br_true, Bool.not_true, br_false, bind_s, cmp_loop _ _ hsb, sumC, tableBegun_eq, table_Check_eq h, hc, hca]
    · rw [if_pos hca]
      simp only [decide_eq_false hca, br_false, br_true, bind_s, hir, req_true, hq, near_above h hc hq hm, ref_loop h hc]
      by_cases hb2 : aboveOf l n < 0 <;>
        simp only [hb2, if_true, if_false, decide_true, decide_false, br_true, Bool.not_true, br_false, bind_s, cmp_loop _ _ hsb, sumC, tableBegun_eq, table_Check_eq h, hc]
end Go.Ma
