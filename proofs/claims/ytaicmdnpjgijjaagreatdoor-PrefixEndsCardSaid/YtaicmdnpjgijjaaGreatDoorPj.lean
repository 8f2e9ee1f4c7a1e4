/-
  Tables: Find, Above; the document's nearest one.
-/
import Derived.Test.YtaicmdnpjgijjaaGreatDoorPi
namespace Go.Ma
open Go

def okFind (l : List Pf) (a : Ad) (i : Nat) : Bool := match l[i]? with | some p => holds p a | none => false
def okOver (l : List Pf) (q : Pf) (n : Int) (i : Nat) : Bool := decide ((i : Int) ≠ n) && (match l[i]? with | some p => over p q | none => false)
theorem find_loop {l : List Pf} {a : Ad} (hl : l.length ≤ 12) (hall : ∀ p ∈ l, chkP p = 0) (ha : a.In) :
    loopN table_Find_table_nearest_L3 FUEL (((), (), (-1, ()), (), (lenL l, ()), (0, ()), ()), (l, (), (a, ()), ())) = some (((bestTo (okFind l a) l l.length, ()), ()), (l, (), (a, ()), ())) := by
  refine loop_up (step := table_Find_table_nearest_L3) (fun i => (((), (), (bestTo (okFind l a) l i, ()), (), (lenL l, ()), ((i : Int), ()), ()), (l, (), (a, ()), ()))) l.length (fun _ => some (((bestTo (okFind l a) l l.length, ()), ()), (l, (), (a, ()), ()))) (fun rec i hi hr => ?_) (fun rec => ?_) FUEL 0 (Nat.zero_le _) (fuel_gt (by omega))
  · obtain ⟨p, hp⟩ : ∃ e, l[i]? = some e := ⟨_, List.getElem?_eq_getElem hi⟩
    obtain ⟨b1, b2⟩ := chkP_bits (hall p (List.mem_of_getElem? hp))
    have hok : okFind l a i = holds p a := by unfold okFind; rw [hp]
    simp only [table_Find_table_nearest_L3]
    rw [decide_eq_true (show (i : Int) < lenL l by unfold lenL; omega), br_true, req_of (inRange_of (by omega) (by unfold lenL; omega)), geti_at hp, bind_s]
    have h1 : table_Find_1_t (i : Int) l a = some (okFind l a i, ()) := by
      unfold table_Find_1_t
      rw [req_of (inRange_of (by omega) (by unfold lenL; omega)), geti_at hp, bind_s, prefix_Holds_eq b1 b2 ha, bind_s, hok]
    rw [h1, bind_s, best_step hp _ rfl, bind_s, show ((i : Int) + 1) = ((i + 1 : Nat) : Int) by omega, req_of (i64ok_of (by omega) (by omega)), req_of (i64ok_of (by omega) (by omega)), ← hr]
    simp only [bestTo]
    by_cases hc : okFind l a i = true ∧ (bestTo (okFind l a) l i < 0 ∨ bitsAt l (bestTo (okFind l a) l i).toNat < bitsAt l i)
    · rw [decide_eq_true hc, br_true, if_pos hc]
    · rw [decide_eq_false hc, br_false, if_neg hc]
  · simp only [table_Find_table_nearest_L3]
    rw [decide_eq_false (show ¬ (l.length : Int) < lenL l by unfold lenL; omega), br_false]
theorem above_loop {l : List Pf} {n : Int} {q : Pf} (hl : l.length ≤ 12) (hall : ∀ p ∈ l, chkP p = 0) (hn : geti l n = some q) (h0 : 0 ≤ n) (h1 : n < lenL l) (hq : q.In) :
    loopN table_above_table_nearest_L3 FUEL (((), (), (-1, ()), (), (lenL l, ()), (0, ()), ()), (l, (), (n, ()), ())) = some (((bestTo (okOver l q n) l l.length, ()), ()), (l, (), (n, ()), ())) := by
  refine loop_up (step := table_above_table_nearest_L3) (fun i => (((), (), (bestTo (okOver l q n) l i, ()), (), (lenL l, ()), ((i : Int), ()), ()), (l, (), (n, ()), ()))) l.length (fun _ => some (((bestTo (okOver l q n) l l.length, ()), ()), (l, (), (n, ()), ()))) (fun rec i hi hr => ?_) (fun rec => ?_) FUEL 0 (Nat.zero_le _) (fuel_gt (by omega))
  · obtain ⟨p, hp⟩ : ∃ e, l[i]? = some e := ⟨_, List.getElem?_eq_getElem hi⟩
    have hcp := hall p (List.mem_of_getElem? hp)
    simp only [table_above_table_nearest_L3]
    rw [decide_eq_true (show (i : Int) < lenL l by unfold lenL; omega), br_true, req_of (inRange_of (by omega) (by unfold lenL; omega)), geti_at hp, bind_s]
    have h1 : table_above_1_t (i : Int) n l = some (okOver l q n i, ()) := by
      unfold table_above_1_t okOver
      rw [hp]
      by_cases hin : (i : Int) = n
      · rw [decide_eq_true hin, Bool.not_true, br_false, bind_s]
        simp [hin]
      · rw [decide_eq_false hin, Bool.not_false, br_true, req_of (inRange_of (by omega) (by unfold lenL; omega)), geti_at hp, bind_s, req_of (inRange_of h0 h1), hn, bind_s, prefix_Over_eq hcp hq, bind_s, bind_s]
        simp [hin]
    rw [h1, bind_s, best_step hp _ rfl, bind_s, show ((i : Int) + 1) = ((i + 1 : Nat) : Int) by omega, req_of (i64ok_of (by omega) (by omega)), req_of (i64ok_of (by omega) (by omega)), ← hr]
    simp only [bestTo]
    by_cases hc : okOver l q n i = true ∧ (bestTo (okOver l q n) l i < 0 ∨ bitsAt l (bestTo (okOver l q n) l i).toNat < bitsAt l i)
    · rw [decide_eq_true hc, br_true, if_pos hc]
    · rw [decide_eq_false hc, br_false, if_neg hc]
  · simp only [table_above_table_nearest_L3]
    rw [decide_eq_false (show ¬ (l.length : Int) < lenL l by unfold lenL; omega), br_false]
/-- What Find answers. -/
def findOf (l : List Pf) (a : Ad) : Int × Int × Unit :=
  if chkTab l ≠ 0 then (0, chkTab l, ()) else if chkA a ≠ 0 then (0, chkA a, ()) else if bestTo (okFind l a) l l.length < 0 then (0, 5, ()) else (bestTo (okFind l a) l l.length, 0, ())
theorem table_Find_eq {l : List Pf} {a : Ad} (h : tabIn l) (ha : a.In) : table_Find_t l a = some (findOf l a) := by
  unfold table_Find_t findOf
  rw [table_Check_eq h, bind_s]
  by_cases hc : chkTab l = 0
  · obtain ⟨h1, h2⟩ := chkTab_ok hc
    rw [decide_eq_true (show (chkTab l, ()).1 = 0 from hc), br_true, if_neg (fun h => h hc), addr_Check_eq, bind_s]
    by_cases hca : chkA a = 0
    · rw [decide_eq_true (show (chkA a, ()).1 = 0 from hca), Bool.not_true, br_false, if_neg (fun h => h hca), find_loop h1 h2 ha, bind_s]
      by_cases hb : bestTo (okFind l a) l l.length < 0
      · rw [if_pos hb, decide_eq_true hb, br_true]
      · rw [if_neg hb, decide_eq_false hb, br_false]
    · rw [decide_eq_false (show ¬ (chkA a, ()).1 = 0 from hca), Bool.not_false, br_true, if_pos hca]
  · rw [decide_eq_false (show ¬ (chkTab l, ()).1 = 0 from hc), br_false, Bool.not_false, br_true, if_pos hc]
/-- What is wrong with a table and a place. -/
def rdy (l : List Pf) (n : Int) : Int := if chkTab l ≠ 0 then chkTab l else if n < 0 ∨ n ≥ lenL l then 3 else 0
theorem table_ready_eq {l : List Pf} (h : tabIn l) (n : Int) : table_ready_t l n = some (rdy l n, ()) := by
  unfold table_ready_t rdy
  rw [table_Check_eq h, bind_s]
  by_cases hc : chkTab l = 0
  · rw [decide_eq_true (show (chkTab l, ()).1 = 0 from hc), br_true, if_neg (fun h => h hc), br_sb, bind_s]
    by_cases h1 : n < 0
    · rw [if_pos (.inl h1), decide_eq_true h1, cond_true, br_true]
    · rw [decide_eq_false h1, cond_false]
      by_cases h2 : n ≥ lenL l
      · rw [if_pos (.inr h2), decide_eq_true h2, br_true]
      · rw [if_neg (by rintro (h | h); exact h1 h; exact h2 h), decide_eq_false h2, br_false]
        simp only [hc]
  · rw [decide_eq_false (show ¬ (chkTab l, ()).1 = 0 from hc), br_false, bind_s, br_false, if_pos hc]
theorem rdy_ok {l : List Pf} {n : Int} (h : rdy l n = 0) : chkTab l = 0 ∧ 0 ≤ n ∧ n < lenL l := by
  unfold rdy at h
  split at h
  · rename_i h1; exact absurd h h1
  rename_i h1
  split at h
  · cases h
  · exact ⟨Decidable.not_not.1 h1, by omega, by omega⟩
theorem at_of {l : List Pf} {n : Int} (h0 : 0 ≤ n) (h1 : n < lenL l) : ∃ q, geti l n = some q ∧ q ∈ l := by
  unfold lenL at h1
  obtain ⟨q, hq⟩ : ∃ e, l[n.toNat]? = some e := ⟨_, List.getElem?_eq_getElem (by omega)⟩
  exact ⟨q, by unfold geti; rw [if_pos h0]; exact hq, List.mem_of_getElem? hq⟩
/-- The one above place n. -/
def aboveOf (l : List Pf) (n : Int) : Int := match geti l n with | some q => bestTo (okOver l q n) l l.length | none => -1
theorem table_above_eq {l : List Pf} {n : Int} (h : tabIn l) (hc : chkTab l = 0) (h0 : 0 ≤ n) (h1 : n < lenL l) : table_above_t l n = some (aboveOf l n, ()) := by
  obtain ⟨q, hq, hm⟩ := at_of h0 h1
  obtain ⟨c1, c2⟩ := chkTab_ok hc
  unfold table_above_t aboveOf
  rw [above_loop c1 c2 hq h0 h1 (h q hm), bind_s, hq]
def aboveT (l : List Pf) (n : Int) : Int × Int × Unit := if rdy l n ≠ 0 then (0, rdy l n, ()) else if aboveOf l n < 0 then (0, 5, ()) else (aboveOf l n, 0, ())
theorem table_Above_eq {l : List Pf} (h : tabIn l) (n : Int) : table_Above_t l n = some (aboveT l n) := by
  unfold table_Above_t aboveT
  rw [table_ready_eq h, bind_s]
  by_cases hr : rdy l n = 0
  · obtain ⟨c0, c1, c2⟩ := rdy_ok hr
    rw [decide_eq_true (show (rdy l n, ()).1 = 0 from hr), Bool.not_true, br_false, if_neg (fun h => h hr), table_above_eq h c0 c1 c2, bind_s]
    by_cases hb : aboveOf l n < 0
    · rw [if_pos hb, decide_eq_true hb, br_true]
    · rw [if_neg hb, decide_eq_false hb, br_false]
  · rw [decide_eq_false (show ¬ (rdy l n, ()).1 = 0 from hr), Bool.not_false, br_true, if_pos hr]

/-! The document's nearest one. -/
theorem range_cons (i n : Nat) (h : i < n) : List.range' i (n - i) = i :: List.range' (i + 1) (n - (i + 1)) := by
  rw [show n - i = (n - (i + 1)) + 1 by omega, List.range'_succ]
def innerOut (l : List Pf) (p : Pf) (n b : Int) (o : Option Nat) : ((((Int × Unit) × Unit) × (List Pf × Unit)) ⊕ ((Unit × (Int × Unit) × Unit × (Int × Unit) × Unit) × (List Pf × (Pf × Unit) × Unit))) :=
  match o with | some j => Sum.inl ((((j : Int), ()), ()), l, ()) | none => Sum.inr (((), (n, ()), (), (b, ()), ()), (l, (p, ()), ()))
/-- By bits, from b - 1 downward. -/
def refTo (ok : Nat → Bool) (l : List Pf) : Nat → Int
  | 0 => -1
  | b + 1 => match (List.range' 0 (l.length - 0)).find? (fun i => ok i && decide (bitsAt l i = (b : Int))) with | some j => (j : Int) | none => refTo ok l b
def outerOut (l : List Pf) (r : Int) : ((((Int × Unit) × Unit) × (List Pf × Unit)) ⊕ (Unit × (List Pf × Unit))) := if r = -1 then Sum.inr ((), l, ()) else Sum.inl (((r, ()), ()), l, ())
theorem refTo_ge (ok : Nat → Bool) (l : List Pf) : ∀ b, -1 ≤ refTo ok l b
  | 0 => by simp [refTo]
  | b + 1 => by
    unfold refTo
    split
    · omega
    · exact refTo_ge ok l b
theorem find_first {α : Type} (c : Nat → Bool) (n : Nat) {j : Nat} (h : (List.range' 0 (n - 0)).find? c = some j) : j < n ∧ c j = true ∧ ∀ i, i < j → c i = false := by
  rw [Nat.sub_zero, ← List.range_eq_range'] at h
  obtain ⟨h1, h2, h3⟩ := List.find?_range_eq_some.1 h
  exact ⟨List.mem_range.1 h2, h1, fun i hi => by simpa using h3 i hi⟩
theorem find_nil (c : Nat → Bool) (n : Nat) (h : (List.range' 0 (n - 0)).find? c = none) : ∀ i, i < n → c i = false := by
  intro i hi
  rw [List.find?_eq_none] at h
  have := h i (by rw [Nat.sub_zero, ← List.range_eq_range']; exact List.mem_range.2 hi)
  simpa using this
theorem refTo_best (ok : Nat → Bool) (l : List Pf) : ∀ b : Nat, (∀ i, i < l.length → ok i = true → 0 ≤ bitsAt l i ∧ bitsAt l i < (b : Int)) → IsBest ok l l.length (refTo ok l b)
  | 0, h => .inl ⟨rfl, fun i hi => by
      cases ho : ok i
      · rfl
      · have := h i hi ho; omega⟩
  | b + 1, h => by
    unfold refTo
    split
    · rename_i j hj
      obtain ⟨h1, h2, h3⟩ := find_first (α := Nat) _ _ hj
      simp only [Bool.and_eq_true, decide_eq_true_eq] at h2
      refine .inr ⟨j, h1, rfl, h2.1, fun i hi ho => ?_, fun i hi ho => ?_⟩
      · have := (h i hi ho).2; omega
      · have h4 := h3 i hi
        have h5 := (h i (by omega) ho).2
        rw [ho] at h4
        simp only [Bool.true_and, decide_eq_false_iff_not] at h4
        omega
    · rename_i hn
      refine refTo_best ok l b fun i hi ho => ?_
      have h4 := find_nil _ _ hn i hi
      have h5 := h i hi ho
      rw [ho] at h4
      simp only [Bool.true_and, decide_eq_false_iff_not] at h4
      omega
theorem R_Host_eq (a : Ad) : R_Host_t a = some ((⟨a, (wid a.v6 : Nat)⟩ : Pf), ()) := by
  unfold R_Host_t
  rw [R_wide_eq, bind_s]
theorem ok_host {l : List Pf} {a : Ad} (hall : ∀ p ∈ l, chkP p = 0) (i : Nat) : okOver l ⟨a, (wid a.v6 : Nat)⟩ (-1) i = okFind l a i := by
  unfold okOver okFind
  rw [decide_eq_true (show (i : Int) ≠ -1 by omega), Bool.true_and]
  cases hp : l[i]? with
  | none => rfl
  | some p =>
    obtain ⟨_, h2⟩ := chkP_bits (hall p (List.mem_of_getElem? hp))
    show over p ⟨a, (wid a.v6 : Nat)⟩ = holds p a
    unfold over
    cases hh : holds p a
    · simp [hh]
    · have hv : p.ad.v6 = a.v6 := by
        unfold holds at hh
        simp only [Bool.and_eq_true, beq_iff_eq] at hh
        exact hh.1
      rw [hv] at h2
      simp [hh, h2]
end Go.Ma
