/-
  Door seats: less.
-/
import Derived.Test.YtihapikjcifbaaaDoorPo
import Derived.Test.YtihapikjcifbaaaDoorCa
namespace Go.Ma
open Go

/-! Less. -/
theorem num_lt_iff {a b : Ad} (ha : a.In) (hb : b.In) : a.num < b.num ↔ (a.hi < b.hi ∨ (a.hi = b.hi ∧ a.lo < b.lo)) := by
  obtain ⟨⟨a1, a2⟩, a3, a4⟩ := ha
  obtain ⟨⟨b1, b2⟩, b3, b4⟩ := hb
  unfold Ad.num
  omega
theorem ord_neg {a b : Ad} (ha : a.In) (hb : b.In) : decide (ordA a b < 0) = aheadA a b := by
  have hn := num_lt_iff ha hb
  unfold ordA ordI aheadA
  by_cases hv : a.v6 = b.v6
  · simp only [hv, ne_eq, not_true, false_and, if_false, decide_eq_decide]
    rw [hn]
    by_cases h1 : a.hi = b.hi
    · simp only [h1, not_true, if_false]
      by_cases h2 : a.lo < b.lo
      · simp [h2]
      · by_cases h3 : a.lo > b.lo
        · simp [h2, h3]
        · simp [h2, h3]
    · simp only [h1, not_false_eq_true, if_true]
      by_cases h2 : a.hi < b.hi
      · simp [h2]
      · have h3 : a.hi > b.hi := by omega
        simp [h2, h3]
  · have hv' : ¬ a.v6 = b.v6 := hv
    simp only [ne_eq, hv', not_false_eq_true, true_and, if_true]
    cases hb6 : b.v6 <;> simp
def lessA (a b : Ad) : Bool × Int × Unit := if chkA a ≠ 0 then (false, chkA a, ()) else if chkA b ≠ 0 then (false, chkA b, ()) else (decide (ordA a b < 0), 0, ())
theorem addr_Less_eq (a b : Ad) : addr_Less_t a b = some (lessA a b) := by
  unfold addr_Less_t lessA
  have hl : loopN addr_Less_L2 FUEL (((), (), (), (lenL [a, b], ()), (0, ()), ()), ((a, ()), (b, ()), [a, b], ())) = some (if chkA a ≠ 0 then Sum.inl (((false, ()), (chkA a, ()), ()), ()) else if chkA b ≠ 0 then Sum.inl (((false, ()), (chkA b, ()), ()), ()) else Sum.inr (((), (), ()), ((a, ()), (b, ()), ()))) := by
    rw [show FUEL = (FUEL - 3) + 1 + 1 + 1 from rfl]
    generalize FUEL - 3 = n
    rw [loopN_succ]
    simp only [addr_Less_L2]
    rw [decide_eq_true (show (0 : Int) < lenL [a, b] by simp [lenL]), br_true, req_of (inRange_of (by omega) (by simp [lenL])), show geti [a, b] 0 = some a from rfl, bind_s, addr_Check_eq, bind_s]
    by_cases h1 : chkA a = 0
    · rw [decide_eq_true (show (chkA a, ()).1 = 0 from h1), Bool.not_true, br_false, req_of (i64ok_of (by omega) (by omega)), loopN_succ]
      simp only [addr_Less_L2]
      rw [decide_eq_true (show (0 : Int) + 1 < lenL [a, b] by simp [lenL]), br_true, req_of (inRange_of (by omega) (by simp [lenL])), show geti [a, b] (0 + 1) = some b from rfl, bind_s, addr_Check_eq, bind_s]
      simp only [h1, ne_eq, not_true, if_false]
      by_cases h2 : chkA b = 0
      · rw [decide_eq_true (show (chkA b, ()).1 = 0 from h2), Bool.not_true, br_false, req_of (i64ok_of (by omega) (by omega)), loopN_succ]
        simp only [addr_Less_L2]
        rw [decide_eq_false (show ¬ (0 : Int) + 1 + 1 < lenL [a, b] by simp [lenL]), br_false]
        simp [h2]
      · rw [decide_eq_false (show ¬ (chkA b, ()).1 = 0 from h2), Bool.not_false, br_true]
        simp [h2]
    · rw [decide_eq_false (show ¬ (chkA a, ()).1 = 0 from h1), Bool.not_false, br_true]
      simp [h1]
  rw [hl, bind_s]
  by_cases h1 : chkA a = 0
  · by_cases h2 : chkA b = 0
    · simp only [h1, h2, ne_eq, not_true, if_false, sumC, addr_Order_eq, bind_s]
    · simp only [h1, h2, ne_eq, not_true, if_false, not_false_eq_true, if_true, sumC]
  · simp only [h1, ne_eq, not_false_eq_true, if_true, sumC]
theorem less_right {a b : Ad} (ha : a.In) (hb : b.In) (ca : chkA a = 0) (cb : chkA b = 0) : lessA a b = (aheadA a b, 0, ()) := by
  unfold lessA
  rw [if_neg (fun h => h ca), if_neg (fun h => h cb), ord_neg ha hb]
end Go.Ma
