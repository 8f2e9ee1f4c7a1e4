/-
  The plain forms of the functions of addresses and prefixes, the program's and the document's, come to the plain laws.
-/
import Derived.Test.YtihapikjcifbaaaDoorPb
import Derived.Test.YtihapikjcifbaaaDoorPl
namespace Go.Ma
open Go

theorem addr_Check_eq (a : Ad) : addr_Check_t a = some (chkA a, ()) := by
  unfold addr_Check_t chkA
  cases hv : a.v6 <;> by_cases h1 : a.hi = 0 <;> by_cases h2 : a.lo ≥ 4294967296 <;> simp [br_true, br_false, h1, h2]
theorem wid_le (v : Bool) : wid v ≤ 128 := by cases v <;> decide
theorem eqAd_eq (a b : Ad) : eqAd a b = decide (a = b) := by
  have e : (a = b) ↔ (a.v6 = b.v6 ∧ a.hi = b.hi ∧ a.lo = b.lo) := by
    cases a; cases b
    simp only [Ad.mk.injEq]
  rw [Bool.eq_iff_iff, decide_eq_true_iff, e]
  unfold eqAd
  simp [beqB, acmp]
theorem eqPf_eq (a b : Pf) : eqPf a b = decide (a = b) := by
  have e : (a = b) ↔ (a.ad.v6 = b.ad.v6 ∧ a.ad.hi = b.ad.hi ∧ a.ad.lo = b.ad.lo ∧ a.bits = b.bits) := by
    cases a with | mk a n => cases b with | mk b k =>
    cases a; cases b
    simp only [Pf.mk.injEq, Ad.mk.injEq, and_assoc]
  rw [Bool.eq_iff_iff, decide_eq_true_iff, e]
  unfold eqPf
  simp [beqB, acmp]
end Go.Ma
