/-
  The plain forms of the functions of addresses and prefixes, the program's and the document's, come to the plain laws.
-/
import Derived.Test.YtaicmdnpjgijjaaGreatDoorPb
import Derived.Test.YtaicmdnpjgijjaaGreatDoorPl
namespace Go.Ma
open Go

theorem addr_Check_eq (a : Ad) : addr_Check_t a = some (chkA a, ()) := by
  unfold addr_Check_t chkA
  cases hv : a.v6 <;> by_cases h1 : a.hi = 0 <;> by_cases h2 : a.lo ≥ 4294967296 <;> simp [br_true, br_false, h1, h2]
theorem wid_le (v : Bool) : wid v ≤ 128 := by cases v <;> decide
theorem prefix_Wide_eq (a : Ad) : prefix_Wide_t a = some (((wid a.v6 : Nat) : Int), ()) := by
  unfold prefix_Wide_t
  cases a.v6 <;> rfl
theorem R_wide_eq (a : Ad) : R_wide_t a = some (((wid a.v6 : Nat) : Int), ()) := by
  unfold R_wide_t
  cases a.v6 <;> rfl
theorem prefix_mask_eq (a : Ad) (bits : Int) (hb : 0 ≤ bits) (hb' : bits ≤ (wid a.v6 : Nat)) : prefix_mask_t a bits = some (maskA a.v6 bits, ()) := by
  unfold prefix_mask_t
  rw [prefix_Wide_eq, bind_s, maskA_parts]
  have hw := wid_le a.v6
  obtain ⟨r, hr⟩ : ∃ r : Nat, ((wid a.v6 : Nat) : Int) - bits = (r : Int) := ⟨(((wid a.v6 : Nat) : Int) - bits).toNat, by omega⟩
  have hrn : wid a.v6 - bits.toNat = r := by omega
  rw [hrn, hr]
  rw [req_of (i64ok_of (by omega) (by omega))]
  by_cases h1 : r < 64
  · rw [decide_eq_true (show (r : Int) < 64 by omega), br_true, req_of (by simp), decide_eq_false (show ¬ (r : Int) > 64 by omega), br_false, shl_one h1]
    rw [show r - 64 = 0 by omega, Nat.min_eq_left (by omega)]
    rfl
  · rw [decide_eq_false (show ¬ (r : Int) < 64 by omega), br_false]
    by_cases h2 : r > 64
    · rw [decide_eq_true (show (r : Int) > 64 by omega), br_true]
      by_cases h3 : r < 128
      · rw [decide_eq_true (show (r : Int) < 128 by omega), br_true, req_of (i64ok_of (by omega) (by omega)), req_of (by simp; omega)]
        rw [show (r : Int) - 64 = ((r - 64 : Nat) : Int) by omega, shl_one (by omega), Nat.min_eq_right (by omega)]
        rfl
      · rw [decide_eq_false (show ¬ (r : Int) < 128 by omega), br_false]
        have : r = 128 := by omega
        subst this
        rfl
    · have : r = 64 := by omega
      subst this
      rfl
theorem prefix_Cut_eq (a : Ad) (h : a.wf) (bits : Int) (hb : 0 ≤ bits) (hb' : bits ≤ (wid a.v6 : Nat)) : prefix_Cut_t a bits = some (cutA a bits, ()) := by
  unfold prefix_Cut_t
  rw [prefix_mask_eq a bits hb hb', bind_s, maskA_parts, cutA_parts a h]
  obtain ⟨h1, h2, h3, h4⟩ := h
  have hw := wid_le a.v6
  have e1 := andNot_mask a.hi.toNat (wid a.v6 - bits.toNat - 64) (by omega) (by omega)
  have e2 := andNot_mask a.lo.toNat (min (wid a.v6 - bits.toNat) 64) (by omega) (by omega)
  rw [Int.toNat_of_nonneg h1] at e1
  rw [Int.toNat_of_nonneg h3] at e2
  simp only
  rw [e1, e2]
theorem eqAd_eq (a b : Ad) : eqAd a b = decide (a = b) := by
  have e : (a = b) ↔ (a.v6 = b.v6 ∧ a.hi = b.hi ∧ a.lo = b.lo) := by
    cases a; cases b
    simp only [Ad.mk.injEq]
  rw [Bool.eq_iff_iff, decide_eq_true_iff, e]
  unfold eqAd
  simp [beqB, acmp]
theorem eqPf_eq (a b : Pf) : eqPf a b = decide (a = b) := by
  have e : (a = b) ↔ (a.ad.v6 = b.ad.v6 ∧ a.ad.hi = b.ad.hi ∧ a.ad.lo = b.ad.lo ∧ a.bits = b.bits) := by
    cases a with | mk a n => cases b with | mk b k =>
    cases a; cases b
    simp only [Pf.mk.injEq, Ad.mk.injEq, and_assoc]
  rw [Bool.eq_iff_iff, decide_eq_true_iff, e]
  unfold eqPf
  simp [beqB, acmp]
theorem prefix_Check_eq {p : Pf} (h : p.In) : prefix_Check_t p = some (chkP p, ()) := by
  unfold prefix_Check_t chkP
  rw [addr_Check_eq, bind_s]
  by_cases h1 : chkA p.ad = 0
  · simp only [h1, decide_true, Bool.not_true, br_false, ne_eq, not_true, if_false]
    rw [prefix_Wide_eq, bind_s, br_ss, bind_s]
    by_cases h2 : p.bits < 0 ∨ p.bits > wid p.ad.v6
    · rw [if_pos h2]
      have : (bif decide (p.bits < 0) then true else decide (p.bits > ((wid p.ad.v6 : Nat) : Int))) = true := by
        rcases h2 with h2 | h2 <;> simp [h2]
      rw [this, br_true]
    · rw [if_neg h2]
      have : (bif decide (p.bits < 0) then true else decide (p.bits > ((wid p.ad.v6 : Nat) : Int))) = false := by
        simp only [not_or] at h2
        simp [h2.1]; omega
      rw [this, br_false, prefix_Cut_eq p.ad h.1.wf p.bits (by omega) (by omega), bind_s, eqAd_eq]
      by_cases h3 : cutA p.ad p.bits = p.ad <;> simp [h3, br_true, br_false]
  · simp [h1, br_true]
end Go.Ma
