/-
  Tables: the program's functions and the document's.
-/
import Derived.Test.YtaicmdnpjgijjaaGreatDoorPo
namespace Go.Ma
open Go

theorem prefix_Order_eq {p q : Pf} (hp : chkP p = 0) (hq : chkP q = 0) : prefix_Order_t p q = some (ordP p q, ()) := by
  have h1 := chkP_bits hp
  have h2 := chkP_bits hq
  have h3 := wid_le p.ad.v6
  have h4 := wid_le q.ad.v6
  unfold prefix_Order_t ordP
  rw [addr_Order_eq, bind_s]
  by_cases h : ordA p.ad q.ad = 0
  · rw [decide_eq_true (show (ordA p.ad q.ad, ()).1 = 0 from h), Bool.not_true, br_false, if_neg (fun h' => h' h), req_of (i64ok_of (by omega) (by omega))]
  · rw [decide_eq_false (show ¬ (ordA p.ad q.ad, ()).1 = 0 from h), Bool.not_false, br_true, if_pos h]
def aheadP (p q : Pf) : Bool := if p.ad ≠ q.ad then aheadA p.ad q.ad else decide (p.bits < q.bits)
/-- The program's order and the document's. -/
theorem ord_ahead {p q : Pf} (hp : p.In) (hq : q.In) : decide (ordP q p > 0) = aheadP p q := by
  unfold ordP aheadP
  have e : (p.ad = q.ad) ↔ (p.ad.v6 = q.ad.v6 ∧ p.ad.hi = q.ad.hi ∧ p.ad.lo = q.ad.lo) := by
    cases p.ad; cases q.ad
    simp only [Ad.mk.injEq]
  have hn : p.ad.v6 = q.ad.v6 → (p.ad.num < q.ad.num ↔ (p.ad.hi < q.ad.hi ∨ (p.ad.hi = q.ad.hi ∧ p.ad.lo < q.ad.lo))) := by
    intro _
    obtain ⟨⟨a1, a2⟩, a3, a4⟩ := hp.1
    obtain ⟨⟨b1, b2⟩, b3, b4⟩ := hq.1
    unfold Ad.num
    omega
  unfold ordA ordI aheadA
  by_cases hv : p.ad.v6 = q.ad.v6
  · have hv' : q.ad.v6 = p.ad.v6 := hv.symm
    rw [Bool.eq_iff_iff, decide_eq_true_iff]
    simp only [hv, ne_eq, not_true, false_and, if_false]
    have hn := hn hv
    by_cases h1 : p.ad.hi = q.ad.hi
    · by_cases h2 : p.ad.lo = q.ad.lo
      · have := e.2 ⟨hv, h1, h2⟩
        simp [this]
        try omega
      · have hne : ¬ p.ad = q.ad := fun h => h2 (e.1 h).2.2
        simp only [h1, not_true, if_false, hne, not_false_eq_true, if_true, decide_eq_true_iff, hn]
        by_cases h3 : q.ad.lo < p.ad.lo
        · simp [h3]; try omega
        · have h4 : q.ad.lo > p.ad.lo := by omega
          simp [h3, h4]
    · have hne : ¬ p.ad = q.ad := fun h => h1 (e.1 h).2.1
      have h1' : ¬ q.ad.hi = p.ad.hi := fun h => h1 h.symm
      simp only [h1', not_false_eq_true, if_true, hne, decide_eq_true_iff, hn]
      by_cases h3 : q.ad.hi < p.ad.hi
      · simp [h3]; try omega
      · have h4 : q.ad.hi > p.ad.hi := by omega
        simp [h3, h4]
  · have hne : ¬ p.ad = q.ad := fun h => hv (e.1 h).1
    have hv' : ¬ q.ad.v6 = p.ad.v6 := fun h => hv h.symm
    simp only [hne, hv, hv', ne_eq, not_false_eq_true, true_and, if_true]
    cases hp6 : p.ad.v6 <;> cases hq6 : q.ad.v6
    · rw [hp6, hq6] at hv; exact absurd rfl hv
    · simp
    · simp
    · rw [hp6, hq6] at hv; exact absurd rfl hv

/-! What is in a prefix. -/
theorem prefix_Over_eq {p q : Pf} (cp : chkP p = 0) (hq : q.In) : prefix_Over_t p q = some (over p q, ()) := by
  obtain ⟨h1, h2⟩ := chkP_bits cp
  unfold prefix_Over_t over
  rw [prefix_Holds_eq h1 h2 hq.1, bind_s, br_sb, bind_s]
  cases decide (p.bits ≤ q.bits) <;> rfl
end Go.Ma
