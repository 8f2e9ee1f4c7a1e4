/-
  AddrOrder: of two addresses one stands ahead, or they are the same; the next one is ahead of nothing that is behind; three are in order.
-/
import Derived.Test.YtihapikjcifbaaaDoorCf
import Derived.Test.YtihapikjcifbaaaDoorCe
namespace Go.Ma
open Go

def kW (v : Bool) : Int := if v then 1 else 0
theorem ordA_keyW (a b : Ad) : (ordA a b < 0 ↔ kW a.v6 < kW b.v6 ∨ (kW a.v6 = kW b.v6 ∧ (a.hi < b.hi ∨ (a.hi = b.hi ∧ a.lo < b.lo)))) := by
  unfold ordA ordI kW
  cases a.v6 <;> cases b.v6 <;> simp <;> (by_cases h1 : a.hi = b.hi <;> simp [h1] <;> constructor <;> (repeat' split) <;> omega)
theorem kW_inj {v w : Bool} (h : kW v = kW w) : v = w := by cases v <;> cases w <;> first | rfl | (exact absurd h (by decide))
theorem after_ok {a : Ad} (h : a.In) (ca : chkA a = 0) (hok : (afterA a).2.1 = true) : (afterA a).1.v6 = a.v6 ∧ chkA (afterA a).1 = 0 ∧ (((afterA a).1.hi = a.hi ∧ (afterA a).1.lo = a.lo + 1) ∨ ((afterA a).1.hi = a.hi + 1 ∧ a.lo = 18446744073709551615 ∧ (afterA a).1.lo = 0)) := by
  obtain ⟨⟨h1, h2⟩, h3, h4⟩ := h
  have hw : ∀ x : Int, 0 ≤ x → x < 18446744073709551616 → aop .add .u64 x 1 = if x = 18446744073709551615 then 0 else x + 1 := fun x x0 x1 => by
    show IntKind.u64.wrap (x + 1) = _
    split
    · rename_i e
      subst e
      rfl
    · exact wrap_u64 (by omega) (by omega)
  unfold afterA at hok ⊢
  rw [hw _ h3 h4, hw _ h1 h2] at *
  cases hv : a.v6
  · have hc : a.hi = 0 ∧ a.lo < 4294967296 := by
      unfold chkA at ca
      split at ca
      · cases ca
      · rename_i hn
        rw [hv] at hn
        simp only [true_and, not_or, ne_eq, Decidable.not_not, Int.not_le] at hn
        exact hn
    simp only [hv, Bool.false_and, cond_false, decide_eq_true_eq] at hok ⊢
    rw [if_neg (by omega)] at hok ⊢
    refine ⟨by trivial, ?_, .inl ⟨by trivial, by trivial⟩⟩
    unfold chkA
    rw [if_neg]
    simp only [true_and, not_or, ne_eq, Decidable.not_not, Int.not_le]
    exact ⟨hc.1, hok⟩
  · simp only [hv, Bool.true_and] at hok ⊢
    by_cases he : a.lo = 18446744073709551615
    · rw [if_pos he] at hok ⊢
      simp only [decide_true, cond_true, Bool.not_eq_true', decide_eq_false_iff_not] at hok ⊢
      have : ¬ a.hi = 18446744073709551615 := fun e => by rw [if_pos e] at hok; exact hok rfl
      rw [if_neg this]
      exact ⟨by trivial, by trivial, .inr ⟨by trivial, he, by trivial⟩⟩
    · rw [if_neg he] at hok ⊢
      have : decide (a.lo + 1 = 0) = false := decide_eq_false (by omega)
      simp only [this, cond_false] at hok ⊢
      exact ⟨by trivial, by trivial, .inl ⟨by trivial, by trivial⟩⟩
def nextA (a : Ad) : Ad × Bool × Int × Unit := if chkA a ≠ 0 then (⟨false, 0, 0⟩, false, chkA a, ()) else if (afterA a).2.1 = true then ((afterA a).1, true, 0, ()) else (⟨false, 0, 0⟩, false, 0, ())
theorem addr_Next_eq (a : Ad) : addr_Next_t a = some (nextA a) := by
  unfold addr_Next_t nextA
  rw [addr_Check_eq, bind_s]
  by_cases h1 : chkA a = 0
  · rw [decide_eq_true (show (chkA a, ()).1 = 0 from h1), Bool.not_true, br_false, if_neg (fun h => h h1), addr_After_all, bind_s]
    cases h2 : (afterA a).2.1
    · simp [br]
    · simp [br]
  · rw [decide_eq_false (show ¬ (chkA a, ()).1 = 0 from h1), Bool.not_false, br_true, if_pos h1]
theorem less_left {a b : Ad} (h : ¬ (chkA a = 0 ∧ chkA b = 0)) : ∃ e, e ≠ 0 ∧ lessA a b = (false, e, ()) := by
  unfold lessA
  by_cases h1 : chkA a = 0
  · have h2 : chkA b ≠ 0 := fun h2 => h ⟨h1, h2⟩
    exact ⟨chkA b, h2, by rw [if_neg (fun h => h h1), if_pos h2]⟩
  · exact ⟨chkA a, h1, by rw [if_pos h1]⟩
theorem less_both {a b : Ad} (ca : chkA a = 0) (cb : chkA b = 0) : lessA a b = (decide (ordA a b < 0), 0, ()) := by
  unfold lessA
  rw [if_neg (fun h => h ca), if_neg (fun h => h cb)]
theorem AddrOrder_eq {a b c : Ad} (ha : a.In) (hb : b.In) : law_AddrOrder_t a b c = some (true, ()) := by
  unfold law_AddrOrder_t
  rw [addrBegun_eq, bind_s, Bool.not_true, br_false, addr_Less_eq, bind_s, addr_Less_eq, bind_s]
  by_cases hab : chkA a = 0 ∧ chkA b = 0
  · obtain ⟨ca, cb⟩ := hab
    rw [less_both ca cb, less_both cb ca]
    simp only [decide_true, Bool.not_true, br_false, bind_s]
    have k1 := ordA_keyW a b
    have k2 := ordA_keyW b a
    have hq : (br (beqB (decide (ordA a b < 0)) (decide (ordA b a < 0))) (br (decide (ordA a b < 0)) (some true) (some (!eqAd a b))) (some false)) = some false := by
      by_cases h1 : ordA a b < 0
      · have h2 : ¬ ordA b a < 0 := by omega
        simp [h1, h2, beqB, br]
      · by_cases h2 : ordA b a < 0
        · simp [h1, h2, beqB, br]
        · have he : a = b := by
            have hv : kW a.v6 = kW b.v6 := by omega
            have h3 : a.hi = b.hi ∧ a.lo = b.lo := by omega
            obtain ⟨v, hi, lo⟩ := a
            obtain ⟨v', hi', lo'⟩ := b
            simp only at hv h3 ⊢
            rw [kW_inj hv, h3.1, h3.2]
          subst he
          simp [h1, beqB, br, eqAd_eq]
    rw [hq, bind_s, br_false, addr_Less_eq, bind_s, addr_Less_eq, bind_s]
    have hr : ∃ x, (br (decide ((lessA b c).2.1 = 0)) (some (decide ((lessA a c).2.1 = 0))) (some false)) = some x ∧ (br x (some (decide (ordA a b < 0))) (some false)).bind (fun c9 => (br c9 (some (lessA b c).1) (some false)).bind fun c10 => br c10 (some (!(lessA a c).1)) (some false)) = some false := by
      by_cases cc : chkA c = 0
      · rw [less_both cb cc, less_both ca cc]
        refine ⟨true, rfl, ?_⟩
        have k3 := ordA_keyW b c
        have k4 := ordA_keyW a c
        by_cases h1 : ordA a b < 0
        · by_cases h2 : ordA b c < 0
          · have h3 : ordA a c < 0 := by omega
            simp [h1, h2, h3, br]
          · simp [h1, h2, br]
        · simp [h1, br]
      · obtain ⟨e, he, h1⟩ := less_left (a := b) (b := c) (fun h => cc h.2)
        rw [h1]
        exact ⟨false, by simp [he, br], rfl⟩
    obtain ⟨x, hx, hx2⟩ := hr
    rw [hx, bind_s]
    obtain ⟨c9, h9, hx2⟩ := Option.bind_eq_some_iff.1 hx2
    rw [h9, bind_s]
    obtain ⟨c10, h10, hx2⟩ := Option.bind_eq_some_iff.1 hx2
    rw [h10, bind_s, hx2, bind_s, br_false, addr_Next_eq, bind_s]
    unfold nextA
    rw [if_neg (fun h => h ca)]
    by_cases hok : (afterA a).2.1 = true
    · rw [if_pos hok]
      obtain ⟨n1, n2, n3⟩ := after_ok ha ca hok
      generalize (afterA a).1 = n at n1 n2 n3 ⊢
      simp only [decide_true, Bool.not_true, br_false, bind_s]
      rw [addr_Less_eq, bind_s, addr_Less_eq, bind_s, less_both ca n2, less_both cb n2]
      have k5 := ordA_keyW a n
      have k6 := ordA_keyW b n
      rw [n1] at k5 k6
      obtain ⟨⟨b1, b2⟩, b3, b4⟩ := hb
      have h5 : ordA a n < 0 := by omega
      by_cases h1 : ordA a b < 0
      · have h6 : ¬ ordA b n < 0 := by omega
        simp [h1, h5, h6, br, beqB, n1]
      · simp [h1, h5, br, beqB, n1]
    · rw [if_neg hok]
      simp [br]
  · obtain ⟨e, he, h1⟩ := less_left hab
    obtain ⟨e', he', h2⟩ := less_left (a := b) (b := a) (fun h => hab ⟨h.2, h.1⟩)
    rw [h1, h2]
    simp [he, br]
end Go.Ma
