/-
  The order of addresses; what is in a prefix: the program's and the document's.
-/
import Derived.Test.YtihapikjcifbaaaDoorPf
namespace Go.Ma
open Go

/-! Rows of bits, and numbers, in order. -/
def lexLt : List UInt8 → List UInt8 → Bool
  | a :: r, b :: s => if a = b then lexLt r s else decide (a.toNat < b.toNat)
  | _, _ => false
theorem bitsTo_cons (n c : Nat) : bitsTo n c (c + 1) = bitV n c :: bitsTo n (c - 1) c := by
  apply List.ext_getElem?
  intro i
  rw [bitsTo_get]
  cases i with
  | zero => simp
  | succ i =>
    rw [List.getElem?_cons_succ, bitsTo_get]
    by_cases h : i < c
    · rw [if_pos (by omega), if_pos h, show c - 1 - i = c - (i + 1) by omega]
    · rw [if_neg (by omega), if_neg h]
theorem mod_succ (n c : Nat) : n % 2 ^ (c + 1) = n % 2 ^ c + 2 ^ c * (n.testBit c).toNat := by
  rw [Nat.mod_pow_succ, Nat.testBit_eq_decide_div_mod_eq]
  have := Nat.mod_lt (n / 2 ^ c) (show 0 < 2 by omega)
  generalize n / 2 ^ c % 2 = r at this ⊢
  match r, this with
  | 0, _ => rfl
  | 1, _ => rfl
theorem bitsTo_lex (n m : Nat) : ∀ c, lexLt (bitsTo n (c - 1) c) (bitsTo m (c - 1) c) = decide (n % 2 ^ c < m % 2 ^ c)
  | 0 => by simp [bitsTo, lexLt, Nat.mod_one]
  | c + 1 => by
    rw [show c + 1 - 1 = c from rfl, bitsTo_cons, bitsTo_cons, lexLt, bitsTo_lex n m c, mod_succ, mod_succ]
    have h1 := Nat.mod_lt n (Nat.two_pow_pos c)
    have h2 := Nat.mod_lt m (Nat.two_pow_pos c)
    generalize n % 2 ^ c = x at h1 ⊢
    generalize m % 2 ^ c = y at h2 ⊢
    generalize 2 ^ c = q at h1 h2 ⊢
    unfold bitV
    cases n.testBit c <;> cases m.testBit c
    · simp
    · simp; omega
    · simp; omega
    · simp
def lexO : List UInt8 → List UInt8 → ((((Bool × Unit) × Unit) × (Unit)) ⊕ ((Unit) × (Unit)))
  | a :: r, b :: s => if a = b then lexO r s else Sum.inl (((decide ((a.toNat : Int) < b.toNat), ()), ()), ())
  | _, _ => Sum.inr ((), ())
theorem lexO_eq : ∀ x y : List UInt8, sumC (lexO x y) (fun y4 => (some (y4.1.1.1, ()) : Option (Bool × Unit))) (fun _ => some (false, ())) = some (lexLt x y, ())
  | [], _ => rfl
  | _ :: _, [] => rfl
  | a :: r, b :: s => by
    unfold lexO lexLt
    by_cases h : a = b
    · rw [if_pos h, if_pos h, lexO_eq r s]
    · rw [if_neg h, if_neg h]
      simp only [sumC]
      congr 2
      simp
def aheadA (a b : Ad) : Bool := if a.v6 ≠ b.v6 then b.v6 else decide (a.num < b.num)
theorem addr_Order_eq (a b : Ad) : addr_Order_t a b = some (ordA a b, ()) := by
  unfold addr_Order_t addr_Order_1_t ordA ordI
  by_cases hv : a.v6 = b.v6
  · have : beqB a.v6 b.v6 = true := by simp [beqB, hv]
    rw [this]
    simp only [Bool.not_true, br_false, bind_s, hv, ne_eq, not_true, false_and, if_false]
    by_cases h1 : a.hi = b.hi
    · simp only [h1, decide_true, Bool.not_true, br_false, not_true, if_false]
      by_cases h2 : a.lo < b.lo
      · simp only [h2, decide_true, br_true, bind_s, if_true]
      · by_cases h3 : a.lo > b.lo
        · simp only [h2, h3, decide_true, decide_false, br_true, br_false, bind_s, if_true, if_false]
        · simp only [h2, h3, decide_false, br_false, bind_s, if_false]
    · simp only [h1, decide_false, Bool.not_false, br_true, not_false_eq_true, if_true]
      by_cases h2 : a.hi < b.hi
      · simp only [h2, decide_true, br_true, bind_s, if_true]
      · by_cases h3 : a.hi > b.hi
        · simp only [h2, h3, decide_true, decide_false, br_true, br_false, bind_s, if_true, if_false]
        · simp only [h2, h3, decide_false, br_false, bind_s, if_false]
  · have : beqB a.v6 b.v6 = false := by simp [beqB, hv]
    rw [this]
    cases hb : b.v6 <;> simp_all [br_true, br_false]
theorem chkP_ad {p : Pf} (h : chkP p = 0) : chkA p.ad = 0 := by
  unfold chkP at h
  split at h
  · rename_i h1; exact absurd h h1
  · rename_i h1; exact Decidable.not_not.1 h1
theorem chkP_cut {p : Pf} (h : chkP p = 0) : cutA p.ad p.bits = p.ad := by
  unfold chkP at h
  split at h
  · rename_i h1; exact absurd h h1
  split at h
  · cases h
  split at h
  · cases h
  · rename_i h1; exact Decidable.not_not.1 h1
/-- A prefix that is right, and an address: the same first bits. -/
theorem take_bits (n m w b : Nat) (hb : b ≤ w) : (bitsTo n (w - 1) w).take b = (bitsTo m (w - 1) w).take b ↔ ∀ i, w - b ≤ i → i < w → n.testBit i = m.testBit i := by
  constructor
  · intro h i h1 h2
    have := congrArg (fun l : List UInt8 => l[w - 1 - i]?) h
    have h3 : w - 1 - i < b := by omega
    have h4 : w - 1 - i < w := by omega
    simp only [List.getElem?_take, bitsTo_get, h3, h4, if_true, show w - 1 - (w - 1 - i) = i by omega] at this
    injection this with this
    unfold bitV at this
    cases hn : n.testBit i <;> cases hm : m.testBit i <;> rw [hn, hm] at this <;> first | rfl | (exfalso; revert this; decide)
  · intro h
    apply List.ext_getElem?
    intro j
    simp only [List.getElem?_take, bitsTo_get]
    by_cases hj : j < b
    · rw [if_pos hj, if_pos (by omega), if_pos hj, if_pos (by omega), bitV_congr (h (w - 1 - j) (by omega) (by omega))]
    · rw [if_neg hj, if_neg hj]
theorem cutN_bits (n m w b : Nat) (hb : b ≤ w) (hn : n < 2 ^ w) (hm : m < 2 ^ w) : cutN n (w - b) = cutN m (w - b) ↔ ∀ i, w - b ≤ i → i < w → n.testBit i = m.testBit i := by
  unfold cutN
  have hp := Nat.two_pow_pos (w - b)
  constructor
  · intro h i h1 h2
    have := congrArg (fun x => x.testBit i) h
    simp only [Nat.testBit_mul_two_pow, Nat.testBit_div_two_pow] at this
    simpa [h1, Nat.sub_add_cancel h1] using this
  · intro h
    congr 1
    apply Nat.eq_of_testBit_eq
    intro i
    rw [Nat.testBit_div_two_pow, Nat.testBit_div_two_pow]
    by_cases hi : i + (w - b) < w
    · exact h _ (by omega) hi
    · have a1 : n.testBit (i + (w - b)) = false := Nat.testBit_lt_two_pow (Nat.lt_of_lt_of_le hn (Nat.pow_le_pow_right (by omega) (by omega)))
      have a2 : m.testBit (i + (w - b)) = false := Nat.testBit_lt_two_pow (Nat.lt_of_lt_of_le hm (Nat.pow_le_pow_right (by omega) (by omega)))
      rw [a1, a2]
end Go.Ma
