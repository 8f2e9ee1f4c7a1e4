/-
  Plain laws on addresses and prefixes as numbers and as rows of bits. No program here.
-/
import Derived.Test.YtihapikjcifbaaaDoorPa
import Derived.IntWalk
namespace Go.Ma
open Go

def Ad.wf (a : Ad) : Prop := 0 ≤ a.hi ∧ a.hi < 18446744073709551616 ∧ 0 ≤ a.lo ∧ a.lo < 18446744073709551616
theorem Ad.In.wf {a : Ad} (h : a.In) : a.wf := ⟨h.1.1, h.1.2, h.2.1, h.2.2⟩
/-- What addr.Check answers. -/
def chkA (a : Ad) : Int := if a.v6 = false ∧ (a.hi ≠ 0 ∨ 4294967296 ≤ a.lo) then 3 else 0
def wid (v6 : Bool) : Nat := if v6 then 128 else 32
def Ad.num (a : Ad) : Nat := a.hi.toNat * 18446744073709551616 + a.lo.toNat
def ofNum (v6 : Bool) (n : Nat) : Ad := ⟨v6, (n / 18446744073709551616 : Nat), (n % 18446744073709551616 : Nat)⟩
def Ad.right (a : Ad) : Prop := a.wf ∧ chkA a = 0
theorem wrap_i64 {n : Int} (h : -9223372036854775808 ≤ n) (h' : n < 9223372036854775808) : IntKind.i64.wrap n = n := IntWalk.i64_in n (by omega)
theorem wrap_u64 {n : Int} (h : 0 ≤ n) (h' : n < 18446744073709551616) : IntKind.u64.wrap n = n := by
  simp only [IntKind.wrap, IntKind.bits, IntKind.signed, Bool.false_and]
  simp
  omega
theorem wrap_u64_mod (n : Int) : IntKind.u64.wrap n = n % 18446744073709551616 := by
  simp only [IntKind.wrap, IntKind.bits, IntKind.signed, Bool.false_and]
  simp

theorem wid_cases (v6 : Bool) : (v6 = true ∧ wid v6 = 128) ∨ (v6 = false ∧ wid v6 = 32) := by cases v6 <;> simp [wid]
theorem right_num (a : Ad) (h : a.right) : a.num < 2 ^ wid a.v6 := by
  obtain ⟨⟨h1, h2, h3, h4⟩, hc⟩ := h
  unfold chkA at hc
  unfold Ad.num wid
  cases hv : a.v6
  · simp only [hv] at hc ⊢
    split at hc
    · cases hc
    · rename_i hn
      simp only [Bool.false_eq_true, if_false]
      simp only [true_and, not_or, Decidable.not_not] at hn
      omega
  · simp only [if_true]
    omega
theorem ofNum_num (a : Ad) (h : a.wf) : ofNum a.v6 a.num = a := by
  obtain ⟨h1, h2, h3, h4⟩ := h
  unfold ofNum Ad.num
  cases a with
  | mk v hi lo =>
    simp only at h1 h2 h3 h4
    simp only [Ad.mk.injEq, true_and]
    constructor <;> omega
theorem num_ofNum (v6 : Bool) (n : Nat) : (ofNum v6 n).num = n := by
  unfold ofNum Ad.num
  simp only [Int.toNat_natCast]
  omega
theorem num_inj {a b : Ad} (ha : a.wf) (hb : b.wf) (hv : a.v6 = b.v6) (h : a.num = b.num) : a = b := by
  rw [← ofNum_num a ha, ← ofNum_num b hb, hv, h]

theorem pow_split {r : Nat} (h : 64 ≤ r) : 2 ^ r = 2 ^ (r - 64) * 18446744073709551616 := by
  have : r = (r - 64) + 64 := by omega
  rw [this, Nat.pow_add]
  simp
theorem pow_lt64 {r : Nat} (h : r < 64) : 2 ^ r ≤ 9223372036854775808 := by
  have := Nat.pow_le_pow_right (n := 2) (by omega) (show r ≤ 63 by omega)
  simpa using this
theorem mask_small {r : Nat} (h : r < 64) : (2 ^ r - 1) / 18446744073709551616 = 0 ∧ (2 ^ r - 1) % 18446744073709551616 = 2 ^ r - 1 := by
  have := pow_lt64 h
  constructor <;> omega
theorem mask_big {r : Nat} (h : 64 ≤ r) : (2 ^ r - 1) / 18446744073709551616 = 2 ^ (r - 64) - 1 ∧ (2 ^ r - 1) % 18446744073709551616 = 18446744073709551615 := by
  have h1 := pow_split h
  have h2 := Nat.two_pow_pos (r - 64)
  generalize 2 ^ (r - 64) = q at h1 h2 ⊢
  rw [h1]
  constructor <;> omega
/-- 1<<r - 1 -/
theorem shl_one {r : Nat} (h : r < 64) : aop .sub .u64 (aop .shl .u64 1 (r : Int)) 1 = ((2 ^ r - 1 : Nat) : Int) := by
  have h1 := pow_lt64 h
  have h2 := Nat.two_pow_pos r
  have e1 : aop .shl .u64 1 (r : Int) = ((2 ^ r : Nat) : Int) := by
    simp only [aop, IntKind.bits, Int.toNat_natCast, Nat.min_eq_left (show r ≤ 64 by omega)]
    rw [wrap_u64_mod]
    have hc : (2 : Int) ^ r = ((2 ^ r : Nat) : Int) := by push_cast; rfl
    rw [Int.one_mul, hc]
    generalize 2 ^ r = q at h1 h2 ⊢
    omega
  rw [e1]
  simp only [aop]
  rw [wrap_u64 (by omega) (by omega)]
  omega

/-- Without the last k bits. -/
def cutN (n k : Nat) : Nat := n / 2 ^ k * 2 ^ k
theorem andNot_mask (x : Nat) (k : Nat) (hx : x < 18446744073709551616) (hk : k ≤ 64) : aop .andNot .u64 (x : Int) ((2 ^ k - 1 : Nat) : Int) = ((x / 2 ^ k * 2 ^ k : Nat) : Int) := by
  have hp : 2 ^ k ≤ 18446744073709551616 := by
    have := Nat.pow_le_pow_right (n := 2) (by omega) hk
    simpa using this
  have hpos := Nat.two_pow_pos k
  have e1 : (BitVec.ofInt 64 (x : Int)).toNat = x := by
    rw [BitVec.ofInt_natCast, BitVec.toNat_ofNat]
    exact Nat.mod_eq_of_lt (by simpa using hx)
  have e2 : (BitVec.ofInt 64 ((2 ^ k - 1 : Nat) : Int)).toNat = 2 ^ k - 1 := by
    rw [BitVec.ofInt_natCast, BitVec.toNat_ofNat]
    exact Nat.mod_eq_of_lt (by simp only [Nat.reducePow]; omega)
  have e3 : (BitVec.ofInt 64 (x : Int) &&& ~~~ BitVec.ofInt 64 ((2 ^ k - 1 : Nat) : Int)).toNat = x / 2 ^ k * 2 ^ k := by
    rw [BitVec.toNat_and, BitVec.toNat_not, e1, e2]
    apply Nat.eq_of_testBit_eq
    intro i
    rw [Nat.testBit_and, show 2 ^ 64 - 1 - (2 ^ k - 1) = 2 ^ 64 - ((2 ^ k - 1) + 1) by omega, Nat.testBit_two_pow_sub_succ (by simp only [Nat.reducePow]; omega), Nat.testBit_two_pow_sub_one, Nat.testBit_mul_two_pow, Nat.testBit_div_two_pow]
    by_cases hi : k ≤ i
    · rw [Nat.sub_add_cancel hi]
      by_cases h64 : i < 64
      · simp [hi, h64, Nat.not_lt.2 hi]
      · have : x.testBit i = false := Nat.testBit_lt_two_pow (Nat.lt_of_lt_of_le (by simpa using hx : x < 2 ^ 64) (Nat.pow_le_pow_right (by omega) (by omega)))
        simp [this]
    · simp [hi, Nat.lt_of_not_le hi]
  simp only [aop]
  show IntKind.u64.wrap ((BitVec.ofInt 64 (x : Int) &&& ~~~ BitVec.ofInt 64 ((2 ^ k - 1 : Nat) : Int)).toNat : Int) = _
  rw [e3]
  have : x / 2 ^ k * 2 ^ k ≤ x := Nat.div_mul_le_self x _
  exact wrap_u64 (by omega) (by omega)
theorem mask_parts (k : Nat) : (2 ^ k - 1) / 18446744073709551616 = 2 ^ (k - 64) - 1 ∧ (2 ^ k - 1) % 18446744073709551616 = 2 ^ (min k 64) - 1 := by
  by_cases h : k < 64
  · obtain ⟨h1, h2⟩ := mask_small h
    rw [show k - 64 = 0 by omega, Nat.min_eq_left (by omega)]
    exact ⟨h1, h2⟩
  · obtain ⟨h1, h2⟩ := mask_big (r := k) (by omega)
    rw [Nat.min_eq_right (by omega)]
    exact ⟨h1, h2⟩
theorem cut_parts' (Q hi lo k : Nat) (hQ : Q = 2 ^ 64) (hlo : lo < Q) : (hi * Q + lo) / 2 ^ k * 2 ^ k = (hi / 2 ^ (k - 64) * 2 ^ (k - 64)) * Q + lo / 2 ^ (min k 64) * 2 ^ (min k 64) := by
  by_cases h : k ≤ 64
  · have e0 : k - 64 = 0 := by omega
    rw [e0, Nat.min_eq_left h]
    have e : Q = 2 ^ k * 2 ^ (64 - k) := by
      rw [hQ, ← Nat.pow_add, show k + (64 - k) = 64 by omega]
    have hpos := Nat.two_pow_pos k
    have e2 : hi * Q + lo = 2 ^ k * (hi * 2 ^ (64 - k)) + lo := by rw [e, Nat.mul_left_comm]
    rw [e2, Nat.mul_add_div hpos, Nat.add_mul, Nat.pow_zero, Nat.div_one, Nat.mul_one, e]
    have e3 : hi * 2 ^ (64 - k) * 2 ^ k = hi * (2 ^ k * 2 ^ (64 - k)) := by rw [Nat.mul_assoc, Nat.mul_comm (2 ^ (64 - k))]
    rw [e3]
  · have e : 2 ^ k = 2 ^ (k - 64) * Q := by
      rw [hQ, ← Nat.pow_add, show k - 64 + 64 = k by omega]
    have hpos := Nat.two_pow_pos (k - 64)
    have hQ0 : 0 < Q := by omega
    rw [Nat.min_eq_right (by omega), ← hQ, e, Nat.mul_comm (2 ^ (k - 64)) Q, ← Nat.div_div_eq_div_mul]
    have e1 : (hi * Q + lo) / Q = hi := by rw [Nat.mul_comm, Nat.mul_add_div hQ0, Nat.div_eq_of_lt hlo, Nat.add_zero]
    rw [e1, Nat.div_eq_of_lt hlo, Nat.zero_mul, Nat.add_zero, Nat.mul_comm Q, Nat.mul_assoc]
theorem cut_parts (hi lo k : Nat) (hlo : lo < 18446744073709551616) : cutN (hi * 18446744073709551616 + lo) k = (hi / 2 ^ (k - 64) * 2 ^ (k - 64)) * 18446744073709551616 + lo / 2 ^ (min k 64) * 2 ^ (min k 64) :=
  cut_parts' 18446744073709551616 hi lo k (by decide) hlo

/-- prefix.Cut of a right address. -/
def cutA (a : Ad) (bits : Int) : Ad := ofNum a.v6 (cutN a.num (wid a.v6 - bits.toNat))
def maskA (v6 : Bool) (bits : Int) : Ad := ofNum v6 (2 ^ (wid v6 - bits.toNat) - 1)
def lastA (p : Pf) : Ad := ofNum p.ad.v6 (p.ad.num + (2 ^ (wid p.ad.v6 - p.bits.toNat) - 1))
theorem cutA_v6 (a : Ad) (bits : Int) : (cutA a bits).v6 = a.v6 := rfl
theorem cutA_parts (a : Ad) (h : a.wf) (bits : Int) : cutA a bits =
    ⟨a.v6, ((a.hi.toNat / 2 ^ (wid a.v6 - bits.toNat - 64) * 2 ^ (wid a.v6 - bits.toNat - 64) : Nat) : Int), ((a.lo.toNat / 2 ^ (min (wid a.v6 - bits.toNat) 64) * 2 ^ (min (wid a.v6 - bits.toNat) 64) : Nat) : Int)⟩ := by
  obtain ⟨h1, h2, h3, h4⟩ := h
  unfold cutA Ad.num
  rw [cut_parts _ _ _ (by omega)]
  have hlt : a.lo.toNat / 2 ^ (min (wid a.v6 - bits.toNat) 64) * 2 ^ (min (wid a.v6 - bits.toNat) 64) < 18446744073709551616 := Nat.lt_of_le_of_lt (Nat.div_mul_le_self _ _) (by omega)
  generalize a.lo.toNat / 2 ^ (min (wid a.v6 - bits.toNat) 64) * 2 ^ (min (wid a.v6 - bits.toNat) 64) = lo at hlt ⊢
  generalize a.hi.toNat / 2 ^ (wid a.v6 - bits.toNat - 64) * 2 ^ (wid a.v6 - bits.toNat - 64) = hi
  unfold ofNum
  simp only [Ad.mk.injEq, true_and]
  constructor <;> omega
theorem maskA_parts (v6 : Bool) (bits : Int) : maskA v6 bits = ⟨v6, ((2 ^ (wid v6 - bits.toNat - 64) - 1 : Nat) : Int), ((2 ^ (min (wid v6 - bits.toNat) 64) - 1 : Nat) : Int)⟩ := by
  unfold maskA ofNum
  rw [(mask_parts _).1, (mask_parts _).2]

/-- What prefix.Check answers. -/
def chkP (p : Pf) : Int :=
  if chkA p.ad ≠ 0 then chkA p.ad else if p.bits < 0 ∨ p.bits > wid p.ad.v6 then 3 else if cutA p.ad p.bits ≠ p.ad then 4 else 0
theorem chkP_bits {p : Pf} (h : chkP p = 0) : 0 ≤ p.bits ∧ p.bits ≤ (wid p.ad.v6 : Nat) := by
  unfold chkP at h
  split at h
  · rename_i h1; exact absurd h h1
  split at h
  · cases h
  · rename_i h1; simp only [not_or] at h1; omega
/-- The order of addresses: less, the same, more. -/
def ordI (x y : Int) : Int := if x < y then -1 else if x > y then 1 else 0
def ordA (a b : Ad) : Int := if a.v6 ≠ b.v6 ∧ b.v6 then -1 else if a.v6 ≠ b.v6 then 1 else if a.hi ≠ b.hi then ordI a.hi b.hi else ordI a.lo b.lo
def ordP (p q : Pf) : Int := if ordA p.ad q.ad ≠ 0 then ordA p.ad q.ad else p.bits - q.bits
def holds (p : Pf) (a : Ad) : Bool := p.ad.v6 == a.v6 && decide (cutA a p.bits = p.ad)
def over (p q : Pf) : Bool := decide (p.bits ≤ q.bits) && holds p q.ad

/-! ### Bits as text. -/
def bitV (n i : Nat) : UInt8 := if n.testBit i then 49 else 48
/-- cnt bits from bit number top on downward -/
def bitsTo (n top cnt : Nat) : List UInt8 := (List.range cnt).map fun j => bitV n (top - j)
theorem bitsTo_succ (n top c : Nat) : bitsTo n top (c + 1) = bitsTo n top c ++ [bitV n (top - c)] := by
  simp [bitsTo, List.range_succ]
theorem bitsTo_length (n top c : Nat) : (bitsTo n top c).length = c := by simp [bitsTo]
/-- What R.Bits answers. -/
def bitsA (a : Ad) : List UInt8 := if a.v6 then bitsTo a.hi.toNat 63 64 ++ bitsTo a.lo.toNat 63 64 else (bitsTo a.hi.toNat 63 64 ++ bitsTo a.lo.toNat 63 64).drop 96
def ofBytes (l : List UInt8) : ByteArray := ⟨l.toArray⟩
theorem bit_step (x i : Int) (hx : 0 ≤ x) (hx' : x < 18446744073709551616) (hi : 0 ≤ i) (hi' : i ≤ 63) :
    IntKind.u8.wrap (aop .add .u64 48 (aop .rem .u64 (aop .shr .u64 x i) 2)) = ((bitV x.toNat i.toNat).toNat : Int) := by
  obtain ⟨n, rfl⟩ := Int.eq_ofNat_of_zero_le hx
  obtain ⟨k, rfl⟩ := Int.eq_ofNat_of_zero_le hi
  have e1 : aop .shr .u64 (n : Int) (k : Int) = ((n / 2 ^ k : Nat) : Int) := by
    simp only [aop, Int.toNat_natCast, IntKind.bits, Nat.min_eq_left (show k ≤ 64 by omega)]
    rw [show ((2 : Int) ^ k) = ((2 ^ k : Nat) : Int) by push_cast; rfl, Int.fdiv_eq_ediv_of_nonneg _ (Int.natCast_nonneg _)]
    rfl
  have e2 : aop .rem .u64 ((n / 2 ^ k : Nat) : Int) 2 = ((n / 2 ^ k % 2 : Nat) : Int) := by
    simp only [aop]
    rw [Int.tmod_eq_emod_of_nonneg (Int.natCast_nonneg _)]
    rfl
  rw [e1, e2]
  have hb : n.testBit k = decide (n / 2 ^ k % 2 = 1) := Nat.testBit_eq_decide_div_mod_eq ..
  simp only [Int.toNat_natCast, bitV, hb]
  have hlt : n / 2 ^ k % 2 < 2 := Nat.mod_lt _ (by omega)
  generalize n / 2 ^ k % 2 = q at hlt ⊢
  match q, hlt with
  | 0, _ => decide
  | 1, _ => decide
end Go.Ma
