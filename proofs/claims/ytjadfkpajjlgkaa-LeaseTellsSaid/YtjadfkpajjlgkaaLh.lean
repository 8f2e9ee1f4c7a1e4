/-
  The document's next address: one more, on bits.
-/
import Derived.Test.YtjadfkpajjlgkaaLg
namespace Go.Ma
open Go

/-! One more, the last bit first. -/
def lsbL (n w : Nat) : List UInt8 := (List.range w).map (bitV n)
theorem lsb_rev (n w : Nat) : (bitsTo n (w - 1) w).reverse = lsbL n w := by
  apply List.ext_getElem?
  intro i
  by_cases hi : i < w
  · rw [List.getElem?_reverse (by rw [bitsTo_length]; exact hi), bitsTo_length, bitsTo_get, if_pos (by omega)]
    simp only [lsbL, List.getElem?_map, List.getElem?_range hi, Option.map_some]
    rw [show w - 1 - (w - 1 - i) = i by omega]
  · rw [List.getElem?_eq_none (by simp [bitsTo_length]; omega), List.getElem?_eq_none (by simp [lsbL]; omega)]
theorem lsb_cons (n w : Nat) : lsbL n (w + 1) = bitV n 0 :: lsbL (n / 2) w := by
  unfold lsbL
  rw [List.range_succ_eq_map, List.map_cons, List.map_map]
  congr 1
  apply List.map_congr_left
  intro i _
  simp only [Function.comp]
  exact bitV_congr (by rw [Nat.testBit_succ])
theorem bitV_zero (n : Nat) : bitV n 0 = if n % 2 = 1 then 49 else 48 := by
  unfold bitV
  rw [Nat.testBit_zero]
  by_cases h : n % 2 = 1 <;> simp [h]
theorem incR_eq : ∀ (w n : Nat), n < 2 ^ w → incR (lsbL n w) = if n + 1 < 2 ^ w then some (lsbL (n + 1) w) else none
  | 0, n, h => by
    have : n = 0 := by simpa using h
    subst this
    rfl
  | w + 1, n, h => by
    have hp : 2 ^ (w + 1) = 2 * 2 ^ w := by rw [Nat.pow_succ, Nat.mul_comm]
    rw [lsb_cons, lsb_cons, incR, bitV_zero, bitV_zero]
    by_cases hodd : n % 2 = 1
    · have h1 : (n + 1) / 2 = n / 2 + 1 := by omega
      have h2 : ¬ (n + 1) % 2 = 1 := by omega
      rw [if_pos hodd, if_neg h2, if_neg (by decide), incR_eq w (n / 2) (by omega), h1]
      by_cases h3 : n / 2 + 1 < 2 ^ w
      · rw [if_pos h3, if_pos (by omega)]; rfl
      · rw [if_neg h3, if_neg (by omega)]; rfl
    · have h1 : (n + 1) / 2 = n / 2 := by omega
      have h2 : (n + 1) % 2 = 1 := by omega
      rw [if_neg hodd, if_pos h2, if_pos rfl, if_pos (by omega), h1]

/-! An address out of its bits. -/
theorem div_step (m j : Nat) : m / 2 ^ j = 2 * (m / 2 ^ (j + 1)) + (if m.testBit j then 1 else 0) := by
  have h1 : m / 2 ^ (j + 1) = m / 2 ^ j / 2 := by rw [Nat.pow_succ, Nat.div_div_eq_div_mul]
  rw [h1, Nat.testBit_eq_decide_div_mod_eq]
  by_cases h : m / 2 ^ j % 2 = 1 <;> simp only [h, decide_true, decide_false, if_true, if_false, Bool.false_eq_true] <;> omega
theorem bit_val (n i : Nat) : convI .u64 (aop .sub .u8 ((bitV n i).toNat : Int) 48) = ((if n.testBit i then 1 else 0 : Nat) : Int) := by
  unfold bitV
  cases n.testBit i <;> decide
theorem dbl_step (x b r : Nat) (h : r = 2 * x + b) (hr : r < 18446744073709551616) : aop .add .u64 (aop .mul .u64 2 (x : Int)) (b : Int) = (r : Int) := by
  simp only [aop, wrap_u64_mod]
  omega
def accN (v : Bool) (n k : Nat) : Ad := ⟨v, ((n / 2 ^ (max k 64) : Nat) : Int), ((n % 18446744073709551616 / 2 ^ k : Nat) : Int)⟩
theorem acc_step {v : Bool} {n k : Nat} (hn : n < 2 ^ 128) : accN v n k = if k + 1 > 64 then (⟨v, aop .add .u64 (aop .mul .u64 2 (accN v n (k + 1)).hi) ((if n.testBit k then 1 else 0 : Nat) : Int), (accN v n (k + 1)).lo⟩ : Ad)
    else ⟨v, (accN v n (k + 1)).hi, aop .add .u64 (aop .mul .u64 2 (accN v n (k + 1)).lo) ((if n.testBit k then 1 else 0 : Nat) : Int)⟩ := by
  by_cases hk : k + 1 > 64
  · rw [if_pos hk]
    unfold accN
    simp only
    have e1 : max k 64 = k := by omega
    have e2 : max (k + 1) 64 = k + 1 := by omega
    rw [e1, e2]
    have hlt : n / 2 ^ k < 18446744073709551616 := by
      rw [Nat.div_lt_iff_lt_mul (Nat.two_pow_pos k)]
      have : 2 ^ 64 ≤ 2 ^ k := Nat.pow_le_pow_right (by omega) (by omega)
      calc n < 2 ^ 128 := hn
        _ = 18446744073709551616 * 2 ^ 64 := by decide
        _ ≤ _ := Nat.mul_le_mul_left _ this
    rw [dbl_step _ _ _ (div_step n k) hlt]
    have z : ∀ q, 64 ≤ q → n % 18446744073709551616 / 2 ^ q = 0 := fun q hq => by
      apply Nat.div_eq_of_lt
      have : 2 ^ 64 ≤ 2 ^ q := Nat.pow_le_pow_right (by omega) hq
      omega
    rw [z k (by omega), z (k + 1) (by omega)]
  · rw [if_neg hk]
    unfold accN
    simp only
    have e1 : max k 64 = 64 := by omega
    have e2 : max (k + 1) 64 = 64 := by omega
    rw [e1, e2]
    have ht : n.testBit k = (n % 18446744073709551616).testBit k := by
      rw [show (18446744073709551616 : Nat) = 2 ^ 64 from rfl, Nat.testBit_mod_two_pow]
      simp
      omega
    have hlt : n % 18446744073709551616 / 2 ^ k < 18446744073709551616 := Nat.lt_of_le_of_lt (Nat.div_le_self _ _) (Nat.mod_lt _ (by omega))
    rw [ht, dbl_step _ _ _ (div_step (n % 18446744073709551616) k) hlt]
theorem R_AddrOf_eq {v : Bool} {n : Nat} (h : n < 2 ^ wid v) : R_AddrOf_t (ofBytes (bitsTo n (wid v - 1) (wid v))) = some (ofNum v n, ()) := by
  have hw := wid_pow v
  have hn : n < 2 ^ 128 := Nat.lt_of_lt_of_le h (Nat.le_trans hw (by decide))
  have hlen : (ofBytes (bitsTo n (wid v - 1) (wid v))).size = wid v := by rw [ofBytes_size, bitsTo_length]
  have hwl := wid_le v
  unfold R_AddrOf_t
  have hv : decide (lenS (ofBytes (bitsTo n (wid v - 1) (wid v))) = 128) = v := by
    unfold lenS
    rw [hlen]
    cases v <;> decide
  rw [hv]
  generalize hs : ofBytes (bitsTo n (wid v - 1) (wid v)) = s at hlen ⊢
  have := loop_up (step := R_AddrOf_L3) (fun i => (((s, ()), (), (), ((i : Int), ()), ()), (((⟨false, 0, 0⟩ : Ad), ()), (accN v n (wid v - i), ()), ()))) (wid v) (fun i => some (((), (), ()), (((⟨false, 0, 0⟩ : Ad), ()), (ofNum v n, ()), ()))) (fun rec i hi hr => ?_) (fun rec => ?_) FUEL 0 (Nat.zero_le _) (fuel_gt (by omega))
  · have h0 : accN v n (wid v - 0) = ⟨v, 0, 0⟩ := by
      unfold accN
      have q1 : n / 2 ^ (max (wid v - 0) 64) = 0 := by
        apply Nat.div_eq_of_lt
        exact Nat.lt_of_lt_of_le h (Nat.pow_le_pow_right (by omega) (by omega))
      have q2 : n % 18446744073709551616 / 2 ^ (wid v - 0) = 0 := by
        apply Nat.div_eq_of_lt
        exact Nat.lt_of_le_of_lt (Nat.mod_le _ _) h
      rw [q1, q2]
      rfl
    rw [h0] at this
    rw [show ((0 : Nat) : Int) = 0 from rfl] at this
    rw [this, bind_s]
  · have hb : s.data.toList[i]? = some (bitV n (wid v - 1 - i)) := by
      rw [← hs, ofBytes_list, bitsTo_get, if_pos hi]
    simp only [R_AddrOf_L3]
    rw [decide_eq_true (show (i : Int) < lenS s by unfold lenS; omega), br_true, req_of (inRange_of (by omega) (by unfold lenS; omega)), req_of (i64ok_of (by unfold lenS; omega) (by unfold lenS; omega)), byteAt_eq hb, bit_val]
    have hst := acc_step (v := v) (k := wid v - (i + 1)) hn
    rw [show wid v - (i + 1) + 1 = wid v - i by omega, show wid v - (i + 1) = wid v - 1 - i by omega] at hst
    rw [show ((i : Int) + 1) = ((i + 1 : Nat) : Int) by omega, show wid v - (i + 1) = wid v - 1 - i by omega] at *
    by_cases hk : wid v - i > 64
    · rw [if_pos hk] at hst
      rw [decide_eq_true (show lenS s - (i : Int) > 64 by unfold lenS; omega), br_true, req_of (i64ok_of (by omega) (by omega))]
      rw [show (accN v n (wid v - i)).v6 = v from rfl, ← hst, hr]
    · rw [if_neg hk] at hst
      rw [decide_eq_false (show ¬ lenS s - (i : Int) > 64 by unfold lenS; omega), br_false, req_of (i64ok_of (by omega) (by omega))]
      rw [show (accN v n (wid v - i)).v6 = v from rfl, ← hst, hr]
  · simp only [R_AddrOf_L3]
    rw [decide_eq_false (show ¬ ((wid v : Nat) : Int) < lenS s by unfold lenS; omega), br_false]
    have : accN v n (wid v - wid v) = ofNum v n := by
      unfold accN ofNum
      rw [Nat.sub_self, show max 0 64 = 64 from rfl, show (2 : Nat) ^ 64 = 18446744073709551616 from rfl, Nat.pow_zero, Nat.div_one]
    rw [this]
/-- **R.NextOf**: the next number, if there is one. -/
theorem R_NextOf_eq {v : Bool} {n : Nat} (h : n < 2 ^ wid v) : R_NextOf_t (ofNum v n) = some (if n + 1 < 2 ^ wid v then (ofNum v (n + 1), true, ()) else (⟨false, 0, 0⟩, false, ())) := by
  have hin := ofNum_in h
  have hwl := wid_le v
  unfold R_NextOf_t
  rw [R_Bits_eq hin, bind_s, bitsA_eq hin.wf (ofNum_chk h), num_ofNum, show (ofNum v n).v6 = v from rfl]
  rw [req_of (Nat.ble_eq_true_of_le (by rw [ofBytes_size, bitsTo_length]; omega)), ofBytes_list, lsb_rev, incR_eq _ _ h]
  by_cases h1 : n + 1 < 2 ^ wid v
  · rw [if_pos h1, if_pos h1]
    simp only
    have : (⟨(lsbL (n + 1) (wid v)).reverse.toArray⟩ : ByteArray) = ofBytes (bitsTo (n + 1) (wid v - 1) (wid v)) := by
      rw [← lsb_rev, List.reverse_reverse]
      rfl
    rw [this, R_AddrOf_eq h1, bind_s]
  · rw [if_neg h1, if_neg h1]
end Go.Ma
