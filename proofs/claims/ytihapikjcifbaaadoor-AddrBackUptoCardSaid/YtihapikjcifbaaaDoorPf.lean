/-
  The document's functions of addresses and prefixes: rows of bits as text; a prefix is right if no bit is set behind its bits.
-/
import Derived.Test.YtihapikjcifbaaaDoorPc
namespace Go.Ma
open Go

/-! Bits and numbers. -/
theorem bitsTo_get (n t c i : Nat) : (bitsTo n t c)[i]? = if i < c then some (bitV n (t - i)) else none := by
  unfold bitsTo
  rw [List.getElem?_map]
  by_cases h : i < c
  · rw [List.getElem?_range h, if_pos h]; rfl
  · rw [if_neg h, List.getElem?_eq_none (by simpa using h)]; rfl
theorem num_testBit (hi lo i : Nat) (hlo : lo < 18446744073709551616) : (hi * 18446744073709551616 + lo).testBit i = if i < 64 then lo.testBit i else hi.testBit (i - 64) := by
  have := Nat.testBit_two_pow_mul_add (i := 64) hi (b := lo) (by simpa using hlo) i
  rw [Nat.mul_comm, show (18446744073709551616 : Nat) = 2 ^ 64 by decide]
  exact this
theorem bitV_congr {n i m j : Nat} (h : n.testBit i = m.testBit j) : bitV n i = bitV m j := by unfold bitV; rw [h]
/-- An address's bits are its number's. -/
theorem bitsA_eq {a : Ad} (h : a.wf) (hc : chkA a = 0) : bitsA a = bitsTo a.num (wid a.v6 - 1) (wid a.v6) := by
  obtain ⟨h1, h2, h3, h4⟩ := h
  have hlo : a.lo.toNat < 18446744073709551616 := by omega
  unfold bitsA Ad.num
  apply List.ext_getElem?
  intro i
  cases hv : a.v6
  · unfold chkA at hc
    rw [hv] at hc
    have hz : a.hi = 0 ∧ ¬ (4294967296 : Int) ≤ a.lo := by
      split at hc
      · cases hc
      · rename_i hn
        simp only [true_and, not_or, Decidable.not_not] at hn
        exact hn
    simp only [Bool.false_eq_true, if_false, wid]
    rw [List.getElem?_drop, List.getElem?_append_right (by rw [bitsTo_length]; omega), bitsTo_length, bitsTo_get, bitsTo_get, hz.1]
    by_cases hi : i < 32
    · rw [if_pos (by omega), if_pos hi]
      have e : 63 - (96 + i - 64) = 32 - 1 - i := by omega
      rw [e]
      simp
    · rw [if_neg (by omega), if_neg hi]
  · simp only [if_true, wid]
    rw [bitsTo_get]
    by_cases hi : i < 64
    · rw [List.getElem?_append_left (by rw [bitsTo_length]; exact hi), bitsTo_get, if_pos hi, if_pos (by omega)]
      refine congrArg some (bitV_congr ?_)
      rw [num_testBit _ _ _ hlo, if_neg (by omega), show 128 - 1 - i - 64 = 63 - i by omega]
    · rw [List.getElem?_append_right (by rw [bitsTo_length]; omega), bitsTo_length, bitsTo_get]
      by_cases hi2 : i < 128
      · rw [if_pos (by omega), if_pos hi2]
        refine congrArg some (bitV_congr ?_)
        rw [num_testBit _ _ _ hlo, if_pos (by omega), show 63 - (i - 64) = 128 - 1 - i by omega]
      · rw [if_neg (by omega), if_neg hi2]
theorem bitV_z (n i : Nat) : (bitV n i == 48) = !n.testBit i := by unfold bitV; cases n.testBit i <;> rfl
theorem mod_zero_iff (n k : Nat) : n % 2 ^ k = 0 ↔ ∀ i, i < k → n.testBit i = false := by
  constructor
  · intro h i hi
    have := Nat.testBit_mod_two_pow n k i
    rw [h] at this
    simpa [hi] using this.symm
  · intro h
    apply Nat.eq_of_testBit_eq
    intro i
    rw [Nat.testBit_mod_two_pow]
    by_cases hi : i < k <;> simp [hi, h]
theorem cutN_iff (n k : Nat) : cutN n k = n ↔ n % 2 ^ k = 0 := by
  unfold cutN
  have := Nat.div_add_mod n (2 ^ k)
  rw [Nat.mul_comm] at this
  omega
theorem tail_zero (n w b : Nat) (hb : b ≤ w) : ((bitsTo n (w - 1) w).drop b).all (· == 48) = decide (cutN n (w - b) = n) := by
  rw [Bool.eq_iff_iff, decide_eq_true_iff, cutN_iff, mod_zero_iff, List.all_eq_true]
  constructor
  · intro h i hi
    have hm : bitV n i ∈ (bitsTo n (w - 1) w).drop b := by
      refine List.mem_iff_getElem?.2 ⟨w - 1 - i - b, ?_⟩
      rw [List.getElem?_drop, bitsTo_get, if_pos (by omega), show w - 1 - (b + (w - 1 - i - b)) = i by omega]
    have := h _ hm
    rw [bitV_z] at this
    simpa using this
  · intro h x hx
    obtain ⟨j, hj⟩ := List.mem_iff_getElem?.1 hx
    rw [List.getElem?_drop, bitsTo_get] at hj
    split at hj
    · injection hj with hj
      subst hj
      rw [bitV_z, h _ (by omega)]
      rfl
    · cases hj
theorem cutA_iff {a : Ad} (h : a.wf) (bits : Int) : cutA a bits = a ↔ cutN a.num (wid a.v6 - bits.toNat) = a.num := by
  unfold cutA
  constructor
  · intro he
    have := congrArg Ad.num he
    rwa [num_ofNum] at this
  · intro he
    rw [he, ofNum_num a h]

/-! The document's functions. -/
def toI (l : List UInt8) : List Int := l.map fun b => (b.toNat : Int)
theorem toI_len (l : List UInt8) : (toI l).length = l.length := by simp [toI]
theorem bytesOf_toI (l : List UInt8) : bytesOf (toI l) = ofBytes l := by
  unfold bytesOf toI ofBytes
  congr 1
  rw [List.map_map]
  congr 1
  conv => rhs; rw [← List.map_id l]
  apply List.map_congr_left
  intro b _
  simp
theorem bit_conv (x i : Int) (hx : 0 ≤ x) (hx' : x < 18446744073709551616) (hi : 0 ≤ i) (hi' : i ≤ 63) :
    convI .u8 (aop .add .u64 48 (aop .rem .u64 (aop .shr .u64 x i) 2)) = ((bitV x.toNat i.toNat).toNat : Int) := bit_step x i hx hx' hi hi'
theorem bitsA_len (a : Ad) : (bitsA a).length = wid a.v6 := by
  unfold bitsA wid
  cases a.v6 <;> simp [bitsTo_length]
theorem ofBytes_list (l : List UInt8) : (ofBytes l).data.toList = l := by simp [ofBytes]
theorem ofBytes_size (l : List UInt8) : (ofBytes l).size = l.length := by simp [ofBytes, ByteArray.size]
theorem toNat48 (b : UInt8) : ((b.toNat : Int) = 48) ↔ b = 48 := by
  constructor
  · intro h
    apply UInt8.toNat_inj.1
    have : b.toNat = 48 := by omega
    rw [this]
    rfl
  · rintro rfl; rfl
end Go.Ma
