/-
  The document's functions of addresses and prefixes: rows of bits as text; a prefix is right if no bit is set behind its bits.
-/
import Derived.Test.YtjadfkpajjlgkaaPc
namespace Go.Ma
open Go

/-! Bits and numbers. -/
theorem bitsTo_get (n t c i : Nat) : (bitsTo n t c)[i]? = if i < c then some (bitV n (t - i)) else none := by
  unfold bitsTo
  rw [List.getElem?_map]
  by_cases h : i < c
  · rw [List.getElem?_range h, if_pos h]; rfl
  · rw [if_neg h, List.getElem?_eq_none (by simpa using h)]; rfl
theorem num_testBit (hi lo i : Nat) (hlo : lo < 18446744073709551616) : (hi * 18446744073709551616 + lo).testBit i = if i < 64 then lo.testBit i else hi.testBit (i - 64) := by
  have := Nat.testBit_two_pow_mul_add (i := 64) hi (b := lo) (by simpa using hlo) i
  rw [Nat.mul_comm, show (18446744073709551616 : Nat) = 2 ^ 64 by decide]
  exact this
theorem bitV_congr {n i m j : Nat} (h : n.testBit i = m.testBit j) : bitV n i = bitV m j := by unfold bitV; rw [h]
/-- An address's bits are its number's. -/
theorem bitsA_eq {a : Ad} (h : a.wf) (hc : chkA a = 0) : bitsA a = bitsTo a.num (wid a.v6 - 1) (wid a.v6) := by
  obtain ⟨h1, h2, h3, h4⟩ := h
  have hlo : a.lo.toNat < 18446744073709551616 := by omega
  unfold bitsA Ad.num
  apply List.ext_getElem?
  intro i
  cases hv : a.v6
  · unfold chkA at hc
    rw [hv] at hc
    have hz : a.hi = 0 ∧ ¬ (4294967296 : Int) ≤ a.lo := by
      split at hc
      · cases hc
      · rename_i hn
        simp only [true_and, not_or, Decidable.not_not] at hn
        exact hn
    simp only [Bool.false_eq_true, if_false, wid]
    rw [List.getElem?_drop, List.getElem?_append_right (by rw [bitsTo_length]; omega), bitsTo_length, bitsTo_get, bitsTo_get, hz.1]
    by_cases hi : i < 32
    · rw [if_pos (by omega), if_pos hi]
      have e : 63 - (96 + i - 64) = 32 - 1 - i := by omega
      rw [e]
      simp
    · rw [if_neg (by omega), if_neg hi]
  · simp only [if_true, wid]
    rw [bitsTo_get]
    by_cases hi : i < 64
    · rw [List.getElem?_append_left (by rw [bitsTo_length]; exact hi), bitsTo_get, if_pos hi, if_pos (by omega)]
      refine congrArg some (bitV_congr ?_)
      rw [num_testBit _ _ _ hlo, if_neg (by omega), show 128 - 1 - i - 64 = 63 - i by omega]
    · rw [List.getElem?_append_right (by rw [bitsTo_length]; omega), bitsTo_length, bitsTo_get]
      by_cases hi2 : i < 128
      · rw [if_pos (by omega), if_pos hi2]
        refine congrArg some (bitV_congr ?_)
        rw [num_testBit _ _ _ hlo, if_pos (by omega), show 63 - (i - 64) = 128 - 1 - i by omega]
      · rw [if_neg (by omega), if_neg hi2]
theorem bitV_z (n i : Nat) : (bitV n i == 48) = !n.testBit i := by unfold bitV; cases n.testBit i <;> rfl
theorem mod_zero_iff (n k : Nat) : n % 2 ^ k = 0 ↔ ∀ i, i < k → n.testBit i = false := by
  constructor
  · intro h i hi
    have := Nat.testBit_mod_two_pow n k i
    rw [h] at this
    simpa [hi] using this.symm
  · intro h
    apply Nat.eq_of_testBit_eq
    intro i
    rw [Nat.testBit_mod_two_pow]
    by_cases hi : i < k <;> simp [hi, h]
theorem cutN_iff (n k : Nat) : cutN n k = n ↔ n % 2 ^ k = 0 := by
  unfold cutN
  have := Nat.div_add_mod n (2 ^ k)
  rw [Nat.mul_comm] at this
  omega
theorem tail_zero (n w b : Nat) (hb : b ≤ w) : ((bitsTo n (w - 1) w).drop b).all (· == 48) = decide (cutN n (w - b) = n) := by
  rw [Bool.eq_iff_iff, decide_eq_true_iff, cutN_iff, mod_zero_iff, List.all_eq_true]
  constructor
  · intro h i hi
    have hm : bitV n i ∈ (bitsTo n (w - 1) w).drop b := by
      refine List.mem_iff_getElem?.2 ⟨w - 1 - i - b, ?_⟩
      rw [List.getElem?_drop, bitsTo_get, if_pos (by omega), show w - 1 - (b + (w - 1 - i - b)) = i by omega]
    have := h _ hm
    rw [bitV_z] at this
    simpa using this
  · intro h x hx
    obtain ⟨j, hj⟩ := List.mem_iff_getElem?.1 hx
    rw [List.getElem?_drop, bitsTo_get] at hj
    split at hj
    · injection hj with hj
      subst hj
      rw [bitV_z, h _ (by omega)]
      rfl
    · cases hj
theorem cutA_iff {a : Ad} (h : a.wf) (bits : Int) : cutA a bits = a ↔ cutN a.num (wid a.v6 - bits.toNat) = a.num := by
  unfold cutA
  constructor
  · intro he
    have := congrArg Ad.num he
    rwa [num_ofNum] at this
  · intro he
    rw [he, ofNum_num a h]

/-! The document's functions. -/
def toI (l : List UInt8) : List Int := l.map fun b => (b.toNat : Int)
theorem toI_len (l : List UInt8) : (toI l).length = l.length := by simp [toI]
theorem bytesOf_toI (l : List UInt8) : bytesOf (toI l) = ofBytes l := by
  unfold bytesOf toI ofBytes
  congr 1
  rw [List.map_map]
  congr 1
  conv => rhs; rw [← List.map_id l]
  apply List.map_congr_left
  intro b _
  simp
theorem bit_conv (x i : Int) (hx : 0 ≤ x) (hx' : x < 18446744073709551616) (hi : 0 ≤ i) (hi' : i ≤ 63) :
    convI .u8 (aop .add .u64 48 (aop .rem .u64 (aop .shr .u64 x i) 2)) = ((bitV x.toNat i.toNat).toNat : Int) := bit_step x i hx hx' hi hi'
theorem bits_loop3 {a : Ad} (h : a.In) : loopN R_Bits_L3 FUEL (((), (), (63, ()), ()), ((a, ()), ([] : List Int), ())) = some (((), (), ()), ((a, ()), toI (bitsTo a.hi.toNat 63 64), ())) := by
  have := loop_up (step := R_Bits_L3) (fun j => (((), (), (63 - (j : Int), ()), ()), ((a, ()), toI (bitsTo a.hi.toNat 63 j), ()))) 64 (fun _ => some (((), (), ()), ((a, ()), toI (bitsTo a.hi.toNat 63 64), ()))) (fun rec j hj hr => ?_) (fun rec => ?_) FUEL 0 (by omega) (fuel_gt (by omega))
  · exact this
  · simp only [R_Bits_L3]
    rw [decide_eq_true (by omega), br_true, req_true, bit_conv _ _ h.1.1 h.1.2 (by omega) (by omega)]
    rw [req_of (room_of (lenL_nonneg _) (lenL_nonneg _) (by simp only [lenL, toI_len, bitsTo_length, List.length_cons, List.length_nil]; omega)), req_of (i64ok_of (by omega) (by omega))]
    rw [← hr]
    have e1 : (63 - (j : Int)).toNat = 63 - j := by omega
    have e2 : 63 - (j : Int) - 1 = 63 - ((j + 1 : Nat) : Int) := by omega
    rw [e1, e2, bitsTo_succ]
    simp [toI]
  · simp only [R_Bits_L3]
    rw [decide_eq_false (by omega), br_false]
theorem bits_loop7 {a : Ad} (h : a.In) : loopN R_Bits_L7 FUEL (((), (), (63, ()), ()), ((a, ()), toI (bitsTo a.hi.toNat 63 64), ())) = some (((), (), ()), ((a, ()), toI (bitsTo a.hi.toNat 63 64) ++ toI (bitsTo a.lo.toNat 63 64), ())) := by
  have := loop_up (step := R_Bits_L7) (fun j => (((), (), (63 - (j : Int), ()), ()), ((a, ()), toI (bitsTo a.hi.toNat 63 64) ++ toI (bitsTo a.lo.toNat 63 j), ()))) 64 (fun _ => some (((), (), ()), ((a, ()), toI (bitsTo a.hi.toNat 63 64) ++ toI (bitsTo a.lo.toNat 63 64), ()))) (fun rec j hj hr => ?_) (fun rec => ?_) FUEL 0 (by omega) (fuel_gt (by omega))
  · rw [← this]
    simp [toI, bitsTo]
  · simp only [R_Bits_L7]
    rw [decide_eq_true (by omega), br_true, req_true, bit_conv _ _ h.2.1 h.2.2 (by omega) (by omega)]
    rw [req_of (room_of (lenL_nonneg _) (lenL_nonneg _) (by simp only [lenL, List.length_append, toI_len, bitsTo_length, List.length_cons, List.length_nil]; omega)), req_of (i64ok_of (by omega) (by omega))]
    rw [← hr]
    have e1 : (63 - (j : Int)).toNat = 63 - j := by omega
    have e2 : 63 - (j : Int) - 1 = 63 - ((j + 1 : Nat) : Int) := by omega
    rw [e1, e2, bitsTo_succ a.lo.toNat 63 j]
    simp [toI]
  · simp only [R_Bits_L7]
    rw [decide_eq_false (by omega), br_false]
theorem R_Bits_eq {a : Ad} (h : a.In) : R_Bits_t a = some (ofBytes (bitsA a), ()) := by
  unfold R_Bits_t bitsA
  rw [bits_loop3 h, bind_s, bits_loop7 h, bind_s]
  have e : toI (bitsTo a.hi.toNat 63 64) ++ toI (bitsTo a.lo.toNat 63 64) = toI (bitsTo a.hi.toNat 63 64 ++ bitsTo a.lo.toNat 63 64) := by simp [toI]
  simp only [e]
  cases a.v6
  · have hl : lenL (toI (bitsTo a.hi.toNat 63 64 ++ bitsTo a.lo.toNat 63 64)) = 128 := by simp only [lenL, toI_len, List.length_append, bitsTo_length]; rfl
    rw [hl, Bool.not_false, br_true, req_of (by decide)]
    have : subL (toI (bitsTo a.hi.toNat 63 64 ++ bitsTo a.lo.toNat 63 64)) 96 128 = toI ((bitsTo a.hi.toNat 63 64 ++ bitsTo a.lo.toNat 63 64).drop 96) := by
      unfold subL
      rw [show (128 : Int).toNat = 128 from rfl, show (96 : Int).toNat = 96 from rfl, List.take_of_length_le (by rw [toI_len]; simp [bitsTo_length])]
      simp [toI, List.map_drop]
    rw [this, bytesOf_toI]
    rfl
  · rw [Bool.not_true, br_false, bytesOf_toI]
    rfl
theorem bitsA_len (a : Ad) : (bitsA a).length = wid a.v6 := by
  unfold bitsA wid
  cases a.v6 <;> simp [bitsTo_length]
theorem ofBytes_list (l : List UInt8) : (ofBytes l).data.toList = l := by simp [ofBytes]
theorem ofBytes_size (l : List UInt8) : (ofBytes l).size = l.length := by simp [ofBytes, ByteArray.size]
theorem toNat48 (b : UInt8) : ((b.toNat : Int) = 48) ↔ b = 48 := by
  constructor
  · intro h
    apply UInt8.toNat_inj.1
    have : b.toNat = 48 := by omega
    rw [this]
    rfl
  · rintro rfl; rfl
theorem chkp_loop (s : ByteArray) (k : Nat) (hs : s.size < 9223372036854775808) (hk : k ≤ s.size) : loopN R_CheckPrefix_L8 FUEL (((s, ()), ((k : Int), ()), ()), ()) = some (if (s.data.toList.drop k).all (· == 48) then Sum.inr ((), ()) else Sum.inl (((4, ()), ()), ())) := by
  refine loop_up (step := R_CheckPrefix_L8) (fun i => (((s, ()), ((i : Int), ()), ()), ())) s.size (fun i => some (if (s.data.toList.drop i).all (· == 48) then Sum.inr ((), ()) else Sum.inl (((4, ()), ()), ()))) (fun rec i hi hr => ?_) (fun rec => ?_) FUEL k hk (fuel_gt (by omega))
  · obtain ⟨b, hb⟩ : ∃ b, s.data.toList[i]? = some b := ⟨_, List.getElem?_eq_getElem (by rw [data_len]; exact hi)⟩
    simp only [R_CheckPrefix_L8]
    rw [decide_eq_true (show (i : Int) < lenS s by unfold lenS; omega), br_true, req_of (inRange_of (by omega) (by unfold lenS; omega)), byteAt_eq hb, drop_all _ hb]
    by_cases h48 : b = 48
    · rw [decide_eq_true ((toNat48 b).2 h48), Bool.not_true, br_false, show ((i : Int) + 1) = ((i + 1 : Nat) : Int) by omega, req_of (i64ok_of (by omega) (by omega)), hr]
      simp [h48]
    · rw [decide_eq_false (fun h => h48 ((toNat48 b).1 h)), Bool.not_false, br_true]
      simp [h48]
  · simp only [R_CheckPrefix_L8]
    rw [decide_eq_false (show ¬ (s.size : Int) < lenS s by unfold lenS; omega), br_false, List.drop_of_length_le (by rw [data_len]; exact Nat.le_refl _)]
    rfl
theorem R_CheckPrefix_eq {p : Pf} (h : p.In) : R_CheckPrefix_t p = some (chkP p, ()) := by
  unfold R_CheckPrefix_t chkP
  rw [R_CheckAddr_eq h.1, bind_s]
  by_cases h1 : chkA p.ad = 0
  rotate_left
  · simp [h1, br_true]
  simp only [h1, decide_true, Bool.not_true, br_false, ne_eq, not_true, if_false]
  rw [R_wide_eq, bind_s, R_between_eq, bind_s]
  by_cases h2 : p.bits < 0 ∨ p.bits > wid p.ad.v6
  · rw [if_pos h2]
    have : betw p.bits 0 ((wid p.ad.v6 : Nat) : Int) = false := by
      rw [Bool.eq_false_iff]
      intro hb
      have := betw_iff.1 hb
      omega
    rw [this]
    rfl
  rw [if_neg h2]
  simp only [not_or] at h2
  have : betw p.bits 0 ((wid p.ad.v6 : Nat) : Int) = true := betw_iff.2 ⟨by omega, by omega⟩
  rw [this]
  simp only [Bool.not_true, br_false]
  obtain ⟨k, hk⟩ : ∃ k : Nat, p.bits = (k : Int) := ⟨p.bits.toNat, by omega⟩
  have hw := wid_le p.ad.v6
  rw [R_Bits_eq h.1, bind_s, hk, chkp_loop _ _ (by rw [ofBytes_size, bitsA_len]; omega) (by rw [ofBytes_size, bitsA_len]; omega), bind_s, ofBytes_list, bitsA_eq h.1.wf h1, tail_zero _ _ _ (by omega)]
  have e := cutA_iff h.1.wf (k : Int)
  rw [Int.toNat_natCast] at e
  by_cases h3 : cutN p.ad.num (wid p.ad.v6 - k) = p.ad.num
  · have h4 := e.2 h3
    simp only [h3, h4, decide_true, if_true, not_true, if_false]
    rfl
  · have h4 : ¬ cutA p.ad (k : Int) = p.ad := fun h => h3 (e.1 h)
    simp only [h3, h4, decide_false, Bool.false_eq_true, not_false_eq_true, if_true, if_false]
    rfl
end Go.Ma
