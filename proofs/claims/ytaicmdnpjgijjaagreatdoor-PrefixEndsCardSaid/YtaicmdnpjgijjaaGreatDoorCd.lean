/-
  Door seats: what addrBegun comes to; less; the ends of a prefix; PrefixEnds, PrefixApart.
-/
import Derived.Test.YtaicmdnpjgijjaaGreatDoorPo
import Derived.Test.YtaicmdnpjgijjaaGreatDoorPh
import Derived.Test.YtaicmdnpjgijjaaGreatDoorCa
import Derived.Test.YtaicmdnpjgijjaaGreatDoorCb
namespace Go.Ma
open Go

def ab0 : Ad := ⟨true, 2306139568115548160, 281474993619716⟩
theorem ab_parse0 : addr_Parse_t (⟨#[50, 48, 48, 49, 58, 68, 66, 56, 58, 48, 58, 48, 58, 49, 58, 58, 49, 46, 50, 46, 51, 46, 52]⟩ : ByteArray) = some (ab0, 0, ()) := by kernel_rfl
theorem ab_print0 : addr_Print_t ab0 = some (⟨#[50, 48, 48, 49, 58, 100, 98, 56, 58, 58, 49, 58, 48, 58, 49, 48, 50, 58, 51, 48, 52]⟩, 0, ()) := by kernel_rfl
theorem ab_parse1 : addr_Parse_t (⟨#[49, 48, 46, 48, 46, 48, 46, 50, 53, 53]⟩ : ByteArray) = some (⟨false, 0, 167772415⟩, 0, ()) := by kernel_rfl
theorem ab_next : addr_Next_t ⟨false, 0, 167772415⟩ = some (⟨false, 0, 167772416⟩, true, 0, ()) := by
  unfold addr_Next_t
  simp only [addr_After_all]
  kernel_rfl
theorem ab_less : addr_Less_t ⟨false, 0, 167772415⟩ ab0 = some (true, 0, ()) := by kernel_rfl
theorem ab_print1 : addr_Print_t ⟨true, 0, 0⟩ = some (⟨#[58, 58]⟩, 0, ()) := by kernel_rfl
theorem ab_parse2 : addr_Parse_t (⟨#[49, 58, 58, 50, 58, 58, 51]⟩ : ByteArray) = some (⟨false, 0, 0⟩, 1, ()) := by kernel_rfl
theorem addrBegun_eq : law_addrBegun_t = some (true, ()) := by
  unfold law_addrBegun_t
  rw [ab_parse0, bind_s, ab_print0, bind_s, ab_parse1, bind_s, ab_next, bind_s, ab_less, bind_s, ab_print1, bind_s, ab_parse2, bind_s]
  kernel_rfl

/-! Less. -/
theorem num_lt_iff {a b : Ad} (ha : a.In) (hb : b.In) : a.num < b.num ↔ (a.hi < b.hi ∨ (a.hi = b.hi ∧ a.lo < b.lo)) := by
  obtain ⟨⟨a1, a2⟩, a3, a4⟩ := ha
  obtain ⟨⟨b1, b2⟩, b3, b4⟩ := hb
  unfold Ad.num
  omega
theorem ord_neg {a b : Ad} (ha : a.In) (hb : b.In) : decide (ordA a b < 0) = aheadA a b := by
  have hn := num_lt_iff ha hb
  unfold ordA ordI aheadA
  by_cases hv : a.v6 = b.v6
  · simp only [hv, ne_eq, not_true, false_and, if_false, decide_eq_decide]
    rw [hn]
    by_cases h1 : a.hi = b.hi
    · simp only [h1, not_true, if_false]
      by_cases h2 : a.lo < b.lo
      · simp [h2]
      · by_cases h3 : a.lo > b.lo
        · simp [h2, h3]
        · simp [h2, h3]
    · simp only [h1, not_false_eq_true, if_true]
      by_cases h2 : a.hi < b.hi
      · simp [h2]
      · have h3 : a.hi > b.hi := by omega
        simp [h2, h3]
  · have hv' : ¬ a.v6 = b.v6 := hv
    simp only [ne_eq, hv', not_false_eq_true, true_and, if_true]
    cases hb6 : b.v6 <;> simp
def lessA (a b : Ad) : Bool × Int × Unit := if chkA a ≠ 0 then (false, chkA a, ()) else if chkA b ≠ 0 then (false, chkA b, ()) else (decide (ordA a b < 0), 0, ())
theorem addr_Less_eq (a b : Ad) : addr_Less_t a b = some (lessA a b) := by
  unfold addr_Less_t lessA
  have hl : loopN addr_Less_L2 FUEL (((), (), (), (lenL [a, b], ()), (0, ()), ()), ((a, ()), (b, ()), [a, b], ())) = some (if chkA a ≠ 0 then Sum.inl (((false, ()), (chkA a, ()), ()), ()) else if chkA b ≠ 0 then Sum.inl (((false, ()), (chkA b, ()), ()), ()) else Sum.inr (((), (), ()), ((a, ()), (b, ()), ()))) := by
    rw [show FUEL = (FUEL - 3) + 1 + 1 + 1 from rfl]
    generalize FUEL - 3 = n
    rw [loopN_succ]
    simp only [addr_Less_L2]
    rw [decide_eq_true (show (0 : Int) < lenL [a, b] by simp [lenL]), br_true, req_of (inRange_of (by omega) (by simp [lenL])), show geti [a, b] 0 = some a from rfl, bind_s, addr_Check_eq, bind_s]
    by_cases h1 : chkA a = 0
    · rw [decide_eq_true (show (chkA a, ()).1 = 0 from h1), Bool.not_true, br_false, req_of (i64ok_of (by omega) (by omega)), loopN_succ]
      simp only [addr_Less_L2]
      rw [decide_eq_true (show (0 : Int) + 1 < lenL [a, b] by simp [lenL]), br_true, req_of (inRange_of (by omega) (by simp [lenL])), show geti [a, b] (0 + 1) = some b from rfl, bind_s, addr_Check_eq, bind_s]
      simp only [h1, ne_eq, not_true, if_false]
      by_cases h2 : chkA b = 0
      · rw [decide_eq_true (show (chkA b, ()).1 = 0 from h2), Bool.not_true, br_false, req_of (i64ok_of (by omega) (by omega)), loopN_succ]
        simp only [addr_Less_L2]
        rw [decide_eq_false (show ¬ (0 : Int) + 1 + 1 < lenL [a, b] by simp [lenL]), br_false]
        simp [h2]
      · rw [decide_eq_false (show ¬ (chkA b, ()).1 = 0 from h2), Bool.not_false, br_true]
        simp [h2]
    · rw [decide_eq_false (show ¬ (chkA a, ()).1 = 0 from h1), Bool.not_false, br_true]
      simp [h1]
  rw [hl, bind_s]
  by_cases h1 : chkA a = 0
  · by_cases h2 : chkA b = 0
    · simp only [h1, h2, ne_eq, not_true, if_false, sumC, addr_Order_eq, bind_s]
    · simp only [h1, h2, ne_eq, not_true, if_false, not_false_eq_true, if_true, sumC]
  · simp only [h1, ne_eq, not_false_eq_true, if_true, sumC]
theorem less_right {a b : Ad} (ha : a.In) (hb : b.In) (ca : chkA a = 0) (cb : chkA b = 0) : lessA a b = (aheadA a b, 0, ()) := by
  unfold lessA
  rw [if_neg (fun h => h ca), if_neg (fun h => h cb), ord_neg ha hb]

/-! The last address of a prefix. -/
theorem or_maskC (x k : Nat) (hx : x < 18446744073709551616) (hk : k ≤ 64) (hm : x % 2 ^ k = 0) : aop .or .u64 (x : Int) ((2 ^ k - 1 : Nat) : Int) = ((x + (2 ^ k - 1) : Nat) : Int) := by
  have hp := Nat.two_pow_pos k
  have hle : 2 ^ k ≤ 2 ^ 64 := Nat.pow_le_pow_right (by omega) hk
  obtain ⟨m, rfl⟩ := Nat.dvd_of_mod_eq_zero hm
  have hlt : 2 ^ k * m + 2 ^ k ≤ 18446744073709551616 := by
    have h5 : (18446744073709551616 : Nat) = 2 ^ k * 2 ^ (64 - k) := by rw [← Nat.pow_add]; rw [show k + (64 - k) = 64 by omega]
    rw [h5] at hx ⊢
    have := Nat.lt_of_mul_lt_mul_left hx
    calc 2 ^ k * m + 2 ^ k = 2 ^ k * (m + 1) := by rw [Nat.mul_add, Nat.mul_one]
      _ ≤ _ := Nat.mul_le_mul_left _ this
  have e1 : ∀ n : Nat, n < 18446744073709551616 → (BitVec.ofInt 64 (n : Int)).toNat = n := fun n hn => by
    rw [BitVec.toNat_ofInt]
    have : ((n : Int) % ((2 ^ 64 : Nat) : Int)) = (n : Int) := Int.emod_eq_of_lt (by omega) (by omega)
    rw [this]; rfl
  show IntKind.u64.wrap (((BitVec.ofInt 64 ((2 ^ k * m : Nat) : Int) ||| BitVec.ofInt 64 ((2 ^ k - 1 : Nat) : Int)).toNat : Nat) : Int) = _
  rw [BitVec.toNat_or, e1 _ (by omega), e1 _ (by omega), ← Nat.two_pow_add_eq_or_of_lt (by omega), wrap_u64 (by omega) (by omega)]
/-- How many bits are free. -/
def free (p : Pf) : Nat := wid p.ad.v6 - p.bits.toNat
theorem free_facts {p : Pf} (hp : p.In) (cp : chkP p = 0) : free p ≤ wid p.ad.v6 ∧ p.ad.num % 2 ^ free p = 0 ∧ p.ad.num + 2 ^ free p ≤ 2 ^ wid p.ad.v6 := by
  have h3 : p.ad.num % 2 ^ free p = 0 := (cutN_iff _ _).1 ((cutA_iff hp.1.wf p.bits).1 (chkP_cut cp))
  have h4 := right_num p.ad ⟨hp.1.wf, chkP_ad cp⟩
  have hk : free p ≤ wid p.ad.v6 := by unfold free; omega
  refine ⟨hk, h3, ?_⟩
  have h5 : 2 ^ wid p.ad.v6 = 2 ^ free p * 2 ^ (wid p.ad.v6 - free p) := by rw [← Nat.pow_add]; congr 1; omega
  obtain ⟨m, hm⟩ := Nat.dvd_of_mod_eq_zero h3
  rw [hm, h5] at h4 ⊢
  have := Nat.lt_of_mul_lt_mul_left h4
  calc 2 ^ free p * m + 2 ^ free p = 2 ^ free p * (m + 1) := by rw [Nat.mul_add, Nat.mul_one]
    _ ≤ _ := Nat.mul_le_mul_left _ this
theorem low_high (hi lo k : Nat) (h : (hi * 18446744073709551616 + lo) % 2 ^ k = 0) (hlo : lo < 18446744073709551616) : hi % 2 ^ (k - 64) = 0 ∧ lo % 2 ^ (min k 64) = 0 := by
  by_cases hk : k ≤ 64
  · have h5 : (18446744073709551616 : Nat) = 2 ^ k * 2 ^ (64 - k) := by rw [← Nat.pow_add]; rw [show k + (64 - k) = 64 by omega]
    rw [h5, Nat.mul_left_comm, Nat.mul_add_mod] at h
    rw [show k - 64 = 0 by omega, Nat.min_eq_left hk]
    exact ⟨Nat.mod_one _, h⟩
  · have e := pow_split (r := k) (by omega)
    rw [Nat.min_eq_right (by omega)]
    rw [e] at h
    have h1 : lo = 0 := by
      have h2 : (hi * 18446744073709551616 + lo) % 18446744073709551616 = 0 := by
        have h3 := Nat.mod_mul_left_mod (hi * 18446744073709551616 + lo) (2 ^ (k - 64)) 18446744073709551616
        rw [h] at h3
        rw [← h3]
      omega
    subst h1
    rw [Nat.add_zero, Nat.mul_mod_mul_right] at h
    refine ⟨?_, by simp⟩
    have := Nat.mul_eq_zero.1 h
    omega
theorem last_eq {p : Pf} (hp : p.In) (cp : chkP p = 0) : prefix_Last_t p = some (lastA p, ()) := by
  obtain ⟨b1, b2⟩ := chkP_bits cp
  obtain ⟨f1, f2, f3⟩ := free_facts hp cp
  have hw := wid_le p.ad.v6
  obtain ⟨⟨h1, h2⟩, h3, h4⟩ := hp.1
  unfold prefix_Last_t
  rw [prefix_mask_eq p.ad p.bits b1 b2, bind_s, maskA_parts]
  show some (_, ()) = some (ofNum p.ad.v6 (p.ad.num + (2 ^ free p - 1)), ())
  obtain ⟨hi, hhi⟩ := Int.eq_ofNat_of_zero_le h1
  obtain ⟨lo, hlo⟩ := Int.eq_ofNat_of_zero_le h3
  have hnum : p.ad.num = hi * 18446744073709551616 + lo := by unfold Ad.num; rw [hhi, hlo]; rfl
  obtain ⟨g1, g2⟩ := low_high hi lo (free p) (by rw [← hnum]; exact f2) (by omega)
  have o1 : aop .or .u64 p.ad.hi ((2 ^ (wid p.ad.v6 - p.bits.toNat - 64) - 1 : Nat) : Int) = ((hi + (2 ^ (free p - 64) - 1) : Nat) : Int) := by
    rw [hhi]
    exact or_maskC hi (free p - 64) (by omega) (by omega) g1
  have o2 : aop .or .u64 p.ad.lo ((2 ^ (min (wid p.ad.v6 - p.bits.toNat) 64) - 1 : Nat) : Int) = ((lo + (2 ^ (min (free p) 64) - 1) : Nat) : Int) := by
    rw [hlo]
    exact or_maskC lo (min (free p) 64) (by omega) (by omega) g2
  simp only [o1, o2]
  obtain ⟨m1, m2⟩ := mask_parts (free p)
  have hlt : lo + (2 ^ (min (free p) 64) - 1) < 18446744073709551616 := by
    have hle : min (free p) 64 ≤ 64 := by omega
    obtain ⟨m, hm⟩ := Nat.dvd_of_mod_eq_zero g2
    have h5 : (18446744073709551616 : Nat) = 2 ^ (min (free p) 64) * 2 ^ (64 - min (free p) 64) := by rw [← Nat.pow_add]; rw [show min (free p) 64 + (64 - min (free p) 64) = 64 by omega]
    have hl : lo < 18446744073709551616 := by omega
    have hpp := Nat.two_pow_pos (min (free p) 64)
    rw [hm, h5] at hl ⊢
    have := Nat.lt_of_mul_lt_mul_left hl
    have h7 : 2 ^ (min (free p) 64) * m + 2 ^ (min (free p) 64) ≤ 2 ^ (min (free p) 64) * 2 ^ (64 - min (free p) 64) := by
      calc 2 ^ (min (free p) 64) * m + 2 ^ (min (free p) 64) = 2 ^ (min (free p) 64) * (m + 1) := by rw [Nat.mul_add, Nat.mul_one]
        _ ≤ _ := Nat.mul_le_mul_left _ this
    omega
  have hsum : p.ad.num + (2 ^ free p - 1) = (hi + (2 ^ (free p - 64) - 1)) * 18446744073709551616 + (lo + (2 ^ (min (free p) 64) - 1)) := by
    rw [← m1, ← m2, hnum]
    omega
  rw [hsum]
  unfold ofNum
  congr 2
  simp only [Ad.mk.injEq, true_and]
  constructor <;> omega
theorem last_num {p : Pf} (hp : p.In) (cp : chkP p = 0) : (lastA p).num = p.ad.num + (2 ^ free p - 1) ∧ (lastA p).v6 = p.ad.v6 := by
  unfold lastA
  rw [num_ofNum]
  exact ⟨rfl, rfl⟩
theorem ofNum_inC {v : Bool} {n : Nat} (h : n < 2 ^ wid v) : (ofNum v n).In := by
  have : 2 ^ wid v ≤ 340282366920938463463374607431768211456 := by cases v <;> decide
  unfold ofNum
  exact ⟨⟨by simp only; omega, by simp only; omega⟩, by simp only; omega, by simp only; omega⟩
theorem ofNum_chkC {v : Bool} {n : Nat} (h : n < 2 ^ wid v) : chkA (ofNum v n) = 0 := by
  unfold chkA ofNum
  cases v
  · rw [show wid false = 32 from rfl] at h
    rw [if_neg]
    simp only
    omega
  · simp
theorem last_in {p : Pf} (hp : p.In) (cp : chkP p = 0) : (lastA p).In ∧ chkA (lastA p) = 0 := by
  obtain ⟨f1, f2, f3⟩ := free_facts hp cp
  have hpp := Nat.two_pow_pos (free p)
  have : p.ad.num + (2 ^ free p - 1) < 2 ^ wid p.ad.v6 := by omega
  exact ⟨ofNum_inC this, ofNum_chkC this⟩
/-- A prefix has what stands from its first address to its last one. -/
theorem holds_span {p : Pf} {a : Ad} (hp : p.In) (cp : chkP p = 0) (ha : a.In) : holds p a = true ↔ p.ad.v6 = a.v6 ∧ p.ad.num ≤ a.num ∧ a.num < p.ad.num + 2 ^ free p := by
  obtain ⟨f1, f2, f3⟩ := free_facts hp cp
  have hpp := Nat.two_pow_pos (free p)
  rw [holds_iff]
  constructor
  · rintro ⟨h1, h2⟩
    have h3 : p.ad.num = cutN a.num (free p) := by
      have h4 : (cutA a p.bits).num = cutN a.num (wid a.v6 - p.bits.toNat) := by unfold cutA; rw [num_ofNum]
      rw [h2] at h4
      rw [h4]
      unfold free
      rw [h1]
    unfold cutN at h3
    have := Nat.div_add_mod a.num (2 ^ free p)
    have h5 := Nat.mod_lt a.num hpp
    rw [Nat.mul_comm] at this
    refine ⟨h1, by omega, by omega⟩
  · rintro ⟨h1, h2, h3⟩
    refine ⟨h1, ?_⟩
    obtain ⟨m, hm⟩ := Nat.dvd_of_mod_eq_zero f2
    have h4 : a.num / 2 ^ free p = m := by
      apply Nat.div_eq_of_lt_le
      · rw [Nat.mul_comm]; omega
      · rw [Nat.add_mul, Nat.one_mul, Nat.mul_comm]; omega
    unfold cutA cutN
    rw [show wid a.v6 - p.bits.toNat = free p by unfold free; rw [h1], h4, ← h1, Nat.mul_comm, ← hm, ofNum_num p.ad hp.1.wf]
def endsT (p : Pf) : Ad × Ad × Int × Unit := if chkP p ≠ 0 then (⟨false, 0, 0⟩, ⟨false, 0, 0⟩, chkP p, ()) else (p.ad, lastA p, 0, ())
theorem prefix_Ends_eq {p : Pf} (hp : p.In) : prefix_Ends_t p = some (endsT p) := by
  unfold prefix_Ends_t endsT
  rw [prefix_Check_eq hp, bind_s]
  by_cases h : chkP p = 0
  · rw [decide_eq_true (show (chkP p, ()).1 = 0 from h), Bool.not_true, br_false, last_eq hp h, bind_s, if_neg (fun h' => h' h)]
  · rw [decide_eq_false (show ¬ (chkP p, ()).1 = 0 from h), Bool.not_false, br_true, if_pos h]
theorem ends_right {p : Pf} (cp : chkP p = 0) : endsT p = (p.ad, lastA p, 0, ()) := by
  unfold endsT
  rw [if_neg (fun h => h cp)]
theorem ends_wrong {p : Pf} (cp : chkP p ≠ 0) : endsT p = (⟨false, 0, 0⟩, ⟨false, 0, 0⟩, chkP p, ()) := by
  unfold endsT
  rw [if_pos cp]

theorem ends_law {p : Pf} {a : Ad} (hp : p.In) (cp : chkP p = 0) (ha : a.In) : holds p a = (!aheadA a p.ad && !aheadA (lastA p) a) := by
  have hpp := Nat.two_pow_pos (free p)
  obtain ⟨l1, l2⟩ := last_num hp cp
  rw [Bool.eq_iff_iff, holds_span hp cp ha]
  unfold aheadA
  rw [l1, l2]
  by_cases hv : p.ad.v6 = a.v6
  · have hv' := hv.symm
    simp only [hv, ne_eq, not_true, if_false, true_and, Bool.and_eq_true, Bool.not_eq_true', decide_eq_false_iff_not]
    omega
  · have hv' : ¬ a.v6 = p.ad.v6 := fun h => hv h.symm
    simp only [hv, hv', ne_eq, not_false_eq_true, if_true, false_and, false_iff]
    cases h1 : a.v6 <;> cases h2 : p.ad.v6 <;> simp_all
theorem PrefixEnds_eq {p : Pf} {a : Ad} (hp : p.In) (ha : a.In) : law_PrefixEnds_t p a = some (true, ()) := by
  unfold law_PrefixEnds_t
  rw [prefixBegun_eq, bind_s, Bool.not_true, br_false, addrBegun_eq, bind_s, bind_s, Bool.not_true, br_false, prefix_Ends_eq hp, bind_s]
  by_cases cp : chkP p = 0
  · rw [ends_right cp]
    simp only [decide_true, Bool.not_true, br_false, addr_Check_eq, bind_s]
    by_cases ca : chkA a = 0
    · simp only [ca, decide_true, Bool.not_true, br_false, R_Host_eq, bind_s]
      obtain ⟨i1, i2⟩ := last_in hp cp
      rw [prefix_Has_eq hp (host_in ha), bind_s, has_right cp (host_right ha ca), addr_Less_eq, bind_s, less_right ha hp.1 ca (chkP_ad cp), addr_Less_eq, bind_s, less_right i1 ha i2 ca, over_host cp, ends_law hp cp ha]
      cases aheadA a p.ad <;> cases aheadA (lastA p) a <;> rfl
    · simp only [ca, decide_false, Bool.not_false, br_true, decide_true, bind_s]
  · rw [ends_wrong cp]
    simp only [cp, decide_false, Bool.not_false, br_true, br_false, bind_s]
    rfl
theorem over_refl {p : Pf} (cp : chkP p = 0) : over p p = true := over_iff.2 ⟨Int.le_refl _, holds_self cp⟩
theorem over_trans {p q r : Pf} (h : over p q = true) (h2 : over q r = true) : over p r = true := by
  obtain ⟨b1, b2⟩ := over_iff.1 h2
  exact over_iff.2 ⟨Int.le_trans (over_iff.1 h).1 b1, over_holds h b2⟩
theorem over_antisymm {p q : Pf} (cq : chkP q = 0) (h : over p q = true) (h2 : over q p = true) : p = q := by
  have b1 := (over_iff.1 h).1
  have b2 := (over_iff.1 h2).1
  exact holds_eq (over_iff.1 h).2 (holds_self cq) (by omega)
theorem apart_one {p q : Pf} (hp : p.In) (hq : q.In) (cp : chkP p = 0) (cq : chkP q = 0) (hv : p.ad.v6 = q.ad.v6) (h1 : q.ad.num ≤ p.ad.num + (2 ^ free p - 1)) (h2 : p.ad.num ≤ q.ad.num + (2 ^ free q - 1)) (hb : p.bits ≤ q.bits) : over p q = true := by
  rw [over_iff]
  refine ⟨hb, (holds_span hp cp hq.1).2 ⟨hv, ?_, by have := Nat.two_pow_pos (free p); omega⟩⟩
  obtain ⟨_, f2, _⟩ := free_facts hp cp
  obtain ⟨_, g2, _⟩ := free_facts hq cq
  have hle : free q ≤ free p := by unfold free; rw [hv]; omega
  have e : 2 ^ free p = 2 ^ free q * 2 ^ (free p - free q) := by rw [← Nat.pow_add]; congr 1; omega
  obtain ⟨m, hm⟩ := Nat.dvd_of_mod_eq_zero f2
  obtain ⟨k, hk⟩ := Nat.dvd_of_mod_eq_zero g2
  have hpos := Nat.two_pow_pos (free q)
  have hm' : p.ad.num = 2 ^ free q * (2 ^ (free p - free q) * m) := by rw [hm, e, Nat.mul_assoc]
  rw [hm', hk] at h2 ⊢
  apply Nat.mul_le_mul_left
  apply Nat.le_of_lt_succ
  apply Nat.lt_of_mul_lt_mul_left (a := 2 ^ free q)
  rw [Nat.mul_succ]
  omega
theorem apart_law {p q : Pf} (hp : p.In) (hq : q.In) (cp : chkP p = 0) (cq : chkP q = 0) (h1 : over p q = false) (h2 : over q p = false) : (aheadA (lastA p) q.ad || aheadA (lastA q) p.ad) = true := by
  obtain ⟨l1, l2⟩ := last_num hp cp
  obtain ⟨k1, k2⟩ := last_num hq cq
  unfold aheadA
  rw [l1, l2, k1, k2]
  by_cases hv : p.ad.v6 = q.ad.v6
  · have hv' := hv.symm
    simp only [hv, ne_eq, not_true, if_false, Bool.or_eq_true, decide_eq_true_eq]
    by_cases a1 : p.ad.num + (2 ^ free p - 1) < q.ad.num
    · exact .inl a1
    by_cases a2 : q.ad.num + (2 ^ free q - 1) < p.ad.num
    · exact .inr a2
    exfalso
    by_cases hb : p.bits ≤ q.bits
    · rw [apart_one hp hq cp cq hv (by omega) (by omega) hb] at h1; cases h1
    · rw [apart_one hq hp cq cp hv' (by omega) (by omega) (by omega)] at h2; cases h2
  · have hv' : ¬ q.ad.v6 = p.ad.v6 := fun h => hv h.symm
    simp only [hv, hv', ne_eq, not_false_eq_true, if_true]
    cases h1 : q.ad.v6 <;> cases h2 : p.ad.v6 <;> simp_all
theorem has_wrong {p q : Pf} (h : ¬ (chkP p = 0 ∧ chkP q = 0)) : ∃ e, e ≠ 0 ∧ hasT p q = (false, e, ()) := by
  unfold hasT
  by_cases h1 : chkP p = 0
  · have h2 : chkP q ≠ 0 := fun h2 => h ⟨h1, h2⟩
    exact ⟨chkP q, h2, by rw [if_neg (fun h' => h' h1), if_pos h2]⟩
  · exact ⟨chkP p, h1, by rw [if_pos h1]⟩
theorem apart_end {p q r : Pf} (hp : p.In) (hq : q.In) (hr : r.In) (cp : chkP p = 0) (cq : chkP q = 0) (A : Bool) (hA : A = over p q) :
    ((prefix_Has_t q r).bind fun y8 => (prefix_Has_t p r).bind fun y9 =>
      (br (!decide (y8.2.1 = 0)) (some true) (br (decide (y9.2.1 = 0)) (br (!A) (some true) (br (!y8.1) (some true) (some y9.1))) (some false))).bind fun c10 => some (c10, ())) = some (true, ()) := by
  rw [prefix_Has_eq hq hr, bind_s, prefix_Has_eq hp hr, bind_s]
  by_cases cr : chkP r = 0
  · rw [has_right cq cr, has_right cp cr]
    simp only [decide_true, Bool.not_true, br_false, br_true]
    cases hA2 : A
    · rfl
    · rw [hA2] at hA
      cases h2 : over q r
      · rfl
      · rw [over_trans hA.symm h2]; rfl
  · obtain ⟨e, he, h1⟩ := has_wrong (p := q) (q := r) (fun h => cr h.2)
    rw [h1]
    simp only [he, decide_false, Bool.not_false, br_true, bind_s]
theorem PrefixApart_eq {p q r : Pf} (hp : p.In) (hq : q.In) (hr : r.In) : law_PrefixApart_t p q r = some (true, ()) := by
  unfold law_PrefixApart_t
  rw [prefix_Has_eq hp hq, bind_s, prefix_Has_eq hq hp, bind_s, prefixBegun_eq, bind_s, Bool.not_true, br_false, addrBegun_eq, bind_s, bind_s, Bool.not_true, br_false]
  by_cases hc : chkP p = 0 ∧ chkP q = 0
  · obtain ⟨cp, cq⟩ := hc
    rw [has_right cp cq, has_right cq cp]
    simp only [decide_true, Bool.not_true, br_false, bind_s]
    cases hA : over p q
    · simp only [br_false, bind_s, Bool.not_false, br_true]
      cases hB : over q p
      · simp only [Bool.not_false, br_true, bind_s]
        obtain ⟨i1, i2⟩ := last_in hp cp
        obtain ⟨j1, j2⟩ := last_in hq cq
        rw [prefix_Ends_eq hp, bind_s, ends_right cp, prefix_Ends_eq hq, bind_s, ends_right cq]
        simp only
        rw [addr_Less_eq, bind_s, less_right i1 hq.1 i2 (chkP_ad cq), addr_Less_eq, bind_s, less_right j1 hp.1 j2 (chkP_ad cp)]
        have := apart_law hp hq cp cq hA hB
        simp only [decide_true, Bool.not_true, br_false, bind_s]
        generalize aheadA (lastA p) q.ad = l at this ⊢
        generalize aheadA (lastA q) p.ad = m at this ⊢
        have hend := apart_end hp hq hr cp cq false hA.symm
        cases l <;> cases m <;> first | (cases this; done) | (simp only [Bool.not_false, Bool.not_true, br_true, br_false, bind_s]; exact hend)
      · simp only [Bool.not_true, br_false, bind_s]
        exact apart_end hp hq hr cp cq false hA.symm
    · have hpq : (!(beqB (over q p) (eqPf p q))) = false := by
        rw [eqPf_eq]
        cases hB : over q p
        · have hne : ¬ p = q := fun h => by subst h; rw [hA] at hB; cases hB
          rw [decide_eq_false hne]; rfl
        · rw [decide_eq_true (over_antisymm cq hA hB)]; rfl
      rw [hpq]
      simp only [br_true, bind_s, br_false, Bool.not_true]
      exact apart_end hp hq hr cp cq true hA.symm
  · obtain ⟨e, he, h1⟩ := has_wrong (p := p) (q := q) hc
    obtain ⟨f, hf, h2⟩ := has_wrong (p := q) (q := p) (fun h => hc ⟨h.2, h.1⟩)
    rw [h1, h2]
    simp only [he, decide_false, Bool.not_false, br_true, bind_s]
end Go.Ma
