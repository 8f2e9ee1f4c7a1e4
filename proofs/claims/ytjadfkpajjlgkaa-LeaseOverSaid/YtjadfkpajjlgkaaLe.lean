/-
  The addresses of a pool; the first one that is free: the program's.
-/
import Derived.Test.YtjadfkpajjlgkaaLd
namespace Go.Ma
open Go

/-! The addresses of a narrow prefix. -/
def freeBits (p : Pf) : Nat := wid p.ad.v6 - p.bits.toNat
def addrI (p : Pf) (i : Nat) : Ad := ofNum p.ad.v6 (p.ad.num + i)
theorem narrow {p : Pf} (hp : p.In) (cp : chkP p = 0) (hn : ((wid p.ad.v6 : Nat) : Int) - p.bits ≤ 4) : freeBits p ≤ 4 ∧ 2 ^ freeBits p ≤ 16 ∧ p.ad.num % 2 ^ freeBits p = 0 ∧ p.ad.num + 2 ^ freeBits p ≤ 2 ^ wid p.ad.v6 := by
  obtain ⟨b1, b2⟩ := chkP_bits cp
  have h1 : freeBits p ≤ 4 := by unfold freeBits; omega
  have h2 : 2 ^ freeBits p ≤ 2 ^ 4 := Nat.pow_le_pow_right (by omega) h1
  have h3 : p.ad.num % 2 ^ freeBits p = 0 := (cutN_iff _ _).1 ((cutA_iff hp.1.wf p.bits).1 (chkP_cut cp))
  have h4 := right_num p.ad ⟨hp.1.wf, chkP_ad cp⟩
  refine ⟨h1, h2, h3, ?_⟩
  have hk : freeBits p ≤ wid p.ad.v6 := by unfold freeBits; omega
  have h5 : 2 ^ wid p.ad.v6 = 2 ^ freeBits p * 2 ^ (wid p.ad.v6 - freeBits p) := by rw [← Nat.pow_add]; congr 1; omega
  obtain ⟨m, hm⟩ := Nat.dvd_of_mod_eq_zero h3
  rw [hm, h5] at h4 ⊢
  have := Nat.lt_of_mul_lt_mul_left h4
  calc 2 ^ freeBits p * m + 2 ^ freeBits p = 2 ^ freeBits p * (m + 1) := by rw [Nat.mul_add, Nat.mul_one]
    _ ≤ _ := Nat.mul_le_mul_left _ this
theorem wid_pow (v : Bool) : 2 ^ wid v ≤ 340282366920938463463374607431768211456 := by cases v <;> decide
theorem ofNum_in {v : Bool} {n : Nat} (h : n < 2 ^ wid v) : (ofNum v n).In := by
  have := wid_pow v
  unfold ofNum
  exact ⟨⟨by simp only; omega, by simp only; omega⟩, by simp only; omega, by simp only; omega⟩
theorem ofNum_chk {v : Bool} {n : Nat} (h : n < 2 ^ wid v) : chkA (ofNum v n) = 0 := by
  unfold chkA ofNum
  cases v
  · rw [show wid false = 32 from rfl] at h
    rw [if_neg]
    simp only
    omega
  · simp
theorem or_mask (x k : Nat) (hx : x < 18446744073709551616) (hk : k ≤ 64) (hm : x % 2 ^ k = 0) : aop .or .u64 (x : Int) ((2 ^ k - 1 : Nat) : Int) = ((x + (2 ^ k - 1) : Nat) : Int) := by
  have hp := Nat.two_pow_pos k
  have hle : 2 ^ k ≤ 2 ^ 64 := Nat.pow_le_pow_right (by omega) hk
  obtain ⟨m, rfl⟩ := Nat.dvd_of_mod_eq_zero hm
  have hlt : 2 ^ k * m + 2 ^ k ≤ 18446744073709551616 := by
    have h5 : (18446744073709551616 : Nat) = 2 ^ k * 2 ^ (64 - k) := by rw [← Nat.pow_add]; rw [show k + (64 - k) = 64 by omega]
    rw [h5] at hx ⊢
    have := Nat.lt_of_mul_lt_mul_left hx
    calc 2 ^ k * m + 2 ^ k = 2 ^ k * (m + 1) := by rw [Nat.mul_add, Nat.mul_one]
      _ ≤ _ := Nat.mul_le_mul_left _ this
  have e1 : ∀ n : Nat, n < 18446744073709551616 → (BitVec.ofInt 64 (n : Int)).toNat = n := fun n hn => by
    rw [BitVec.toNat_ofInt]
    have : ((n : Int) % ((2 ^ 64 : Nat) : Int)) = (n : Int) := Int.emod_eq_of_lt (by omega) (by omega)
    rw [this]; rfl
  show IntKind.u64.wrap (((BitVec.ofInt 64 ((2 ^ k * m : Nat) : Int) ||| BitVec.ofInt 64 ((2 ^ k - 1 : Nat) : Int)).toNat : Nat) : Int) = _
  rw [BitVec.toNat_or, e1 _ (by omega), e1 _ (by omega), ← Nat.two_pow_add_eq_or_of_lt (by omega), wrap_u64 (by omega) (by omega)]
theorem prefix_Last_eq {p : Pf} (hp : p.In) (cp : chkP p = 0) (hn : ((wid p.ad.v6 : Nat) : Int) - p.bits ≤ 4) : prefix_Last_t p = some (addrI p (2 ^ freeBits p - 1), ()) := by
  obtain ⟨b1, b2⟩ := chkP_bits cp
  obtain ⟨n1, n2, n3, n4⟩ := narrow hp cp hn
  have hpp := Nat.two_pow_pos (freeBits p)
  obtain ⟨⟨h1, h2⟩, h3, h4⟩ := hp.1
  unfold prefix_Last_t
  rw [prefix_mask_eq p.ad p.bits b1 b2, bind_s, maskA_parts]
  show some _ = some _
  have k1 : wid p.ad.v6 - p.bits.toNat - 64 = 0 := by unfold freeBits at n1; omega
  have k2 : min (wid p.ad.v6 - p.bits.toNat) 64 = freeBits p := by unfold freeBits at n1 ⊢; omega
  rw [k1, k2]
  obtain ⟨hi, hhi⟩ := Int.eq_ofNat_of_zero_le h1
  obtain ⟨lo, hlo⟩ := Int.eq_ofNat_of_zero_le h3
  have hnum : p.ad.num = hi * 18446744073709551616 + lo := by unfold Ad.num; rw [hhi, hlo]; rfl
  have hlo2 : lo % 2 ^ freeBits p = 0 := by
    rw [hnum] at n3
    have h5 : (18446744073709551616 : Nat) = 2 ^ freeBits p * 2 ^ (64 - freeBits p) := by rw [← Nat.pow_add]; rw [show freeBits p + (64 - freeBits p) = 64 by omega]
    rw [h5, Nat.mul_left_comm] at n3
    rwa [Nat.mul_add_mod] at n3
  have o1 : aop .or .u64 p.ad.hi ((2 ^ 0 - 1 : Nat) : Int) = p.ad.hi := by
    rw [hhi, or_mask hi 0 (by omega) (by omega) (Nat.mod_one _)]
    simp
  have o2 : aop .or .u64 p.ad.lo ((2 ^ freeBits p - 1 : Nat) : Int) = ((lo + (2 ^ freeBits p - 1) : Nat) : Int) := by
    rw [hlo, or_mask lo (freeBits p) (by omega) (by omega) hlo2]
  simp only [o1, o2]
  have hlt : lo + 2 ^ freeBits p ≤ 18446744073709551616 := by
    have h5 : (18446744073709551616 : Nat) = 2 ^ freeBits p * 2 ^ (64 - freeBits p) := by rw [← Nat.pow_add]; rw [show freeBits p + (64 - freeBits p) = 64 by omega]
    obtain ⟨m, rfl⟩ := Nat.dvd_of_mod_eq_zero hlo2
    have hx : 2 ^ freeBits p * m < 2 ^ freeBits p * 2 ^ (64 - freeBits p) := by omega
    have := Nat.lt_of_mul_lt_mul_left hx
    rw [h5]
    calc 2 ^ freeBits p * m + 2 ^ freeBits p = 2 ^ freeBits p * (m + 1) := by rw [Nat.mul_add, Nat.mul_one]
      _ ≤ _ := Nat.mul_le_mul_left _ this
  unfold addrI ofNum
  rw [hnum, hhi]
  have q1 : (hi * 18446744073709551616 + lo + (2 ^ freeBits p - 1)) / 18446744073709551616 = hi := by omega
  have q2 : (hi * 18446744073709551616 + lo + (2 ^ freeBits p - 1)) % 18446744073709551616 = lo + (2 ^ freeBits p - 1) := by omega
  rw [q1, q2]
theorem addr_After_eq {v : Bool} {n : Nat} (h : n + 1 < 2 ^ wid v) : addr_After_t (ofNum v n) = some (ofNum v (n + 1), true, ()) := by
  unfold addr_After_t
  simp only [both_self, dup_eq]
  have hadd : ∀ m : Nat, aop .add .u64 (m : Int) 1 = (((m + 1) % 18446744073709551616 : Nat) : Int) := fun m => by
    simp only [aop, wrap_u64_mod]
    omega
  have hw := wid_pow v
  cases v
  · rw [show wid false = 32 from rfl] at h
    have q1 : (n + 1) / 18446744073709551616 = 0 := by omega
    have q2 : n / 18446744073709551616 = 0 := by omega
    have q3 : (n % 18446744073709551616 + 1) % 18446744073709551616 = n + 1 := by omega
    have q4 : (n + 1) % 18446744073709551616 = n + 1 := by omega
    simp only [ofNum, hadd, br_false, bind_s, q1, q2, q3, q4, both_self]
    rw [decide_eq_true (show (((n + 1 : Nat) : Int)) < 4294967296 by omega)]
  · rw [show wid true = 128 from rfl] at h
    simp only [ofNum, hadd, br_true, bind_s]
    by_cases hc : n % 18446744073709551616 + 1 = 18446744073709551616
    · have q1 : (n + 1) / 18446744073709551616 = n / 18446744073709551616 + 1 := by omega
      have q2 : (n + 1) % 18446744073709551616 = 0 := by omega
      have q3 : (n / 18446744073709551616 + 1) % 18446744073709551616 = n / 18446744073709551616 + 1 := by omega
      rw [hc, Nat.mod_self, decide_eq_true (show ((0 : Nat) : Int) = 0 from rfl), br_true, q1, q2, q3]
      rw [decide_eq_false (show ¬ (((n / 18446744073709551616 + 1 : Nat) : Int)) = 0 by omega)]
      rfl
    · have q1 : (n + 1) / 18446744073709551616 = n / 18446744073709551616 := by omega
      have q2 : (n + 1) % 18446744073709551616 = n % 18446744073709551616 + 1 := by omega
      have q3 : (n % 18446744073709551616 + 1) % 18446744073709551616 = n % 18446744073709551616 + 1 := by omega
      rw [q3, decide_eq_false (show ¬ (((n % 18446744073709551616 + 1 : Nat) : Int)) = 0 by omega), br_false, q1, q2]
theorem ofNum_ne {v : Bool} {n m : Nat} (h : n ≠ m) : ofNum v n ≠ ofNum v m := fun e => h (by have := congrArg Ad.num e; rwa [num_ofNum, num_ofNum] at this)
theorem allA_eq (v : Bool) (base c : Nat) (h : base + c ≤ 2 ^ wid v) : ∀ (fuel d : Nat), d < fuel → d < c → allA (ofNum v (base + (c - 1))) fuel (ofNum v (base + (c - 1 - d))) = some ((List.range' (c - 1 - d) (d + 1)).map fun i => ofNum v (base + i))
  | 0, d, h, _ => by omega
  | fuel + 1, d, h1, h2 => by
    rw [allA]
    cases d with
    | zero =>
      rw [decide_eq_true (show ofNum v (base + (c - 1 - 0)) = ofNum v (base + (c - 1)) from rfl), br_true]
      rfl
    | succ d =>
      rw [decide_eq_false (ofNum_ne (by omega)), br_false, addr_After_eq (by omega), bind_s, br_true, show base + (c - 1 - (d + 1)) + 1 = base + (c - 1 - d) by omega, allA_eq v base c h fuel d (by omega) (by omega)]
      have hr : List.range' (c - 1 - (d + 1)) (d + 1 + 1) = (c - 1 - (d + 1)) :: List.range' (c - 1 - d) (d + 1) := by
        rw [List.range'_succ]
        congr 2
        omega
      rw [Option.map_some, hr, List.map_cons]

/-! What is taken. -/
def takenB (kp : List Ad) (b : List Ls) (a : Ad) : Bool := kp.any (fun x => decide (a = x)) || b.any (fun x => decide (x.ad = a))
def ixOut (kp : List Ad) : Option Nat → (((Int × Unit) × Unit) × (List Ad × Unit)) ⊕ ((Unit) × (List Ad × Unit))
  | some k => Sum.inl ((((k : Int), ()), ()), (kp, ()))
  | none => Sum.inr ((), (kp, ()))
theorem slices_Contains_eq {kp : List Ad} (hlen : kp.length ≤ 1048576) (a : Ad) : slices_Contains___api_Addr_api_Addr__t kp a = some (kp.any (fun x => decide (a = x)), ()) := by
  unfold slices_Contains___api_Addr_api_Addr__t slices_Index___api_Addr_api_Addr__t
  have := loop_up (step := slices_Index___api_Addr_api_Addr__L2) (fun i => (((), (), (lenL kp, ()), ((i : Int), ()), ()), (kp, (a, ()), ()))) kp.length (fun i => some (ixOut kp ((firstF (fun x => decide (a = x)) (kp.drop i)).map (· + i)))) (fun rec i hi hr => ?_) (fun rec => ?_) FUEL 0 (Nat.zero_le _) (fuel_gt (by omega))
  · rw [List.drop_zero, show (fun x => x + 0) = (id : Nat → Nat) from rfl, Option.map_id] at this
    rw [show ((0 : Nat) : Int) = 0 from rfl] at this
    rw [this, bind_s, ← firstF_any]
    simp only [id]
    cases firstF (fun x => decide (a = x)) kp with
    | none => rfl
    | some k =>
      simp only [ixOut, sumC, bind_s]
      rw [decide_eq_true (show (k : Int) ≥ 0 by omega)]
      rfl
  · obtain ⟨e, he⟩ : ∃ e, kp[i]? = some e := ⟨_, List.getElem?_eq_getElem hi⟩
    simp only [slices_Index___api_Addr_api_Addr__L2]
    rw [decide_eq_true (show (i : Int) < lenL kp by unfold lenL; omega), br_true, req_of (inRange_of (by omega) (by unfold lenL; omega)), geti_at he, bind_s, firstF_at he, eqAd_eq]
    by_cases hc : a = e
    · simp only [hc, decide_true, br_true, if_true]
      rfl
    · simp only [hc, decide_false, br_false]
      rw [show ((i : Int) + 1) = ((i + 1 : Nat) : Int) by omega, req_of (i64ok_of (by omega) (by omega)), hr]
      rfl
  · simp only [slices_Index___api_Addr_api_Addr__L2]
    rw [decide_eq_false (show ¬ (kp.length : Int) < lenL kp by unfold lenL; omega), br_false, List.drop_of_length_le (Nat.le_refl _)]
    rfl
abbrev DT := (Bool × Int × Int × Int × Unit) × List Ad × List Ls × (Ad × Unit) × Unit
def tkOut (d : DT) : Option Nat → (((Int × Unit) × Unit) × DT) ⊕ ((Unit) × DT)
  | some k => Sum.inl ((((k : Int), ()), ()), d)
  | none => Sum.inr ((), d)
theorem taken_eq (p : Pf) {kp : List Ad} (hk : kp.length ≤ 1048576) {b : List Ls} (hb : b.length ≤ 1048576) (a : Ad) : m_lease_book__taken_t p kp b a = some (takenB kp b a, ()) := by
  unfold m_lease_book__taken_t takenB
  rw [slices_Contains_eq hk, bind_s]
  have := loop_up (step := m_lease_book__taken_slices_ContainsFunc___api_Lease_api_Lease__slices_IndexFunc___api_Lease_api_Lease__L2) (fun i => (((), (), (lenL b, ()), ((i : Int), ()), ()), ((p.ad.v6, p.ad.hi, p.ad.lo, p.bits, ()), kp, b, (a, ()), ()))) b.length (fun i => some (tkOut ((p.ad.v6, p.ad.hi, p.ad.lo, p.bits, ()), kp, b, (a, ()), ()) ((firstF (fun x => decide (x.ad = a)) (b.drop i)).map (· + i)))) (fun rec i hi hr => ?_) (fun rec => ?_) FUEL 0 (Nat.zero_le _) (fuel_gt (by omega))
  · rw [List.drop_zero, show (fun x => x + 0) = (id : Nat → Nat) from rfl, Option.map_id] at this
    rw [show ((0 : Nat) : Int) = 0 from rfl] at this
    rw [this, bind_s, ← firstF_any b]
    simp only [id]
    cases kp.any (fun x => decide (a = x))
    · rw [br_false]
      cases firstF (fun x => decide (x.ad = a)) b with
      | none => rfl
      | some k =>
        simp only [tkOut, sumC, bind_s]
        rw [decide_eq_true (show (k : Int) ≥ 0 by omega)]
        rfl
    · rfl
  · obtain ⟨e, he⟩ : ∃ e, b[i]? = some e := ⟨_, List.getElem?_eq_getElem hi⟩
    simp only [m_lease_book__taken_slices_ContainsFunc___api_Lease_api_Lease__slices_IndexFunc___api_Lease_api_Lease__L2]
    rw [decide_eq_true (show (i : Int) < lenL b by unfold lenL; omega), br_true, req_of (inRange_of (by omega) (by unfold lenL; omega)), geti_at he, bind_s, firstF_at he, m_lease_book__taken_1_t, bind_s, eqAd_eq]
    by_cases hc : e.ad = a
    · simp only [hc, decide_true, br_true, if_true]
      rfl
    · simp only [hc, decide_false, br_false]
      rw [show ((i : Int) + 1) = ((i + 1 : Nat) : Int) by omega, req_of (i64ok_of (by omega) (by omega)), hr]
      rfl
  · simp only [m_lease_book__taken_slices_ContainsFunc___api_Lease_api_Lease__slices_IndexFunc___api_Lease_api_Lease__L2]
    rw [decide_eq_false (show ¬ (b.length : Int) < lenL b by unfold lenL; omega), br_false, List.drop_of_length_le (Nat.le_refl _)]
    rfl
def foundA : Option Ad → Ad × Bool × Unit
  | some a => (a, true, ())
  | none => (⟨false, 0, 0⟩, false, ())
/-- The first address that is free. -/
def freeOf (p : Pf) (kp : List Ad) (b : List Ls) : Option Ad := ((List.range (2 ^ freeBits p)).map (addrI p)).find? fun a => !takenB kp b a
theorem firstIn_eq (p : Pf) {kp : List Ad} (hk : kp.length ≤ 1048576) {b : List Ls} (hb : b.length ≤ 1048576) : ∀ xs : List Ad, firstIn p kp b xs = some (foundA (xs.find? fun a => !takenB kp b a))
  | [] => rfl
  | a :: r => by
    rw [firstIn, taken_eq p hk hb, bind_s, firstIn_eq p hk hb r, bind_s, List.find?_cons]
    cases takenB kp b a <;> rfl
theorem first_eq {p : Pf} (hp : p.In) (cp : chkP p = 0) (hn : ((wid p.ad.v6 : Nat) : Int) - p.bits ≤ 4) {kp : List Ad} (hk : kp.length ≤ 1048576) {b : List Ls} (hb : b.length ≤ 1048576) :
    m_lease_book__first_t p kp b = some (foundA (freeOf p kp b)) := by
  obtain ⟨n1, n2, n3, n4⟩ := narrow hp cp hn
  have hpp := Nat.two_pow_pos (freeBits p)
  unfold m_lease_book__first_t freeOf
  rw [prefix_Last_eq hp cp hn, bind_s]
  have := allA_eq p.ad.v6 p.ad.num (2 ^ freeBits p) n4 64 (2 ^ freeBits p - 1) (by omega) (by omega)
  rw [show 2 ^ freeBits p - 1 - (2 ^ freeBits p - 1) = 0 by omega, Nat.add_zero, ofNum_num _ hp.1.wf, show 2 ^ freeBits p - 1 + 1 = 2 ^ freeBits p by omega, ← List.range_eq_range'] at this
  show (allA (ofNum p.ad.v6 (p.ad.num + (2 ^ freeBits p - 1))) 64 p.ad).bind _ = _
  rw [this, bind_s, firstIn_eq p hk hb]
  rfl
end Go.Ma
