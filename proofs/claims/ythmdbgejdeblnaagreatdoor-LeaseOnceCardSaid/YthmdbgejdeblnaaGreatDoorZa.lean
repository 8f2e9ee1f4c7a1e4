/-
  Plain Lean: what the functions come to. Parts: Pa Pb Pc Pw Pf Pv Po La Lb Lc Ld Le Lg Lo Lh Li Ca Ce Lk Ph Pi Pj Pk Cb Cd Lm.
-/
import Derived.Test.YthmdbgejdeblnaaGreatDoorMaR
import Derived.Test.YthmdbgejdeblnaaGreatDoorMaH
import Derived.Test.YthmdbgejdeblnaaGreatDoorMaJ
import Derived.IntWalk
import Derived.Test.YthmdbgejdeblnaaGreatDoorPl
import Derived.Test.YthmdbgejdeblnaaGreatDoorHe
import Derived.Test.YthmdbgejdeblnaaGreatDoorPm
namespace Go.Ma
open Go
/-! Part Pa. -/
section
variable {X Y : Type}
theorem br_ss (c : Bool) (x y : X) : br c (some x) (some y) = some (bif c then x else y) := by cases c <;> rfl
theorem br_sb (c x y : Bool) : br c (some x) (some y) = some (bif c then x else y) := br_ss c x y
theorem br_true (a b : Option X) : br true a b = a := rfl
theorem br_false (a b : Option X) : br false a b = b := rfl
theorem br_same (c : Bool) (a : Option X) : br c a a = a := by cases c <;> rfl
theorem req_true (a : Option X) : req true a = a := rfl
theorem req_of {c : Bool} (h : c = true) (a : Option X) : req c a = a := by rw [h]; rfl
theorem both_self (a : Option X) : both a a = a := by unfold both; exact if_pos rfl
theorem dup_eq (n : Nat) (a : Option X) : dup n a = a := by
  induction n with
  | zero => rfl
  | succ n ih => rw [dup, ih, both_self]
theorem bind_s (x : X) (f : X → Option Y) : (some x).bind f = f x := rfl
end

/-! Numbers. -/
def betw (x a b : Int) : Bool := decide (a ≤ x) && decide (x ≤ b)
theorem betw_iff {x a b : Int} : betw x a b = true ↔ a ≤ x ∧ x ≤ b := by simp [betw]
theorem betw_bif (x a b : Int) : (bif decide (x ≥ a) then decide (x ≤ b) else false) = betw x a b := by
  unfold betw
  cases decide (x ≥ a) <;> rfl
theorem i64ok_of {x : Int} (h : -9223372036854775808 ≤ x) (h' : x < 9223372036854775808) : i64ok x = true := i64ok_iff.2 ⟨h, h'⟩
theorem inRange_of {i n : Int} (h : 0 ≤ i) (h' : i < n) : inRange i n = true := by simp [inRange, h, h']
theorem room_of {a b : Int} (h0 : 0 ≤ a) (h1 : 0 ≤ b) (h : a + b ≤ 274877906944) : room a b = true := by
  unfold room
  rw [Nat.ble_eq]
  omega

/-! Rows. -/
section
variable {α : Type}
theorem lenL_nonneg (l : List α) : 0 ≤ lenL l := by unfold lenL; omega
theorem lenL_nil : lenL ([] : List α) = 0 := rfl
theorem lenL_cons (a : α) (l : List α) : lenL (a :: l) = lenL l + 1 := by simp [lenL]
theorem lenL_app (l l' : List α) : lenL (l ++ l') = lenL l + lenL l' := by simp [lenL]
theorem geti_nat (l : List α) (i : Nat) : geti l (i : Int) = l[i]? := by
  unfold geti
  rw [if_pos (by omega)]
  rfl
theorem geti_at {l : List α} {i : Nat} {a : α} (h : l[i]? = some a) : geti l (i : Int) = some a := (geti_nat l i).trans h
end

/-! Loops. -/
theorem loopN_succ {α Y : Type} (step : (α → Option Y) → α → Option Y) (n : Nat) (x : α) : loopN step (n + 1) x = step (loopN step n) x := rfl
/-- A loop comes to f, if each round does, f being what the rest comes to. -/
theorem loop_by {α Y : Type} {step : (α → Option Y) → α → Option Y} (I : α → Prop) (μ : α → Nat) (f : α → Option Y)
    (h : ∀ rec x, I x → (∀ x', I x' → μ x' < μ x → rec x' = f x') → step rec x = f x) : ∀ (N : Nat) (x : α), I x → μ x < N → loopN step N x = f x := by
  intro N
  induction N with
  | zero => intro x _ hx; omega
  | succ N ih =>
    intro x hI hx
    exact h _ x hI fun x' hI' hx' => ih x' hI' (by omega)
/-- A loop that counts from i to n. -/
theorem loop_up {α Y : Type} {step : (α → Option Y) → α → Option Y} (mk : Nat → α) (n : Nat) (f : Nat → Option Y)
    (h : ∀ (rec : α → Option Y) i, i < n → rec (mk (i + 1)) = f (i + 1) → step rec (mk i) = f i) (hend : ∀ rec, step rec (mk n) = f n) : ∀ (N i : Nat), i ≤ n → n - i < N → loopN step N (mk i) = f i := by
  intro N
  induction N with
  | zero => intro i _ hx; omega
  | succ N ih =>
    intro i hi hx
    rw [loopN_succ]
    by_cases he : i = n
    · subst he; exact hend _
    · exact h _ i (by omega) (ih (i + 1) (by omega) (by omega))
/-- .. that counts, something being so at each round. -/
theorem loop_upI {α Y : Type} {step : (α → Option Y) → α → Option Y} (mk : Nat → α) (n : Nat) (f : Nat → Option Y) (I : Nat → Prop)
    (h : ∀ (rec : α → Option Y) i, i < n → I i → (I (i + 1) → rec (mk (i + 1)) = f (i + 1)) → step rec (mk i) = f i) (hend : ∀ rec, I n → step rec (mk n) = f n) : ∀ (N i : Nat), i ≤ n → I i → n - i < N → loopN step N (mk i) = f i := by
  intro N
  induction N with
  | zero => intro i _ _ hx; omega
  | succ N ih =>
    intro i hi hI hx
    rw [loopN_succ]
    by_cases he : i = n
    · subst he; exact hend _ hI
    · exact h _ i (by omega) hI fun hI' => ih (i + 1) (by omega) hI' (by omega)
theorem fuel_gt {n : Nat} (h : n < 18446744073709551616) : n < FUEL := by unfold FUEL; exact h
theorem maxLen_fuel {n : Nat} (h : n ≤ maxLen) : n < FUEL := by
  unfold FUEL
  have : maxLen < 18446744073709551616 := by unfold maxLen; decide
  exact Nat.lt_of_le_of_lt h this

/-! Strings. -/
theorem toList_loop (b : ByteArray) (i : Nat) (r : List UInt8) : ByteArray.toList.loop b i r = r.reverse ++ b.data.toList.drop i := by
  rw [ByteArray.toList.loop]
  split
  · rename_i h
    rw [toList_loop b (i + 1)]
    have h' : i < b.data.toList.length := by simpa using h
    rw [List.drop_eq_getElem_cons h', List.reverse_cons, List.append_assoc]
    have e : b.get! i = b.data.toList[i] := by
      simp only [ByteArray.get!, Array.getElem_toList]
      exact getElem!_pos b.data i (by simpa using h)
    rw [e]
    rfl
  · rename_i h
    rw [List.drop_of_length_le (by simpa using h), List.append_nil]
  termination_by b.size - i
theorem toList_data (b : ByteArray) : b.toList = b.data.toList := by
  rw [ByteArray.toList, toList_loop]; rfl
theorem beqL_iff (x y : ByteArray) : (x.toList == y.toList) = decide (x = y) := by
  have e : (x.toList = y.toList) = (x = y) := by
    rw [toList_data, toList_data]
    refine propext ⟨fun h => ByteArray.ext (Array.toList_inj.1 h), fun h => by rw [h]⟩
  simp only [← e]
  exact Bool.eq_iff_iff.2 (by simp)
theorem strcmp_eql (x y : ByteArray) : strcmp .eql x y = decide (x = y) := beqL_iff x y
theorem strcmp_neq (x y : ByteArray) : strcmp .neq x y = !decide (x = y) := by
  show (!(x.toList == y.toList)) = _
  rw [beqL_iff]
theorem lt_of_max {n : Nat} (h : n ≤ maxLen) : n < 9223372036854775808 := Nat.lt_of_le_of_lt h (by unfold maxLen; decide)
theorem byteAt_eq {s : ByteArray} {i : Nat} {b : UInt8} (h : s.data.toList[i]? = some b) : byteAt s (i : Int) = (b.toNat : Int) := by
  have h' : s[i]? = some b := by
    rw [Array.getElem?_toList] at h
    obtain ⟨hl, he⟩ := Array.getElem?_eq_some_iff.1 h
    rw [getElem?_pos s i hl]
    exact congrArg some he
  unfold byteAt
  simp only [Int.toNat_natCast]
  rw [h']
theorem data_len (s : ByteArray) : s.data.toList.length = s.size := by simp
theorem drop_all {α : Type} (p : α → Bool) {l : List α} {i : Nat} {a : α} (h : l[i]? = some a) : (l.drop i).all p = (p a && (l.drop (i + 1)).all p) := by
  obtain ⟨hl, he⟩ := List.getElem?_eq_some_iff.1 h
  rw [List.drop_eq_getElem_cons hl, he, List.all_cons]
theorem drop_cons {α : Type} {l : List α} {i : Nat} {a : α} (h : l[i]? = some a) : l.drop i = a :: l.drop (i + 1) := by
  obtain ⟨hl, he⟩ := List.getElem?_eq_some_iff.1 h
  rw [List.drop_eq_getElem_cons hl, he]

/-! Part Pb. -/
def Ad.wf (a : Ad) : Prop := 0 ≤ a.hi ∧ a.hi < 18446744073709551616 ∧ 0 ≤ a.lo ∧ a.lo < 18446744073709551616
theorem Ad.In.wf {a : Ad} (h : a.In) : a.wf := ⟨h.1.1, h.1.2, h.2.1, h.2.2⟩
/-- What addr.Check answers. -/
def chkA (a : Ad) : Int := if a.v6 = false ∧ (a.hi ≠ 0 ∨ 4294967296 ≤ a.lo) then 3 else 0
def wid (v6 : Bool) : Nat := if v6 then 128 else 32
def Ad.num (a : Ad) : Nat := a.hi.toNat * 18446744073709551616 + a.lo.toNat
def ofNum (v6 : Bool) (n : Nat) : Ad := ⟨v6, (n / 18446744073709551616 : Nat), (n % 18446744073709551616 : Nat)⟩
def Ad.right (a : Ad) : Prop := a.wf ∧ chkA a = 0
theorem wrap_i64 {n : Int} (h : -9223372036854775808 ≤ n) (h' : n < 9223372036854775808) : IntKind.i64.wrap n = n := IntWalk.i64_in n (by omega)
theorem wrap_u64 {n : Int} (h : 0 ≤ n) (h' : n < 18446744073709551616) : IntKind.u64.wrap n = n := by
  simp only [IntKind.wrap, IntKind.bits, IntKind.signed, Bool.false_and]
  simp
  omega
theorem wrap_u64_mod (n : Int) : IntKind.u64.wrap n = n % 18446744073709551616 := by
  simp only [IntKind.wrap, IntKind.bits, IntKind.signed, Bool.false_and]
  simp

theorem wid_cases (v6 : Bool) : (v6 = true ∧ wid v6 = 128) ∨ (v6 = false ∧ wid v6 = 32) := by cases v6 <;> simp [wid]
theorem right_num (a : Ad) (h : a.right) : a.num < 2 ^ wid a.v6 := by
  obtain ⟨⟨h1, h2, h3, h4⟩, hc⟩ := h
  unfold chkA at hc
  unfold Ad.num wid
  cases hv : a.v6
  · simp only [hv] at hc ⊢
    split at hc
    · cases hc
    · rename_i hn
      simp only [Bool.false_eq_true, if_false]
      simp only [true_and, not_or, Decidable.not_not] at hn
      omega
  · simp only [if_true]
    omega
theorem ofNum_num (a : Ad) (h : a.wf) : ofNum a.v6 a.num = a := by
  obtain ⟨h1, h2, h3, h4⟩ := h
  unfold ofNum Ad.num
  cases a with
  | mk v hi lo =>
    simp only at h1 h2 h3 h4
    simp only [Ad.mk.injEq, true_and]
    constructor <;> omega
theorem num_ofNum (v6 : Bool) (n : Nat) : (ofNum v6 n).num = n := by
  unfold ofNum Ad.num
  simp only [Int.toNat_natCast]
  omega
theorem num_inj {a b : Ad} (ha : a.wf) (hb : b.wf) (hv : a.v6 = b.v6) (h : a.num = b.num) : a = b := by
  rw [← ofNum_num a ha, ← ofNum_num b hb, hv, h]

theorem pow_split {r : Nat} (h : 64 ≤ r) : 2 ^ r = 2 ^ (r - 64) * 18446744073709551616 := by
  have : r = (r - 64) + 64 := by omega
  rw [this, Nat.pow_add]
  simp
theorem pow_lt64 {r : Nat} (h : r < 64) : 2 ^ r ≤ 9223372036854775808 := by
  have := Nat.pow_le_pow_right (n := 2) (by omega) (show r ≤ 63 by omega)
  simpa using this
theorem mask_small {r : Nat} (h : r < 64) : (2 ^ r - 1) / 18446744073709551616 = 0 ∧ (2 ^ r - 1) % 18446744073709551616 = 2 ^ r - 1 := by
  have := pow_lt64 h
  constructor <;> omega
theorem mask_big {r : Nat} (h : 64 ≤ r) : (2 ^ r - 1) / 18446744073709551616 = 2 ^ (r - 64) - 1 ∧ (2 ^ r - 1) % 18446744073709551616 = 18446744073709551615 := by
  have h1 := pow_split h
  have h2 := Nat.two_pow_pos (r - 64)
  generalize 2 ^ (r - 64) = q at h1 h2 ⊢
  rw [h1]
  constructor <;> omega
/-- 1<<r - 1 -/
theorem shl_one {r : Nat} (h : r < 64) : aop .sub .u64 (aop .shl .u64 1 (r : Int)) 1 = ((2 ^ r - 1 : Nat) : Int) := by
  have h1 := pow_lt64 h
  have h2 := Nat.two_pow_pos r
  have e1 : aop .shl .u64 1 (r : Int) = ((2 ^ r : Nat) : Int) := by
    simp only [aop, IntKind.bits, Int.toNat_natCast, Nat.min_eq_left (show r ≤ 64 by omega)]
    rw [wrap_u64_mod]
    have hc : (2 : Int) ^ r = ((2 ^ r : Nat) : Int) := by push_cast; rfl
    rw [Int.one_mul, hc]
    generalize 2 ^ r = q at h1 h2 ⊢
    omega
  rw [e1]
  simp only [aop]
  rw [wrap_u64 (by omega) (by omega)]
  omega

/-- Without the last k bits. -/
def cutN (n k : Nat) : Nat := n / 2 ^ k * 2 ^ k
theorem andNot_mask (x : Nat) (k : Nat) (hx : x < 18446744073709551616) (hk : k ≤ 64) : aop .andNot .u64 (x : Int) ((2 ^ k - 1 : Nat) : Int) = ((x / 2 ^ k * 2 ^ k : Nat) : Int) := by
  have hp : 2 ^ k ≤ 18446744073709551616 := by
    have := Nat.pow_le_pow_right (n := 2) (by omega) hk
    simpa using this
  have hpos := Nat.two_pow_pos k
  have e1 : (BitVec.ofInt 64 (x : Int)).toNat = x := by
    rw [BitVec.ofInt_natCast, BitVec.toNat_ofNat]
    exact Nat.mod_eq_of_lt (by simpa using hx)
  have e2 : (BitVec.ofInt 64 ((2 ^ k - 1 : Nat) : Int)).toNat = 2 ^ k - 1 := by
    rw [BitVec.ofInt_natCast, BitVec.toNat_ofNat]
    exact Nat.mod_eq_of_lt (by simp only [Nat.reducePow]; omega)
  have e3 : (BitVec.ofInt 64 (x : Int) &&& ~~~ BitVec.ofInt 64 ((2 ^ k - 1 : Nat) : Int)).toNat = x / 2 ^ k * 2 ^ k := by
    rw [BitVec.toNat_and, BitVec.toNat_not, e1, e2]
    apply Nat.eq_of_testBit_eq
    intro i
    rw [Nat.testBit_and, show 2 ^ 64 - 1 - (2 ^ k - 1) = 2 ^ 64 - ((2 ^ k - 1) + 1) by omega, Nat.testBit_two_pow_sub_succ (by simp only [Nat.reducePow]; omega), Nat.testBit_two_pow_sub_one, Nat.testBit_mul_two_pow, Nat.testBit_div_two_pow]
    by_cases hi : k ≤ i
    · rw [Nat.sub_add_cancel hi]
      by_cases h64 : i < 64
      · simp [hi, h64, Nat.not_lt.2 hi]
      · have : x.testBit i = false := Nat.testBit_lt_two_pow (Nat.lt_of_lt_of_le (by simpa using hx : x < 2 ^ 64) (Nat.pow_le_pow_right (by omega) (by omega)))
        simp [this]
    · simp [hi, Nat.lt_of_not_le hi]
  simp only [aop]
  show IntKind.u64.wrap ((BitVec.ofInt 64 (x : Int) &&& ~~~ BitVec.ofInt 64 ((2 ^ k - 1 : Nat) : Int)).toNat : Int) = _
  rw [e3]
  have : x / 2 ^ k * 2 ^ k ≤ x := Nat.div_mul_le_self x _
  exact wrap_u64 (by omega) (by omega)
theorem mask_parts (k : Nat) : (2 ^ k - 1) / 18446744073709551616 = 2 ^ (k - 64) - 1 ∧ (2 ^ k - 1) % 18446744073709551616 = 2 ^ (min k 64) - 1 := by
  by_cases h : k < 64
  · obtain ⟨h1, h2⟩ := mask_small h
    rw [show k - 64 = 0 by omega, Nat.min_eq_left (by omega)]
    exact ⟨h1, h2⟩
  · obtain ⟨h1, h2⟩ := mask_big (r := k) (by omega)
    rw [Nat.min_eq_right (by omega)]
    exact ⟨h1, h2⟩
theorem cut_parts' (Q hi lo k : Nat) (hQ : Q = 2 ^ 64) (hlo : lo < Q) : (hi * Q + lo) / 2 ^ k * 2 ^ k = (hi / 2 ^ (k - 64) * 2 ^ (k - 64)) * Q + lo / 2 ^ (min k 64) * 2 ^ (min k 64) := by
  by_cases h : k ≤ 64
  · have e0 : k - 64 = 0 := by omega
    rw [e0, Nat.min_eq_left h]
    have e : Q = 2 ^ k * 2 ^ (64 - k) := by
      rw [hQ, ← Nat.pow_add, show k + (64 - k) = 64 by omega]
    have hpos := Nat.two_pow_pos k
    have e2 : hi * Q + lo = 2 ^ k * (hi * 2 ^ (64 - k)) + lo := by rw [e, Nat.mul_left_comm]
    rw [e2, Nat.mul_add_div hpos, Nat.add_mul, Nat.pow_zero, Nat.div_one, Nat.mul_one, e]
    have e3 : hi * 2 ^ (64 - k) * 2 ^ k = hi * (2 ^ k * 2 ^ (64 - k)) := by rw [Nat.mul_assoc, Nat.mul_comm (2 ^ (64 - k))]
    rw [e3]
  · have e : 2 ^ k = 2 ^ (k - 64) * Q := by
      rw [hQ, ← Nat.pow_add, show k - 64 + 64 = k by omega]
    have hpos := Nat.two_pow_pos (k - 64)
    have hQ0 : 0 < Q := by omega
    rw [Nat.min_eq_right (by omega), ← hQ, e, Nat.mul_comm (2 ^ (k - 64)) Q, ← Nat.div_div_eq_div_mul]
    have e1 : (hi * Q + lo) / Q = hi := by rw [Nat.mul_comm, Nat.mul_add_div hQ0, Nat.div_eq_of_lt hlo, Nat.add_zero]
    rw [e1, Nat.div_eq_of_lt hlo, Nat.zero_mul, Nat.add_zero, Nat.mul_comm Q, Nat.mul_assoc]
theorem cut_parts (hi lo k : Nat) (hlo : lo < 18446744073709551616) : cutN (hi * 18446744073709551616 + lo) k = (hi / 2 ^ (k - 64) * 2 ^ (k - 64)) * 18446744073709551616 + lo / 2 ^ (min k 64) * 2 ^ (min k 64) :=
  cut_parts' 18446744073709551616 hi lo k (by decide) hlo

/-- prefix.Cut of a right address. -/
def cutA (a : Ad) (bits : Int) : Ad := ofNum a.v6 (cutN a.num (wid a.v6 - bits.toNat))
def maskA (v6 : Bool) (bits : Int) : Ad := ofNum v6 (2 ^ (wid v6 - bits.toNat) - 1)
def lastA (p : Pf) : Ad := ofNum p.ad.v6 (p.ad.num + (2 ^ (wid p.ad.v6 - p.bits.toNat) - 1))
theorem cutA_v6 (a : Ad) (bits : Int) : (cutA a bits).v6 = a.v6 := rfl
theorem cutA_parts (a : Ad) (h : a.wf) (bits : Int) : cutA a bits =
    ⟨a.v6, ((a.hi.toNat / 2 ^ (wid a.v6 - bits.toNat - 64) * 2 ^ (wid a.v6 - bits.toNat - 64) : Nat) : Int), ((a.lo.toNat / 2 ^ (min (wid a.v6 - bits.toNat) 64) * 2 ^ (min (wid a.v6 - bits.toNat) 64) : Nat) : Int)⟩ := by
  obtain ⟨h1, h2, h3, h4⟩ := h
  unfold cutA Ad.num
  rw [cut_parts _ _ _ (by omega)]
  have hlt : a.lo.toNat / 2 ^ (min (wid a.v6 - bits.toNat) 64) * 2 ^ (min (wid a.v6 - bits.toNat) 64) < 18446744073709551616 := Nat.lt_of_le_of_lt (Nat.div_mul_le_self _ _) (by omega)
  generalize a.lo.toNat / 2 ^ (min (wid a.v6 - bits.toNat) 64) * 2 ^ (min (wid a.v6 - bits.toNat) 64) = lo at hlt ⊢
  generalize a.hi.toNat / 2 ^ (wid a.v6 - bits.toNat - 64) * 2 ^ (wid a.v6 - bits.toNat - 64) = hi
  unfold ofNum
  simp only [Ad.mk.injEq, true_and]
  constructor <;> omega
theorem maskA_parts (v6 : Bool) (bits : Int) : maskA v6 bits = ⟨v6, ((2 ^ (wid v6 - bits.toNat - 64) - 1 : Nat) : Int), ((2 ^ (min (wid v6 - bits.toNat) 64) - 1 : Nat) : Int)⟩ := by
  unfold maskA ofNum
  rw [(mask_parts _).1, (mask_parts _).2]

/-- What prefix.Check answers. -/
def chkP (p : Pf) : Int :=
  if chkA p.ad ≠ 0 then chkA p.ad else if p.bits < 0 ∨ p.bits > wid p.ad.v6 then 3 else if cutA p.ad p.bits ≠ p.ad then 4 else 0
theorem chkP_bits {p : Pf} (h : chkP p = 0) : 0 ≤ p.bits ∧ p.bits ≤ (wid p.ad.v6 : Nat) := by
  unfold chkP at h
  split at h
  · rename_i h1; exact absurd h h1
  split at h
  · cases h
  · rename_i h1; simp only [not_or] at h1; omega
/-- The order of addresses: less, the same, more. -/
def ordI (x y : Int) : Int := if x < y then -1 else if x > y then 1 else 0
def ordA (a b : Ad) : Int := if a.v6 ≠ b.v6 ∧ b.v6 then -1 else if a.v6 ≠ b.v6 then 1 else if a.hi ≠ b.hi then ordI a.hi b.hi else ordI a.lo b.lo
def ordP (p q : Pf) : Int := if ordA p.ad q.ad ≠ 0 then ordA p.ad q.ad else p.bits - q.bits
def holds (p : Pf) (a : Ad) : Bool := p.ad.v6 == a.v6 && decide (cutA a p.bits = p.ad)
def over (p q : Pf) : Bool := decide (p.bits ≤ q.bits) && holds p q.ad

/-! ### Bits as text. -/
def bitV (n i : Nat) : UInt8 := if n.testBit i then 49 else 48
/-- cnt bits from bit number top on downward -/
def bitsTo (n top cnt : Nat) : List UInt8 := (List.range cnt).map fun j => bitV n (top - j)
theorem bitsTo_succ (n top c : Nat) : bitsTo n top (c + 1) = bitsTo n top c ++ [bitV n (top - c)] := by
  simp [bitsTo, List.range_succ]
theorem bitsTo_length (n top c : Nat) : (bitsTo n top c).length = c := by simp [bitsTo]
/-- What R.Bits answers. -/
def bitsA (a : Ad) : List UInt8 := if a.v6 then bitsTo a.hi.toNat 63 64 ++ bitsTo a.lo.toNat 63 64 else (bitsTo a.hi.toNat 63 64 ++ bitsTo a.lo.toNat 63 64).drop 96
def ofBytes (l : List UInt8) : ByteArray := ⟨l.toArray⟩
theorem bit_step (x i : Int) (hx : 0 ≤ x) (hx' : x < 18446744073709551616) (hi : 0 ≤ i) (hi' : i ≤ 63) :
    IntKind.u8.wrap (aop .add .u64 48 (aop .rem .u64 (aop .shr .u64 x i) 2)) = ((bitV x.toNat i.toNat).toNat : Int) := by
  obtain ⟨n, rfl⟩ := Int.eq_ofNat_of_zero_le hx
  obtain ⟨k, rfl⟩ := Int.eq_ofNat_of_zero_le hi
  have e1 : aop .shr .u64 (n : Int) (k : Int) = ((n / 2 ^ k : Nat) : Int) := by
    simp only [aop, Int.toNat_natCast, IntKind.bits, Nat.min_eq_left (show k ≤ 64 by omega)]
    rw [show ((2 : Int) ^ k) = ((2 ^ k : Nat) : Int) by push_cast; rfl, Int.fdiv_eq_ediv_of_nonneg _ (Int.natCast_nonneg _)]
    rfl
  have e2 : aop .rem .u64 ((n / 2 ^ k : Nat) : Int) 2 = ((n / 2 ^ k % 2 : Nat) : Int) := by
    simp only [aop]
    rw [Int.tmod_eq_emod_of_nonneg (Int.natCast_nonneg _)]
    rfl
  rw [e1, e2]
  have hb : n.testBit k = decide (n / 2 ^ k % 2 = 1) := Nat.testBit_eq_decide_div_mod_eq ..
  simp only [Int.toNat_natCast, bitV, hb]
  have hlt : n / 2 ^ k % 2 < 2 := Nat.mod_lt _ (by omega)
  generalize n / 2 ^ k % 2 = q at hlt ⊢
  match q, hlt with
  | 0, _ => decide
  | 1, _ => decide

/-! Part Pc. -/
theorem addr_Check_eq (a : Ad) : addr_Check_t a = some (chkA a, ()) := by
  unfold addr_Check_t chkA
  cases hv : a.v6 <;> by_cases h1 : a.hi = 0 <;> by_cases h2 : a.lo ≥ 4294967296 <;> simp [br_true, br_false, h1, h2]
theorem wid_le (v : Bool) : wid v ≤ 128 := by cases v <;> decide
theorem prefix_Wide_eq (a : Ad) : prefix_Wide_t a = some (((wid a.v6 : Nat) : Int), ()) := by
  unfold prefix_Wide_t
  cases a.v6 <;> rfl
theorem R_wide_eq (a : Ad) : R_wide_t a = some (((wid a.v6 : Nat) : Int), ()) := by
  unfold R_wide_t
  cases a.v6 <;> rfl
theorem R_between_eq (x a b : Int) : R_between_t x a b = some (betw x a b, ()) := by
  unfold R_between_t
  rw [br_ss, bind_s, betw_bif]
theorem prefix_mask_eq (a : Ad) (bits : Int) (hb : 0 ≤ bits) (hb' : bits ≤ (wid a.v6 : Nat)) : prefix_mask_t a bits = some (maskA a.v6 bits, ()) := by
  unfold prefix_mask_t
  rw [prefix_Wide_eq, bind_s, maskA_parts]
  have hw := wid_le a.v6
  obtain ⟨r, hr⟩ : ∃ r : Nat, ((wid a.v6 : Nat) : Int) - bits = (r : Int) := ⟨(((wid a.v6 : Nat) : Int) - bits).toNat, by omega⟩
  have hrn : wid a.v6 - bits.toNat = r := by omega
  rw [hrn, hr]
  rw [req_of (i64ok_of (by omega) (by omega))]
  by_cases h1 : r < 64
  · rw [decide_eq_true (show (r : Int) < 64 by omega), br_true, req_of (by simp), decide_eq_false (show ¬ (r : Int) > 64 by omega), br_false, shl_one h1]
    rw [show r - 64 = 0 by omega, Nat.min_eq_left (by omega)]
    rfl
  · rw [decide_eq_false (show ¬ (r : Int) < 64 by omega), br_false]
    by_cases h2 : r > 64
    · rw [decide_eq_true (show (r : Int) > 64 by omega), br_true]
      by_cases h3 : r < 128
      · rw [decide_eq_true (show (r : Int) < 128 by omega), br_true, req_of (i64ok_of (by omega) (by omega)), req_of (by simp; omega)]
        rw [show (r : Int) - 64 = ((r - 64 : Nat) : Int) by omega, shl_one (by omega), Nat.min_eq_right (by omega)]
        rfl
      · rw [decide_eq_false (show ¬ (r : Int) < 128 by omega), br_false]
        have : r = 128 := by omega
        subst this
        rfl
    · have : r = 64 := by omega
      subst this
      rfl
theorem prefix_Cut_eq (a : Ad) (h : a.wf) (bits : Int) (hb : 0 ≤ bits) (hb' : bits ≤ (wid a.v6 : Nat)) : prefix_Cut_t a bits = some (cutA a bits, ()) := by
  unfold prefix_Cut_t
  rw [prefix_mask_eq a bits hb hb', bind_s, maskA_parts, cutA_parts a h]
  obtain ⟨h1, h2, h3, h4⟩ := h
  have hw := wid_le a.v6
  have e1 := andNot_mask a.hi.toNat (wid a.v6 - bits.toNat - 64) (by omega) (by omega)
  have e2 := andNot_mask a.lo.toNat (min (wid a.v6 - bits.toNat) 64) (by omega) (by omega)
  rw [Int.toNat_of_nonneg h1] at e1
  rw [Int.toNat_of_nonneg h3] at e2
  simp only
  rw [e1, e2]
theorem eqAd_eq (a b : Ad) : eqAd a b = decide (a = b) := by
  have e : (a = b) ↔ (a.v6 = b.v6 ∧ a.hi = b.hi ∧ a.lo = b.lo) := by
    cases a; cases b
    simp only [Ad.mk.injEq]
  rw [Bool.eq_iff_iff, decide_eq_true_iff, e]
  unfold eqAd
  simp [beqB, acmp]
theorem eqPf_eq (a b : Pf) : eqPf a b = decide (a = b) := by
  have e : (a = b) ↔ (a.ad.v6 = b.ad.v6 ∧ a.ad.hi = b.ad.hi ∧ a.ad.lo = b.ad.lo ∧ a.bits = b.bits) := by
    cases a with | mk a n => cases b with | mk b k =>
    cases a; cases b
    simp only [Pf.mk.injEq, Ad.mk.injEq, and_assoc]
  rw [Bool.eq_iff_iff, decide_eq_true_iff, e]
  unfold eqPf
  simp [beqB, acmp]
theorem prefix_Check_eq {p : Pf} (h : p.In) : prefix_Check_t p = some (chkP p, ()) := by
  unfold prefix_Check_t chkP
  rw [addr_Check_eq, bind_s]
  by_cases h1 : chkA p.ad = 0
  · simp only [h1, decide_true, Bool.not_true, br_false, ne_eq, not_true, if_false]
    rw [prefix_Wide_eq, bind_s, br_ss, bind_s]
    by_cases h2 : p.bits < 0 ∨ p.bits > wid p.ad.v6
    · rw [if_pos h2]
      have : (bif decide (p.bits < 0) then true else decide (p.bits > ((wid p.ad.v6 : Nat) : Int))) = true := by
        rcases h2 with h2 | h2 <;> simp [h2]
      rw [this, br_true]
    · rw [if_neg h2]
      have : (bif decide (p.bits < 0) then true else decide (p.bits > ((wid p.ad.v6 : Nat) : Int))) = false := by
        simp only [not_or] at h2
        simp [h2.1]; omega
      rw [this, br_false, prefix_Cut_eq p.ad h.1.wf p.bits (by omega) (by omega), bind_s, eqAd_eq]
      by_cases h3 : cutA p.ad p.bits = p.ad <;> simp [h3, br_true, br_false]
  · simp [h1, br_true]

/-! Part Pw. -/
/-! Who. -/
def lowB (b : UInt8) : Bool := betw (b.toNat : Int) 97 122 || betw (b.toNat : Int) 48 57
def whoOk (s : ByteArray) : Bool := s.data.toList.all lowB && betw (lenS s) 1 8
theorem lease_within_eq (x a b : Int) : lease_within_t x a b = some (betw x a b, ()) := by
  unfold lease_within_t
  rw [br_ss, bind_s, betw_bif]
theorem lease_Who_eq {s : ByteArray} (h : strIn s) : lease_Who_t s = some (whoOk s, ()) := by
  have hs : s.size < 9223372036854775808 := lt_of_max h
  have hl : ∀ i, i ≤ s.size → loopN lease_Who_L2 FUEL (((s, ()), (lenS s, ()), ((i : Int), ()), ()), ()) = some (if (s.data.toList.drop i).all lowB then Sum.inr (((s, ()), ()), ()) else Sum.inl ((((false : Bool), ()), ()), ())) := by
    intro i hi
    refine loop_up (fun i => ((((s, ()), (lenS s, ()), ((i : Int), ()), ()), ()) : (((ByteArray × Unit) × (Int × Unit) × (Int × Unit) × Unit) × (Unit)))) s.size (fun i => some (if (s.data.toList.drop i).all lowB then Sum.inr (((s, ()), ()), ()) else Sum.inl ((((false : Bool), ()), ()), ()))) (fun rec i hi hr => ?_) (fun rec => ?_) FUEL i hi (fuel_gt (by omega))
    · obtain ⟨b, hb⟩ : ∃ b, s.data.toList[i]? = some b := ⟨_, List.getElem?_eq_getElem (by rw [data_len]; exact hi)⟩
      simp only [lease_Who_L2]
      rw [decide_eq_true (show (i : Int) < lenS s by unfold lenS; omega), br_true, req_of (inRange_of (by omega) (by unfold lenS; omega)), byteAt_eq hb]
      rw [br_ss, bind_s]
      simp only [br_ss, bind_s]
      rw [show ((i : Int) + 1) = ((i + 1 : Nat) : Int) by omega] 
      rw [req_of (i64ok_of (by omega) (by omega)), hr, drop_all lowB hb]
      have : (bif !(bif decide ((b.toNat : Int) ≥ 97) then decide ((b.toNat : Int) ≤ 122) else false) then (bif decide ((b.toNat : Int) ≥ 48) then !decide ((b.toNat : Int) ≤ 57) else true) else false) = !lowB b := by
        rw [betw_bif]
        unfold lowB
        cases betw (b.toNat : Int) 97 122
        · unfold betw
          by_cases h1 : (48 : Int) ≤ b.toNat <;> simp [h1]
        · rfl
      rw [this]
      cases lowB b <;> simp [br_true, br_false]
    · simp only [lease_Who_L2]
      rw [decide_eq_false (show ¬ (s.size : Int) < lenS s by unfold lenS; omega), br_false, List.drop_of_length_le (by rw [data_len]; exact Nat.le_refl _)]
      rfl
  unfold lease_Who_t whoOk
  have := hl 0 (Nat.zero_le _)
  rw [List.drop_zero] at this
  rw [show ((0 : Nat) : Int) = 0 from rfl] at this
  rw [this, bind_s]
  cases s.data.toList.all lowB
  · rfl
  · simp only [if_true, sumC, lease_within_eq, bind_s, Bool.true_and]

theorem lease_Narrow_eq {p : Pf} (h : chkP p = 0) : lease_Narrow_t p = some (decide (((wid p.ad.v6 : Nat) : Int) - p.bits ≤ 4), ()) := by
  obtain ⟨h1, h2⟩ := chkP_bits h
  have := wid_le p.ad.v6
  unfold lease_Narrow_t
  rw [prefix_Wide_eq, bind_s, req_of (i64ok_of (by simp only; omega) (by simp only; omega))]
theorem ite_ne {α : Type} {p : Prop} [Decidable p] (h : ¬ p) (a b : α) : (if p then a else b) = b := if_neg h

/-! Part Pf. -/
/-! Bits and numbers. -/
theorem bitsTo_get (n t c i : Nat) : (bitsTo n t c)[i]? = if i < c then some (bitV n (t - i)) else none := by
  unfold bitsTo
  rw [List.getElem?_map]
  by_cases h : i < c
  · rw [List.getElem?_range h, if_pos h]; rfl
  · rw [if_neg h, List.getElem?_eq_none (by simpa using h)]; rfl
theorem num_testBit (hi lo i : Nat) (hlo : lo < 18446744073709551616) : (hi * 18446744073709551616 + lo).testBit i = if i < 64 then lo.testBit i else hi.testBit (i - 64) := by
  have := Nat.testBit_two_pow_mul_add (i := 64) hi (b := lo) (by simpa using hlo) i
  rw [Nat.mul_comm, show (18446744073709551616 : Nat) = 2 ^ 64 by decide]
  exact this
theorem bitV_congr {n i m j : Nat} (h : n.testBit i = m.testBit j) : bitV n i = bitV m j := by unfold bitV; rw [h]
/-- An address's bits are its number's. -/
theorem bitsA_eq {a : Ad} (h : a.wf) (hc : chkA a = 0) : bitsA a = bitsTo a.num (wid a.v6 - 1) (wid a.v6) := by
  obtain ⟨h1, h2, h3, h4⟩ := h
  have hlo : a.lo.toNat < 18446744073709551616 := by omega
  unfold bitsA Ad.num
  apply List.ext_getElem?
  intro i
  cases hv : a.v6
  · unfold chkA at hc
    rw [hv] at hc
    have hz : a.hi = 0 ∧ ¬ (4294967296 : Int) ≤ a.lo := by
      split at hc
      · cases hc
      · rename_i hn
        simp only [true_and, not_or, Decidable.not_not] at hn
        exact hn
    simp only [Bool.false_eq_true, if_false, wid]
    rw [List.getElem?_drop, List.getElem?_append_right (by rw [bitsTo_length]; omega), bitsTo_length, bitsTo_get, bitsTo_get, hz.1]
    by_cases hi : i < 32
    · rw [if_pos (by omega), if_pos hi]
      have e : 63 - (96 + i - 64) = 32 - 1 - i := by omega
      rw [e]
      simp
    · rw [if_neg (by omega), if_neg hi]
  · simp only [if_true, wid]
    rw [bitsTo_get]
    by_cases hi : i < 64
    · rw [List.getElem?_append_left (by rw [bitsTo_length]; exact hi), bitsTo_get, if_pos hi, if_pos (by omega)]
      refine congrArg some (bitV_congr ?_)
      rw [num_testBit _ _ _ hlo, if_neg (by omega), show 128 - 1 - i - 64 = 63 - i by omega]
    · rw [List.getElem?_append_right (by rw [bitsTo_length]; omega), bitsTo_length, bitsTo_get]
      by_cases hi2 : i < 128
      · rw [if_pos (by omega), if_pos hi2]
        refine congrArg some (bitV_congr ?_)
        rw [num_testBit _ _ _ hlo, if_pos (by omega), show 63 - (i - 64) = 128 - 1 - i by omega]
      · rw [if_neg (by omega), if_neg hi2]
theorem bitV_z (n i : Nat) : (bitV n i == 48) = !n.testBit i := by unfold bitV; cases n.testBit i <;> rfl
theorem mod_zero_iff (n k : Nat) : n % 2 ^ k = 0 ↔ ∀ i, i < k → n.testBit i = false := by
  constructor
  · intro h i hi
    have := Nat.testBit_mod_two_pow n k i
    rw [h] at this
    simpa [hi] using this.symm
  · intro h
    apply Nat.eq_of_testBit_eq
    intro i
    rw [Nat.testBit_mod_two_pow]
    by_cases hi : i < k <;> simp [hi, h]
theorem cutN_iff (n k : Nat) : cutN n k = n ↔ n % 2 ^ k = 0 := by
  unfold cutN
  have := Nat.div_add_mod n (2 ^ k)
  rw [Nat.mul_comm] at this
  omega
theorem tail_zero (n w b : Nat) (hb : b ≤ w) : ((bitsTo n (w - 1) w).drop b).all (· == 48) = decide (cutN n (w - b) = n) := by
  rw [Bool.eq_iff_iff, decide_eq_true_iff, cutN_iff, mod_zero_iff, List.all_eq_true]
  constructor
  · intro h i hi
    have hm : bitV n i ∈ (bitsTo n (w - 1) w).drop b := by
      refine List.mem_iff_getElem?.2 ⟨w - 1 - i - b, ?_⟩
      rw [List.getElem?_drop, bitsTo_get, if_pos (by omega), show w - 1 - (b + (w - 1 - i - b)) = i by omega]
    have := h _ hm
    rw [bitV_z] at this
    simpa using this
  · intro h x hx
    obtain ⟨j, hj⟩ := List.mem_iff_getElem?.1 hx
    rw [List.getElem?_drop, bitsTo_get] at hj
    split at hj
    · injection hj with hj
      subst hj
      rw [bitV_z, h _ (by omega)]
      rfl
    · cases hj
theorem cutA_iff {a : Ad} (h : a.wf) (bits : Int) : cutA a bits = a ↔ cutN a.num (wid a.v6 - bits.toNat) = a.num := by
  unfold cutA
  constructor
  · intro he
    have := congrArg Ad.num he
    rwa [num_ofNum] at this
  · intro he
    rw [he, ofNum_num a h]

/-! The document's functions. -/
def toI (l : List UInt8) : List Int := l.map fun b => (b.toNat : Int)
theorem toI_len (l : List UInt8) : (toI l).length = l.length := by simp [toI]
theorem bytesOf_toI (l : List UInt8) : bytesOf (toI l) = ofBytes l := by
  unfold bytesOf toI ofBytes
  congr 1
  rw [List.map_map]
  congr 1
  conv => rhs; rw [← List.map_id l]
  apply List.map_congr_left
  intro b _
  simp
theorem bit_conv (x i : Int) (hx : 0 ≤ x) (hx' : x < 18446744073709551616) (hi : 0 ≤ i) (hi' : i ≤ 63) :
    convI .u8 (aop .add .u64 48 (aop .rem .u64 (aop .shr .u64 x i) 2)) = ((bitV x.toNat i.toNat).toNat : Int) := bit_step x i hx hx' hi hi'
theorem bits_loop3 {a : Ad} (h : a.In) : loopN R_Bits_L3 FUEL (((), (), (63, ()), ()), ((a, ()), ([] : List Int), ())) = some (((), (), ()), ((a, ()), toI (bitsTo a.hi.toNat 63 64), ())) := by
  have := loop_up (step := R_Bits_L3) (fun j => (((), (), (63 - (j : Int), ()), ()), ((a, ()), toI (bitsTo a.hi.toNat 63 j), ()))) 64 (fun _ => some (((), (), ()), ((a, ()), toI (bitsTo a.hi.toNat 63 64), ()))) (fun rec j hj hr => ?_) (fun rec => ?_) FUEL 0 (by omega) (fuel_gt (by omega))
  · exact this
  · simp only [R_Bits_L3]
    rw [decide_eq_true (by omega), br_true, req_true, bit_conv _ _ h.1.1 h.1.2 (by omega) (by omega)]
    rw [req_of (room_of (lenL_nonneg _) (lenL_nonneg _) (by simp only [lenL, toI_len, bitsTo_length, List.length_cons, List.length_nil]; omega)), req_of (i64ok_of (by omega) (by omega))]
    rw [← hr]
    have e1 : (63 - (j : Int)).toNat = 63 - j := by omega
    have e2 : 63 - (j : Int) - 1 = 63 - ((j + 1 : Nat) : Int) := by omega
    rw [e1, e2, bitsTo_succ]
    simp [toI]
  · simp only [R_Bits_L3]
    rw [decide_eq_false (by omega), br_false]
theorem bits_loop7 {a : Ad} (h : a.In) : loopN R_Bits_L7 FUEL (((), (), (63, ()), ()), ((a, ()), toI (bitsTo a.hi.toNat 63 64), ())) = some (((), (), ()), ((a, ()), toI (bitsTo a.hi.toNat 63 64) ++ toI (bitsTo a.lo.toNat 63 64), ())) := by
  have := loop_up (step := R_Bits_L7) (fun j => (((), (), (63 - (j : Int), ()), ()), ((a, ()), toI (bitsTo a.hi.toNat 63 64) ++ toI (bitsTo a.lo.toNat 63 j), ()))) 64 (fun _ => some (((), (), ()), ((a, ()), toI (bitsTo a.hi.toNat 63 64) ++ toI (bitsTo a.lo.toNat 63 64), ()))) (fun rec j hj hr => ?_) (fun rec => ?_) FUEL 0 (by omega) (fuel_gt (by omega))
  · rw [← this]
    simp [toI, bitsTo]
  · simp only [R_Bits_L7]
    rw [decide_eq_true (by omega), br_true, req_true, bit_conv _ _ h.2.1 h.2.2 (by omega) (by omega)]
    rw [req_of (room_of (lenL_nonneg _) (lenL_nonneg _) (by simp only [lenL, List.length_append, toI_len, bitsTo_length, List.length_cons, List.length_nil]; omega)), req_of (i64ok_of (by omega) (by omega))]
    rw [← hr]
    have e1 : (63 - (j : Int)).toNat = 63 - j := by omega
    have e2 : 63 - (j : Int) - 1 = 63 - ((j + 1 : Nat) : Int) := by omega
    rw [e1, e2, bitsTo_succ a.lo.toNat 63 j]
    simp [toI]
  · simp only [R_Bits_L7]
    rw [decide_eq_false (by omega), br_false]
theorem R_Bits_eq {a : Ad} (h : a.In) : R_Bits_t a = some (ofBytes (bitsA a), ()) := by
  unfold R_Bits_t bitsA
  rw [bits_loop3 h, bind_s, bits_loop7 h, bind_s]
  have e : toI (bitsTo a.hi.toNat 63 64) ++ toI (bitsTo a.lo.toNat 63 64) = toI (bitsTo a.hi.toNat 63 64 ++ bitsTo a.lo.toNat 63 64) := by simp [toI]
  simp only [e]
  cases a.v6
  · have hl : lenL (toI (bitsTo a.hi.toNat 63 64 ++ bitsTo a.lo.toNat 63 64)) = 128 := by simp only [lenL, toI_len, List.length_append, bitsTo_length]; rfl
    rw [hl, Bool.not_false, br_true, req_of (by decide)]
    have : subL (toI (bitsTo a.hi.toNat 63 64 ++ bitsTo a.lo.toNat 63 64)) 96 128 = toI ((bitsTo a.hi.toNat 63 64 ++ bitsTo a.lo.toNat 63 64).drop 96) := by
      unfold subL
      rw [show (128 : Int).toNat = 128 from rfl, show (96 : Int).toNat = 96 from rfl, List.take_of_length_le (by rw [toI_len]; simp [bitsTo_length])]
      simp [toI, List.map_drop]
    rw [this, bytesOf_toI]
    rfl
  · rw [Bool.not_true, br_false, bytesOf_toI]
    rfl
theorem bitsA_len (a : Ad) : (bitsA a).length = wid a.v6 := by
  unfold bitsA wid
  cases a.v6 <;> simp [bitsTo_length]
theorem ofBytes_list (l : List UInt8) : (ofBytes l).data.toList = l := by simp [ofBytes]
theorem ofBytes_size (l : List UInt8) : (ofBytes l).size = l.length := by simp [ofBytes, ByteArray.size]
theorem toNat48 (b : UInt8) : ((b.toNat : Int) = 48) ↔ b = 48 := by
  constructor
  · intro h
    apply UInt8.toNat_inj.1
    have : b.toNat = 48 := by omega
    rw [this]
    rfl
  · rintro rfl; rfl

/-! Part Pv. -/
theorem convI_byte (b : UInt8) : convI .i64 (b.toNat : Int) = (b.toNat : Int) := by
  have := b.toNat_lt
  exact wrap_i64 (by omega) (by omega)
theorem R_IsWho_eq {s : ByteArray} (h : strIn s) : R_IsWho_t s = some (whoOk s, ()) := by
  have hs : s.size < 9223372036854775808 := lt_of_max h
  have hl : loopN R_IsWho_L2 FUEL (((s, ()), (0, ()), ()), ()) = some (if (s.data.toList.drop 0).all lowB then Sum.inr (((s, ()), ()), ()) else Sum.inl ((((false : Bool), ()), ()), ())) := by
    refine loop_up (step := R_IsWho_L2) (fun i => (((s, ()), ((i : Int), ()), ()), ())) s.size (fun i => some (if (s.data.toList.drop i).all lowB then Sum.inr (((s, ()), ()), ()) else Sum.inl ((((false : Bool), ()), ()), ()))) (fun rec i hi hr => ?_) (fun rec => ?_) FUEL 0 (Nat.zero_le _) (fuel_gt (by omega))
    · obtain ⟨b, hb⟩ : ∃ b, s.data.toList[i]? = some b := ⟨_, List.getElem?_eq_getElem (by rw [data_len]; exact hi)⟩
      simp only [R_IsWho_L2]
      have hr1 : inRange (i : Int) (lenS s) = true := inRange_of (by omega) (by unfold lenS; omega)
      rw [decide_eq_true (show (i : Int) < lenS s by unfold lenS; omega), br_true]
      simp only [hr1, req_true, byteAt_eq hb, convI_byte, R_between_eq, bind_s, br_sb]
      rw [show ((i : Int) + 1) = ((i + 1 : Nat) : Int) by omega, req_of (i64ok_of (by omega) (by omega)), hr, drop_all lowB hb]
      have : (bif !betw (b.toNat : Int) 97 122 then !betw (b.toNat : Int) 48 57 else false) = !lowB b := by
        unfold lowB
        cases betw (b.toNat : Int) 97 122 <;> cases betw (b.toNat : Int) 48 57 <;> rfl
      rw [this]
      cases lowB b <;> simp [br_true, br_false]
    · simp only [R_IsWho_L2]
      rw [decide_eq_false (show ¬ (s.size : Int) < lenS s by unfold lenS; omega), br_false, List.drop_of_length_le (by rw [data_len]; exact Nat.le_refl _)]
      rfl
  unfold R_IsWho_t whoOk
  rw [hl, bind_s, List.drop_zero]
  cases s.data.toList.all lowB
  · rfl
  · simp only [if_true, sumC, R_between_eq, bind_s, Bool.true_and]

/-! Part Po. -/
/-! Rows of bits, and numbers, in order. -/
def lexLt : List UInt8 → List UInt8 → Bool
  | a :: r, b :: s => if a = b then lexLt r s else decide (a.toNat < b.toNat)
  | _, _ => false
theorem bitsTo_cons (n c : Nat) : bitsTo n c (c + 1) = bitV n c :: bitsTo n (c - 1) c := by
  apply List.ext_getElem?
  intro i
  rw [bitsTo_get]
  cases i with
  | zero => simp
  | succ i =>
    rw [List.getElem?_cons_succ, bitsTo_get]
    by_cases h : i < c
    · rw [if_pos (by omega), if_pos h, show c - 1 - i = c - (i + 1) by omega]
    · rw [if_neg (by omega), if_neg h]
theorem mod_succ (n c : Nat) : n % 2 ^ (c + 1) = n % 2 ^ c + 2 ^ c * (n.testBit c).toNat := by
  rw [Nat.mod_pow_succ, Nat.testBit_eq_decide_div_mod_eq]
  have := Nat.mod_lt (n / 2 ^ c) (show 0 < 2 by omega)
  generalize n / 2 ^ c % 2 = r at this ⊢
  match r, this with
  | 0, _ => rfl
  | 1, _ => rfl
theorem bitsTo_lex (n m : Nat) : ∀ c, lexLt (bitsTo n (c - 1) c) (bitsTo m (c - 1) c) = decide (n % 2 ^ c < m % 2 ^ c)
  | 0 => by simp [bitsTo, lexLt, Nat.mod_one]
  | c + 1 => by
    rw [show c + 1 - 1 = c from rfl, bitsTo_cons, bitsTo_cons, lexLt, bitsTo_lex n m c, mod_succ, mod_succ]
    have h1 := Nat.mod_lt n (Nat.two_pow_pos c)
    have h2 := Nat.mod_lt m (Nat.two_pow_pos c)
    generalize n % 2 ^ c = x at h1 ⊢
    generalize m % 2 ^ c = y at h2 ⊢
    generalize 2 ^ c = q at h1 h2 ⊢
    unfold bitV
    cases n.testBit c <;> cases m.testBit c
    · simp
    · simp; omega
    · simp; omega
    · simp
def lexO : List UInt8 → List UInt8 → ((((Bool × Unit) × Unit) × (Unit)) ⊕ ((Unit) × (Unit)))
  | a :: r, b :: s => if a = b then lexO r s else Sum.inl (((decide ((a.toNat : Int) < b.toNat), ()), ()), ())
  | _, _ => Sum.inr ((), ())
theorem lexO_eq : ∀ x y : List UInt8, sumC (lexO x y) (fun y4 => (some (y4.1.1.1, ()) : Option (Bool × Unit))) (fun _ => some (false, ())) = some (lexLt x y, ())
  | [], _ => rfl
  | _ :: _, [] => rfl
  | a :: r, b :: s => by
    unfold lexO lexLt
    by_cases h : a = b
    · rw [if_pos h, if_pos h, lexO_eq r s]
    · rw [if_neg h, if_neg h]
      simp only [sumC]
      congr 2
      simp
def aheadA (a b : Ad) : Bool := if a.v6 ≠ b.v6 then b.v6 else decide (a.num < b.num)
theorem addr_Order_eq (a b : Ad) : addr_Order_t a b = some (ordA a b, ()) := by
  unfold addr_Order_t addr_Order_1_t ordA ordI
  by_cases hv : a.v6 = b.v6
  · have : beqB a.v6 b.v6 = true := by simp [beqB, hv]
    rw [this]
    simp only [Bool.not_true, br_false, bind_s, hv, ne_eq, not_true, false_and, if_false]
    by_cases h1 : a.hi = b.hi
    · simp only [h1, decide_true, Bool.not_true, br_false, not_true, if_false]
      by_cases h2 : a.lo < b.lo
      · simp only [h2, decide_true, br_true, bind_s, if_true]
      · by_cases h3 : a.lo > b.lo
        · simp only [h2, h3, decide_true, decide_false, br_true, br_false, bind_s, if_true, if_false]
        · simp only [h2, h3, decide_false, br_false, bind_s, if_false]
    · simp only [h1, decide_false, Bool.not_false, br_true, not_false_eq_true, if_true]
      by_cases h2 : a.hi < b.hi
      · simp only [h2, decide_true, br_true, bind_s, if_true]
      · by_cases h3 : a.hi > b.hi
        · simp only [h2, h3, decide_true, decide_false, br_true, br_false, bind_s, if_true, if_false]
        · simp only [h2, h3, decide_false, br_false, bind_s, if_false]
  · have : beqB a.v6 b.v6 = false := by simp [beqB, hv]
    rw [this]
    cases hb : b.v6 <;> simp_all [br_true, br_false]
theorem chkP_ad {p : Pf} (h : chkP p = 0) : chkA p.ad = 0 := by
  unfold chkP at h
  split at h
  · rename_i h1; exact absurd h h1
  · rename_i h1; exact Decidable.not_not.1 h1
theorem chkP_cut {p : Pf} (h : chkP p = 0) : cutA p.ad p.bits = p.ad := by
  unfold chkP at h
  split at h
  · rename_i h1; exact absurd h h1
  split at h
  · cases h
  split at h
  · cases h
  · rename_i h1; exact Decidable.not_not.1 h1
/-- A prefix that is right, and an address: the same first bits. -/
theorem take_bits (n m w b : Nat) (hb : b ≤ w) : (bitsTo n (w - 1) w).take b = (bitsTo m (w - 1) w).take b ↔ ∀ i, w - b ≤ i → i < w → n.testBit i = m.testBit i := by
  constructor
  · intro h i h1 h2
    have := congrArg (fun l : List UInt8 => l[w - 1 - i]?) h
    have h3 : w - 1 - i < b := by omega
    have h4 : w - 1 - i < w := by omega
    simp only [List.getElem?_take, bitsTo_get, h3, h4, if_true, show w - 1 - (w - 1 - i) = i by omega] at this
    injection this with this
    unfold bitV at this
    cases hn : n.testBit i <;> cases hm : m.testBit i <;> rw [hn, hm] at this <;> first | rfl | (exfalso; revert this; decide)
  · intro h
    apply List.ext_getElem?
    intro j
    simp only [List.getElem?_take, bitsTo_get]
    by_cases hj : j < b
    · rw [if_pos hj, if_pos (by omega), if_pos hj, if_pos (by omega), bitV_congr (h (w - 1 - j) (by omega) (by omega))]
    · rw [if_neg hj, if_neg hj]
theorem cutN_bits (n m w b : Nat) (hb : b ≤ w) (hn : n < 2 ^ w) (hm : m < 2 ^ w) : cutN n (w - b) = cutN m (w - b) ↔ ∀ i, w - b ≤ i → i < w → n.testBit i = m.testBit i := by
  unfold cutN
  have hp := Nat.two_pow_pos (w - b)
  constructor
  · intro h i h1 h2
    have := congrArg (fun x => x.testBit i) h
    simp only [Nat.testBit_mul_two_pow, Nat.testBit_div_two_pow] at this
    simpa [h1, Nat.sub_add_cancel h1] using this
  · intro h
    congr 1
    apply Nat.eq_of_testBit_eq
    intro i
    rw [Nat.testBit_div_two_pow, Nat.testBit_div_two_pow]
    by_cases hi : i + (w - b) < w
    · exact h _ (by omega) hi
    · have a1 : n.testBit (i + (w - b)) = false := Nat.testBit_lt_two_pow (Nat.lt_of_lt_of_le hn (Nat.pow_le_pow_right (by omega) (by omega)))
      have a2 : m.testBit (i + (w - b)) = false := Nat.testBit_lt_two_pow (Nat.lt_of_lt_of_le hm (Nat.pow_le_pow_right (by omega) (by omega)))
      rw [a1, a2]
theorem prefix_Holds_eq {p : Pf} {a : Ad} (h1 : 0 ≤ p.bits) (h2 : p.bits ≤ (wid p.ad.v6 : Nat)) (ha : a.In) : prefix_Holds_t p a = some (holds p a, ()) := by
  unfold prefix_Holds_t holds
  by_cases hv : p.ad.v6 = a.v6
  · rw [show beqB p.ad.v6 a.v6 = true by simp [beqB, hv], br_true, prefix_Cut_eq a ha.wf p.bits h1 (by rw [← hv]; exact h2), bind_s, bind_s, eqAd_eq]
    simp [hv]
  · rw [show beqB p.ad.v6 a.v6 = false by simp [beqB, hv], br_false, bind_s]
    simp [hv]
theorem R_HasAddr_eq {p : Pf} {a : Ad} (hp : p.In) (cp : chkP p = 0) (ha : a.In) (ca : chkA a = 0) : R_HasAddr_t p a = some (holds p a, ()) := by
  obtain ⟨h1, h2⟩ := chkP_bits cp
  unfold R_HasAddr_t holds
  by_cases hv : p.ad.v6 = a.v6
  rotate_left
  · rw [show beqB p.ad.v6 a.v6 = false by simp [beqB, hv], br_false, bind_s]
    simp [hv]
  have l1 : lenS (ofBytes (bitsA p.ad)) = (wid p.ad.v6 : Nat) := by unfold lenS; rw [ofBytes_size, bitsA_len]
  have l2 : lenS (ofBytes (bitsA a)) = (wid p.ad.v6 : Nat) := by unfold lenS; rw [ofBytes_size, bitsA_len, hv]
  rw [show beqB p.ad.v6 a.v6 = true by simp [beqB, hv], br_true, R_Bits_eq hp.1, bind_s, R_Bits_eq ha, bind_s]
  simp only [l1, l2, h1, h2, decide_true, Bool.and_self, req_true, bind_s, strcmp_eql]
  have hs : ∀ l : List UInt8, subS (ofBytes l) 0 p.bits = ofBytes (l.take p.bits.toNat) := fun l => by
    apply ByteArray.ext
    simp [subS, ofBytes, ByteArray.data_extract]
  have hi : ∀ l r : List UInt8, ofBytes l = ofBytes r ↔ l = r := fun l r => by simp [ofBytes]
  have n1 := right_num p.ad ⟨hp.1.wf, chkP_ad cp⟩
  have n2 := right_num a ⟨ha.wf, ca⟩
  rw [← hv] at n2
  have hb : p.bits.toNat ≤ wid p.ad.v6 := by omega
  have key : (subS (ofBytes (bitsA p.ad)) 0 p.bits = subS (ofBytes (bitsA a)) 0 p.bits) ↔ cutA a p.bits = p.ad := by
    rw [hs, hs, hi, bitsA_eq hp.1.wf (chkP_ad cp), bitsA_eq ha.wf ca, ← hv, take_bits _ _ _ _ hb, ← cutN_bits _ _ _ _ hb n1 n2]
    have hc := (cutA_iff hp.1.wf p.bits).1 (chkP_cut cp)
    rw [hc]
    unfold cutA
    rw [← hv]
    constructor
    · intro h
      rw [← h, ofNum_num _ hp.1.wf]
    · intro h
      have := congrArg Ad.num h
      rw [num_ofNum] at this
      exact this.symm
  simp only [hv, beq_self_eq_true, Bool.true_and]
  congr 2
  exact decide_eq_decide.2 key

/-! Part La. -/
/-! The order of addresses, as numbers. -/
def rank (a : Ad) : Nat := (if a.v6 then 340282366920938463463374607431768211456 else 0) + a.num
theorem num_lt {a : Ad} (h : a.In) : a.num < 340282366920938463463374607431768211456 := by
  obtain ⟨⟨h1, h2⟩, h3, h4⟩ := h
  unfold Ad.num
  omega
theorem ord_rank {a b : Ad} (ha : a.In) (hb : b.In) : (ordA a b < 0 ↔ rank a < rank b) ∧ (ordA a b = 0 ↔ rank a = rank b) := by
  have h1 := num_lt ha
  have h2 := num_lt hb
  obtain ⟨⟨a1, a2⟩, a3, a4⟩ := ha
  obtain ⟨⟨b1, b2⟩, b3, b4⟩ := hb
  unfold ordA ordI rank
  unfold Ad.num at *
  cases hv : a.v6 <;> cases hw : b.v6 <;> simp
  · by_cases h : a.hi = b.hi
    · simp only [h, if_true]
      by_cases h3 : a.lo < b.lo
      · simp only [h3, if_true]; omega
      · by_cases h4 : b.lo < a.lo
        · simp only [h3, h4, if_true, if_false]; omega
        · have h5 : a.lo = b.lo := by omega
          simp [h5]
    · simp only [h, if_false]
      by_cases h3 : a.hi < b.hi
      · simp only [h3, if_true]; omega
      · by_cases h4 : b.hi < a.hi
        · simp only [h3, h4, if_true, if_false]; omega
        · simp only [h3, h4, if_false]; omega
  · omega
  · omega
  · by_cases h : a.hi = b.hi
    · simp only [h, if_true]
      by_cases h3 : a.lo < b.lo
      · simp only [h3, if_true]; omega
      · by_cases h4 : b.lo < a.lo
        · simp only [h3, h4, if_true, if_false]; omega
        · have h5 : a.lo = b.lo := by omega
          simp [h5]
    · simp only [h, if_false]
      by_cases h3 : a.hi < b.hi
      · simp only [h3, if_true]; omega
      · by_cases h4 : b.hi < a.hi
        · simp only [h3, h4, if_true, if_false]; omega
        · simp only [h3, h4, if_false]; omega
theorem ahead_rank {a b : Ad} (ha : a.In) (hb : b.In) : aheadA a b = decide (rank a < rank b) := by
  have h1 := num_lt ha
  have h2 := num_lt hb
  unfold aheadA rank
  cases hv : a.v6 <;> cases hw : b.v6 <;> simp
  · omega
  · omega
theorem rank_inj {a b : Ad} (ha : a.In) (hb : b.In) (h : rank a = rank b) : a = b := by
  have h1 := num_lt ha
  have h2 := num_lt hb
  unfold rank at h
  have hv : a.v6 = b.v6 := by
    cases hv : a.v6 <;> cases hw : b.v6 <;> first | rfl | (exfalso; rw [hv, hw] at h; simp at h; omega)
  refine num_inj ha.wf hb.wf hv ?_
  rw [hv] at h
  omega

/-! What is wrong with leases. -/
def lsIn (l : List Ls) : Prop := ∀ x ∈ l, x.In
def chkLs (x : Ls) : Int := if chkA x.ad ≠ 0 then chkA x.ad else if whoOk x.who = false then 1 else if betw x.upto 0 10499 = false then 3 else 0
def chkLsF : List Ls → Int
  | [] => 0
  | x :: r => if chkLs x ≠ 0 then chkLs x else chkLsF r
/-- They rise, behind a. -/
def ascF : Ad → List Ls → Bool
  | _, [] => true
  | a, x :: r => decide (ordA a x.ad < 0) && ascF x.ad r
def ascL : List Ls → Bool
  | [] => true
  | x :: r => ascF x.ad r
/-- What lease.All answers. -/
def allC (l : List Ls) (now : Int) : Int := if l.length > 20 then 2 else if chkLsF l ≠ 0 then chkLsF l else if ascL l = false then 4 else if betw now 0 9999 = false then 3 else 0
theorem lease_one_eq {x : Ls} (h : x.In) : lease_one_t x = some (chkLs x, ()) := by
  unfold lease_one_t chkLs
  rw [addr_Check_eq, bind_s]
  by_cases hc : chkA x.ad = 0
  · simp only [hc, decide_true, Bool.not_true, br_false, ne_eq, not_true, if_false]
    rw [lease_Who_eq h.2.1, bind_s]
    cases whoOk x.who
    · rfl
    · simp only [Bool.not_true, br_false, Bool.true_eq_false, if_false]
      rw [lease_within_eq, bind_s]
      cases betw x.upto 0 10499 <;> rfl
  · simp only [hc, decide_false, Bool.not_false, br_true, ne_eq, not_false_eq_true, if_true]
def lsOut (l : List Ls) (now : Int) (r : Int) : (((Int × Unit) × Unit) × (List Ls × Unit)) ⊕ (((Unit) × (Int × Unit) × Unit) × (List Ls × Unit)) := if r = 0 then Sum.inr (((), (now, ()), ()), l, ()) else Sum.inl (((r, ()), ()), l, ())
def ascOut (l : List Ls) (now : Int) (r : Bool) : (((Int × Unit) × Unit) × (List Ls × Unit)) ⊕ (((Int × Unit) × Unit) × (List Ls × Unit)) := if r = true then Sum.inr (((now, ()), ()), l, ()) else Sum.inl (((4, ()), ()), l, ())
theorem lsOut_ne {l : List Ls} {now r : Int} (h : r ≠ 0) : lsOut l now r = Sum.inl (((r, ()), ()), l, ()) := by rw [lsOut, if_neg h]
def ascAt (l : List Ls) (i : Nat) : Bool := match l[i - 1]? with | some p => ascF p.ad (l.drop i) | none => true
theorem ascAt_one (l : List Ls) : ascAt l 1 = ascL l := by cases l <;> rfl
theorem all_loop1 {l : List Ls} (h : lsIn l) (hlen : l.length ≤ 20) (now : Int) : loopN lease_All_L4 FUEL (((), (now, ()), (), (lenL l, ()), (0, ()), ()), (l, ())) = some (lsOut l now (chkLsF l)) := by
  have := loop_up (step := lease_All_L4) (fun i => (((), (now, ()), (), (lenL l, ()), ((i : Int), ()), ()), (l, ()))) l.length (fun i => some (lsOut l now (chkLsF (l.drop i)))) (fun rec i hi hr => ?_) (fun rec => ?_) FUEL 0 (Nat.zero_le _) (fuel_gt (by omega))
  · exact this
  · obtain ⟨e, he⟩ : ∃ e, l[i]? = some e := ⟨_, List.getElem?_eq_getElem hi⟩
    simp only [lease_All_L4]
    rw [decide_eq_true (show (i : Int) < lenL l by unfold lenL; omega), br_true, req_of (inRange_of (by omega) (by unfold lenL; omega)), geti_at he, bind_s, lease_one_eq (h e (List.mem_of_getElem? he)), bind_s, drop_cons he, chkLsF]
    by_cases hc : chkLs e = 0
    · rw [if_neg (fun h => h hc), decide_eq_true hc, Bool.not_true, br_false, show ((i : Int) + 1) = ((i + 1 : Nat) : Int) by omega, req_of (i64ok_of (by omega) (by omega)), hr]
    · rw [if_pos hc, decide_eq_false hc, Bool.not_false, br_true, lsOut_ne hc]
  · simp only [lease_All_L4]
    rw [decide_eq_false (show ¬ (l.length : Int) < lenL l by unfold lenL; omega), br_false, List.drop_of_length_le (Nat.le_refl _)]
    rfl
theorem all_loop2 {l : List Ls} (hlen : l.length ≤ 20) (now : Int) : loopN lease_All_L11 FUEL (((), (now, ()), (1, ()), ()), (l, ())) = some (ascOut l now (ascL l)) := by
  have := loop_upI (step := lease_All_L11) (fun i => (((), (now, ()), ((i : Int), ()), ()), (l, ()))) (max 1 l.length) (fun i => some (ascOut l now (ascAt l i))) (fun i => 1 ≤ i) (fun rec i hi h1 hr => ?_) (fun rec h1 => ?_) FUEL 1 (by omega) (Nat.le_refl _) (fuel_gt (by omega))
  · rw [ascAt_one] at this
    exact this
  · have hi' : i < l.length := by omega
    obtain ⟨k, rfl⟩ : ∃ k, i = k + 1 := ⟨i - 1, by omega⟩
    obtain ⟨e, he⟩ : ∃ e, l[k]? = some e := ⟨_, List.getElem?_eq_getElem (by omega)⟩
    obtain ⟨e', he'⟩ : ∃ e, l[k + 1]? = some e := ⟨_, List.getElem?_eq_getElem hi'⟩
    have r1 : inRange ((k + 1 : Nat) : Int) (lenL l) = true := inRange_of (by omega) (by unfold lenL; omega)
    have r2 : inRange (k : Int) (lenL l) = true := inRange_of (by omega) (by unfold lenL; omega)
    simp only [lease_All_L11]
    rw [decide_eq_true (show ((k + 1 : Nat) : Int) < lenL l by unfold lenL; omega), br_true, show (((k + 1 : Nat) : Int) - 1) = (k : Int) by omega, req_of (i64ok_of (by omega) (by omega))]
    simp only [r1, r2, req_true, geti_at he, geti_at he', bind_s, addr_Order_eq]
    have ha : ascAt l (k + 1) = (decide (ordA e.ad e'.ad < 0) && ascAt l (k + 1 + 1)) := by
      unfold ascAt
      simp only [Nat.add_sub_cancel, he, he']
      rw [drop_cons he', ascF]
    rw [ha]
    by_cases hc : ordA e.ad e'.ad < 0
    · rw [decide_eq_false (show ¬ ordA e.ad e'.ad ≥ 0 by omega), br_false, show (((k + 1 : Nat) : Int) + 1) = ((k + 1 + 1 : Nat) : Int) by omega, req_of (i64ok_of (by omega) (by omega)), hr (by omega), decide_eq_true hc, Bool.true_and]
    · rw [decide_eq_true (show ordA e.ad e'.ad ≥ 0 by omega), br_true, decide_eq_false hc, Bool.false_and]
      rfl
  · simp only [lease_All_L11]
    rw [decide_eq_false (show ¬ ((max 1 l.length : Nat) : Int) < lenL l by unfold lenL; omega), br_false]
    have : ascAt l (max 1 l.length) = true := by
      unfold ascAt
      rw [List.drop_of_length_le (by omega)]
      cases l[max 1 l.length - 1]? <;> rfl
    rw [this]
    rfl
theorem lease_All_eq {l : List Ls} (h : lsIn l) (now : Int) : lease_All_t l now = some (allC l now, ()) := by
  unfold lease_All_t allC
  by_cases hlen : l.length > 20
  · rw [if_pos hlen, decide_eq_true (show lenL l > 20 by unfold lenL; omega), br_true]
  rw [if_neg hlen, decide_eq_false (show ¬ lenL l > 20 by unfold lenL; omega), br_false, all_loop1 h (by omega), bind_s]
  by_cases hc : chkLsF l = 0
  rotate_left
  · rw [lsOut_ne hc, if_pos hc]; rfl
  rw [if_neg (fun h => h hc), hc]
  simp only [lsOut, if_true, sumC]
  rw [all_loop2 (by omega), bind_s]
  cases ascL l
  · rfl
  · simp only [ascOut, if_true, sumC, Bool.true_eq_false, if_false, lease_within_eq, bind_s]
    cases betw now 0 9999 <;> rfl

/-! Part Lb. -/
theorem eqLs_eq (a b : Ls) : eqLs a b = decide (a = b) := by
  have e : (a = b) ↔ (a.ad.v6 = b.ad.v6 ∧ a.ad.hi = b.ad.hi ∧ a.ad.lo = b.ad.lo ∧ a.who = b.who ∧ a.upto = b.upto) := by
    cases a with | mk a1 w1 u1 => cases b with | mk a2 w2 u2 =>
    cases a1; cases a2
    simp only [Ls.mk.injEq, Ad.mk.injEq, and_assoc]
  rw [Bool.eq_iff_iff, decide_eq_true_iff, e]
  unfold eqLs
  simp [beqB, acmp, strcmp_eql]

/-! The first that is so. -/
def firstF {α : Type} (q : α → Bool) : List α → Option Nat
  | [] => none
  | x :: r => if q x then some 0 else (firstF q r).map (· + 1)
theorem firstF_at {α : Type} {q : α → Bool} {l : List α} {i : Nat} {x : α} (h : l[i]? = some x) : (firstF q (l.drop i)).map (· + i) = if q x then some i else (firstF q (l.drop (i + 1))).map (· + (i + 1)) := by
  rw [drop_cons h, firstF]
  cases q x
  · simp only [Bool.false_eq_true, if_false, Option.map_map]
    congr 1
    funext k
    simp only [Function.comp]
    omega
  · simp
theorem firstF_none {α : Type} {q : α → Bool} : ∀ {l : List α}, firstF q l = none → ∀ x ∈ l, q x = false
  | [], _, x, hx => by cases hx
  | y :: r, h, x, hx => by
    unfold firstF at h
    split at h
    · cases h
    · rename_i hq
      rw [Option.map_eq_none_iff] at h
      rcases List.mem_cons.1 hx with rfl | hx
      · simpa using hq
      · exact firstF_none h x hx
theorem firstF_some {α : Type} {q : α → Bool} : ∀ {l : List α} {k : Nat}, firstF q l = some k → ∃ x, l[k]? = some x ∧ q x = true ∧ ∀ y ∈ l.take k, q y = false
  | [], _, h => by cases h
  | y :: r, k, h => by
    unfold firstF at h
    split at h
    · rename_i hq
      cases h
      exact ⟨y, rfl, hq, fun z hz => by simp at hz⟩
    · rename_i hq
      obtain ⟨k', hk, rfl⟩ := Option.map_eq_some_iff.1 h
      obtain ⟨x, h1, h2, h3⟩ := firstF_some hk
      refine ⟨x, by simpa using h1, h2, fun z hz => ?_⟩
      rw [List.take_succ_cons] at hz
      rcases List.mem_cons.1 hz with rfl | hz
      · simpa using hq
      · exact h3 z hz
theorem firstF_lt {α : Type} {q : α → Bool} {l : List α} {k : Nat} (h : firstF q l = some k) : k < l.length := by
  obtain ⟨x, h1, _⟩ := firstF_some h
  exact (List.getElem?_eq_some_iff.1 h1).1
theorem firstF_any {α : Type} {q : α → Bool} : ∀ l : List α, (firstF q l).isSome = l.any q
  | [] => rfl
  | x :: r => by
    unfold firstF
    cases h : q x
    · simp [h, firstF_any r]
    · simp [h]
def idxI : Option Nat → Int
  | some k => (k : Int)
  | none => -1

/-! Those that are not over. -/
def liveP (now : Int) (x : Ls) : Bool := decide (now ≤ x.upto)
def live (l : List Ls) (now : Int) : List Ls := l.filter (liveP now)
def overP (now : Int) (x : Ls) : Bool := decide (x.upto < now)
theorem over_not (now : Int) (x : Ls) : overP now x = !liveP now x := by
  unfold overP liveP
  by_cases h : x.upto < now
  · have : ¬ now ≤ x.upto := by omega
    simp [h, this]
  · have : now ≤ x.upto := by omega
    simp [h, this]
abbrev DL := List Ls × (Int × Unit) × List Ls × List Ls × List Ls × Unit
def overOut (l : List Ls) (now : Int) : Option Nat → (((Int × Unit) × Unit) × DL) ⊕ ((Unit) × DL)
  | some k => Sum.inl ((((k : Int), ()), ()), (l, (now, ()), [], l, [], ()))
  | none => Sum.inr ((), (l, (now, ()), [], l, [], ()))
theorem live_loop1 {l : List Ls} (hlen : l.length ≤ 1048576) (now : Int) : loopN lease_Live_slices_DeleteFunc___api_Lease_api_Lease__slices_IndexFunc___api_Lease_api_Lease__L2 FUEL (((), (), (lenL l, ()), (0, ()), ()), (l, (now, ()), [], l, [], ())) = some (overOut l now (firstF (overP now) l)) := by
  have := loop_up (step := lease_Live_slices_DeleteFunc___api_Lease_api_Lease__slices_IndexFunc___api_Lease_api_Lease__L2) (fun i => (((), (), (lenL l, ()), ((i : Int), ()), ()), (l, (now, ()), [], l, [], ()))) l.length (fun i => some (overOut l now ((firstF (overP now) (l.drop i)).map (· + i)))) (fun rec i hi hr => ?_) (fun rec => ?_) FUEL 0 (Nat.zero_le _) (fuel_gt (by omega))
  · simpa using this
  · obtain ⟨e, he⟩ : ∃ e, l[i]? = some e := ⟨_, List.getElem?_eq_getElem hi⟩
    simp only [lease_Live_slices_DeleteFunc___api_Lease_api_Lease__slices_IndexFunc___api_Lease_api_Lease__L2]
    rw [decide_eq_true (show (i : Int) < lenL l by unfold lenL; omega), br_true, req_of (inRange_of (by omega) (by unfold lenL; omega)), geti_at he, bind_s, lease_Live_1_t, bind_s, firstF_at he]
    unfold overP
    by_cases hc : e.upto < now
    · simp only [hc, decide_true, br_true, if_true]
      rfl
    · simp only [hc, decide_false, br_false]
      rw [show ((i : Int) + 1) = ((i + 1 : Nat) : Int) by omega, req_of (i64ok_of (by omega) (by omega)), hr]
      rfl
  · simp only [lease_Live_slices_DeleteFunc___api_Lease_api_Lease__slices_IndexFunc___api_Lease_api_Lease__L2]
    rw [decide_eq_false (show ¬ (l.length : Int) < lenL l by unfold lenL; omega), br_false, List.drop_of_length_le (Nat.le_refl _)]
    rfl
theorem live_loop2 {l : List Ls} (hlen : l.length ≤ 1048576) (now : Int) : ∀ (N j w : Nat) (r : List Ls), l.length - j < N → j ≤ l.length → w < j → r.length = l.length → r.take w = live (l.take j) now → r.drop j = l.drop j →
    ∃ (w' : Nat) (r' : List Ls), loopN lease_Live_slices_DeleteFunc___api_Lease_api_Lease__L5 N (((), (), ((w : Int), ()), ((j : Int), ()), ()), (l, (now, ()), [], r, ())) = some (((), ((w' : Int), ()), ()), (l, (now, ()), [], r', ())) ∧ r'.take w' = live l now ∧ w' ≤ r'.length
  | 0, _, _, _, h, _, _, _, _, _ => by omega
  | N + 1, j, w, r, hN, hj, hw, hr, ht, hd => by
    rw [loopN_succ]
    simp only [lease_Live_slices_DeleteFunc___api_Lease_api_Lease__L5]
    by_cases hjl : j < l.length
    · obtain ⟨e, he⟩ : ∃ e, l[j]? = some e := ⟨_, List.getElem?_eq_getElem hjl⟩
      have her : r[j]? = some e := by
        have := congrArg (fun x : List Ls => x[0]?) hd
        simp only [List.getElem?_drop, Nat.add_zero] at this
        rw [this, he]
      have hlt : live (l.take (j + 1)) now = live (l.take j) now ++ (if liveP now e then [e] else []) := by
        unfold live
        have hx := (List.getElem?_eq_some_iff.1 he).2
        rw [List.take_succ_eq_append_getElem hjl, List.filter_append, hx]
        congr 1
        simp only [List.filter_cons, List.filter_nil]
      have hd1 : r.drop (j + 1) = l.drop (j + 1) := by
        have := congrArg (List.drop 1) hd
        simpa using this
      rw [decide_eq_true (show (j : Int) < lenL r by unfold lenL; omega), br_true, req_of (inRange_of (by omega) (by unfold lenL; omega)), geti_at her, bind_s, lease_Live_1_t, bind_s]
      have ho := over_not now e
      unfold overP at ho
      cases hp : liveP now e
      · rw [hp] at ho hlt
        simp only [ho, Bool.not_false, Bool.not_true, br_false]
        rw [show ((j : Int) + 1) = ((j + 1 : Nat) : Int) by omega, req_of (i64ok_of (by omega) (by omega))]
        exact live_loop2 hlen now N (j + 1) w r (by omega) (by omega) (by omega) hr (by rw [ht, hlt]; simp) hd1
      · rw [hp] at ho hlt
        obtain ⟨e2, he2⟩ : ∃ e, r[w]? = some e := ⟨_, List.getElem?_eq_getElem (by omega)⟩
        simp only [ho, Bool.not_false, Bool.not_true, br_true]
        rw [req_of (inRange_of (by omega) (by unfold lenL; omega)), geti_at he2, bind_s, show ((j : Int) + 1) = ((j + 1 : Nat) : Int) by omega, show ((w : Int) + 1) = ((w + 1 : Nat) : Int) by omega, req_of (i64ok_of (by omega) (by omega)), req_of (i64ok_of (by omega) (by omega))]
        have hs : seti r (w : Int) e = r.set w e := by simp [seti]
        rw [hs]
        refine live_loop2 hlen now N (j + 1) (w + 1) (r.set w e) (by omega) (by omega) (by omega) (by simp [hr]) ?_ ?_
        · rw [hlt, ← ht]
          have hwl : w < (r.set w e).length := by simp; omega
          rw [List.take_succ_eq_append_getElem hwl, List.take_set_of_le (Nat.le_refl _)]
          simp
        · rw [List.drop_set_of_lt (by omega), hd1]
    · have : j = l.length := by omega
      subst this
      rw [decide_eq_false (show ¬ (l.length : Int) < lenL r by unfold lenL; omega), br_false]
      rw [List.take_of_length_le (Nat.le_refl _)] at ht
      exact ⟨w, r, rfl, ht, by omega⟩
theorem clone_ls {l : List Ls} (h : l.length ≤ 1048576) : slices_Clone___api_Lease_api_Lease__t l = some (l, ()) := by
  unfold slices_Clone___api_Lease_api_Lease__t
  rw [req_of (room_of (by simp [lenL]) (lenL_nonneg l) (by unfold lenL; simp; omega)), List.nil_append]
  cases l with
  | nil => exact both_self _
  | cons a r => rfl
theorem lease_Live_eq {l : List Ls} (h : l.length ≤ 1048576) (now : Int) : lease_Live_t l now = some (live l now, ()) := by
  unfold lease_Live_t
  rw [clone_ls h, bind_s, live_loop1 h now, bind_s]
  cases hf : firstF (overP now) l with
  | none =>
    simp only [overOut, sumC]
    have : live l now = l := by
      unfold live
      rw [List.filter_eq_self]
      intro x hx
      have := firstF_none hf x hx
      rw [over_not] at this
      simpa using this
    rw [this]
  | some k =>
    obtain ⟨x, hx, hq, hb⟩ := firstF_some hf
    have hk := firstF_lt hf
    simp only [overOut, sumC]
    rw [decide_eq_false (show ¬ (k : Int) = -1 by omega), br_false, req_of (i64ok_of (by omega) (by omega)), show ((k : Int) + 1) = ((k + 1 : Nat) : Int) by omega]
    have hlk : live (l.take (k + 1)) now = l.take k := by
      unfold live
      have hxe := (List.getElem?_eq_some_iff.1 hx).2
      rw [List.take_succ_eq_append_getElem hk, List.filter_append, hxe]
      have h1 : (l.take k).filter (liveP now) = l.take k := by
        rw [List.filter_eq_self]
        intro y hy
        have := hb y hy
        rw [over_not] at this
        simpa using this
      have h2 : liveP now x = false := by
        rw [over_not] at hq
        simpa using hq
      rw [h1, List.filter_cons, h2]
      simp
    obtain ⟨w', r', hl, ht, hw⟩ := live_loop2 h now FUEL (k + 1) k l (by have : FUEL = 18446744073709551616 := rfl; omega) (by omega) (by omega) rfl (by rw [hlk]) rfl
    rw [hl, bind_s]
    have hc : (clrL r' (w' : Int) (⟨(⟨false, 0, 0⟩ : Ad), (ByteArray.empty), 0⟩ : Ls)).length = r'.length := by simp [clrL]; omega
    have hz : (decide ((0 : Int) ≤ (w' : Int)) && decide ((w' : Int) ≤ lenL r')) = true := by simp [lenL]; omega
    have hz2 : (decide ((0 : Int) ≤ (w' : Int)) && decide ((w' : Int) ≤ lenL (clrL r' (w' : Int) (⟨(⟨false, 0, 0⟩ : Ad), (ByteArray.empty), 0⟩ : Ls)))) = true := by
      unfold lenL
      rw [hc]
      exact hz
    rw [req_of hz, req_of hz2]
    have : subL (clrL r' (w' : Int) (⟨(⟨false, 0, 0⟩ : Ad), (ByteArray.empty), 0⟩ : Ls)) 0 (w' : Int) = r'.take w' := by
      simp [subL, clrL, List.take_append_of_le_length, hw]
    rw [this, ht]
theorem live_len (l : List Ls) (now : Int) : (live l now).length ≤ l.length := List.length_filter_le _ _
/-- What lease.Drop answers. -/
def dropOf (l : List Ls) (now : Int) : List Ls × Int × Int × Unit := if allC l now ≠ 0 then ([], 0, allC l now, ()) else (live l now, lenL l - lenL (live l now), 0, ())
theorem allC_len {l : List Ls} {now : Int} (h : allC l now = 0) : l.length ≤ 20 := by
  unfold allC at h
  split at h
  · cases h
  · omega
theorem lease_Drop_eq {l : List Ls} (h : lsIn l) (now : Int) : lease_Drop_t l now = some (dropOf l now) := by
  unfold lease_Drop_t dropOf
  rw [lease_All_eq h, bind_s]
  by_cases hc : allC l now = 0
  · have hl := allC_len hc
    have h2 := live_len l now
    simp only [hc, decide_true, Bool.not_true, br_false, ne_eq, not_true, if_false]
    rw [lease_Live_eq (by omega), bind_s, req_of (i64ok_of (by unfold lenL; simp only; omega) (by unfold lenL; simp only; omega))]
  · simp only [hc, decide_false, Bool.not_false, br_true, ne_eq, not_false_eq_true, if_true]

def whoP (who : ByteArray) (x : Ls) : Bool := decide (x.who = who)
def whoOut (l : List Ls) : Option Nat → (((Int × Unit) × Unit) × (List Ls × Unit)) ⊕ ((Unit) × (List Ls × Unit))
  | some k => Sum.inl ((((k : Int), ()), ()), (l, ()))
  | none => Sum.inr ((), (l, ()))
theorem R_WhoAt_eq {l : List Ls} (hlen : l.length ≤ 9223372036854775807) (who : ByteArray) : R_WhoAt_t l who = some (idxI (firstF (whoP who) l), ()) := by
  have : loopN R_WhoAt_L2 FUEL (((), (who, ()), (0, ()), ()), (l, ())) = some (whoOut l (firstF (whoP who) l)) := by
    have := loop_up (step := R_WhoAt_L2) (fun i => (((), (who, ()), ((i : Int), ()), ()), (l, ()))) l.length (fun i => some (whoOut l ((firstF (whoP who) (l.drop i)).map (· + i)))) (fun rec i hi hr => ?_) (fun rec => ?_) FUEL 0 (Nat.zero_le _) (fuel_gt (by omega))
    · simpa using this
    · obtain ⟨e, he⟩ : ∃ e, l[i]? = some e := ⟨_, List.getElem?_eq_getElem hi⟩
      have r1 : inRange (i : Int) (lenL l) = true := inRange_of (by omega) (by unfold lenL; omega)
      simp only [R_WhoAt_L2]
      rw [decide_eq_true (show (i : Int) < lenL l by unfold lenL; omega), br_true]
      simp only [r1, req_true, geti_at he, bind_s]
      rw [firstF_at he, strcmp_eql]
      unfold whoP
      by_cases hc : e.who = who
      · simp only [hc, decide_true, br_true, if_true]
        rfl
      · simp only [hc, decide_false, br_false]
        rw [show ((i : Int) + 1) = ((i + 1 : Nat) : Int) by omega, req_of (i64ok_of (by omega) (by omega)), hr]
        rfl
    · simp only [R_WhoAt_L2]
      rw [decide_eq_false (show ¬ (l.length : Int) < lenL l by unfold lenL; omega), br_false, List.drop_of_length_le (Nat.le_refl _)]
      rfl
  unfold R_WhoAt_t
  rw [this, bind_s]
  cases firstF (whoP who) l <;> rfl

/-! Part Lc. -/
theorem chkLs_ad {x : Ls} (h : chkLs x = 0) : chkA x.ad = 0 ∧ whoOk x.who = true ∧ betw x.upto 0 10499 = true := by
  unfold chkLs at h
  split at h
  · rename_i h1; exact absurd h h1
  split at h
  · cases h
  split at h
  · cases h
  · rename_i h1 h2 h3
    exact ⟨Decidable.not_not.1 h1, by simpa using h2, by simpa using h3⟩
theorem chkLsF_all : ∀ {l : List Ls}, chkLsF l = 0 → ∀ x ∈ l, chkLs x = 0
  | [], _, x, hx => by cases hx
  | y :: r, h, x, hx => by
    unfold chkLsF at h
    split at h
    · rename_i h1; exact absurd h h1
    · rename_i h1
      rcases List.mem_cons.1 hx with rfl | hx
      · exact Decidable.not_not.1 h1
      · exact chkLsF_all h x hx
theorem allC_ok {l : List Ls} {now : Int} (h : allC l now = 0) : l.length ≤ 20 ∧ (∀ x ∈ l, chkLs x = 0) ∧ ascL l = true ∧ betw now 0 9999 = true := by
  have h0 := allC_len h
  unfold allC at h
  rw [if_neg (by omega)] at h
  split at h
  · rename_i h1; exact absurd h h1
  split at h
  · cases h
  split at h
  · cases h
  · rename_i h1 h2 h3
    exact ⟨h0, chkLsF_all (Decidable.not_not.1 h1), by simpa using h2, by simpa using h3⟩
def lsOutR (l : List Ls) (now : Int) (r : Int) : (((Int × Unit) × Unit) × (List Ls × Unit)) ⊕ (((Unit) × (Int × Unit) × Unit) × (List Ls × Unit)) := lsOut l now r
theorem ahead_ord {a b : Ad} (ha : a.In) (hb : b.In) : aheadA a b = decide (ordA a b < 0) := by
  rw [ahead_rank ha hb]
  exact decide_eq_decide.2 (ord_rank ha hb).1.symm
/-! Pools. -/
def adIn (l : List Ad) : Prop := ∀ a ∈ l, a.In
def backB : Option Ad → Ad → Bool
  | some b, a => decide (ordA b a ≥ 0)
  | none, _ => false
/-- What is wrong with those kept back, behind 'prev'. -/
def keptF (p : Pf) : Option Ad → List Ad → Int
  | _, [] => 0
  | prev, a :: r => if chkA a ≠ 0 then chkA a else if holds p a = false then 5 else if backB prev a = true then 4 else keptF p (some a) r
def chkPool (p : Pf) (kp : List Ad) : Int := if chkP p ≠ 0 then chkP p else if ¬ ((wid p.ad.v6 : Nat) : Int) - p.bits ≤ 4 ∨ kp.length > 6 then 2 else keptF p none kp
def prevA (kp : List Ad) (i : Nat) : Option Ad := match i with | 0 => none | k + 1 => kp[k]?
def poolOut (kp : List Ad) (r : Int) : (((Int × Unit) × Unit) × (List Ad × Unit)) ⊕ ((Unit) × (List Ad × Unit)) := if r = 0 then Sum.inr ((), (kp, ())) else Sum.inl (((r, ()), ()), (kp, ()))
theorem poolOut_ne {kp : List Ad} {r : Int} (h : r ≠ 0) : poolOut kp r = Sum.inl (((r, ()), ()), (kp, ())) := by rw [poolOut, if_neg h]
theorem pool_loop {p : Pf} (cp : chkP p = 0) {kp : List Ad} (h : adIn kp) (hlen : kp.length ≤ 6) : loopN lease_Pool_L7 FUEL (((), (), (lenL kp, ()), (0, ()), ()), (kp, (p.ad.v6, p.ad.hi, p.ad.lo, p.bits, ()), ())) = some (poolOut kp (keptF p none kp)) := by
  obtain ⟨b1, b2⟩ := chkP_bits cp
  have := loop_up (step := lease_Pool_L7) (fun i => (((), (), (lenL kp, ()), ((i : Int), ()), ()), (kp, (p.ad.v6, p.ad.hi, p.ad.lo, p.bits, ()), ()))) kp.length (fun i => some (poolOut kp (keptF p (prevA kp i) (kp.drop i)))) (fun rec i hi hr => ?_) (fun rec => ?_) FUEL 0 (Nat.zero_le _) (fuel_gt (by omega))
  · exact this
  · obtain ⟨e, he⟩ : ∃ e, kp[i]? = some e := ⟨_, List.getElem?_eq_getElem hi⟩
    simp only [lease_Pool_L7]
    rw [decide_eq_true (show (i : Int) < lenL kp by unfold lenL; omega), br_true, req_of (inRange_of (by omega) (by unfold lenL; omega)), geti_at he, bind_s, addr_Check_eq, bind_s, drop_cons he, keptF]
    by_cases hc : chkA e = 0
    rotate_left
    · simp only [hc, decide_false, Bool.not_false, br_true, ne_eq, not_false_eq_true, if_true]
      rw [poolOut_ne hc]
    simp only [hc, decide_true, Bool.not_true, br_false, ne_eq, not_true, if_false]
    rw [prefix_Holds_eq (p := p) b1 b2 (h e (List.mem_of_getElem? he)), bind_s]
    cases holds p e
    · rfl
    simp only [Bool.not_true, br_false, Bool.true_eq_false, if_false]
    have hcd : (br (decide ((i : Int) > 0)) (req (i64ok ((i : Int) - 1)) (req (inRange ((i : Int) - 1) (lenL kp)) ((geti kp ((i : Int) - 1)).bind fun p4 => (addr_Order_t p4 e).bind fun y5 => some (decide (y5.1 ≥ 0))))) (some false)) = some (backB (prevA kp i) e) := by
      cases i with
      | zero => rfl
      | succ k =>
        obtain ⟨e', he'⟩ : ∃ e, kp[k]? = some e := ⟨_, List.getElem?_eq_getElem (by omega)⟩
        rw [decide_eq_true (by omega), br_true, show (((k + 1 : Nat) : Int) - 1) = (k : Int) by omega, req_of (i64ok_of (by omega) (by omega)), req_of (inRange_of (by omega) (by unfold lenL; omega)), geti_at he', bind_s, addr_Order_eq, bind_s]
        simp only [prevA, he', backB]
    rw [hcd, bind_s]
    have hp1 : prevA kp (i + 1) = some e := he
    cases (backB (prevA kp i) e)
    · simp only [br_false, Bool.false_eq_true, if_false]
      rw [show ((i : Int) + 1) = ((i + 1 : Nat) : Int) by omega, req_of (i64ok_of (by omega) (by omega)), hr, hp1]
    · rfl
  · simp only [lease_Pool_L7]
    rw [decide_eq_false (show ¬ (kp.length : Int) < lenL kp by unfold lenL; omega), br_false, List.drop_of_length_le (Nat.le_refl _)]
    rfl
theorem lease_Pool_eq {p : Pf} (hp : p.In) {kp : List Ad} (h : adIn kp) : lease_Pool_t p kp = some (chkPool p kp, ()) := by
  unfold lease_Pool_t chkPool
  rw [prefix_Check_eq hp, bind_s]
  by_cases hc : chkP p = 0
  rotate_left
  · simp only [hc, decide_false, Bool.not_false, br_true, ne_eq, not_false_eq_true, if_true]
  simp only [hc, decide_true, Bool.not_true, br_false, ne_eq, not_true, if_false]
  rw [lease_Narrow_eq hc, bind_s]
  by_cases hn : ((wid p.ad.v6 : Nat) : Int) - p.bits ≤ 4
  rotate_left
  · simp only [hn, decide_false, Bool.not_false, br_true, bind_s, not_false_eq_true, true_or, if_true]
  by_cases hk : kp.length > 6
  · rw [if_pos (.inr hk)]
    simp only [hn, decide_true, Bool.not_true, br_false, bind_s]
    rw [decide_eq_true (show lenL kp > 6 by unfold lenL; omega), br_true]
  rw [if_neg (by simp only [not_or]; exact ⟨fun h => h hn, hk⟩)]
  simp only [hn, decide_true, Bool.not_true, br_false, bind_s]
  rw [decide_eq_false (show ¬ lenL kp > 6 by unfold lenL; omega), br_false, pool_loop hc h (by omega), bind_s]
  unfold poolOut
  by_cases h0 : keptF p none kp = 0
  · rw [if_pos h0, h0]; rfl
  · rw [if_neg h0]; rfl

/-! Part Ld. -/
theorem idxI_nonneg (o : Option Nat) : decide (idxI o ≥ 0) = o.isSome := by
  cases o with
  | none => rfl
  | some k =>
    have : idxI (some k) ≥ 0 := by show (k : Int) ≥ 0; omega
    simp [this]
theorem twiceL_app : ∀ (l : List Ls) (seen : List ByteArray) (x : Ls), twiceL seen (l ++ [x]) = (twiceL seen l || (seen.any (fun s => decide (s = x.who)) || l.any (whoP x.who)))
  | [], seen, x => by
    show (bif seen.any (fun s => decide (s = x.who)) then true else false) = _
    cases seen.any (fun s => decide (s = x.who)) <;> rfl
  | y :: r, seen, x => by
    show (bif seen.any (fun s => decide (s = y.who)) then true else twiceL (y.who :: seen) (r ++ [x])) = ((bif seen.any (fun s => decide (s = y.who)) then true else twiceL (y.who :: seen) r) || _)
    rw [twiceL_app r (y.who :: seen) x]
    cases seen.any (fun s => decide (s = y.who))
    · simp only [cond_false, List.any_cons]
      rw [show whoP x.who y = decide (y.who = x.who) from rfl]
      generalize seen.any (fun s => decide (s = x.who)) = b1
      generalize twiceL (y.who :: seen) r = b2
      generalize r.any (whoP x.who) = b3
      generalize decide (y.who = x.who) = b4
      revert b1 b2 b3 b4
      decide
    · rfl
/-- What is wrong with leases of a pool, behind some that are right. -/
def ofF (p : Pf) : List Ls → List Ls → Int
  | _, [] => 0
  | bf, x :: r => if holds p x.ad = false then 5 else if bf.any (whoP x.who) = true then 6 else ofF p (bf ++ [x]) r
def chkOf (p : Pf) (kp : List Ad) (l : List Ls) (now : Int) : Int := if chkPool p kp ≠ 0 then chkPool p kp else if allC l now ≠ 0 then allC l now else ofF p [] l
def ckOut (kp : List Ad) (l : List Ls) (r : Int) : (((Int × Unit) × Unit) × (List Ad × List Ls × Unit)) ⊕ ((Unit) × (List Ad × List Ls × Unit)) := if r = 0 then Sum.inr ((), (kp, l, ())) else Sum.inl (((r, ()), ()), (kp, l, ()))
theorem chkPool_ok {p : Pf} {kp : List Ad} (h : chkPool p kp = 0) : chkP p = 0 ∧ ((wid p.ad.v6 : Nat) : Int) - p.bits ≤ 4 ∧ kp.length ≤ 6 := by
  unfold chkPool at h
  split at h
  · rename_i h1; exact absurd h h1
  split at h
  · cases h
  · rename_i h1 h2
    simp only [not_or, Decidable.not_not] at h2
    exact ⟨Decidable.not_not.1 h1, h2.1, by omega⟩
theorem take_at {l : List Ls} {i : Nat} {x : Ls} (h : l[i]? = some x) : l.take (i + 1) = l.take i ++ [x] := by
  have hi := (List.getElem?_eq_some_iff.1 h).1
  rw [List.take_succ_eq_append_getElem hi, (List.getElem?_eq_some_iff.1 h).2]
theorem check_loop {p : Pf} (cp : chkP p = 0) (kp : List Ad) {l : List Ls} (h : lsIn l) (hc : ∀ x ∈ l, chkLs x = 0) (hlen : l.length ≤ 20) : loopN lease_Check_L7 FUEL (((), (), (), (lenL l, ()), (0, ()), ()), (kp, l, (p.ad.v6, p.ad.hi, p.ad.lo, p.bits, ()), ())) = some (ckOut kp l (ofF p [] l)) := by
  obtain ⟨b1, b2⟩ := chkP_bits cp
  have := loop_upI (step := lease_Check_L7) (fun i => (((), (), (), (lenL l, ()), ((i : Int), ()), ()), (kp, l, (p.ad.v6, p.ad.hi, p.ad.lo, p.bits, ()), ()))) l.length (fun i => some (ckOut kp l (ofF p (l.take i) (l.drop i)))) (fun i => twiceL [] (l.take i) = false) (fun rec i hi hI hr => ?_) (fun rec _ => ?_) FUEL 0 (Nat.zero_le _) rfl (fuel_gt (by omega))
  · exact this
  · obtain ⟨e, he⟩ : ∃ e, l[i]? = some e := ⟨_, List.getElem?_eq_getElem hi⟩
    have hin := h e (List.mem_of_getElem? he)
    simp only [lease_Check_L7]
    rw [decide_eq_true (show (i : Int) < lenL l by unfold lenL; omega), br_true, req_of (inRange_of (by omega) (by unfold lenL; omega)), geti_at he, bind_s, prefix_Holds_eq (p := p) b1 b2 hin.1, bind_s, drop_cons he, ofF]
    cases hh : holds p e.ad
    · rfl
    simp only [Bool.not_true, br_false, Bool.true_eq_false, if_false]
    have hsub : subL l 0 ((i : Int) + 1) = l.take (i + 1) := by
      have : ((i : Int) + 1).toNat = i + 1 := by omega
      simp [subL, this]
    have htw : lease_Twice_t (l.take (i + 1)) = some (twiceL [] (l.take (i + 1)), ()) := by
      unfold lease_Twice_t
      rw [req_of]
      simp only [Bool.and_eq_true, List.all_eq_true]
      refine ⟨Nat.ble_eq_true_of_le (by simp; omega), fun x hx => ?_⟩
      have := (betw_iff.1 (by
        have := (chkLs_ad (hc x (List.mem_of_mem_take hx))).2.1
        unfold whoOk at this
        rw [Bool.and_eq_true] at this
        exact this.2)).2
      unfold lenS at this
      exact Nat.ble_eq_true_of_le (by omega)
    have r5 : (decide ((0 : Int) ≤ (i : Int) + 1) && decide ((i : Int) + 1 ≤ lenL l)) = true := by
      rw [decide_eq_true (show (0 : Int) ≤ (i : Int) + 1 by omega), decide_eq_true (show (i : Int) + 1 ≤ lenL l by unfold lenL; omega)]
      rfl
    rw [req_of (i64ok_of (by omega) (by omega)), req_of r5, hsub, htw, bind_s, take_at he, twiceL_app, hI]
    simp only [List.any_nil, Bool.false_or]
    cases hw : (l.take i).any (whoP e.who)
    · simp only [br_false, Bool.false_eq_true, if_false]
      rw [show ((i : Int) + 1) = ((i + 1 : Nat) : Int) by omega, req_of (i64ok_of (by omega) (by omega)), hr (by rw [take_at he, twiceL_app, hI, hw]; rfl), take_at he]
    · rfl
  · simp only [lease_Check_L7]
    rw [decide_eq_false (show ¬ (l.length : Int) < lenL l by unfold lenL; omega), br_false, List.drop_of_length_le (Nat.le_refl _)]
    rfl
theorem lease_Check_eq {p : Pf} (hp : p.In) {kp : List Ad} (hk : adIn kp) {l : List Ls} (h : lsIn l) (now : Int) : lease_Check_t p kp l now = some (chkOf p kp l now, ()) := by
  unfold lease_Check_t chkOf
  rw [lease_Pool_eq hp hk, bind_s]
  by_cases hc : chkPool p kp = 0
  rotate_left
  · simp only [hc, decide_false, Bool.not_false, br_true, br_false, ne_eq, not_false_eq_true, if_true]
  simp only [hc, decide_true, br_true, ne_eq, not_true, if_false]
  rw [lease_All_eq h, bind_s]
  by_cases ha : allC l now = 0
  rotate_left
  · simp only [ha, decide_false, Bool.not_false, br_true, ne_eq, not_false_eq_true, if_true]
  obtain ⟨a1, a2, a3, a4⟩ := allC_ok ha
  simp only [ha, decide_true, Bool.not_true, br_false, ne_eq, not_true, if_false]
  rw [check_loop (chkPool_ok hc).1 kp h a2 a1, bind_s]
  unfold ckOut
  by_cases h0 : ofF p [] l = 0
  · rw [if_pos h0, h0]; rfl
  · rw [if_neg h0]; rfl

/-! Part Le. -/
/-! The addresses of a narrow prefix. -/
def freeBits (p : Pf) : Nat := wid p.ad.v6 - p.bits.toNat
def addrI (p : Pf) (i : Nat) : Ad := ofNum p.ad.v6 (p.ad.num + i)
theorem narrow {p : Pf} (hp : p.In) (cp : chkP p = 0) (hn : ((wid p.ad.v6 : Nat) : Int) - p.bits ≤ 4) : freeBits p ≤ 4 ∧ 2 ^ freeBits p ≤ 16 ∧ p.ad.num % 2 ^ freeBits p = 0 ∧ p.ad.num + 2 ^ freeBits p ≤ 2 ^ wid p.ad.v6 := by
  obtain ⟨b1, b2⟩ := chkP_bits cp
  have h1 : freeBits p ≤ 4 := by unfold freeBits; omega
  have h2 : 2 ^ freeBits p ≤ 2 ^ 4 := Nat.pow_le_pow_right (by omega) h1
  have h3 : p.ad.num % 2 ^ freeBits p = 0 := (cutN_iff _ _).1 ((cutA_iff hp.1.wf p.bits).1 (chkP_cut cp))
  have h4 := right_num p.ad ⟨hp.1.wf, chkP_ad cp⟩
  refine ⟨h1, h2, h3, ?_⟩
  have hk : freeBits p ≤ wid p.ad.v6 := by unfold freeBits; omega
  have h5 : 2 ^ wid p.ad.v6 = 2 ^ freeBits p * 2 ^ (wid p.ad.v6 - freeBits p) := by rw [← Nat.pow_add]; congr 1; omega
  obtain ⟨m, hm⟩ := Nat.dvd_of_mod_eq_zero h3
  rw [hm, h5] at h4 ⊢
  have := Nat.lt_of_mul_lt_mul_left h4
  calc 2 ^ freeBits p * m + 2 ^ freeBits p = 2 ^ freeBits p * (m + 1) := by rw [Nat.mul_add, Nat.mul_one]
    _ ≤ _ := Nat.mul_le_mul_left _ this
theorem wid_pow (v : Bool) : 2 ^ wid v ≤ 340282366920938463463374607431768211456 := by cases v <;> decide
theorem ofNum_in {v : Bool} {n : Nat} (h : n < 2 ^ wid v) : (ofNum v n).In := by
  have := wid_pow v
  unfold ofNum
  exact ⟨⟨by simp only; omega, by simp only; omega⟩, by simp only; omega, by simp only; omega⟩
theorem ofNum_chk {v : Bool} {n : Nat} (h : n < 2 ^ wid v) : chkA (ofNum v n) = 0 := by
  unfold chkA ofNum
  cases v
  · rw [show wid false = 32 from rfl] at h
    rw [if_neg]
    simp only
    omega
  · simp
theorem or_mask (x k : Nat) (hx : x < 18446744073709551616) (hk : k ≤ 64) (hm : x % 2 ^ k = 0) : aop .or .u64 (x : Int) ((2 ^ k - 1 : Nat) : Int) = ((x + (2 ^ k - 1) : Nat) : Int) := by
  have hp := Nat.two_pow_pos k
  have hle : 2 ^ k ≤ 2 ^ 64 := Nat.pow_le_pow_right (by omega) hk
  obtain ⟨m, rfl⟩ := Nat.dvd_of_mod_eq_zero hm
  have hlt : 2 ^ k * m + 2 ^ k ≤ 18446744073709551616 := by
    have h5 : (18446744073709551616 : Nat) = 2 ^ k * 2 ^ (64 - k) := by rw [← Nat.pow_add]; rw [show k + (64 - k) = 64 by omega]
    rw [h5] at hx ⊢
    have := Nat.lt_of_mul_lt_mul_left hx
    calc 2 ^ k * m + 2 ^ k = 2 ^ k * (m + 1) := by rw [Nat.mul_add, Nat.mul_one]
      _ ≤ _ := Nat.mul_le_mul_left _ this
  have e1 : ∀ n : Nat, n < 18446744073709551616 → (BitVec.ofInt 64 (n : Int)).toNat = n := fun n hn => by
    rw [BitVec.toNat_ofInt]
    have : ((n : Int) % ((2 ^ 64 : Nat) : Int)) = (n : Int) := Int.emod_eq_of_lt (by omega) (by omega)
    rw [this]; rfl
  show IntKind.u64.wrap (((BitVec.ofInt 64 ((2 ^ k * m : Nat) : Int) ||| BitVec.ofInt 64 ((2 ^ k - 1 : Nat) : Int)).toNat : Nat) : Int) = _
  rw [BitVec.toNat_or, e1 _ (by omega), e1 _ (by omega), ← Nat.two_pow_add_eq_or_of_lt (by omega), wrap_u64 (by omega) (by omega)]
theorem prefix_Last_eq {p : Pf} (hp : p.In) (cp : chkP p = 0) (hn : ((wid p.ad.v6 : Nat) : Int) - p.bits ≤ 4) : prefix_Last_t p = some (addrI p (2 ^ freeBits p - 1), ()) := by
  obtain ⟨b1, b2⟩ := chkP_bits cp
  obtain ⟨n1, n2, n3, n4⟩ := narrow hp cp hn
  have hpp := Nat.two_pow_pos (freeBits p)
  obtain ⟨⟨h1, h2⟩, h3, h4⟩ := hp.1
  unfold prefix_Last_t
  rw [prefix_mask_eq p.ad p.bits b1 b2, bind_s, maskA_parts]
  show some _ = some _
  have k1 : wid p.ad.v6 - p.bits.toNat - 64 = 0 := by unfold freeBits at n1; omega
  have k2 : min (wid p.ad.v6 - p.bits.toNat) 64 = freeBits p := by unfold freeBits at n1 ⊢; omega
  rw [k1, k2]
  obtain ⟨hi, hhi⟩ := Int.eq_ofNat_of_zero_le h1
  obtain ⟨lo, hlo⟩ := Int.eq_ofNat_of_zero_le h3
  have hnum : p.ad.num = hi * 18446744073709551616 + lo := by unfold Ad.num; rw [hhi, hlo]; rfl
  have hlo2 : lo % 2 ^ freeBits p = 0 := by
    rw [hnum] at n3
    have h5 : (18446744073709551616 : Nat) = 2 ^ freeBits p * 2 ^ (64 - freeBits p) := by rw [← Nat.pow_add]; rw [show freeBits p + (64 - freeBits p) = 64 by omega]
    rw [h5, Nat.mul_left_comm] at n3
    rwa [Nat.mul_add_mod] at n3
  have o1 : aop .or .u64 p.ad.hi ((2 ^ 0 - 1 : Nat) : Int) = p.ad.hi := by
    rw [hhi, or_mask hi 0 (by omega) (by omega) (Nat.mod_one _)]
    simp
  have o2 : aop .or .u64 p.ad.lo ((2 ^ freeBits p - 1 : Nat) : Int) = ((lo + (2 ^ freeBits p - 1) : Nat) : Int) := by
    rw [hlo, or_mask lo (freeBits p) (by omega) (by omega) hlo2]
  simp only [o1, o2]
  have hlt : lo + 2 ^ freeBits p ≤ 18446744073709551616 := by
    have h5 : (18446744073709551616 : Nat) = 2 ^ freeBits p * 2 ^ (64 - freeBits p) := by rw [← Nat.pow_add]; rw [show freeBits p + (64 - freeBits p) = 64 by omega]
    obtain ⟨m, rfl⟩ := Nat.dvd_of_mod_eq_zero hlo2
    have hx : 2 ^ freeBits p * m < 2 ^ freeBits p * 2 ^ (64 - freeBits p) := by omega
    have := Nat.lt_of_mul_lt_mul_left hx
    rw [h5]
    calc 2 ^ freeBits p * m + 2 ^ freeBits p = 2 ^ freeBits p * (m + 1) := by rw [Nat.mul_add, Nat.mul_one]
      _ ≤ _ := Nat.mul_le_mul_left _ this
  unfold addrI ofNum
  rw [hnum, hhi]
  have q1 : (hi * 18446744073709551616 + lo + (2 ^ freeBits p - 1)) / 18446744073709551616 = hi := by omega
  have q2 : (hi * 18446744073709551616 + lo + (2 ^ freeBits p - 1)) % 18446744073709551616 = lo + (2 ^ freeBits p - 1) := by omega
  rw [q1, q2]
theorem addr_After_eq {v : Bool} {n : Nat} (h : n + 1 < 2 ^ wid v) : addr_After_t (ofNum v n) = some (ofNum v (n + 1), true, ()) := by
  unfold addr_After_t
  simp only [both_self, dup_eq]
  have hadd : ∀ m : Nat, aop .add .u64 (m : Int) 1 = (((m + 1) % 18446744073709551616 : Nat) : Int) := fun m => by
    simp only [aop, wrap_u64_mod]
    omega
  have hw := wid_pow v
  cases v
  · rw [show wid false = 32 from rfl] at h
    have q1 : (n + 1) / 18446744073709551616 = 0 := by omega
    have q2 : n / 18446744073709551616 = 0 := by omega
    have q3 : (n % 18446744073709551616 + 1) % 18446744073709551616 = n + 1 := by omega
    have q4 : (n + 1) % 18446744073709551616 = n + 1 := by omega
    simp only [ofNum, hadd, br_false, bind_s, q1, q2, q3, q4, both_self]
    rw [decide_eq_true (show (((n + 1 : Nat) : Int)) < 4294967296 by omega)]
  · rw [show wid true = 128 from rfl] at h
    simp only [ofNum, hadd, br_true, bind_s]
    by_cases hc : n % 18446744073709551616 + 1 = 18446744073709551616
    · have q1 : (n + 1) / 18446744073709551616 = n / 18446744073709551616 + 1 := by omega
      have q2 : (n + 1) % 18446744073709551616 = 0 := by omega
      have q3 : (n / 18446744073709551616 + 1) % 18446744073709551616 = n / 18446744073709551616 + 1 := by omega
      rw [hc, Nat.mod_self, decide_eq_true (show ((0 : Nat) : Int) = 0 from rfl), br_true, q1, q2, q3]
      rw [decide_eq_false (show ¬ (((n / 18446744073709551616 + 1 : Nat) : Int)) = 0 by omega)]
      rfl
    · have q1 : (n + 1) / 18446744073709551616 = n / 18446744073709551616 := by omega
      have q2 : (n + 1) % 18446744073709551616 = n % 18446744073709551616 + 1 := by omega
      have q3 : (n % 18446744073709551616 + 1) % 18446744073709551616 = n % 18446744073709551616 + 1 := by omega
      rw [q3, decide_eq_false (show ¬ (((n % 18446744073709551616 + 1 : Nat) : Int)) = 0 by omega), br_false, q1, q2]
theorem ofNum_ne {v : Bool} {n m : Nat} (h : n ≠ m) : ofNum v n ≠ ofNum v m := fun e => h (by have := congrArg Ad.num e; rwa [num_ofNum, num_ofNum] at this)
theorem allA_eq (v : Bool) (base c : Nat) (h : base + c ≤ 2 ^ wid v) : ∀ (fuel d : Nat), d < fuel → d < c → allA (ofNum v (base + (c - 1))) fuel (ofNum v (base + (c - 1 - d))) = some ((List.range' (c - 1 - d) (d + 1)).map fun i => ofNum v (base + i))
  | 0, d, h, _ => by omega
  | fuel + 1, d, h1, h2 => by
    rw [allA]
    cases d with
    | zero =>
      rw [decide_eq_true (show ofNum v (base + (c - 1 - 0)) = ofNum v (base + (c - 1)) from rfl), br_true]
      rfl
    | succ d =>
      rw [decide_eq_false (ofNum_ne (by omega)), br_false, addr_After_eq (by omega), bind_s, br_true, show base + (c - 1 - (d + 1)) + 1 = base + (c - 1 - d) by omega, allA_eq v base c h fuel d (by omega) (by omega)]
      have hr : List.range' (c - 1 - (d + 1)) (d + 1 + 1) = (c - 1 - (d + 1)) :: List.range' (c - 1 - d) (d + 1) := by
        rw [List.range'_succ]
        congr 2
        omega
      rw [Option.map_some, hr, List.map_cons]

/-! What is taken. -/
def takenB (kp : List Ad) (b : List Ls) (a : Ad) : Bool := kp.any (fun x => decide (a = x)) || b.any (fun x => decide (x.ad = a))
def ixOut (kp : List Ad) : Option Nat → (((Int × Unit) × Unit) × (List Ad × Unit)) ⊕ ((Unit) × (List Ad × Unit))
  | some k => Sum.inl ((((k : Int), ()), ()), (kp, ()))
  | none => Sum.inr ((), (kp, ()))
theorem slices_Contains_eq {kp : List Ad} (hlen : kp.length ≤ 1048576) (a : Ad) : slices_Contains___api_Addr_api_Addr__t kp a = some (kp.any (fun x => decide (a = x)), ()) := by
  unfold slices_Contains___api_Addr_api_Addr__t slices_Index___api_Addr_api_Addr__t
  have := loop_up (step := slices_Index___api_Addr_api_Addr__L2) (fun i => (((), (), (lenL kp, ()), ((i : Int), ()), ()), (kp, (a, ()), ()))) kp.length (fun i => some (ixOut kp ((firstF (fun x => decide (a = x)) (kp.drop i)).map (· + i)))) (fun rec i hi hr => ?_) (fun rec => ?_) FUEL 0 (Nat.zero_le _) (fuel_gt (by omega))
  · rw [List.drop_zero, show (fun x => x + 0) = (id : Nat → Nat) from rfl, Option.map_id] at this
    rw [show ((0 : Nat) : Int) = 0 from rfl] at this
    rw [this, bind_s, ← firstF_any]
    simp only [id]
    cases firstF (fun x => decide (a = x)) kp with
    | none => rfl
    | some k =>
      simp only [ixOut, sumC, bind_s]
      rw [decide_eq_true (show (k : Int) ≥ 0 by omega)]
      rfl
  · obtain ⟨e, he⟩ : ∃ e, kp[i]? = some e := ⟨_, List.getElem?_eq_getElem hi⟩
    simp only [slices_Index___api_Addr_api_Addr__L2]
    rw [decide_eq_true (show (i : Int) < lenL kp by unfold lenL; omega), br_true, req_of (inRange_of (by omega) (by unfold lenL; omega)), geti_at he, bind_s, firstF_at he, eqAd_eq]
    by_cases hc : a = e
    · simp only [hc, decide_true, br_true, if_true]
      rfl
    · simp only [hc, decide_false, br_false]
      rw [show ((i : Int) + 1) = ((i + 1 : Nat) : Int) by omega, req_of (i64ok_of (by omega) (by omega)), hr]
      rfl
  · simp only [slices_Index___api_Addr_api_Addr__L2]
    rw [decide_eq_false (show ¬ (kp.length : Int) < lenL kp by unfold lenL; omega), br_false, List.drop_of_length_le (Nat.le_refl _)]
    rfl
abbrev DT := (Bool × Int × Int × Int × Unit) × List Ad × List Ls × (Ad × Unit) × Unit
def tkOut (d : DT) : Option Nat → (((Int × Unit) × Unit) × DT) ⊕ ((Unit) × DT)
  | some k => Sum.inl ((((k : Int), ()), ()), d)
  | none => Sum.inr ((), d)
theorem taken_eq (p : Pf) {kp : List Ad} (hk : kp.length ≤ 1048576) {b : List Ls} (hb : b.length ≤ 1048576) (a : Ad) : m_lease_book__taken_t p kp b a = some (takenB kp b a, ()) := by
  unfold m_lease_book__taken_t takenB
  rw [slices_Contains_eq hk, bind_s]
  have := loop_up (step := m_lease_book__taken_slices_ContainsFunc___api_Lease_api_Lease__slices_IndexFunc___api_Lease_api_Lease__L2) (fun i => (((), (), (lenL b, ()), ((i : Int), ()), ()), ((p.ad.v6, p.ad.hi, p.ad.lo, p.bits, ()), kp, b, (a, ()), ()))) b.length (fun i => some (tkOut ((p.ad.v6, p.ad.hi, p.ad.lo, p.bits, ()), kp, b, (a, ()), ()) ((firstF (fun x => decide (x.ad = a)) (b.drop i)).map (· + i)))) (fun rec i hi hr => ?_) (fun rec => ?_) FUEL 0 (Nat.zero_le _) (fuel_gt (by omega))
  · rw [List.drop_zero, show (fun x => x + 0) = (id : Nat → Nat) from rfl, Option.map_id] at this
    rw [show ((0 : Nat) : Int) = 0 from rfl] at this
    rw [this, bind_s, ← firstF_any b]
    simp only [id]
    cases kp.any (fun x => decide (a = x))
    · rw [br_false]
      cases firstF (fun x => decide (x.ad = a)) b with
      | none => rfl
      | some k =>
        simp only [tkOut, sumC, bind_s]
        rw [decide_eq_true (show (k : Int) ≥ 0 by omega)]
        rfl
    · rfl
  · obtain ⟨e, he⟩ : ∃ e, b[i]? = some e := ⟨_, List.getElem?_eq_getElem hi⟩
    simp only [m_lease_book__taken_slices_ContainsFunc___api_Lease_api_Lease__slices_IndexFunc___api_Lease_api_Lease__L2]
    rw [decide_eq_true (show (i : Int) < lenL b by unfold lenL; omega), br_true, req_of (inRange_of (by omega) (by unfold lenL; omega)), geti_at he, bind_s, firstF_at he, m_lease_book__taken_1_t, bind_s, eqAd_eq]
    by_cases hc : e.ad = a
    · simp only [hc, decide_true, br_true, if_true]
      rfl
    · simp only [hc, decide_false, br_false]
      rw [show ((i : Int) + 1) = ((i + 1 : Nat) : Int) by omega, req_of (i64ok_of (by omega) (by omega)), hr]
      rfl
  · simp only [m_lease_book__taken_slices_ContainsFunc___api_Lease_api_Lease__slices_IndexFunc___api_Lease_api_Lease__L2]
    rw [decide_eq_false (show ¬ (b.length : Int) < lenL b by unfold lenL; omega), br_false, List.drop_of_length_le (Nat.le_refl _)]
    rfl
def foundA : Option Ad → Ad × Bool × Unit
  | some a => (a, true, ())
  | none => (⟨false, 0, 0⟩, false, ())
/-- The first address that is free. -/
def freeOf (p : Pf) (kp : List Ad) (b : List Ls) : Option Ad := ((List.range (2 ^ freeBits p)).map (addrI p)).find? fun a => !takenB kp b a
theorem firstIn_eq (p : Pf) {kp : List Ad} (hk : kp.length ≤ 1048576) {b : List Ls} (hb : b.length ≤ 1048576) : ∀ xs : List Ad, firstIn p kp b xs = some (foundA (xs.find? fun a => !takenB kp b a))
  | [] => rfl
  | a :: r => by
    rw [firstIn, taken_eq p hk hb, bind_s, firstIn_eq p hk hb r, bind_s, List.find?_cons]
    cases takenB kp b a <;> rfl
theorem first_eq {p : Pf} (hp : p.In) (cp : chkP p = 0) (hn : ((wid p.ad.v6 : Nat) : Int) - p.bits ≤ 4) {kp : List Ad} (hk : kp.length ≤ 1048576) {b : List Ls} (hb : b.length ≤ 1048576) :
    m_lease_book__first_t p kp b = some (foundA (freeOf p kp b)) := by
  obtain ⟨n1, n2, n3, n4⟩ := narrow hp cp hn
  have hpp := Nat.two_pow_pos (freeBits p)
  unfold m_lease_book__first_t freeOf
  rw [prefix_Last_eq hp cp hn, bind_s]
  have := allA_eq p.ad.v6 p.ad.num (2 ^ freeBits p) n4 64 (2 ^ freeBits p - 1) (by omega) (by omega)
  rw [show 2 ^ freeBits p - 1 - (2 ^ freeBits p - 1) = 0 by omega, Nat.add_zero, ofNum_num _ hp.1.wf, show 2 ^ freeBits p - 1 + 1 = 2 ^ freeBits p by omega, ← List.range_eq_range'] at this
  show (allA (ofNum p.ad.v6 (p.ad.num + (2 ^ freeBits p - 1))) 64 p.ad).bind _ = _
  rw [this, bind_s, firstIn_eq p hk hb]
  rfl

/-! Part Lg. -/
/-! Leases in order. -/
theorem ascF_rank : ∀ {r : List Ls} {c : Ad}, c.In → lsIn r → ascF c r = true → ∀ z ∈ r, rank c < rank z.ad
  | [], _, _, _, _, z, hz => by cases hz
  | y :: r, c, hc, hr, h, z, hz => by
    unfold ascF at h
    simp only [Bool.and_eq_true, decide_eq_true_eq] at h
    have hy := hr y (by simp)
    have h1 := (ord_rank hc hy.1).1.1 h.1
    rcases List.mem_cons.1 hz with rfl | hz
    · exact h1
    · have := ascF_rank hy.1 (fun x hx => hr x (by simp [hx])) h.2 z hz
      omega
theorem asc_pair : ∀ {l : List Ls}, lsIn l → (ascL l = true ↔ l.Pairwise fun x y => rank x.ad < rank y.ad)
  | [], _ => by simp [ascL]
  | x :: r, h => by
    have hx := h x (by simp)
    have hr : lsIn r := fun y hy => h y (by simp [hy])
    rw [List.pairwise_cons, ← asc_pair hr]
    constructor
    · intro h1
      have h1 : ascF x.ad r = true := h1
      refine ⟨ascF_rank hx.1 hr h1, ?_⟩
      cases r with
      | nil => rfl
      | cons y r =>
        unfold ascF at h1
        simp only [Bool.and_eq_true] at h1
        exact h1.2
    · rintro ⟨h1, h2⟩
      show ascF x.ad r = true
      cases r with
      | nil => rfl
      | cons y r =>
        unfold ascF
        simp only [Bool.and_eq_true, decide_eq_true_eq]
        exact ⟨(ord_rank hx.1 (hr y (by simp)).1).1.2 (h1 y (by simp)), h2⟩
theorem live_in {l : List Ls} (h : lsIn l) (now : Int) : lsIn (live l now) := fun x hx => h x (List.mem_filter.1 hx).1
theorem live_asc {l : List Ls} (h : lsIn l) (ha : ascL l = true) (now : Int) : ascL (live l now) = true := (asc_pair (live_in h now)).2 (((asc_pair h).1 ha).filter _)
/-- How many are ahead of a. -/
def posF (a : Ad) (b : List Ls) : Nat := (b.takeWhile fun y => decide (ordA y.ad a < 0)).length
theorem posF_le (a : Ad) (b : List Ls) : posF a b ≤ b.length := (List.takeWhile_sublist _).length_le
theorem pos_iff {a : Ad} (ha : a.In) : ∀ {b : List Ls}, lsIn b → ascL b = true → ∀ {h : Nat} {x : Ls}, b[h]? = some x → (ordA x.ad a < 0 ↔ h < posF a b)
  | [], _, _, _, _, hx => by simp at hx
  | y :: r, hb, hs, h, x, hx => by
    have hy := hb y (by simp)
    have hr : lsIn r := fun z hz => hb z (by simp [hz])
    have hrs : ascL r = true := (asc_pair hr).2 (List.pairwise_cons.1 ((asc_pair hb).1 hs)).2
    have hyr := (List.pairwise_cons.1 ((asc_pair hb).1 hs)).1
    unfold posF
    rw [List.takeWhile_cons]
    by_cases ho : ordA y.ad a < 0
    · simp only [ho, decide_true, if_true, List.length_cons]
      cases h with
      | zero =>
        simp only [List.getElem?_cons_zero, Option.some.injEq] at hx
        subst hx
        simp [ho]
      | succ h =>
        have := pos_iff ha hr hrs (h := h) (x := x) (by simpa using hx)
        unfold posF at this
        omega
    · simp only [ho, decide_false, Bool.false_eq_true, if_false, List.length_nil]
      cases h with
      | zero =>
        simp only [List.getElem?_cons_zero, Option.some.injEq] at hx
        subst hx
        simp [ho]
      | succ h =>
        have hx' : r[h]? = some x := by simpa using hx
        have hm := List.mem_of_getElem? hx'
        have h1 := hyr x hm
        have h2 := (ord_rank hy.1 ha).1
        have h3 := (ord_rank (hr x hm).1 ha).1
        constructor
        · intro h4
          have := h3.1 h4
          have : ¬ rank y.ad < rank a := fun h => ho (h2.2 h)
          omega
        · intro h4; omega
theorem half_eq (i j : Nat) (h : i + j < 9223372036854775808) : convI .i64 (aop .shr .u64 (convI .u64 ((i : Int) + (j : Int))) 1) = (((i + j) / 2 : Nat) : Int) := by
  unfold convI
  rw [wrap_u64 (by omega) (by omega)]
  have e1 : aop .shr .u64 ((i : Int) + (j : Int)) 1 = (((i + j) / 2 : Nat) : Int) := by
    simp only [aop, IntKind.bits]
    rw [show ((2 : Int) ^ (min ((1 : Int).toNat) 64)) = 2 from rfl, Int.fdiv_eq_ediv_of_nonneg _ (by omega)]
    omega
  rw [e1]
  exact wrap_i64 (by omega) (by omega)
abbrev DR := List Ad × List Ls × (Bool × Int × Int × Int × Unit) × (ByteArray × Unit) × List Ls × (Ad × Unit) × List Ls × (Bool × Int × Int × Int × Unit) × (Ad × Unit) × (Ls × Unit) × (Ls × Unit) × Unit
theorem bs_loop {kp : List Ad} {l b g : List Ls} (q q' : Bool × Int × Int × Int × Unit) (who : ByteArray) (ga a0 : Ad) (x x2 : Ls) (hx : x2.ad.In) (hb : lsIn b) (hs : ascL b = true) (hlen : b.length ≤ 1048576) (n : Int) :
    ∀ (N i j : Nat), j - i < N → i ≤ posF x2.ad b → posF x2.ad b ≤ j → j ≤ b.length →
      loopN lease_Raw_slices_BinarySearchFunc___api_Lease_api_Lease_api_Lease__L3 N (((), (), (), (n, ()), ((i : Int), ()), ((j : Int), ()), ()), ((kp, l, q, (who, ()), g, (ga, ()), b, q', (a0, ()), (x, ()), (x2, ()), ()) : DR)) =
        some (((), (), (), (n, ()), (((posF x2.ad b : Nat) : Int), ()), ()), (kp, l, q, (who, ()), g, (ga, ()), b, q', (a0, ()), (x, ()), (x2, ()), ()))
  | 0, _, _, h, _, _, _ => by omega
  | N + 1, i, j, hN, h1, h2, h3 => by
    rw [loopN_succ]
    simp only [lease_Raw_slices_BinarySearchFunc___api_Lease_api_Lease_api_Lease__L3]
    obtain ⟨q1, q2, q3, q4, _⟩ := q
    obtain ⟨r1, r2, r3, r4, _⟩ := q'
    by_cases hij : i < j
    · have hh : (i + j) / 2 < b.length := by omega
      obtain ⟨e, he⟩ : ∃ e, b[(i + j) / 2]? = some e := ⟨_, List.getElem?_eq_getElem hh⟩
      have hp := pos_iff hx hb hs he
      rw [decide_eq_true (show (i : Int) < (j : Int) by omega), br_true, req_of (i64ok_of (by omega) (by omega))]
      simp only [half_eq i j (by omega)]
      rw [req_of (inRange_of (by omega) (by unfold lenL; omega)), geti_at he, bind_s, lease_Raw_2_t, addr_Order_eq, bind_s, bind_s]
      by_cases ho : ordA e.ad x2.ad < 0
      · have := hp.1 ho
        simp only [ho, decide_true, br_true]
        rw [show (((i + j) / 2 : Nat) : Int) + 1 = (((i + j) / 2 + 1 : Nat) : Int) by omega, req_of (i64ok_of (by omega) (by omega))]
        exact bs_loop _ _ who ga a0 x x2 hx hb hs hlen n N ((i + j) / 2 + 1) j (by omega) (by omega) h2 h3
      · have : ¬ (i + j) / 2 < posF x2.ad b := fun h => ho (hp.2 h)
        simp only [ho, decide_false, br_false]
        exact bs_loop _ _ who ga a0 x x2 hx hb hs hlen n N i ((i + j) / 2) (by omega) h1 (by omega) (by omega)
    · have : posF x2.ad b = i := by omega
      rw [decide_eq_false (show ¬ (i : Int) < (j : Int) by omega), br_false, this]

theorem bs_same : lease_Raw_slices_BinarySearchFunc___api_Lease_api_Lease_api_Lease__1_L3 = lease_Raw_slices_BinarySearchFunc___api_Lease_api_Lease_api_Lease__L3 := rfl
abbrev DW := List Ad × List Ls × (Bool × Int × Int × Int × Unit) × (ByteArray × Unit) × List Ls × (Ad × Unit) × List Ls × (Bool × Int × Int × Int × Unit) × Unit
def rwOut (d : DW) : Option Nat → (((Int × Unit) × Unit) × DW) ⊕ ((Unit) × DW)
  | some k => Sum.inl ((((k : Int), ()), ()), d)
  | none => Sum.inr ((), d)
theorem rw_loop (p : Pf) (kp : List Ad) (l : List Ls) {b : List Ls} (hlen : b.length ≤ 1048576) (who : ByteArray) :
    loopN lease_Raw_slices_IndexFunc___api_Lease_api_Lease__L2 FUEL (((), (), (lenL b, ()), (0, ()), ()), (kp, l, (p.ad.v6, p.ad.hi, p.ad.lo, p.bits, ()), (who, ()), ([] : List Ls), ((⟨false, 0, 0⟩ : Ad), ()), b, (p.ad.v6, p.ad.hi, p.ad.lo, p.bits, ()), ())) =
      some (rwOut (kp, l, (p.ad.v6, p.ad.hi, p.ad.lo, p.bits, ()), (who, ()), ([] : List Ls), ((⟨false, 0, 0⟩ : Ad), ()), b, (p.ad.v6, p.ad.hi, p.ad.lo, p.bits, ()), ()) (firstF (whoP who) b)) := by
  have := loop_up (step := lease_Raw_slices_IndexFunc___api_Lease_api_Lease__L2) (fun i => (((), (), (lenL b, ()), ((i : Int), ()), ()), ((kp, l, (p.ad.v6, p.ad.hi, p.ad.lo, p.bits, ()), (who, ()), ([] : List Ls), ((⟨false, 0, 0⟩ : Ad), ()), b, (p.ad.v6, p.ad.hi, p.ad.lo, p.bits, ()), ()) : DW))) b.length
    (fun i => some (rwOut (kp, l, (p.ad.v6, p.ad.hi, p.ad.lo, p.bits, ()), (who, ()), ([] : List Ls), ((⟨false, 0, 0⟩ : Ad), ()), b, (p.ad.v6, p.ad.hi, p.ad.lo, p.bits, ()), ()) ((firstF (whoP who) (b.drop i)).map (· + i)))) (fun rec i hi hr => ?_) (fun rec => ?_) FUEL 0 (Nat.zero_le _) (fuel_gt (by omega))
  · rw [List.drop_zero, show (fun x => x + 0) = (id : Nat → Nat) from rfl, Option.map_id] at this
    exact this
  · obtain ⟨e, he⟩ : ∃ e, b[i]? = some e := ⟨_, List.getElem?_eq_getElem hi⟩
    simp only [lease_Raw_slices_IndexFunc___api_Lease_api_Lease__L2]
    rw [decide_eq_true (show (i : Int) < lenL b by unfold lenL; omega), br_true, req_of (inRange_of (by omega) (by unfold lenL; omega)), geti_at he, bind_s, lease_Raw_1_t, bind_s, firstF_at he, strcmp_eql]
    unfold whoP
    by_cases hc : e.who = who
    · simp only [hc, decide_true, br_true, if_true]
      rfl
    · simp only [hc, decide_false, br_false]
      rw [show ((i : Int) + 1) = ((i + 1 : Nat) : Int) by omega, req_of (i64ok_of (by omega) (by omega)), hr]
      rfl
  · simp only [lease_Raw_slices_IndexFunc___api_Lease_api_Lease__L2]
    rw [decide_eq_false (show ¬ (b.length : Int) < lenL b by unfold lenL; omega), br_false, List.drop_of_length_le (Nat.le_refl _)]
    rfl
/-- Somebody's lease put in its place. -/
def insAt (b : List Ls) (x : Ls) : List Ls := b.take (posF x.ad b) ++ x :: b.drop (posF x.ad b)
def keepOn (b : List Ls) (k : Nat) (u : Int) : List Ls × Ad × Bool × Unit := match b[k]? with | some e => (b.set k ⟨e.ad, e.who, u⟩, e.ad, true, ()) | none => ([], ⟨false, 0, 0⟩, false, ())
def putNew (b : List Ls) (who : ByteArray) (u : Int) : Option Ad → List Ls × Ad × Bool × Unit
  | some a => (insAt b ⟨a, who, u⟩, a, true, ())
  | none => ([], ⟨false, 0, 0⟩, false, ())
/-- What lease.Raw answers. -/
def rawOf (p : Pf) (kp : List Ad) (b : List Ls) (who : ByteArray) (u : Int) : List Ls × Ad × Bool × Unit :=
  match firstF (whoP who) b with
  | some k => keepOn b k u
  | none => putNew b who u (freeOf p kp b)
theorem addrI_in {p : Pf} (n4 : p.ad.num + 2 ^ freeBits p ≤ 2 ^ wid p.ad.v6) {i : Nat} (h : i < 2 ^ freeBits p) : (addrI p i).In ∧ chkA (addrI p i) = 0 := ⟨ofNum_in (by omega), ofNum_chk (by omega)⟩
theorem freeOf_some {p : Pf} {kp : List Ad} {b : List Ls} {a : Ad} (h : freeOf p kp b = some a) : (∃ i, i < 2 ^ freeBits p ∧ a = addrI p i) ∧ takenB kp b a = false := by
  unfold freeOf at h
  have h1 := List.mem_of_find?_eq_some h
  have h2 := List.find?_some h
  obtain ⟨i, hi, rfl⟩ := List.mem_map.1 h1
  exact ⟨⟨i, List.mem_range.1 hi, rfl⟩, by simpa using h2⟩
theorem lease_Raw_eq {p : Pf} (hp : p.In) {kp : List Ad} {l : List Ls} (h : lsIn l) {now ttl : Int} (hc : chkPool p kp = 0) (ha : allC l now = 0) (hu : -9223372036854775808 ≤ now + ttl) (hu' : now + ttl < 9223372036854775808) (who : ByteArray) :
    lease_Raw_t p kp l who now ttl = some (rawOf p kp (live l now) who (now + ttl)) := by
  obtain ⟨a1, a2, a3, a4⟩ := allC_ok ha
  obtain ⟨c1, c2, c3⟩ := chkPool_ok hc
  have hll := live_len l now
  unfold lease_Raw_t
  rw [lease_Live_eq (by omega) now, bind_s]
  have hbs := live_asc h a3 now
  have hbi := live_in h now
  generalize live l now = b at hll hbs hbi ⊢
  obtain ⟨n1, n2, n3, n4⟩ := narrow hp c1 c2
  rw [rw_loop p kp l (show b.length ≤ 1048576 by omega) who, bind_s]
  unfold rawOf
  have hin : ∀ a, freeOf p kp b = some a → a.In := fun a hf => by
    obtain ⟨⟨i, hi, rfl⟩, _⟩ := freeOf_some hf
    exact (addrI_in n4 hi).1
  have hf := first_eq hp c1 c2 (kp := kp) (by omega) (b := b) (by omega)
  have hfu : b.length - 0 < FUEL := by have : FUEL = 18446744073709551616 := rfl; omega
  have hroom : ∀ a : Ad, (decide ((0 : Int) ≤ ((posF a b : Nat) : Int)) && decide (((posF a b : Nat) : Int) ≤ lenL b) && room (lenL b) 1) = true := fun a => by
    have := posF_le a b
    rw [decide_eq_true (show (0 : Int) ≤ ((posF a b : Nat) : Int) by omega), decide_eq_true (show ((posF a b : Nat) : Int) ≤ lenL b by unfold lenL; omega), room_of (lenL_nonneg _) (by omega) (by unfold lenL; omega)]
    rfl
  have hpick : ∀ (a : Ad) (x : Ls), x.ad = a → (br (decide (((posF a b : Nat) : Int) < lenL b)) (req (inRange ((posF a b : Nat) : Int) (lenL b)) ((geti b ((posF a b : Nat) : Int)).bind fun p6 => (lease_Raw_2_t p6 x).bind fun y7 => some (((posF a b : Nat) : Int), decide (y7.1 = 0), ()))) (some (((posF a b : Nat) : Int), false, ()))) =
      some (((posF a b : Nat) : Int), (br (decide (((posF a b : Nat) : Int) < lenL b)) ((geti b ((posF a b : Nat) : Int)).bind fun p6 => (lease_Raw_2_t p6 x).bind fun y7 => some (decide (y7.1 = 0))) (some false)).getD false, ()) := fun a x hx => by
    by_cases hlt : posF a b < b.length
    · obtain ⟨e, he⟩ : ∃ e, b[posF a b]? = some e := ⟨_, List.getElem?_eq_getElem hlt⟩
      rw [decide_eq_true (show ((posF a b : Nat) : Int) < lenL b by unfold lenL; omega), br_true, req_of (inRange_of (by omega) (by unfold lenL; omega)), geti_at he, bind_s, lease_Raw_2_t, addr_Order_eq, bind_s, bind_s, br_true, bind_s, lease_Raw_2_t, addr_Order_eq, bind_s, bind_s]
      rfl
    · rw [decide_eq_false (show ¬ ((posF a b : Nat) : Int) < lenL b by unfold lenL; omega), br_false, br_false]
      rfl
  cases hfw : firstF (whoP who) b with
  | some k =>
    have hk := firstF_lt hfw
    obtain ⟨e, he⟩ : ∃ e, b[k]? = some e := ⟨_, List.getElem?_eq_getElem hk⟩
    have r1 : inRange (k : Int) (lenL b) = true := inRange_of (by omega) (by unfold lenL; omega)
    have r2 : inRange (k : Int) (lenL (seti b (k : Int) (⟨e.ad, e.who, now + ttl⟩ : Ls))) = true := inRange_of (by omega) (by unfold lenL seti; simp only [List.length_set]; omega)
    have hg : geti (seti b (k : Int) (⟨e.ad, e.who, now + ttl⟩ : Ls)) (k : Int) = some ⟨e.ad, e.who, now + ttl⟩ := by
      rw [geti_nat]
      simp [seti, hk]
    simp only [rwOut, sumC]
    rw [decide_eq_true (show (k : Int) ≥ 0 by omega), br_true, req_of (i64ok_of hu hu')]
    simp only [r1, req_true, geti_at he, bind_s, r2, hg]
    unfold keepOn
    rw [he]
    simp [seti]
  | none =>
    simp only [rwOut, sumC]
    show (m_lease_book__first_t p kp b).bind _ = _
    rw [hf, bind_s]
    cases hfo : freeOf p kp b with
    | none => rfl
    | some a =>
      simp only [foundA, Bool.not_true, br_false]
      rw [req_of (i64ok_of hu hu')]
      have hl := bs_loop (kp := kp) (l := l) (g := ([] : List Ls)) (p.ad.v6, p.ad.hi, p.ad.lo, p.bits, ()) (p.ad.v6, p.ad.hi, p.ad.lo, p.bits, ()) who ⟨false, 0, 0⟩ a ⟨a, who, now + ttl⟩ ⟨a, who, now + ttl⟩ (hin a hfo) hbi hbs (by omega) (lenL b) FUEL 0 b.length hfu (Nat.zero_le _) (posF_le _ _) (Nat.le_refl _)
      rw [show ((0 : Nat) : Int) = 0 from rfl, show ((b.length : Nat) : Int) = lenL b from rfl] at hl
      rw [bs_same, hl, bind_s, hpick a ⟨a, who, now + ttl⟩ rfl, bind_s]
      simp only [hroom a, req_true, dup_eq, both_self]
      unfold putNew insAt insL
      simp
/-- What lease.Grant answers. -/
def grantOf (p : Pf) (kp : List Ad) (l : List Ls) (who : ByteArray) (now ttl : Int) : List Ls × Ad × Int × Unit :=
  if chkOf p kp l now ≠ 0 then ([], ⟨false, 0, 0⟩, chkOf p kp l now, ()) else if whoOk who = false then ([], ⟨false, 0, 0⟩, 1, ()) else if betw ttl 1 500 = false then ([], ⟨false, 0, 0⟩, 3, ())
  else if (rawOf p kp (live l now) who (now + ttl)).2.2.1 = false then ([], ⟨false, 0, 0⟩, 8, ()) else ((rawOf p kp (live l now) who (now + ttl)).1, (rawOf p kp (live l now) who (now + ttl)).2.1, 0, ())
theorem chkOf_ok {p : Pf} {kp : List Ad} {l : List Ls} {now : Int} (h : chkOf p kp l now = 0) : chkPool p kp = 0 ∧ allC l now = 0 ∧ ofF p [] l = 0 := by
  unfold chkOf at h
  split at h
  · rename_i h1; exact absurd h h1
  split at h
  · rename_i h1; exact absurd h h1
  · rename_i h1 h2
    exact ⟨Decidable.not_not.1 h1, Decidable.not_not.1 h2, h⟩
theorem lease_Grant_eq {p : Pf} (hp : p.In) {kp : List Ad} (hk : adIn kp) {l : List Ls} (h : lsIn l) {who : ByteArray} (hw : strIn who) (now ttl : Int) : lease_Grant_t p kp l who now ttl = some (grantOf p kp l who now ttl) := by
  unfold lease_Grant_t grantOf
  rw [lease_Check_eq hp hk h, bind_s]
  by_cases hc : chkOf p kp l now = 0
  rotate_left
  · simp only [hc, decide_false, Bool.not_false, br_true, ne_eq, not_false_eq_true, if_true]
  obtain ⟨c1, c2, c3⟩ := chkOf_ok hc
  simp only [hc, decide_true, Bool.not_true, br_false, ne_eq, not_true, if_false]
  rw [lease_Who_eq hw, bind_s]
  cases whoOk who
  · rfl
  simp only [Bool.not_true, br_false, Bool.true_eq_false, if_false]
  rw [lease_within_eq, bind_s]
  cases ht : betw ttl 1 500
  · rfl
  obtain ⟨t1, t2⟩ := betw_iff.1 ht
  obtain ⟨u1, u2⟩ := betw_iff.1 (allC_ok c2).2.2.2
  simp only [Bool.not_true, br_false, Bool.true_eq_false, if_false]
  rw [lease_Raw_eq hp h c1 c2 (by omega) (by omega), bind_s]
  cases (rawOf p kp (live l now) who (now + ttl)).2.2.1
  · rfl
  · rfl

/-! Part Lo. -/
def quadP : Pf := ⟨⟨false, 0, 8⟩, 30⟩
theorem quad_eq : law_quad_t = some ((quadP, [⟨false, 0, 8⟩], ()), ()) := rfl
theorem quad_in : quadP.In := ⟨⟨⟨by decide, by decide⟩, by decide, by decide⟩, by decide, by decide⟩
theorem kept_in : adIn [⟨false, 0, 8⟩] := fun a ha => by
  simp only [List.mem_singleton] at ha
  subst ha
  exact ⟨⟨by decide, by decide⟩, by decide, by decide⟩
def wx : ByteArray := ⟨#[120]⟩
def wy : ByteArray := ⟨#[121]⟩
def wz : ByteArray := ⟨#[122]⟩
theorem wx_in : strIn wx := by unfold strIn maxLen; decide
theorem wy_in : strIn wy := by unfold strIn maxLen; decide
theorem wz_in : strIn wz := by unfold strIn maxLen; decide
theorem live_mem {l : List Ls} {now : Int} {x : Ls} (h : x ∈ live l now) : x ∈ l ∧ now ≤ x.upto := ⟨(List.mem_filter.1 h).1, by have := (List.mem_filter.1 h).2; simpa [liveP] using this⟩
def l1 : List Ls := [⟨⟨false, 0, 9⟩, wx, 15⟩]
def l2 : List Ls := [⟨⟨false, 0, 9⟩, wx, 15⟩, ⟨⟨false, 0, 10⟩, wy, 6⟩]
def l3 : List Ls := [⟨⟨false, 0, 9⟩, wx, 15⟩, ⟨⟨false, 0, 10⟩, wz, 8⟩]
theorem l1_in : lsIn l1 := fun x hx => by
  simp only [l1, List.mem_singleton] at hx
  subst hx
  exact ⟨⟨⟨by decide, by decide⟩, by decide, by decide⟩, wx_in, by decide, by decide⟩
theorem l2_in : lsIn l2 := fun x hx => by
  simp only [l2, List.mem_cons, List.not_mem_nil, or_false] at hx
  rcases hx with rfl | rfl
  · exact ⟨⟨⟨by decide, by decide⟩, by decide, by decide⟩, wx_in, by decide, by decide⟩
  · exact ⟨⟨⟨by decide, by decide⟩, by decide, by decide⟩, wy_in, by decide, by decide⟩
theorem lsIn_nil : lsIn [] := fun x hx => by cases hx
theorem g1 : grantOf quadP [⟨false, 0, 8⟩] [] wx 5 10 = (l1, ⟨false, 0, 9⟩, 0, ()) := by decide +kernel
theorem g2 : grantOf quadP [⟨false, 0, 8⟩] l1 wy 5 1 = (l2, ⟨false, 0, 10⟩, 0, ()) := by decide +kernel
theorem g3 : grantOf quadP [⟨false, 0, 8⟩] l2 wz 7 1 = (l3, ⟨false, 0, 10⟩, 0, ()) := by decide +kernel
theorem g4 : dropOf l2 7 = (l1, 1, 0, ()) := by decide +kernel
theorem g5 : chkPool quadP [⟨false, 0, 8⟩] = 0 := by decide +kernel
theorem g6 : chkOf quadP [⟨false, 0, 8⟩] l2 5 = 0 := by decide +kernel
theorem leaseBegun_eq : law_leaseBegun_t = some (true, ()) := by
  unfold law_leaseBegun_t
  have e1 := lease_Grant_eq quad_in kept_in lsIn_nil (who := wx) wx_in 5 10
  have e2 := lease_Grant_eq quad_in kept_in l1_in (who := wy) wy_in 5 1
  have e3 := lease_Grant_eq quad_in kept_in l2_in (who := wz) wz_in 7 1
  rw [g1] at e1
  rw [g2] at e2
  rw [g3] at e3
  have e4 := lease_Drop_eq l2_in 7
  rw [g4] at e4
  have e5 := lease_Pool_eq quad_in kept_in
  rw [g5] at e5
  have e6 := lease_Check_eq quad_in kept_in l2_in 5
  rw [g6] at e6
  unfold wx at e1
  unfold wy at e2
  unfold wz at e3
  simp only [quad_eq, bind_s]
  rw [e1, bind_s]
  simp only []
  rw [e2, bind_s]
  simp only []
  rw [e3, bind_s]
  simp only []
  rw [e4, bind_s, e5, bind_s]
  simp only []
  rw [e6, bind_s]
  simp only [law_v4_t, bind_s, decide_true, br_true, eqAd_eq]
  rfl

theorem chkLsF_of : ∀ {l : List Ls}, (∀ x ∈ l, chkLs x = 0) → chkLsF l = 0
  | [], _ => rfl
  | y :: r, h => by
    unfold chkLsF
    rw [if_neg (fun h' => h' (h y (by simp))), chkLsF_of fun x hx => h x (by simp [hx])]
theorem live_ok {l : List Ls} (h : lsIn l) {now t : Int} (ha : allC l now = 0) (ht : betw t 0 9999 = true) : allC (live l now) t = 0 := by
  obtain ⟨a1, a2, a3, a4⟩ := allC_ok ha
  have := live_len l now
  unfold allC
  rw [if_neg (by omega), chkLsF_of (l := live l now) (fun x hx => a2 x (live_mem hx).1), if_neg (fun h => h rfl), live_asc h a3, if_neg (by simp), ht, if_neg (by simp)]
theorem allC_at {l : List Ls} {now t : Int} (ha : allC l now = 0) (ht : betw t 0 9999 = true) : allC l t = 0 := by
  obtain ⟨a1, a2, a3, a4⟩ := allC_ok ha
  unfold allC
  rw [if_neg (by omega), chkLsF_of a2, if_neg (fun h => h rfl), a3, if_neg (by simp), ht, if_neg (by simp)]
theorem live_live (l : List Ls) {now t : Int} (h : now ≤ t) : live (live l now) t = live l t := by
  unfold live
  rw [List.filter_filter]
  congr 1
  funext x
  unfold liveP
  by_cases h1 : t ≤ x.upto
  · have : now ≤ x.upto := by omega
    simp [h1, this]
  · simp [h1]

/-! Part Lh. -/
/-! One more, the last bit first. -/
def lsbL (n w : Nat) : List UInt8 := (List.range w).map (bitV n)
theorem lsb_rev (n w : Nat) : (bitsTo n (w - 1) w).reverse = lsbL n w := by
  apply List.ext_getElem?
  intro i
  by_cases hi : i < w
  · rw [List.getElem?_reverse (by rw [bitsTo_length]; exact hi), bitsTo_length, bitsTo_get, if_pos (by omega)]
    simp only [lsbL, List.getElem?_map, List.getElem?_range hi, Option.map_some]
    rw [show w - 1 - (w - 1 - i) = i by omega]
  · rw [List.getElem?_eq_none (by simp [bitsTo_length]; omega), List.getElem?_eq_none (by simp [lsbL]; omega)]
theorem lsb_cons (n w : Nat) : lsbL n (w + 1) = bitV n 0 :: lsbL (n / 2) w := by
  unfold lsbL
  rw [List.range_succ_eq_map, List.map_cons, List.map_map]
  congr 1
  apply List.map_congr_left
  intro i _
  simp only [Function.comp]
  exact bitV_congr (by rw [Nat.testBit_succ])
theorem bitV_zero (n : Nat) : bitV n 0 = if n % 2 = 1 then 49 else 48 := by
  unfold bitV
  rw [Nat.testBit_zero]
  by_cases h : n % 2 = 1 <;> simp [h]
theorem incR_eq : ∀ (w n : Nat), n < 2 ^ w → incR (lsbL n w) = if n + 1 < 2 ^ w then some (lsbL (n + 1) w) else none
  | 0, n, h => by
    have : n = 0 := by simpa using h
    subst this
    rfl
  | w + 1, n, h => by
    have hp : 2 ^ (w + 1) = 2 * 2 ^ w := by rw [Nat.pow_succ, Nat.mul_comm]
    rw [lsb_cons, lsb_cons, incR, bitV_zero, bitV_zero]
    by_cases hodd : n % 2 = 1
    · have h1 : (n + 1) / 2 = n / 2 + 1 := by omega
      have h2 : ¬ (n + 1) % 2 = 1 := by omega
      rw [if_pos hodd, if_neg h2, if_neg (by decide), incR_eq w (n / 2) (by omega), h1]
      by_cases h3 : n / 2 + 1 < 2 ^ w
      · rw [if_pos h3, if_pos (by omega)]; rfl
      · rw [if_neg h3, if_neg (by omega)]; rfl
    · have h1 : (n + 1) / 2 = n / 2 := by omega
      have h2 : (n + 1) % 2 = 1 := by omega
      rw [if_neg hodd, if_pos h2, if_pos rfl, if_pos (by omega), h1]

/-! An address out of its bits. -/
theorem div_step (m j : Nat) : m / 2 ^ j = 2 * (m / 2 ^ (j + 1)) + (if m.testBit j then 1 else 0) := by
  have h1 : m / 2 ^ (j + 1) = m / 2 ^ j / 2 := by rw [Nat.pow_succ, Nat.div_div_eq_div_mul]
  rw [h1, Nat.testBit_eq_decide_div_mod_eq]
  by_cases h : m / 2 ^ j % 2 = 1 <;> simp only [h, decide_true, decide_false, if_true, if_false, Bool.false_eq_true] <;> omega
theorem bit_val (n i : Nat) : convI .u64 (aop .sub .u8 ((bitV n i).toNat : Int) 48) = ((if n.testBit i then 1 else 0 : Nat) : Int) := by
  unfold bitV
  cases n.testBit i <;> decide
theorem dbl_step (x b r : Nat) (h : r = 2 * x + b) (hr : r < 18446744073709551616) : aop .add .u64 (aop .mul .u64 2 (x : Int)) (b : Int) = (r : Int) := by
  simp only [aop, wrap_u64_mod]
  omega
def accN (v : Bool) (n k : Nat) : Ad := ⟨v, ((n / 2 ^ (max k 64) : Nat) : Int), ((n % 18446744073709551616 / 2 ^ k : Nat) : Int)⟩
theorem acc_step {v : Bool} {n k : Nat} (hn : n < 2 ^ 128) : accN v n k = if k + 1 > 64 then (⟨v, aop .add .u64 (aop .mul .u64 2 (accN v n (k + 1)).hi) ((if n.testBit k then 1 else 0 : Nat) : Int), (accN v n (k + 1)).lo⟩ : Ad)
    else ⟨v, (accN v n (k + 1)).hi, aop .add .u64 (aop .mul .u64 2 (accN v n (k + 1)).lo) ((if n.testBit k then 1 else 0 : Nat) : Int)⟩ := by
  by_cases hk : k + 1 > 64
  · rw [if_pos hk]
    unfold accN
    simp only
    have e1 : max k 64 = k := by omega
    have e2 : max (k + 1) 64 = k + 1 := by omega
    rw [e1, e2]
    have hlt : n / 2 ^ k < 18446744073709551616 := by
      rw [Nat.div_lt_iff_lt_mul (Nat.two_pow_pos k)]
      have : 2 ^ 64 ≤ 2 ^ k := Nat.pow_le_pow_right (by omega) (by omega)
      calc n < 2 ^ 128 := hn
        _ = 18446744073709551616 * 2 ^ 64 := by decide
        _ ≤ _ := Nat.mul_le_mul_left _ this
    rw [dbl_step _ _ _ (div_step n k) hlt]
    have z : ∀ q, 64 ≤ q → n % 18446744073709551616 / 2 ^ q = 0 := fun q hq => by
      apply Nat.div_eq_of_lt
      have : 2 ^ 64 ≤ 2 ^ q := Nat.pow_le_pow_right (by omega) hq
      omega
    rw [z k (by omega), z (k + 1) (by omega)]
  · rw [if_neg hk]
    unfold accN
    simp only
    have e1 : max k 64 = 64 := by omega
    have e2 : max (k + 1) 64 = 64 := by omega
    rw [e1, e2]
    have ht : n.testBit k = (n % 18446744073709551616).testBit k := by
      rw [show (18446744073709551616 : Nat) = 2 ^ 64 from rfl, Nat.testBit_mod_two_pow]
      simp
      omega
    have hlt : n % 18446744073709551616 / 2 ^ k < 18446744073709551616 := Nat.lt_of_le_of_lt (Nat.div_le_self _ _) (Nat.mod_lt _ (by omega))
    rw [ht, dbl_step _ _ _ (div_step (n % 18446744073709551616) k) hlt]
theorem R_AddrOf_eq {v : Bool} {n : Nat} (h : n < 2 ^ wid v) : R_AddrOf_t (ofBytes (bitsTo n (wid v - 1) (wid v))) = some (ofNum v n, ()) := by
  have hw := wid_pow v
  have hn : n < 2 ^ 128 := Nat.lt_of_lt_of_le h (Nat.le_trans hw (by decide))
  have hlen : (ofBytes (bitsTo n (wid v - 1) (wid v))).size = wid v := by rw [ofBytes_size, bitsTo_length]
  have hwl := wid_le v
  unfold R_AddrOf_t
  have hv : decide (lenS (ofBytes (bitsTo n (wid v - 1) (wid v))) = 128) = v := by
    unfold lenS
    rw [hlen]
    cases v <;> decide
  rw [hv]
  generalize hs : ofBytes (bitsTo n (wid v - 1) (wid v)) = s at hlen ⊢
  have := loop_up (step := R_AddrOf_L3) (fun i => (((s, ()), (), (), ((i : Int), ()), ()), (((⟨false, 0, 0⟩ : Ad), ()), (accN v n (wid v - i), ()), ()))) (wid v) (fun i => some (((), (), ()), (((⟨false, 0, 0⟩ : Ad), ()), (ofNum v n, ()), ()))) (fun rec i hi hr => ?_) (fun rec => ?_) FUEL 0 (Nat.zero_le _) (fuel_gt (by omega))
  · have h0 : accN v n (wid v - 0) = ⟨v, 0, 0⟩ := by
      unfold accN
      have q1 : n / 2 ^ (max (wid v - 0) 64) = 0 := by
        apply Nat.div_eq_of_lt
        exact Nat.lt_of_lt_of_le h (Nat.pow_le_pow_right (by omega) (by omega))
      have q2 : n % 18446744073709551616 / 2 ^ (wid v - 0) = 0 := by
        apply Nat.div_eq_of_lt
        exact Nat.lt_of_le_of_lt (Nat.mod_le _ _) h
      rw [q1, q2]
      rfl
    rw [h0] at this
    rw [show ((0 : Nat) : Int) = 0 from rfl] at this
    rw [this, bind_s]
  · have hb : s.data.toList[i]? = some (bitV n (wid v - 1 - i)) := by
      rw [← hs, ofBytes_list, bitsTo_get, if_pos hi]
    simp only [R_AddrOf_L3]
    rw [decide_eq_true (show (i : Int) < lenS s by unfold lenS; omega), br_true, req_of (inRange_of (by omega) (by unfold lenS; omega)), req_of (i64ok_of (by unfold lenS; omega) (by unfold lenS; omega)), byteAt_eq hb, bit_val]
    have hst := acc_step (v := v) (k := wid v - (i + 1)) hn
    rw [show wid v - (i + 1) + 1 = wid v - i by omega, show wid v - (i + 1) = wid v - 1 - i by omega] at hst
    rw [show ((i : Int) + 1) = ((i + 1 : Nat) : Int) by omega, show wid v - (i + 1) = wid v - 1 - i by omega] at *
    by_cases hk : wid v - i > 64
    · rw [if_pos hk] at hst
      rw [decide_eq_true (show lenS s - (i : Int) > 64 by unfold lenS; omega), br_true, req_of (i64ok_of (by omega) (by omega))]
      rw [show (accN v n (wid v - i)).v6 = v from rfl, ← hst, hr]
    · rw [if_neg hk] at hst
      rw [decide_eq_false (show ¬ lenS s - (i : Int) > 64 by unfold lenS; omega), br_false, req_of (i64ok_of (by omega) (by omega))]
      rw [show (accN v n (wid v - i)).v6 = v from rfl, ← hst, hr]
  · simp only [R_AddrOf_L3]
    rw [decide_eq_false (show ¬ ((wid v : Nat) : Int) < lenS s by unfold lenS; omega), br_false]
    have : accN v n (wid v - wid v) = ofNum v n := by
      unfold accN ofNum
      rw [Nat.sub_self, show max 0 64 = 64 from rfl, show (2 : Nat) ^ 64 = 18446744073709551616 from rfl, Nat.pow_zero, Nat.div_one]
    rw [this]
/-- **R.NextOf**: the next number, if there is one. -/
theorem R_NextOf_eq {v : Bool} {n : Nat} (h : n < 2 ^ wid v) : R_NextOf_t (ofNum v n) = some (if n + 1 < 2 ^ wid v then (ofNum v (n + 1), true, ()) else (⟨false, 0, 0⟩, false, ())) := by
  have hin := ofNum_in h
  have hwl := wid_le v
  unfold R_NextOf_t
  rw [R_Bits_eq hin, bind_s, bitsA_eq hin.wf (ofNum_chk h), num_ofNum, show (ofNum v n).v6 = v from rfl]
  rw [req_of (Nat.ble_eq_true_of_le (by rw [ofBytes_size, bitsTo_length]; omega)), ofBytes_list, lsb_rev, incR_eq _ _ h]
  by_cases h1 : n + 1 < 2 ^ wid v
  · rw [if_pos h1, if_pos h1]
    simp only
    have : (⟨(lsbL (n + 1) (wid v)).reverse.toArray⟩ : ByteArray) = ofBytes (bitsTo (n + 1) (wid v - 1) (wid v)) := by
      rw [← lsb_rev, List.reverse_reverse]
      rfl
    rw [this, R_AddrOf_eq h1, bind_s]
  · rw [if_neg h1, if_neg h1]

/-! Part Li. -/
abbrev Q4 := Bool × Int × Int × Int × Unit
/-- The row so far, and whether the new lease is in it. -/
def insSt (b : List Ls) (x : Ls) (k : Nat) : Bool × List Ls := if k ≤ posF x.ad b then (false, b.take k) else (true, b.take (posF x.ad b) ++ x :: (b.drop (posF x.ad b)).take (k - posF x.ad b))
theorem ins_done (b : List Ls) (x : Ls) : (bif (insSt b x b.length).1 then (insSt b x b.length).2 else (insSt b x b.length).2 ++ [x]) = insAt b x := by
  have := posF_le x.ad b
  unfold insSt insAt
  by_cases h : b.length ≤ posF x.ad b
  · have e : posF x.ad b = b.length := by omega
    rw [if_pos h, e]
    simp
  · rw [if_neg h]
    simp only [cond_true]
    rw [List.take_of_length_le (l := b.drop (posF x.ad b)) (by simp)]
/-! Sixteen rounds. -/
theorem holds_at {p : Pf} (hp : p.In) (cp : chkP p = 0) (hn : ((wid p.ad.v6 : Nat) : Int) - p.bits ≤ 4) {i : Nat} : holds p (addrI p i) = decide (i < 2 ^ freeBits p) := by
  obtain ⟨n1, n2, n3, n4⟩ := narrow hp cp hn
  have hpp := Nat.two_pow_pos (freeBits p)
  unfold holds addrI
  rw [show (ofNum p.ad.v6 (p.ad.num + i)).v6 = p.ad.v6 from rfl, beq_self_eq_true, Bool.true_and]
  refine decide_eq_decide.2 ?_
  unfold cutA
  rw [num_ofNum, show (ofNum p.ad.v6 (p.ad.num + i)).v6 = p.ad.v6 from rfl]
  show ofNum p.ad.v6 (cutN (p.ad.num + i) (freeBits p)) = p.ad ↔ _
  have hq : cutN (p.ad.num + i) (freeBits p) = p.ad.num ↔ i < 2 ^ freeBits p := by
    unfold cutN
    obtain ⟨m, hm⟩ := Nat.dvd_of_mod_eq_zero n3
    rw [hm, Nat.mul_add_div hpp]
    constructor
    · intro h
      have h1 : i / 2 ^ freeBits p = 0 := by
        rw [Nat.mul_comm (2 ^ freeBits p) m] at h
        have := Nat.eq_of_mul_eq_mul_right hpp h
        omega
      rcases Nat.div_eq_zero_iff.1 h1 with h2 | h2
      · omega
      · exact h2
    · intro h
      rw [Nat.div_eq_of_lt h, Nat.add_zero, Nat.mul_comm]
  rw [← hq]
  constructor
  · intro h
    have := congrArg Ad.num h
    rwa [num_ofNum] at this
  · intro h
    rw [h, ofNum_num _ hp.1.wf]
def hitB (p : Pf) (kp : List Ad) (b : List Ls) (i : Nat) : Bool := decide (i < 2 ^ freeBits p) && !takenB kp b (addrI p i)
theorem hit_free {p : Pf} (n2 : 2 ^ freeBits p ≤ 16) (kp : List Ad) (b : List Ls) : ((List.range' 0 16).find? (hitB p kp b)).map (addrI p) = freeOf p kp b := by
  unfold freeOf
  rw [List.find?_map]
  congr 1
  have hr : List.range' 0 16 = List.range (2 ^ freeBits p) ++ List.range' (2 ^ freeBits p) (16 - 2 ^ freeBits p) := by
    have h1 : List.range' 0 (2 ^ freeBits p) ++ List.range' (0 + 2 ^ freeBits p) (16 - 2 ^ freeBits p) = List.range' 0 (2 ^ freeBits p + (16 - 2 ^ freeBits p)) := List.range'_append_1
    rw [Nat.zero_add, show 2 ^ freeBits p + (16 - 2 ^ freeBits p) = 16 by omega] at h1
    rw [List.range_eq_range', h1]
  rw [hr, List.find?_append]
  have h2 : (List.range' (2 ^ freeBits p) (16 - 2 ^ freeBits p)).find? (hitB p kp b) = none := by
    rw [List.find?_eq_none]
    intro i hi
    have := (List.mem_range'_1.1 hi).1
    unfold hitB
    rw [decide_eq_false (by omega)]
    simp
  rw [h2, Option.or_none]
  have : ∀ l : List Nat, (∀ i ∈ l, i < 2 ^ freeBits p) → l.find? (hitB p kp b) = l.find? ((fun a => !takenB kp b a) ∘ addrI p) := by
    intro l
    induction l with
    | nil => intro _; rfl
    | cons i r ih =>
      intro h
      rw [List.find?_cons, List.find?_cons, ih fun j hj => h j (by simp [hj])]
      have : hitB p kp b i = ((fun a => !takenB kp b a) ∘ addrI p) i := by
        unfold hitB
        rw [decide_eq_true (h i (by simp))]
        rfl
      rw [this]
  exact this _ fun i hi => List.mem_range.1 hi
def goG (kp : List Ad) (l b : List Ls) (who : ByteArray) (u : Int) (a0 : Ad) : Option Ad → (((Unit) × (Unit) × (Bool × Unit) × Unit) × (List Ad × List Ls × List Ls × (Ad × Unit) × Unit)) ⊕ (((Unit) × Unit) × (List Ad × List Ls × (Ad × Unit) × Unit))
  | some a => Sum.inl (((), (), (true, ()), ()), (kp, l, insAt b ⟨a, who, u⟩, (a, ()), ()))
  | none => Sum.inr (((), ()), (kp, l, (a0, ()), ()))

/-! Part Ca. -/
noncomputable def splitF (p : Pf) : Option (Pf × Pf × Unit) :=
  req (i64ok (p.bits + 1)) <| (prefix_Last_t ⟨p.ad, p.bits + 1⟩).bind fun y1 => (addr_After_t y1.1).bind fun y2 => some (⟨p.ad, p.bits + 1⟩, ⟨y2.1, p.bits + 1⟩, ())
theorem req_twice {X : Type} (c : Bool) (a : Option X) : req c (req c a) = req c a := by cases c <;> rfl
theorem prefix_Split_eq (p : Pf) : prefix_Split_t p = splitF p := by
  unfold prefix_Split_t splitF
  simp only [dup_eq, both_self]
  cases h : i64ok (p.bits + 1)
  · rfl
  · simp only [req_true]
noncomputable def joinF (a b : Pf) : Option (Pf × Bool × Unit) :=
  br (bif decide (a.bits = 0) then true else bif !decide (a.bits = b.bits) then true else !(beqB a.ad.v6 b.ad.v6)) (some ((⟨⟨false, 0, 0⟩, 0⟩ : Pf), false, ()))
    (req (i64ok (a.bits - 1)) <| (prefix_Cut_t a.ad (a.bits - 1)).bind fun y => (splitF ⟨y.1, a.bits - 1⟩).bind fun z => br (eqPf z.1 a) (some (⟨y.1, a.bits - 1⟩, eqPf z.2.1 b, ())) (some (⟨y.1, a.bits - 1⟩, false, ())))
theorem prefix_Joined_eq (a b : Pf) : prefix_Joined_t a b = joinF a b := by
  unfold prefix_Joined_t joinF
  simp only [dup_eq, both_self, prefix_Split_eq, req_twice]
  cases decide (a.bits = 0) <;> cases decide (a.bits = b.bits) <;> cases beqB a.ad.v6 b.ad.v6 <;> rfl

def afterA (a : Ad) : Ad × Bool × Unit :=
  bif a.v6 && decide (aop .add .u64 a.lo 1 = 0) then (⟨a.v6, aop .add .u64 a.hi 1, aop .add .u64 a.lo 1⟩, !decide (aop .add .u64 a.hi 1 = 0), ())
  else (⟨a.v6, a.hi, aop .add .u64 a.lo 1⟩, bif a.v6 then true else decide (aop .add .u64 a.lo 1 < 4294967296), ())
theorem addr_After_all (a : Ad) : addr_After_t a = some (afterA a) := by
  unfold addr_After_t afterA
  simp only [dup_eq, both_self]
  cases h : a.v6 <;> cases h2 : decide (aop .add .u64 a.lo 1 = 0) <;> simp [br, h, both_self] <;> rfl
def pb0 : Pf := ⟨⟨false, 0, 167772160⟩, 30⟩
def pb1 : Pf := ⟨⟨false, 0, 167772160⟩, 31⟩
def pb2 : Pf := ⟨⟨false, 0, 167772162⟩, 31⟩
theorem pb_parse : prefix_Parse_t (⟨#[49, 48, 46, 48, 46, 48, 46, 48, 47, 51, 48]⟩ : ByteArray) = some (pb0, 0, ()) := by kernel_rfl
theorem pb_net : law_net_t 167772162 31 = some (pb2, ()) := by kernel_rfl
theorem pb_has : prefix_Has_t pb0 pb2 = some (true, 0, ()) := by kernel_rfl
theorem pb_ends : prefix_Ends_t pb0 = some (⟨false, 0, 167772160⟩, ⟨false, 0, 167772163⟩, 0, ()) := by kernel_rfl
theorem pb_split : splitF pb0 = some (pb1, pb2, ()) := by
  unfold splitF
  simp only [addr_After_all]
  kernel_rfl
theorem pb_halves : prefix_Halves_t pb0 = some (pb1, pb2, 0, ()) := by
  unfold prefix_Halves_t
  simp only [dup_eq, both_self, prefix_Split_eq, pb_split]
  kernel_rfl
theorem pb_join : prefix_Joined_t pb1 pb2 = some (pb0, true, ()) := by
  rw [prefix_Joined_eq]
  unfold joinF splitF
  simp only [addr_After_all]
  kernel_rfl
theorem pb_whole : prefix_Whole_t pb1 pb2 = some (pb0, 0, ()) := by
  unfold prefix_Whole_t
  rw [pb_join]
  kernel_rfl
theorem pb_print : prefix_Print_t pb2 = some (⟨#[49, 48, 46, 48, 46, 48, 46, 50, 47, 51, 49]⟩, 0, ()) := by kernel_rfl
theorem pb_net1 : law_net_t 1 31 = some (⟨⟨false, 0, 1⟩, 31⟩, ()) := by kernel_rfl
theorem pb_chk : prefix_Check_t ⟨⟨false, 0, 1⟩, 31⟩ = some (4, ()) := by kernel_rfl
theorem pb_v0 : law_v4_t 167772160 = some (⟨false, 0, 167772160⟩, ()) := by kernel_rfl
theorem pb_v3 : law_v4_t 167772163 = some (⟨false, 0, 167772163⟩, ()) := by kernel_rfl
theorem pb_eq0 : eqPf pb0 pb0 = true := by kernel_rfl
theorem pb_str : strcmp .eql (⟨#[49, 48, 46, 48, 46, 48, 46, 50, 47, 51, 49]⟩ : ByteArray) (⟨#[49, 48, 46, 48, 46, 48, 46, 50, 47, 51, 49]⟩ : ByteArray) = true := by kernel_rfl
theorem pb_a0 : eqAd ⟨false, 0, 167772160⟩ ⟨false, 0, 167772160⟩ = true := by kernel_rfl
theorem pb_a3 : eqAd ⟨false, 0, 167772163⟩ ⟨false, 0, 167772163⟩ = true := by kernel_rfl
theorem prefixBegun_eq : law_prefixBegun_t = some (true, ()) := by
  unfold law_prefixBegun_t
  rw [pb_parse, bind_s, pb_net, bind_s, pb_has, bind_s, pb_ends, bind_s, pb_halves, bind_s, pb_whole, bind_s, pb_print, bind_s]
  simp only [decide_true, br_true, bind_s, pb_net1, pb_chk, pb_v0, pb_v3, pb_eq0, pb_str, pb_a0, pb_a3]

/-! Part Ce. -/
def ab0 : Ad := ⟨true, 2306139568115548160, 281474993619716⟩
theorem ab_parse0 : addr_Parse_t (⟨#[50, 48, 48, 49, 58, 68, 66, 56, 58, 48, 58, 48, 58, 49, 58, 58, 49, 46, 50, 46, 51, 46, 52]⟩ : ByteArray) = some (ab0, 0, ()) := by kernel_rfl
theorem ab_print0 : addr_Print_t ab0 = some (⟨#[50, 48, 48, 49, 58, 100, 98, 56, 58, 58, 49, 58, 48, 58, 49, 48, 50, 58, 51, 48, 52]⟩, 0, ()) := by kernel_rfl
theorem ab_parse1 : addr_Parse_t (⟨#[49, 48, 46, 48, 46, 48, 46, 50, 53, 53]⟩ : ByteArray) = some (⟨false, 0, 167772415⟩, 0, ()) := by kernel_rfl
theorem ab_next : addr_Next_t ⟨false, 0, 167772415⟩ = some (⟨false, 0, 167772416⟩, true, 0, ()) := by
  unfold addr_Next_t
  simp only [addr_After_all]
  kernel_rfl
theorem ab_less : addr_Less_t ⟨false, 0, 167772415⟩ ab0 = some (true, 0, ()) := by kernel_rfl
theorem ab_print1 : addr_Print_t ⟨true, 0, 0⟩ = some (⟨#[58, 58]⟩, 0, ()) := by kernel_rfl
theorem ab_parse2 : addr_Parse_t (⟨#[49, 58, 58, 50, 58, 58, 51]⟩ : ByteArray) = some (⟨false, 0, 0⟩, 1, ()) := by kernel_rfl
theorem addrBegun_eq : law_addrBegun_t = some (true, ()) := by
  unfold law_addrBegun_t
  rw [ab_parse0, bind_s, ab_print0, bind_s, ab_parse1, bind_s, ab_next, bind_s, ab_less, bind_s, ab_print1, bind_s, ab_parse2, bind_s]
  kernel_rfl

/-! Part Lk. -/
/-! The last address of a prefix, as the document tells it. -/
theorem last_bits {n f w : Nat} (hf : f ≤ w) (h : n % 2 ^ f = 0) : bitsTo (n + (2 ^ f - 1)) (w - 1) w = (bitsTo n (w - 1) w).take (w - f) ++ List.replicate f 49 := by
  have hp := Nat.two_pow_pos f
  obtain ⟨k, hk⟩ := Nat.dvd_of_mod_eq_zero h
  have hlen : (bitsTo n (w - 1) w).length = w := by simp [bitsTo]
  have hlt : ((bitsTo n (w - 1) w).take (w - f)).length = w - f := by rw [List.length_take, hlen]; omega
  apply List.ext_getElem?
  intro i
  by_cases h2 : i < w - f
  · rw [List.getElem?_append_left (by omega), List.getElem?_take_of_lt h2, bitsTo_get, bitsTo_get, if_pos (by omega), if_pos (by omega)]
    congr 1
    apply bitV_congr
    rw [hk, Nat.testBit_two_pow_mul_add _ (by omega), if_neg (by omega)]
    have := Nat.testBit_two_pow_mul_add k (b := 0) hp (w - 1 - i)
    rw [Nat.add_zero, if_neg (by omega)] at this
    exact this.symm
  · rw [List.getElem?_append_right (by omega), hlt, bitsTo_get, List.getElem?_replicate]
    by_cases hi : i < w
    · rw [if_pos hi, if_pos (by omega)]
      congr 1
      unfold bitV
      rw [if_pos]
      rw [hk, Nat.testBit_two_pow_mul_add _ (by omega), if_pos (by omega), Nat.testBit_two_pow_sub_one]
      simp
      omega
    · rw [if_neg hi, if_neg (by omega)]
theorem cat_ofBytes (x y : List UInt8) : catS (ofBytes x) (ofBytes y) = ofBytes (x ++ y) := by
  apply ByteArray.ext
  simp [catS, ofBytes]
theorem fill_loop (p : Pf) (z : Ad) : ∀ (N k : Nat) (x : List UInt8), x.length + k = wid p.ad.v6 → k < N →
    loopN R_filled_L2 N (((⟨#[49]⟩, ()), (), (), (ofBytes x, ()), ()), ((p, ()), (z, ()), ())) = some (((), (ofBytes (x ++ List.replicate k 49), ()), ()), ((z, ()), ()))
  | 0, _, _, _, h => by omega
  | N + 1, k, x, hx, hN => by
    have hw := wid_le p.ad.v6
    rw [loopN_succ]
    simp only [R_filled_L2]
    rw [R_wide_eq, bind_s, show lenS (ofBytes x) = (x.length : Int) by unfold lenS; rw [ofBytes_size]]
    cases k with
    | zero =>
      rw [decide_eq_false (show ¬ (x.length : Int) < ((wid p.ad.v6 : Nat) : Int) by omega), br_false]
      simp
    | succ k =>
      have hc : catS (ofBytes x) ⟨#[49]⟩ = ofBytes (x ++ [49]) := cat_ofBytes x [49]
      rw [decide_eq_true (show (x.length : Int) < ((wid p.ad.v6 : Nat) : Int) by omega), br_true]
      rw [hc, req_of (by unfold roomS; rw [ofBytes_size]; exact Nat.ble_eq_true_of_le (by simp; omega)), fill_loop p z N k (x ++ [49]) (by simp; omega) (by omega)]
      rw [List.append_assoc]
      rfl
theorem R_LastOf_eq {p : Pf} (hp : p.In) (cp : chkP p = 0) : R_LastOf_t p = some (lastA p, ()) := by
  obtain ⟨b1, b2⟩ := chkP_bits cp
  have hw := wid_le p.ad.v6
  have hca := chkP_ad cp
  have hm : p.ad.num % 2 ^ (wid p.ad.v6 - p.bits.toNat) = 0 := (cutN_iff _ _).1 ((cutA_iff hp.1.wf p.bits).1 (chkP_cut cp))
  have hn := right_num p.ad ⟨hp.1.wf, hca⟩
  have hlen : (bitsA p.ad).length = wid p.ad.v6 := bitsA_len p.ad
  have hsub : subS (ofBytes (bitsA p.ad)) 0 p.bits = ofBytes ((bitsA p.ad).take p.bits.toNat) := by
    apply ByteArray.ext
    simp [subS, ofBytes, ByteArray.data_extract]
  unfold R_LastOf_t R_filled_t
  rw [R_Bits_eq hp.1, bind_s]
  simp only []
  rw [req_of (by unfold lenS; rw [ofBytes_size, hlen]; simp; omega), hsub, fill_loop p _ FUEL (wid p.ad.v6 - p.bits.toNat) _ (by rw [List.length_take, hlen]; omega) (fuel_gt (by omega)), bind_s]
  have hlast : (bitsA p.ad).take p.bits.toNat ++ List.replicate (wid p.ad.v6 - p.bits.toNat) 49 = bitsTo (p.ad.num + (2 ^ (wid p.ad.v6 - p.bits.toNat) - 1)) (wid p.ad.v6 - 1) (wid p.ad.v6) := by
    rw [last_bits (by omega) hm, bitsA_eq hp.1.wf hca, show wid p.ad.v6 - (wid p.ad.v6 - p.bits.toNat) = p.bits.toNat by omega]
  have hlt : p.ad.num + (2 ^ (wid p.ad.v6 - p.bits.toNat) - 1) < 2 ^ wid p.ad.v6 := by
    have hpp := Nat.two_pow_pos (wid p.ad.v6 - p.bits.toNat)
    have h5 : 2 ^ wid p.ad.v6 = 2 ^ (wid p.ad.v6 - p.bits.toNat) * 2 ^ (p.bits.toNat) := by rw [← Nat.pow_add]; congr 1; omega
    obtain ⟨m, hmm⟩ := Nat.dvd_of_mod_eq_zero hm
    rw [hmm, h5] at hn ⊢
    have h6 := Nat.lt_of_mul_lt_mul_left hn
    have h7 : 2 ^ (wid p.ad.v6 - p.bits.toNat) * m + 2 ^ (wid p.ad.v6 - p.bits.toNat) ≤ 2 ^ (wid p.ad.v6 - p.bits.toNat) * 2 ^ (p.bits.toNat) := by
      calc 2 ^ (wid p.ad.v6 - p.bits.toNat) * m + 2 ^ (wid p.ad.v6 - p.bits.toNat) = 2 ^ (wid p.ad.v6 - p.bits.toNat) * (m + 1) := by rw [Nat.mul_add, Nat.mul_one]
        _ ≤ _ := Nat.mul_le_mul_left _ h6
    omega
  simp only []
  rw [hlast, R_AddrOf_eq hlt, bind_s]
  rfl
theorem last_addrI (p : Pf) : lastA p = addrI p (2 ^ freeBits p - 1) := rfl

/-! Is an address taken? -/
abbrev QF := Bool × Int × Int × Int × Unit
theorem busy_loop1 {l : List Ls} (hlen : l.length ≤ 1048576) (now e n : Int) (kp : List Ad) (q : QF) (a b c : Ad) :
    loopN law_LeaseFirst_L16 FUEL (((), (now, ()), (), (), (e, ()), (), (), (n, ()), (false, ()), (0, ()), ()), (kp, l, q, (a, ()), (b, ()), (c, ()), ())) =
      some (((), (now, ()), (), (), (e, ()), (), (), (n, ()), (l.any (fun x => decide (x.ad = b) && liveP now x), ()), ()), (kp, l, q, (a, ()), (b, ()), (c, ()), ())) := by
  obtain ⟨q1, q2, q3, q4, _⟩ := q
  have := loop_up (step := law_LeaseFirst_L16) (fun i => (((), (now, ()), (), (), (e, ()), (), (), (n, ()), ((l.take i).any (fun x => decide (x.ad = b) && liveP now x), ()), ((i : Int), ()), ()), (kp, l, (q1, q2, q3, q4, ()), (a, ()), (b, ()), (c, ()), ()))) l.length
    (fun _ => some (((), (now, ()), (), (), (e, ()), (), (), (n, ()), (l.any (fun x => decide (x.ad = b) && liveP now x), ()), ()), (kp, l, (q1, q2, q3, q4, ()), (a, ()), (b, ()), (c, ()), ()))) (fun rec i hi hr => ?_) (fun rec => ?_) FUEL 0 (Nat.zero_le _) (fuel_gt (by omega))
  · simpa using this
  · obtain ⟨x, hx⟩ : ∃ x, l[i]? = some x := ⟨_, List.getElem?_eq_getElem hi⟩
    have r1 : inRange (i : Int) (lenL l) = true := inRange_of (by omega) (by unfold lenL; omega)
    simp only [law_LeaseFirst_L16]
    rw [decide_eq_true (show (i : Int) < lenL l by unfold lenL; omega), br_true]
    simp only [r1, req_true, geti_at hx, bind_s, eqAd_eq]
    have hst : (l.take (i + 1)).any (fun x => decide (x.ad = b) && liveP now x) = ((l.take i).any (fun x => decide (x.ad = b) && liveP now x) || (decide (x.ad = b) && liveP now x)) := by
      rw [take_at hx, List.any_append]
      simp
    rw [hst] at hr
    have hend : ∀ c1 : Bool, c1 = ((l.take i).any (fun x => decide (x.ad = b) && liveP now x) || (decide (x.ad = b) && liveP now x)) →
        (req (i64ok ((i : Int) + 1)) <| rec (((), (now, ()), (), (), (e, ()), (), (), (n, ()), (c1, ()), ((i : Int) + 1, ()), ()), (kp, l, (q1, q2, q3, q4, ()), (a, ()), (b, ()), (c, ()), ()))) =
          some (((), (now, ()), (), (), (e, ()), (), (), (n, ()), (l.any (fun x => decide (x.ad = b) && liveP now x), ()), ()), (kp, l, (q1, q2, q3, q4, ()), (a, ()), (b, ()), (c, ()), ())) := by
      rintro c1 rfl
      rw [show ((i : Int) + 1) = ((i + 1 : Nat) : Int) by omega, req_of (i64ok_of (by omega) (by omega)), hr]
    cases h1 : (l.take i).any (fun x => decide (x.ad = b) && liveP now x)
    · by_cases h2 : x.ad = b
      · simp only [h2, decide_true, br_true, br_false, bind_s]
        exact hend _ (by rw [h1, h2]; simp [liveP])
      · simp only [h2, decide_false, br_false, bind_s]
        exact hend _ (by rw [h1]; simp [h2])
    · simp only [br_true, bind_s]
      exact hend _ (by rw [h1]; simp)
  · simp only [law_LeaseFirst_L16]
    rw [decide_eq_false (show ¬ (l.length : Int) < lenL l by unfold lenL; omega), br_false, List.take_length]
theorem busy_loop2 {kp : List Ad} (hlen : kp.length ≤ 1048576) (now e n : Int) (l : List Ls) (q : QF) (a b c : Ad) (z : Bool) :
    loopN law_LeaseFirst_L20 FUEL (((), (now, ()), (), (), (e, ()), (), (), (n, ()), (z, ()), (0, ()), ()), (kp, l, q, (a, ()), (b, ()), (c, ()), ())) =
      some (((), (now, ()), (), (), (e, ()), (), (), (n, ()), (z || kp.any (fun x => decide (x = b)), ()), ()), (kp, l, q, (a, ()), (b, ()), (c, ()), ())) := by
  obtain ⟨q1, q2, q3, q4, _⟩ := q
  have := loop_up (step := law_LeaseFirst_L20) (fun i => (((), (now, ()), (), (), (e, ()), (), (), (n, ()), (z || (kp.take i).any (fun x => decide (x = b)), ()), ((i : Int), ()), ()), (kp, l, (q1, q2, q3, q4, ()), (a, ()), (b, ()), (c, ()), ()))) kp.length
    (fun _ => some (((), (now, ()), (), (), (e, ()), (), (), (n, ()), (z || kp.any (fun x => decide (x = b)), ()), ()), (kp, l, (q1, q2, q3, q4, ()), (a, ()), (b, ()), (c, ()), ()))) (fun rec i hi hr => ?_) (fun rec => ?_) FUEL 0 (Nat.zero_le _) (fuel_gt (by omega))
  · simpa using this
  · obtain ⟨x, hx⟩ : ∃ x, kp[i]? = some x := ⟨_, List.getElem?_eq_getElem hi⟩
    have r1 : inRange (i : Int) (lenL kp) = true := inRange_of (by omega) (by unfold lenL; omega)
    simp only [law_LeaseFirst_L20]
    rw [decide_eq_true (show (i : Int) < lenL kp by unfold lenL; omega), br_true]
    simp only [r1, req_true, geti_at hx, bind_s, eqAd_eq]
    have hst : (kp.take (i + 1)).any (fun x => decide (x = b)) = ((kp.take i).any (fun x => decide (x = b)) || decide (x = b)) := by
      rw [List.take_succ_eq_append_getElem hi, List.any_append, (List.getElem?_eq_some_iff.1 hx).2]
      simp
    rw [hst] at hr
    have hend : ∀ c1 : Bool, c1 = (z || ((kp.take i).any (fun x => decide (x = b)) || decide (x = b))) →
        (req (i64ok ((i : Int) + 1)) <| rec (((), (now, ()), (), (), (e, ()), (), (), (n, ()), (c1, ()), ((i : Int) + 1, ()), ()), (kp, l, (q1, q2, q3, q4, ()), (a, ()), (b, ()), (c, ()), ()))) =
          some (((), (now, ()), (), (), (e, ()), (), (), (n, ()), (z || kp.any (fun x => decide (x = b)), ()), ()), (kp, l, (q1, q2, q3, q4, ()), (a, ()), (b, ()), (c, ()), ())) := by
      rintro c1 rfl
      rw [show ((i : Int) + 1) = ((i + 1 : Nat) : Int) by omega, req_of (i64ok_of (by omega) (by omega)), hr]
    cases h1 : (z || (kp.take i).any (fun x => decide (x = b)))
    · simp only [br_false, bind_s]
      exact hend _ (by rw [← Bool.or_assoc, h1, Bool.false_or])
    · simp only [br_true, bind_s]
      exact hend _ (by rw [← Bool.or_assoc, h1, Bool.true_or])
  · simp only [law_LeaseFirst_L20]
    rw [decide_eq_false (show ¬ (kp.length : Int) < lenL kp by unfold lenL; omega), br_false, List.take_length]
theorem busy_taken (kp : List Ad) (l : List Ls) (now : Int) (b : Ad) : (l.any (fun x => decide (x.ad = b) && liveP now x) || kp.any (fun x => decide (x = b))) = takenB kp (live l now) b := by
  unfold takenB live
  rw [List.any_filter, Bool.or_comm]
  congr 1
  · congr 1
    funext x
    exact decide_eq_decide.2 eq_comm
  · congr 1
    funext x
    exact Bool.and_comm _ _
theorem addrI_ne (p : Pf) {i j : Nat} (h : i ≠ j) : addrI p i ≠ addrI p j := ofNum_ne (by omega)
abbrev QN (kp : List Ad) (l : List Ls) (p : Pf) (now e : Int) (a : Ad) (n : Nat) : (((Unit) × (Int × Unit) × (Unit) × (Unit) × (Int × Unit) × (Unit) × (Unit) × (Int × Unit) × Unit) × (List Ad × List Ls × (Bool × Int × Int × Int × Unit) × (Ad × Unit) × (Ad × Unit) × (Ad × Unit) × Unit)) :=
  (((), (now, ()), (), (), (e, ()), (), (), ((n : Int), ()), ()), (kp, l, (p.ad.v6, p.ad.hi, p.ad.lo, p.bits, ()), (a, ()), (addrI p n, ()), (addrI p (2 ^ freeBits p - 1), ()), ()))
/-- One round. -/
theorem first_step {p : Pf} (hp : p.In) (cp : chkP p = 0) (hn : ((wid p.ad.v6 : Nat) : Int) - p.bits ≤ 4) {kp : List Ad} (hk : kp.length ≤ 1048576) {l : List Ls} (hl : l.length ≤ 1048576) (now e : Int) (a : Ad) (n : Nat) (h16 : n < 2 ^ freeBits p) (rec) (ht : takenB kp (live l now) (addrI p n) = true)
    (ha : (decide (e = 0) && decide (addrI p n = a)) = false) :
    law_LeaseFirst_L10 rec (QN kp l p now e a n) = if n + 1 = 2 ^ freeBits p then some (Sum.inr (((e, ()), ()), (kp, l, ()))) else rec (QN kp l p now e a (n + 1)) := by
  obtain ⟨n1, n2, n3, n4⟩ := narrow hp cp hn
  simp only [law_LeaseFirst_L10]
  rw [decide_eq_true (show (n : Int) < 16 by omega), br_true]
  have hc : (br (decide (e = 0)) (some (eqAd (addrI p n) a)) (some false)) = some false := by
    rw [eqAd_eq]
    cases h1 : decide (e = 0)
    · rfl
    · rw [h1, Bool.true_and] at ha
      rw [ha]; rfl
  rw [hc, bind_s, br_false, busy_loop1 hl, bind_s]
  simp only []
  rw [busy_loop2 hk, bind_s]
  simp only []
  rw [busy_taken, ht, Bool.not_true, br_false, eqAd_eq]
  by_cases hlast : n + 1 = 2 ^ freeBits p
  · rw [if_pos hlast, show 2 ^ freeBits p - 1 = n by omega, decide_eq_true rfl, br_true]
  · rw [if_neg hlast, decide_eq_false (addrI_ne p (by omega)), br_false]
    have e' : addrI p (n + 1) = ofNum p.ad.v6 (p.ad.num + n + 1) := by unfold addrI; rw [Nat.add_assoc]
    have hnx := R_NextOf_eq (v := p.ad.v6) (n := p.ad.num + n) (by omega)
    rw [if_pos (by omega), ← e', show ofNum p.ad.v6 (p.ad.num + n) = addrI p n from rfl] at hnx
    rw [hnx, bind_s]
    simp only [Bool.not_true, br_false]
    rw [show ((n : Int) + 1) = ((n + 1 : Nat) : Int) by omega, req_of (i64ok_of (by omega) (by omega))]
theorem first_loop8 {p : Pf} (hp : p.In) (cp : chkP p = 0) (hn : ((wid p.ad.v6 : Nat) : Int) - p.bits ≤ 4) {kp : List Ad} (hk : kp.length ≤ 1048576) {l : List Ls} (hl : l.length ≤ 1048576) (now : Int) (a : Ad) (hall : ∀ n, n < 2 ^ freeBits p → takenB kp (live l now) (addrI p n) = true) :
    ∀ (N n : Nat), 2 ^ freeBits p - n ≤ N → n < 2 ^ freeBits p → loopN law_LeaseFirst_L10 N (QN kp l p now 8 a n) = some (Sum.inr (((8, ()), ()), (kp, l, ())))
  | 0, _, h, h2 => by omega
  | N + 1, n, hN, h16 => by
    rw [loopN_succ, first_step hp cp hn hk hl now 8 a n h16 _ (hall n h16) (by simp)]
    by_cases hlast : n + 1 = 2 ^ freeBits p
    · rw [if_pos hlast]
    · rw [if_neg hlast]
      exact first_loop8 hp cp hn hk hl now a hall N (n + 1) (by omega) (by omega)
theorem first_loop0 {p : Pf} (hp : p.In) (cp : chkP p = 0) (hn : ((wid p.ad.v6 : Nat) : Int) - p.bits ≤ 4) {kp : List Ad} (hk : kp.length ≤ 1048576) {l : List Ls} (hl : l.length ≤ 1048576) (now : Int) (i0 : Nat) (hi0 : i0 < 2 ^ freeBits p) (hall : ∀ n, n < i0 → takenB kp (live l now) (addrI p n) = true) :
    ∀ (N n : Nat), i0 + 1 - n ≤ N → n ≤ i0 → loopN law_LeaseFirst_L10 N (QN kp l p now 0 (addrI p i0) n) = some (Sum.inl (((true, ()), ()), (kp, l, ())))
  | 0, _, h, h2 => by omega
  | N + 1, n, hN, h16 => by
    by_cases he : n = i0
    · subst he
      obtain ⟨n1, n2, n3, n4⟩ := narrow hp cp hn
      rw [loopN_succ]
      simp only [law_LeaseFirst_L10]
      rw [decide_eq_true (show (n : Int) < 16 by omega), br_true, eqAd_eq]
      simp only [decide_true, br_true, bind_s]
    · rw [loopN_succ, first_step hp cp hn hk hl now 0 (addrI p i0) n (by omega) _ (hall n (by omega)) (by simp [addrI_ne p he]), if_neg (by omega)]
      exact first_loop0 hp cp hn hk hl now i0 hi0 hall N (n + 1) (by omega) (by omega)
theorem find_range {q : Nat → Bool} : ∀ {m : Nat}, (∀ i, (List.range m).find? q = some i → q i = true ∧ i < m ∧ ∀ j, j < i → q j = false) ∧ ((List.range m).find? q = none → ∀ j, j < m → q j = false) := by
  intro m
  refine ⟨fun i h => ?_, fun h j hj => ?_⟩
  · have h1 := List.find?_some h
    have h2 := List.mem_range.1 (List.mem_of_find?_eq_some h)
    refine ⟨h1, h2, fun j hj => ?_⟩
    have hs : List.range m = List.range i ++ List.range' i (m - i) := by
      have := List.range'_append_1 (s := 0) (m := i) (n := m - i)
      rw [Nat.zero_add, show i + (m - i) = m by omega] at this
      rw [List.range_eq_range', List.range_eq_range', this]
    rw [hs, List.find?_append] at h
    cases h3 : (List.range i).find? q with
    | none =>
      have := List.find?_eq_none.1 h3 j (List.mem_range.2 hj)
      simpa using this
    | some k =>
      rw [h3] at h
      have h4 : k = i := by simpa using h
      have := List.mem_range.1 (List.mem_of_find?_eq_some h3)
      omega
  · have := List.find?_eq_none.1 h j (List.mem_range.2 hj)
    simpa using this
theorem LeaseFirst_eq {p : Pf} (hp : p.In) {kp : List Ad} (hk : rowIn .addr kp) {l : List Ls} (hl : rowIn .lease l) {who : ByteArray} (hw : strIn who) (now : Int) : law_LeaseFirst_t p kp l who now = some (true, ()) := by
  have hki : adIn kp := hk.2
  have hli : lsIn l := hl.2
  unfold law_LeaseFirst_t
  rw [leaseBegun_eq, bind_s, Bool.not_true, br_false, addrBegun_eq, bind_s, bind_s, Bool.not_true, br_false, lease_Check_eq hp hki hli, bind_s]
  by_cases hc : chkOf p kp l now = 0
  rotate_left
  · simp only [hc, decide_false, Bool.not_false, br_true, bind_s]
  simp only [hc, decide_true, Bool.not_true, br_false]
  rw [R_IsWho_eq hw, bind_s, bind_s]
  cases hwo : whoOk who
  · simp only [Bool.not_false, br_true, bind_s]
  simp only [Bool.not_true, br_false]
  obtain ⟨c1, c2, c3⟩ := chkOf_ok hc
  obtain ⟨cp, hn, hk6⟩ := chkPool_ok c1
  have hl20 := (allC_ok c2).1
  rw [R_WhoAt_eq (by omega), bind_s, bind_s]
  cases hf : firstF (whoP who) l with
  | some k =>
    rw [idxI_nonneg]
    rfl
  | none =>
    rw [idxI_nonneg]
    simp only [Option.isSome_none, br_false]
    have hfl : firstF (whoP who) (live l now) = none := by
      cases h : firstF (whoP who) (live l now) with
      | none => rfl
      | some k =>
        obtain ⟨x, hx, hq, _⟩ := firstF_some h
        rw [firstF_none hf x (live_mem (List.mem_of_getElem? hx)).1] at hq
        cases hq
    rw [lease_Grant_eq hp hki hli hw, bind_s]
    have hg : grantOf p kp l who now 1 = match freeOf p kp (live l now) with
        | some a => (insAt (live l now) ⟨a, who, now + 1⟩, a, 0, ())
        | none => ([], ⟨false, 0, 0⟩, 8, ()) := by
      unfold grantOf rawOf
      rw [hc, hwo, hfl]
      simp only [ne_eq, not_true, if_false, Bool.true_eq_false, show betw 1 1 500 = true from rfl]
      cases freeOf p kp (live l now) <;> rfl
    rw [hg]
    simp only [dup_eq, both_self, R_LastOf_eq hp cp, bind_s]
    rw [last_addrI]
    have h0 : addrI p 0 = p.ad := by unfold addrI; rw [Nat.add_zero, ofNum_num _ hp.1.wf]
    have hq : ∀ (e : Int) (a : Ad), (((), (now, ()), (), (), (e, ()), (), (), ((0 : Int), ()), ()), (kp, l, (p.ad.v6, p.ad.hi, p.ad.lo, p.bits, ()), (a, ()), (p.ad, ()), (addrI p (2 ^ freeBits p - 1), ()), ())) = QN kp l p now e a 0 := fun e a => by
      show _ = (((), (now, ()), (), (), (e, ()), (), (), (((0 : Nat) : Int), ()), ()), (kp, l, (p.ad.v6, p.ad.hi, p.ad.lo, p.bits, ()), (a, ()), (addrI p 0, ()), (addrI p (2 ^ freeBits p - 1), ()), ()))
      rw [h0]
      rfl
    have hfr : freeOf p kp (live l now) = (((List.range (2 ^ freeBits p)).find? fun i => !takenB kp (live l now) (addrI p i)).map (addrI p)) := by
      unfold freeOf
      rw [List.find?_map]
      rfl
    have hpp := Nat.two_pow_pos (freeBits p)
    obtain ⟨n1, n2, n3, n4⟩ := narrow hp cp hn
    have hF : 17 < FUEL := fuel_gt (by omega)
    cases hfi : (List.range (2 ^ freeBits p)).find? fun i => !takenB kp (live l now) (addrI p i) with
    | some i =>
      rw [hfi] at hfr
      simp only [hfr, Option.map_some]
      obtain ⟨f1, f2, f3⟩ := find_range.1 i hfi
      simp only [decide_true, Bool.not_true, br_false, bind_s]
      rw [hq, first_loop0 hp cp hn (show kp.length ≤ 1048576 by omega) (show l.length ≤ 1048576 by omega) now i f2 (fun n h => by simpa using f3 n h) FUEL 0 (by omega) (by omega), bind_s]
      rfl
    | none =>
      rw [hfi] at hfr
      simp only [hfr, Option.map_none]
      have f3 := find_range.2 hfi
      simp only [show decide ((8 : Int) = 0) = false from rfl, decide_true, Bool.not_false, Bool.not_true, br_true, br_false, bind_s]
      rw [hq, first_loop8 hp cp hn (show kp.length ≤ 1048576 by omega) (show l.length ≤ 1048576 by omega) now _ (fun n h => by simpa using f3 n h) FUEL 0 (by omega) (by omega), bind_s]
      rfl

/-! Part Ph. -/
def aheadP (p q : Pf) : Bool := if p.ad ≠ q.ad then aheadA p.ad q.ad else decide (p.bits < q.bits)
/-- The program's order and the document's. -/
theorem ord_ahead {p q : Pf} (hp : p.In) (hq : q.In) : decide (ordP q p > 0) = aheadP p q := by
  unfold ordP aheadP
  have e : (p.ad = q.ad) ↔ (p.ad.v6 = q.ad.v6 ∧ p.ad.hi = q.ad.hi ∧ p.ad.lo = q.ad.lo) := by
    cases p.ad; cases q.ad
    simp only [Ad.mk.injEq]
  have hn : p.ad.v6 = q.ad.v6 → (p.ad.num < q.ad.num ↔ (p.ad.hi < q.ad.hi ∨ (p.ad.hi = q.ad.hi ∧ p.ad.lo < q.ad.lo))) := by
    intro _
    obtain ⟨⟨a1, a2⟩, a3, a4⟩ := hp.1
    obtain ⟨⟨b1, b2⟩, b3, b4⟩ := hq.1
    unfold Ad.num
    omega
  unfold ordA ordI aheadA
  by_cases hv : p.ad.v6 = q.ad.v6
  · have hv' : q.ad.v6 = p.ad.v6 := hv.symm
    rw [Bool.eq_iff_iff, decide_eq_true_iff]
    simp only [hv, ne_eq, not_true, false_and, if_false]
    have hn := hn hv
    by_cases h1 : p.ad.hi = q.ad.hi
    · by_cases h2 : p.ad.lo = q.ad.lo
      · have := e.2 ⟨hv, h1, h2⟩
        simp [this]
        try omega
      · have hne : ¬ p.ad = q.ad := fun h => h2 (e.1 h).2.2
        simp only [h1, not_true, if_false, hne, not_false_eq_true, if_true, decide_eq_true_iff, hn]
        by_cases h3 : q.ad.lo < p.ad.lo
        · simp [h3]; try omega
        · have h4 : q.ad.lo > p.ad.lo := by omega
          simp [h3, h4]
    · have hne : ¬ p.ad = q.ad := fun h => h1 (e.1 h).2.1
      have h1' : ¬ q.ad.hi = p.ad.hi := fun h => h1 h.symm
      simp only [h1', not_false_eq_true, if_true, hne, decide_eq_true_iff, hn]
      by_cases h3 : q.ad.hi < p.ad.hi
      · simp [h3]; try omega
      · have h4 : q.ad.hi > p.ad.hi := by omega
        simp [h3, h4]
  · have hne : ¬ p.ad = q.ad := fun h => hv (e.1 h).1
    have hv' : ¬ q.ad.v6 = p.ad.v6 := fun h => hv h.symm
    simp only [hne, hv, hv', ne_eq, not_false_eq_true, true_and, if_true]
    cases hp6 : p.ad.v6 <;> cases hq6 : q.ad.v6
    · rw [hp6, hq6] at hv; exact absurd rfl hv
    · simp
    · simp
    · rw [hp6, hq6] at hv; exact absurd rfl hv

/-! What is in a prefix. -/
theorem prefix_Over_eq {p q : Pf} (cp : chkP p = 0) (hq : q.In) : prefix_Over_t p q = some (over p q, ()) := by
  obtain ⟨h1, h2⟩ := chkP_bits cp
  unfold prefix_Over_t over
  rw [prefix_Holds_eq h1 h2 hq.1, bind_s, br_sb, bind_s]
  cases decide (p.bits ≤ q.bits) <;> rfl

/-! Part Pi. -/
def tabIn (l : List Pf) : Prop := ∀ p ∈ l, p.In
def chkTabF : List Pf → Option Pf → Int
  | [], _ => 0
  | p :: r, prev => if chkP p ≠ 0 then chkP p else
    match prev with
    | some q => if q = p then 6 else if ordP q p > 0 then 4 else chkTabF r (some p)
    | none => chkTabF r (some p)
theorem chkTabF_cons (p : Pf) (r : List Pf) (prev : Option Pf) : chkTabF (p :: r) prev = if chkP p ≠ 0 then chkP p else
    match prev with
    | some q => if q = p then 6 else if ordP q p > 0 then 4 else chkTabF r (some p)
    | none => chkTabF r (some p) := by cases prev <;> rfl
/-- What table.Check answers. -/
def chkTab (l : List Pf) : Int := if l.length > 12 then 2 else chkTabF l none
def prevP (l : List Pf) : Nat → Option Pf
  | 0 => none
  | i + 1 => l[i]?
def tabOut (l : List Pf) (r : Int) : ((((Int × Unit) × Unit) × (List Pf × Unit)) ⊕ ((Unit) × (List Pf × Unit))) := if r = 0 then Sum.inr ((), l, ()) else Sum.inl (((r, ()), ()), l, ())
theorem tabOut_ne {l : List Pf} {r : Int} (h : r ≠ 0) : some (tabOut l r) = some (Sum.inl (((r, ()), ()), l, ())) := by rw [tabOut, if_neg h]
def prevOk (l : List Pf) (i : Nat) : Prop := ∀ q, prevP l i = some q → chkP q = 0
theorem chkTabF_all : ∀ (l : List Pf) (o : Option Pf), chkTabF l o = 0 → ∀ p ∈ l, chkP p = 0
  | [], _, _, p, h => by cases h
  | q :: r, o, h, p, hp => by
    rw [chkTabF_cons] at h
    split at h
    · rename_i h1; exact absurd h h1
    rename_i h1
    have hr : chkTabF r (some q) = 0 := by
      split at h
      · split at h
        · cases h
        split at h
        · cases h
        · exact h
      · exact h
    rcases List.mem_cons.1 hp with rfl | hp
    · exact Decidable.not_not.1 h1
    · exact chkTabF_all r _ hr p hp
theorem chkTab_ok {l : List Pf} (h : chkTab l = 0) : l.length ≤ 12 ∧ ∀ p ∈ l, chkP p = 0 := by
  unfold chkTab at h
  split at h
  · cases h
  · exact ⟨by omega, chkTabF_all l none h⟩

/-! The nearest one. -/
def bitsAt (l : List Pf) (i : Nat) : Int := match l[i]? with | some p => p.bits | none => 0
/-- The best one among the first i. -/
def bestTo (ok : Nat → Bool) (l : List Pf) : Nat → Int
  | 0 => -1
  | i + 1 => if ok i = true ∧ (bestTo ok l i < 0 ∨ bitsAt l (bestTo ok l i).toNat < bitsAt l i) then (i : Int) else bestTo ok l i
def IsBest (ok : Nat → Bool) (l : List Pf) (n : Nat) (r : Int) : Prop :=
  (r = -1 ∧ ∀ i, i < n → ok i = false) ∨ ∃ j : Nat, j < n ∧ r = (j : Int) ∧ ok j = true ∧ (∀ i, i < n → ok i = true → bitsAt l i ≤ bitsAt l j) ∧ (∀ i, i < j → ok i = true → bitsAt l i < bitsAt l j)
theorem bestTo_best (ok : Nat → Bool) (l : List Pf) : ∀ n, IsBest ok l n (bestTo ok l n)
  | 0 => .inl ⟨rfl, fun i h => by omega⟩
  | n + 1 => by
    unfold bestTo
    rcases bestTo_best ok l n with ⟨h1, h2⟩ | ⟨j, hj, h1, h2, h3, h4⟩
    · rw [h1]
      cases hok : ok n
      · rw [if_neg (by simp)]
        refine .inl ⟨rfl, fun i hi => ?_⟩
        by_cases hin : i = n
        · rw [hin]; exact hok
        · exact h2 i (by omega)
      · rw [if_pos ⟨rfl, .inl (by decide)⟩]
        refine .inr ⟨n, by omega, rfl, hok, fun i hi ho => ?_, fun i hi ho => ?_⟩
        · by_cases hin : i = n
          · rw [hin]; exact Int.le_refl _
          · rw [h2 i (by omega)] at ho; cases ho
        · rw [h2 i hi] at ho; cases ho
    · rw [h1, Int.toNat_natCast]
      by_cases hc : ok n = true ∧ ((j : Int) < 0 ∨ bitsAt l j < bitsAt l n)
      · rw [if_pos hc]
        have hlt : bitsAt l j < bitsAt l n := hc.2.resolve_left (by omega)
        refine .inr ⟨n, by omega, rfl, hc.1, fun i hi ho => ?_, fun i hi ho => ?_⟩
        · by_cases hin : i = n
          · rw [hin]; exact Int.le_refl _
          · have := h3 i (by omega) ho; omega
        · have := h3 i hi ho; omega
      · rw [if_neg hc]
        refine .inr ⟨j, by omega, rfl, h2, fun i hi ho => ?_, h4⟩
        by_cases hin : i = n
        · subst hin
          have : ¬ bitsAt l j < bitsAt l i := fun h => hc ⟨ho, .inr h⟩
          omega
        · exact h3 i (by omega) ho
theorem best_unique {ok : Nat → Bool} {l : List Pf} {n : Nat} {r s : Int} (h : IsBest ok l n r) (h' : IsBest ok l n s) : r = s := by
  rcases h with ⟨h1, h2⟩ | ⟨j, hj, h1, h2, h3, h4⟩ <;> rcases h' with ⟨g1, g2⟩ | ⟨k, hk, g1, g2, g3, g4⟩
  · rw [h1, g1]
  · rw [h2 k hk] at g2; cases g2
  · rw [g2 j hj] at h2; cases h2
  · rw [h1, g1]
    have a := h3 k hk g2
    have b := g3 j hj h2
    have : j = k := by
      rcases Nat.lt_trichotomy j k with hlt | he | hlt
      · have := g4 j hlt h2; omega
      · exact he
      · have := h4 k hlt g2; omega
    rw [this]
theorem best_bound (ok : Nat → Bool) (l : List Pf) (n : Nat) : bestTo ok l n = -1 ∨ ∃ j : Nat, j < n ∧ bestTo ok l n = (j : Int) := by
  rcases bestTo_best ok l n with ⟨h, _⟩ | ⟨j, hj, h, _⟩
  · exact .inl h
  · exact .inr ⟨j, hj, h⟩
theorem bestTo_congr {ok ok' : Nat → Bool} {l : List Pf} : ∀ n, (∀ i, i < n → ok i = ok' i) → bestTo ok l n = bestTo ok' l n
  | 0, _ => rfl
  | n + 1, h => by
    unfold bestTo
    rw [bestTo_congr n (fun i hi => h i (by omega)), h n (by omega)]
/-- The choice at an element. -/
theorem best_step {ok : Nat → Bool} {l : List Pf} {i : Nat} {p : Pf} (hp : l[i]? = some p) (c : Bool) (hc : c = ok i) :
    (br c (br (decide (bestTo ok l i < 0)) (some true) (req (inRange (bestTo ok l i) (lenL l)) <| req (inRange (bestTo ok l i) (lenL l)) <| (geti l (bestTo ok l i)).bind fun p3 => some (decide (p.bits > p3.bits)))) (some false)) =
      some (decide (ok i = true ∧ (bestTo ok l i < 0 ∨ bitsAt l (bestTo ok l i).toNat < bitsAt l i))) := by
  have hil := (List.getElem?_eq_some_iff.1 hp).1
  have hb : bitsAt l i = p.bits := by unfold bitsAt; rw [hp]
  subst hc
  cases hok : ok i
  · simp [br_false]
  · rw [br_true]
    rcases best_bound ok l i with h | ⟨j, hj, h⟩
    · rw [h]; simp [br_true]
    · rw [h]
      obtain ⟨q, hq⟩ : ∃ e, l[j]? = some e := ⟨_, List.getElem?_eq_getElem (by omega)⟩
      have hbq : bitsAt l j = q.bits := by unfold bitsAt; rw [hq]
      rw [decide_eq_false (by omega), br_false, req_of (inRange_of (by omega) (by unfold lenL; omega)), req_of (inRange_of (by omega) (by unfold lenL; omega)), geti_at hq, bind_s, Int.toNat_natCast, hb, hbq]
      congr 1
      refine decide_eq_decide.2 ⟨fun h => ⟨rfl, .inr h⟩, fun h => h.2.resolve_left (by omega)⟩

/-! Part Pj. -/
def okFind (l : List Pf) (a : Ad) (i : Nat) : Bool := match l[i]? with | some p => holds p a | none => false
def okOver (l : List Pf) (q : Pf) (n : Int) (i : Nat) : Bool := decide ((i : Int) ≠ n) && (match l[i]? with | some p => over p q | none => false)
/-- What Find answers. -/
def findOf (l : List Pf) (a : Ad) : Int × Int × Unit :=
  if chkTab l ≠ 0 then (0, chkTab l, ()) else if chkA a ≠ 0 then (0, chkA a, ()) else if bestTo (okFind l a) l l.length < 0 then (0, 5, ()) else (bestTo (okFind l a) l l.length, 0, ())
/-- What is wrong with a table and a place. -/
def rdy (l : List Pf) (n : Int) : Int := if chkTab l ≠ 0 then chkTab l else if n < 0 ∨ n ≥ lenL l then 3 else 0
theorem rdy_ok {l : List Pf} {n : Int} (h : rdy l n = 0) : chkTab l = 0 ∧ 0 ≤ n ∧ n < lenL l := by
  unfold rdy at h
  split at h
  · rename_i h1; exact absurd h h1
  rename_i h1
  split at h
  · cases h
  · exact ⟨Decidable.not_not.1 h1, by omega, by omega⟩
theorem at_of {l : List Pf} {n : Int} (h0 : 0 ≤ n) (h1 : n < lenL l) : ∃ q, geti l n = some q ∧ q ∈ l := by
  unfold lenL at h1
  obtain ⟨q, hq⟩ : ∃ e, l[n.toNat]? = some e := ⟨_, List.getElem?_eq_getElem (by omega)⟩
  exact ⟨q, by unfold geti; rw [if_pos h0]; exact hq, List.mem_of_getElem? hq⟩
/-- The one above place n. -/
def aboveOf (l : List Pf) (n : Int) : Int := match geti l n with | some q => bestTo (okOver l q n) l l.length | none => -1
def aboveT (l : List Pf) (n : Int) : Int × Int × Unit := if rdy l n ≠ 0 then (0, rdy l n, ()) else if aboveOf l n < 0 then (0, 5, ()) else (aboveOf l n, 0, ())
/-! The document's nearest one. -/
theorem range_cons (i n : Nat) (h : i < n) : List.range' i (n - i) = i :: List.range' (i + 1) (n - (i + 1)) := by
  rw [show n - i = (n - (i + 1)) + 1 by omega, List.range'_succ]
def innerOut (l : List Pf) (p : Pf) (n b : Int) (o : Option Nat) : ((((Int × Unit) × Unit) × (List Pf × Unit)) ⊕ ((Unit × (Int × Unit) × Unit × (Int × Unit) × Unit) × (List Pf × (Pf × Unit) × Unit))) :=
  match o with | some j => Sum.inl ((((j : Int), ()), ()), l, ()) | none => Sum.inr (((), (n, ()), (), (b, ()), ()), (l, (p, ()), ()))
/-- By bits, from b - 1 downward. -/
def refTo (ok : Nat → Bool) (l : List Pf) : Nat → Int
  | 0 => -1
  | b + 1 => match (List.range' 0 (l.length - 0)).find? (fun i => ok i && decide (bitsAt l i = (b : Int))) with | some j => (j : Int) | none => refTo ok l b
def outerOut (l : List Pf) (r : Int) : ((((Int × Unit) × Unit) × (List Pf × Unit)) ⊕ (Unit × (List Pf × Unit))) := if r = -1 then Sum.inr ((), l, ()) else Sum.inl (((r, ()), ()), l, ())
theorem refTo_ge (ok : Nat → Bool) (l : List Pf) : ∀ b, -1 ≤ refTo ok l b
  | 0 => by simp [refTo]
  | b + 1 => by
    unfold refTo
    split
    · omega
    · exact refTo_ge ok l b
theorem find_first {α : Type} (c : Nat → Bool) (n : Nat) {j : Nat} (h : (List.range' 0 (n - 0)).find? c = some j) : j < n ∧ c j = true ∧ ∀ i, i < j → c i = false := by
  rw [Nat.sub_zero, ← List.range_eq_range'] at h
  obtain ⟨h1, h2, h3⟩ := List.find?_range_eq_some.1 h
  exact ⟨List.mem_range.1 h2, h1, fun i hi => by simpa using h3 i hi⟩
theorem find_nil (c : Nat → Bool) (n : Nat) (h : (List.range' 0 (n - 0)).find? c = none) : ∀ i, i < n → c i = false := by
  intro i hi
  rw [List.find?_eq_none] at h
  have := h i (by rw [Nat.sub_zero, ← List.range_eq_range']; exact List.mem_range.2 hi)
  simpa using this
theorem refTo_best (ok : Nat → Bool) (l : List Pf) : ∀ b : Nat, (∀ i, i < l.length → ok i = true → 0 ≤ bitsAt l i ∧ bitsAt l i < (b : Int)) → IsBest ok l l.length (refTo ok l b)
  | 0, h => .inl ⟨rfl, fun i hi => by
      cases ho : ok i
      · rfl
      · have := h i hi ho; omega⟩
  | b + 1, h => by
    unfold refTo
    split
    · rename_i j hj
      obtain ⟨h1, h2, h3⟩ := find_first (α := Nat) _ _ hj
      simp only [Bool.and_eq_true, decide_eq_true_eq] at h2
      refine .inr ⟨j, h1, rfl, h2.1, fun i hi ho => ?_, fun i hi ho => ?_⟩
      · have := (h i hi ho).2; omega
      · have h4 := h3 i hi
        have h5 := (h i (by omega) ho).2
        rw [ho] at h4
        simp only [Bool.true_and, decide_eq_false_iff_not] at h4
        omega
    · rename_i hn
      refine refTo_best ok l b fun i hi ho => ?_
      have h4 := find_nil _ _ hn i hi
      have h5 := h i hi ho
      rw [ho] at h4
      simp only [Bool.true_and, decide_eq_false_iff_not] at h4
      omega
theorem ok_host {l : List Pf} {a : Ad} (hall : ∀ p ∈ l, chkP p = 0) (i : Nat) : okOver l ⟨a, (wid a.v6 : Nat)⟩ (-1) i = okFind l a i := by
  unfold okOver okFind
  rw [decide_eq_true (show (i : Int) ≠ -1 by omega), Bool.true_and]
  cases hp : l[i]? with
  | none => rfl
  | some p =>
    obtain ⟨_, h2⟩ := chkP_bits (hall p (List.mem_of_getElem? hp))
    show over p ⟨a, (wid a.v6 : Nat)⟩ = holds p a
    unfold over
    cases hh : holds p a
    · simp [hh]
    · have hv : p.ad.v6 = a.v6 := by
        unfold holds at hh
        simp only [Bool.and_eq_true, beq_iff_eq] at hh
        exact hh.1
      rw [hv] at h2
      simp [hh, h2]

/-! Part Pk. -/
/-- Which of the first k stand below place n. -/
def stands (l : List Pf) (n : Int) : Nat → List Int
  | 0 => []
  | k + 1 => if aboveOf l (k : Int) = n then stands l n k ++ [(k : Int)] else stands l n k
theorem stands_len (l : List Pf) (n : Int) : ∀ k, (stands l n k).length ≤ k
  | 0 => Nat.le_refl _
  | k + 1 => by
    have := stands_len l n k
    unfold stands
    split
    · simp; omega
    · omega
theorem aboveOf_ok {l : List Pf} (hl : l.length ≤ 12) (n : Int) : i64ok (aboveOf l n) = true := by
  unfold aboveOf
  split
  · rename_i q _
    rcases best_bound (okOver l q n) l l.length with h | ⟨j, hj, h⟩ <;> rw [h] <;> exact i64ok_of (by omega) (by omega)
  · decide
def belowT (l : List Pf) (n : Int) : (List Int) × Int × Unit := if rdy l n ≠ 0 then ([], rdy l n, ()) else (stands l n l.length, 0, ())
/-! What must be in any case. -/
def routesL : List Pf := [⟨⟨false, 0, 0⟩, 0⟩, ⟨⟨false, 0, 167772160⟩, 8⟩, ⟨⟨false, 0, 167837696⟩, 16⟩]
theorem routes_in : tabIn routesL := by
  have n : ∀ x : Int, 0 ≤ x → x < 1000000000 → u64In x := fun x h h' => ⟨h, by omega⟩
  have m : ∀ x : Int, 0 ≤ x → x < 1000000000 → i64In x := fun x h h' => ⟨by omega, by omega⟩
  intro p hp
  simp only [routesL, List.mem_cons, List.not_mem_nil, or_false] at hp
  rcases hp with rfl | rfl | rfl <;> exact ⟨⟨n _ (by decide) (by decide), n _ (by decide) (by decide)⟩, m _ (by decide) (by decide)⟩
theorem begun1 : findOf routesL ⟨false, 0, 167838211⟩ = (2, 0, ()) := by decide +kernel
theorem begun2 : aboveT routesL 2 = (1, 0, ()) := by decide +kernel
theorem begun3 : belowT routesL 0 = ([1], 0, ()) := by decide +kernel
theorem begun4 : chkTab routesL = 0 := by decide +kernel

/-! Part Cb. -/
theorem cutN_cutN (n : Nat) {k j : Nat} (h : k ≤ j) : cutN (cutN n k) j = cutN n j := by
  unfold cutN
  have e : (2 : Nat) ^ j = 2 ^ k * 2 ^ (j - k) := by rw [← Nat.pow_add]; congr 1; omega
  have hp := Nat.two_pow_pos k
  rw [e, ← Nat.div_div_eq_div_mul, Nat.mul_div_cancel _ hp, Nat.div_div_eq_div_mul]
theorem cutA_cutA (a : Ad) {b c : Int} (h : c ≤ b) : cutA (cutA a b) c = cutA a c := by
  have e : ∀ (v : Bool) (n : Nat) (x : Int), cutA (ofNum v n) x = ofNum v (cutN n (wid v - x.toNat)) := fun v n x => by
    unfold cutA
    rw [num_ofNum]
    rfl
  rw [show cutA a b = ofNum a.v6 (cutN a.num (wid a.v6 - b.toNat)) from rfl, e, cutN_cutN _ (by omega)]
  rfl
theorem holds_iff {p : Pf} {a : Ad} : holds p a = true ↔ p.ad.v6 = a.v6 ∧ cutA a p.bits = p.ad := by simp [holds]
theorem over_iff {p q : Pf} : over p q = true ↔ p.bits ≤ q.bits ∧ holds p q.ad = true := by simp [over]
theorem over_holds {p q : Pf} {a : Ad} (h : over p q = true) (hq : holds q a = true) : holds p a = true := by
  obtain ⟨h1, h2⟩ := over_iff.1 h
  rw [holds_iff] at h2 hq ⊢
  refine ⟨h2.1.trans hq.1, ?_⟩
  rw [← h2.2, ← hq.2, cutA_cutA _ h1]
theorem holds_over {p q : Pf} {a : Ad} (hp : holds p a = true) (hq : holds q a = true) (h : p.bits ≤ q.bits) : over p q = true := by
  rw [holds_iff] at hp hq
  rw [over_iff, holds_iff]
  refine ⟨h, hp.1.trans hq.1.symm, ?_⟩
  rw [← hq.2, cutA_cutA _ h, hp.2]
theorem holds_eq {p q : Pf} {a : Ad} (hp : holds p a = true) (hq : holds q a = true) (h : p.bits = q.bits) : p = q := by
  rw [holds_iff] at hp hq
  cases p; cases q
  simp only at hp hq h
  subst h
  rw [← hp.2, ← hq.2]
theorem holds_self {p : Pf} (cp : chkP p = 0) : holds p p.ad = true := by
  rw [holds_iff]
  exact ⟨rfl, chkP_cut cp⟩
theorem over_host {p : Pf} {a : Ad} (cp : chkP p = 0) : over p ⟨a, (wid a.v6 : Nat)⟩ = holds p a := by
  obtain ⟨_, h2⟩ := chkP_bits cp
  unfold over
  cases hh : holds p a
  · simp [hh]
  · have hv := (holds_iff.1 hh).1
    rw [hv] at h2
    simp [hh, h2]
theorem host_right {a : Ad} (ha : a.In) (ca : chkA a = 0) : chkP ⟨a, (wid a.v6 : Nat)⟩ = 0 := by
  have hw : cutA a ((wid a.v6 : Nat) : Int) = a := by
    rw [cutA_iff ha.wf]
    simp [cutN]
  unfold chkP
  simp only [ca, hw]
  simp
theorem host_in {a : Ad} (ha : a.In) : (⟨a, (wid a.v6 : Nat)⟩ : Pf).In := by
  have hw := wid_le a.v6
  exact ⟨ha, ⟨by show (-9223372036854775808 : Int) ≤ ((wid a.v6 : Nat) : Int); omega, by show ((wid a.v6 : Nat) : Int) < 9223372036854775808; omega⟩⟩

theorem prefix_two_eq {p q : Pf} (hp : p.In) (hq : q.In) : prefix_two_t [p, q] = some (if chkP p ≠ 0 then chkP p else chkP q, ()) := by
  unfold prefix_two_t
  have hl : loopN prefix_two_L2 FUEL (((), (lenL [p, q], ()), (0, ()), ()), ([p, q], ())) = some (if (if chkP p ≠ 0 then chkP p else chkP q) ≠ 0 then Sum.inl ((((if chkP p ≠ 0 then chkP p else chkP q), ()), ()), ([p, q], ())) else Sum.inr ((), ([p, q], ()))) := by
    rw [show FUEL = (FUEL - 3) + 1 + 1 + 1 from rfl]
    generalize FUEL - 3 = n
    rw [loopN_succ]
    simp only [prefix_two_L2]
    rw [decide_eq_true (show (0 : Int) < lenL [p, q] by simp [lenL]), br_true, req_of (inRange_of (by omega) (by simp [lenL])), show geti [p, q] 0 = some p from rfl, bind_s, prefix_Check_eq hp, bind_s]
    by_cases h1 : chkP p = 0
    · rw [decide_eq_true (show (chkP p, ()).1 = 0 from h1), Bool.not_true, br_false, req_of (i64ok_of (by omega) (by omega)), loopN_succ]
      simp only [prefix_two_L2]
      rw [decide_eq_true (show (0 : Int) + 1 < lenL [p, q] by simp [lenL]), br_true, req_of (inRange_of (by omega) (by simp [lenL])), show geti [p, q] (0 + 1) = some q from rfl, bind_s, prefix_Check_eq hq, bind_s]
      simp only [h1, ne_eq, not_true, if_false]
      by_cases h2 : chkP q = 0
      · rw [decide_eq_true (show (chkP q, ()).1 = 0 from h2), Bool.not_true, br_false, req_of (i64ok_of (by omega) (by omega)), loopN_succ]
        simp only [prefix_two_L2]
        rw [decide_eq_false (show ¬ (0 : Int) + 1 + 1 < lenL [p, q] by simp [lenL]), br_false]
        simp [h2]
      · rw [decide_eq_false (show ¬ (chkP q, ()).1 = 0 from h2), Bool.not_false, br_true]
        simp [h2]
    · rw [decide_eq_false (show ¬ (chkP p, ()).1 = 0 from h1), Bool.not_false, br_true]
      simp [h1]
  rw [hl, bind_s]
  by_cases h : (if chkP p ≠ 0 then chkP p else chkP q) = 0
  · rw [if_neg (fun h' => h' h), h]; rfl
  · rw [if_pos h]; rfl
def hasT (p q : Pf) : Bool × Int × Unit := if chkP p ≠ 0 then (false, chkP p, ()) else if chkP q ≠ 0 then (false, chkP q, ()) else (over p q, 0, ())
theorem prefix_Has_eq {p q : Pf} (hp : p.In) (hq : q.In) : prefix_Has_t p q = some (hasT p q) := by
  unfold prefix_Has_t hasT
  rw [prefix_two_eq hp hq, bind_s]
  by_cases h1 : chkP p = 0
  · by_cases h2 : chkP q = 0
    · simp only [h1, h2, ne_eq, not_true, if_false, decide_true, Bool.not_true, br_false, prefix_Over_eq h1 hq, bind_s]
    · simp only [h1, h2, ne_eq, not_true, not_false_eq_true, if_false, if_true, decide_false, Bool.not_false, br_true]
  · simp only [h1, ne_eq, not_false_eq_true, if_true, decide_false, Bool.not_false, br_true]
theorem has_right {p q : Pf} (cp : chkP p = 0) (cq : chkP q = 0) : hasT p q = (over p q, 0, ()) := by simp [hasT, cp, cq]

/-! Sums. -/
def sumN (f : Nat → Nat) : Nat → Nat
  | 0 => 0
  | n + 1 => sumN f n + f n
theorem sumN_add (f g : Nat → Nat) : ∀ n, sumN (fun m => f m + g m) n = sumN f n + sumN g n
  | 0 => rfl
  | n + 1 => by simp only [sumN, sumN_add f g n]; omega
theorem sumN_zero : ∀ n, sumN (fun _ => 0) n = 0
  | 0 => rfl
  | n + 1 => by simp only [sumN, sumN_zero n]
theorem sumN_congr {f g : Nat → Nat} : ∀ n, (∀ m, m < n → f m = g m) → sumN f n = sumN g n
  | 0, _ => rfl
  | n + 1, h => by simp only [sumN, sumN_congr n (fun m hm => h m (by omega)), h n (by omega)]
theorem sumN_one (x : Int) : ∀ n : Nat, sumN (fun m => if x = (m : Int) then 1 else 0) n = if 0 ≤ x ∧ x < (n : Int) then 1 else 0
  | 0 => by simp only [sumN]; rw [if_neg (by omega)]
  | n + 1 => by
    simp only [sumN, sumN_one x n]
    by_cases h : x = (n : Int)
    · rw [if_pos h, if_neg (by omega), if_pos (by omega)]
    · rw [if_neg h]
      by_cases h2 : 0 ≤ x ∧ x < (n : Int)
      · rw [if_pos h2, if_pos (by omega)]
      · rw [if_neg h2, if_neg (by omega)]
theorem stands_sum (l : List Pf) (N : Nat) : ∀ K : Nat, (∀ k, k < K → aboveOf l (k : Int) < (N : Int)) → sumN (fun m => (stands l (m : Int) K).length) N + sumN (fun k => if aboveOf l (k : Int) < 0 then 1 else 0) K = K
  | 0, _ => by
    have : sumN (fun m => (stands l (m : Int) 0).length) N = 0 := (sumN_congr (g := fun _ => 0) N (fun m _ => rfl)).trans (sumN_zero N)
    rw [this]
    rfl
  | K + 1, h => by
    have ih := stands_sum l N K (fun k hk => h k (by omega))
    have hK := h K (by omega)
    have e : sumN (fun m => (stands l (m : Int) (K + 1)).length) N = sumN (fun m => (stands l (m : Int) K).length) N + if 0 ≤ aboveOf l (K : Int) ∧ aboveOf l (K : Int) < (N : Int) then 1 else 0 := by
      rw [← sumN_one, ← sumN_add]
      refine sumN_congr N fun m _ => ?_
      rw [stands]
      by_cases hh : aboveOf l (K : Int) = (m : Int)
      · rw [if_pos hh, if_pos hh, List.length_append]; rfl
      · rw [if_neg hh, if_neg hh]; rfl
    rw [e, sumN]
    by_cases h0 : aboveOf l (K : Int) < 0
    · rw [if_neg (by omega), if_pos h0]; omega
    · rw [if_pos (by omega), if_neg h0]; omega
theorem aboveOf_lt (l : List Pf) (n : Int) : aboveOf l n < (l.length : Int) := by
  unfold aboveOf
  split
  · rename_i q _
    rcases best_bound (okOver l q n) l l.length with h | ⟨j, hj, h⟩ <;> rw [h] <;> omega
  · omega
theorem stands_mem {l : List Pf} {n : Int} : ∀ {K : Nat} {x : Int}, x ∈ stands l n K → ∃ k : Nat, k < K ∧ x = (k : Int) ∧ aboveOf l (k : Int) = n
  | 0, x, h => by cases h
  | K + 1, x, h => by
    unfold stands at h
    split at h
    · rename_i he
      rcases List.mem_append.1 h with h | h
      · obtain ⟨k, hk, h1, h2⟩ := stands_mem h
        exact ⟨k, by omega, h1, h2⟩
      · exact ⟨K, by omega, by simpa using h, he⟩
    · obtain ⟨k, hk, h1, h2⟩ := stands_mem h
      exact ⟨k, by omega, h1, h2⟩
theorem rdy_zero {l : List Pf} (hc : chkTab l = 0) {k : Nat} (hk : k < l.length) : rdy l (k : Int) = 0 := by
  unfold rdy
  rw [if_neg (fun h => h hc), if_neg (by unfold lenL; omega)]
theorem aboveT_at {l : List Pf} (hc : chkTab l = 0) {k : Nat} (hk : k < l.length) : aboveT l (k : Int) = if aboveOf l (k : Int) < 0 then (0, 5, ()) else (aboveOf l (k : Int), 0, ()) := by
  unfold aboveT
  rw [rdy_zero hc hk, if_neg (by decide)]
theorem above_over {l : List Pf} {k n : Nat} {p q : Pf} (hk : l[k]? = some q) (hn : l[n]? = some p) (h : aboveOf l (k : Int) = (n : Int)) : over p q = true := by
  unfold aboveOf at h
  rw [geti_at hk] at h
  simp only at h
  rcases bestTo_best (okOver l q (k : Int)) l l.length with ⟨h1, _⟩ | ⟨j, hj, h1, h2, _⟩
  · rw [h1] at h; omega
  · have : j = n := by omega
    subst this
    unfold okOver at h2
    rw [hn] at h2
    simp only [Bool.and_eq_true] at h2
    exact h2.2

def treeN (l : List Pf) (n : Nat) : Nat := sumN (fun m => (stands l (m : Int) l.length).length + if aboveOf l (m : Int) < 0 then 1 else 0) n
theorem treeN_le (l : List Pf) (hl : l.length ≤ 12) : ∀ n, n ≤ l.length → treeN l n ≤ n * 13
  | 0, _ => Nat.le_refl _
  | n + 1, h => by
    have ih := treeN_le l hl n (by omega)
    have hs := stands_len l (n : Int) l.length
    unfold treeN at ih ⊢
    rw [sumN]
    split <;> omega
theorem treeN_all (l : List Pf) : treeN l l.length = l.length := by
  unfold treeN
  rw [sumN_add]
  exact stands_sum l l.length l.length (fun k _ => aboveOf_lt l k)
/-- The one found stands below all that hold the address. -/
theorem found_best {l : List Pf} {a : Ad} {f : Nat} {q : Pf} (hf : l[f]? = some q) (hb : bestTo (okFind l a) l l.length = (f : Int)) : holds q a = true ∧ ∀ p ∈ l, holds p a = true → over p q = true := by
  rcases bestTo_best (okFind l a) l l.length with ⟨h1, _⟩ | ⟨j, hj, h1, h2, h3, _⟩
  · rw [h1] at hb; omega
  · have : j = f := by omega
    subst this
    have hqa : holds q a = true := by unfold okFind at h2; rw [hf] at h2; exact h2
    refine ⟨hqa, fun p hp ho => ?_⟩
    obtain ⟨i, hi⟩ := List.mem_iff_getElem?.1 hp
    have := h3 i (List.getElem?_eq_some_iff.1 hi).1 (by unfold okFind; rw [hi]; exact ho)
    unfold bitsAt at this
    rw [hi, hf] at this
    exact holds_over ho hqa this

/-! Part Cd. -/
/-! Less. -/
theorem num_lt_iff {a b : Ad} (ha : a.In) (hb : b.In) : a.num < b.num ↔ (a.hi < b.hi ∨ (a.hi = b.hi ∧ a.lo < b.lo)) := by
  obtain ⟨⟨a1, a2⟩, a3, a4⟩ := ha
  obtain ⟨⟨b1, b2⟩, b3, b4⟩ := hb
  unfold Ad.num
  omega
theorem ord_neg {a b : Ad} (ha : a.In) (hb : b.In) : decide (ordA a b < 0) = aheadA a b := by
  have hn := num_lt_iff ha hb
  unfold ordA ordI aheadA
  by_cases hv : a.v6 = b.v6
  · simp only [hv, ne_eq, not_true, false_and, if_false, decide_eq_decide]
    rw [hn]
    by_cases h1 : a.hi = b.hi
    · simp only [h1, not_true, if_false]
      by_cases h2 : a.lo < b.lo
      · simp [h2]
      · by_cases h3 : a.lo > b.lo
        · simp [h2, h3]
        · simp [h2, h3]
    · simp only [h1, not_false_eq_true, if_true]
      by_cases h2 : a.hi < b.hi
      · simp [h2]
      · have h3 : a.hi > b.hi := by omega
        simp [h2, h3]
  · have hv' : ¬ a.v6 = b.v6 := hv
    simp only [ne_eq, hv', not_false_eq_true, true_and, if_true]
    cases hb6 : b.v6 <;> simp
def lessA (a b : Ad) : Bool × Int × Unit := if chkA a ≠ 0 then (false, chkA a, ()) else if chkA b ≠ 0 then (false, chkA b, ()) else (decide (ordA a b < 0), 0, ())
theorem addr_Less_eq (a b : Ad) : addr_Less_t a b = some (lessA a b) := by
  unfold addr_Less_t lessA
  have hl : loopN addr_Less_L2 FUEL (((), (), (), (lenL [a, b], ()), (0, ()), ()), ((a, ()), (b, ()), [a, b], ())) = some (if chkA a ≠ 0 then Sum.inl (((false, ()), (chkA a, ()), ()), ()) else if chkA b ≠ 0 then Sum.inl (((false, ()), (chkA b, ()), ()), ()) else Sum.inr (((), (), ()), ((a, ()), (b, ()), ()))) := by
    rw [show FUEL = (FUEL - 3) + 1 + 1 + 1 from rfl]
    generalize FUEL - 3 = n
    rw [loopN_succ]
    simp only [addr_Less_L2]
    rw [decide_eq_true (show (0 : Int) < lenL [a, b] by simp [lenL]), br_true, req_of (inRange_of (by omega) (by simp [lenL])), show geti [a, b] 0 = some a from rfl, bind_s, addr_Check_eq, bind_s]
    by_cases h1 : chkA a = 0
    · rw [decide_eq_true (show (chkA a, ()).1 = 0 from h1), Bool.not_true, br_false, req_of (i64ok_of (by omega) (by omega)), loopN_succ]
      simp only [addr_Less_L2]
      rw [decide_eq_true (show (0 : Int) + 1 < lenL [a, b] by simp [lenL]), br_true, req_of (inRange_of (by omega) (by simp [lenL])), show geti [a, b] (0 + 1) = some b from rfl, bind_s, addr_Check_eq, bind_s]
      simp only [h1, ne_eq, not_true, if_false]
      by_cases h2 : chkA b = 0
      · rw [decide_eq_true (show (chkA b, ()).1 = 0 from h2), Bool.not_true, br_false, req_of (i64ok_of (by omega) (by omega)), loopN_succ]
        simp only [addr_Less_L2]
        rw [decide_eq_false (show ¬ (0 : Int) + 1 + 1 < lenL [a, b] by simp [lenL]), br_false]
        simp [h2]
      · rw [decide_eq_false (show ¬ (chkA b, ()).1 = 0 from h2), Bool.not_false, br_true]
        simp [h2]
    · rw [decide_eq_false (show ¬ (chkA a, ()).1 = 0 from h1), Bool.not_false, br_true]
      simp [h1]
  rw [hl, bind_s]
  by_cases h1 : chkA a = 0
  · by_cases h2 : chkA b = 0
    · simp only [h1, h2, ne_eq, not_true, if_false, sumC, addr_Order_eq, bind_s]
    · simp only [h1, h2, ne_eq, not_true, if_false, not_false_eq_true, if_true, sumC]
  · simp only [h1, ne_eq, not_false_eq_true, if_true, sumC]
theorem less_right {a b : Ad} (ha : a.In) (hb : b.In) (ca : chkA a = 0) (cb : chkA b = 0) : lessA a b = (aheadA a b, 0, ()) := by
  unfold lessA
  rw [if_neg (fun h => h ca), if_neg (fun h => h cb), ord_neg ha hb]

/-! The last address of a prefix. -/
theorem or_maskC (x k : Nat) (hx : x < 18446744073709551616) (hk : k ≤ 64) (hm : x % 2 ^ k = 0) : aop .or .u64 (x : Int) ((2 ^ k - 1 : Nat) : Int) = ((x + (2 ^ k - 1) : Nat) : Int) := by
  have hp := Nat.two_pow_pos k
  have hle : 2 ^ k ≤ 2 ^ 64 := Nat.pow_le_pow_right (by omega) hk
  obtain ⟨m, rfl⟩ := Nat.dvd_of_mod_eq_zero hm
  have hlt : 2 ^ k * m + 2 ^ k ≤ 18446744073709551616 := by
    have h5 : (18446744073709551616 : Nat) = 2 ^ k * 2 ^ (64 - k) := by rw [← Nat.pow_add]; rw [show k + (64 - k) = 64 by omega]
    rw [h5] at hx ⊢
    have := Nat.lt_of_mul_lt_mul_left hx
    calc 2 ^ k * m + 2 ^ k = 2 ^ k * (m + 1) := by rw [Nat.mul_add, Nat.mul_one]
      _ ≤ _ := Nat.mul_le_mul_left _ this
  have e1 : ∀ n : Nat, n < 18446744073709551616 → (BitVec.ofInt 64 (n : Int)).toNat = n := fun n hn => by
    rw [BitVec.toNat_ofInt]
    have : ((n : Int) % ((2 ^ 64 : Nat) : Int)) = (n : Int) := Int.emod_eq_of_lt (by omega) (by omega)
    rw [this]; rfl
  show IntKind.u64.wrap (((BitVec.ofInt 64 ((2 ^ k * m : Nat) : Int) ||| BitVec.ofInt 64 ((2 ^ k - 1 : Nat) : Int)).toNat : Nat) : Int) = _
  rw [BitVec.toNat_or, e1 _ (by omega), e1 _ (by omega), ← Nat.two_pow_add_eq_or_of_lt (by omega), wrap_u64 (by omega) (by omega)]
/-- How many bits are free. -/
def free (p : Pf) : Nat := wid p.ad.v6 - p.bits.toNat
theorem free_facts {p : Pf} (hp : p.In) (cp : chkP p = 0) : free p ≤ wid p.ad.v6 ∧ p.ad.num % 2 ^ free p = 0 ∧ p.ad.num + 2 ^ free p ≤ 2 ^ wid p.ad.v6 := by
  have h3 : p.ad.num % 2 ^ free p = 0 := (cutN_iff _ _).1 ((cutA_iff hp.1.wf p.bits).1 (chkP_cut cp))
  have h4 := right_num p.ad ⟨hp.1.wf, chkP_ad cp⟩
  have hk : free p ≤ wid p.ad.v6 := by unfold free; omega
  refine ⟨hk, h3, ?_⟩
  have h5 : 2 ^ wid p.ad.v6 = 2 ^ free p * 2 ^ (wid p.ad.v6 - free p) := by rw [← Nat.pow_add]; congr 1; omega
  obtain ⟨m, hm⟩ := Nat.dvd_of_mod_eq_zero h3
  rw [hm, h5] at h4 ⊢
  have := Nat.lt_of_mul_lt_mul_left h4
  calc 2 ^ free p * m + 2 ^ free p = 2 ^ free p * (m + 1) := by rw [Nat.mul_add, Nat.mul_one]
    _ ≤ _ := Nat.mul_le_mul_left _ this
theorem low_high (hi lo k : Nat) (h : (hi * 18446744073709551616 + lo) % 2 ^ k = 0) (hlo : lo < 18446744073709551616) : hi % 2 ^ (k - 64) = 0 ∧ lo % 2 ^ (min k 64) = 0 := by
  by_cases hk : k ≤ 64
  · have h5 : (18446744073709551616 : Nat) = 2 ^ k * 2 ^ (64 - k) := by rw [← Nat.pow_add]; rw [show k + (64 - k) = 64 by omega]
    rw [h5, Nat.mul_left_comm, Nat.mul_add_mod] at h
    rw [show k - 64 = 0 by omega, Nat.min_eq_left hk]
    exact ⟨Nat.mod_one _, h⟩
  · have e := pow_split (r := k) (by omega)
    rw [Nat.min_eq_right (by omega)]
    rw [e] at h
    have h1 : lo = 0 := by
      have h2 : (hi * 18446744073709551616 + lo) % 18446744073709551616 = 0 := by
        have h3 := Nat.mod_mul_left_mod (hi * 18446744073709551616 + lo) (2 ^ (k - 64)) 18446744073709551616
        rw [h] at h3
        rw [← h3]
      omega
    subst h1
    rw [Nat.add_zero, Nat.mul_mod_mul_right] at h
    refine ⟨?_, by simp⟩
    have := Nat.mul_eq_zero.1 h
    omega
theorem last_eq {p : Pf} (hp : p.In) (cp : chkP p = 0) : prefix_Last_t p = some (lastA p, ()) := by
  obtain ⟨b1, b2⟩ := chkP_bits cp
  obtain ⟨f1, f2, f3⟩ := free_facts hp cp
  have hw := wid_le p.ad.v6
  obtain ⟨⟨h1, h2⟩, h3, h4⟩ := hp.1
  unfold prefix_Last_t
  rw [prefix_mask_eq p.ad p.bits b1 b2, bind_s, maskA_parts]
  show some (_, ()) = some (ofNum p.ad.v6 (p.ad.num + (2 ^ free p - 1)), ())
  obtain ⟨hi, hhi⟩ := Int.eq_ofNat_of_zero_le h1
  obtain ⟨lo, hlo⟩ := Int.eq_ofNat_of_zero_le h3
  have hnum : p.ad.num = hi * 18446744073709551616 + lo := by unfold Ad.num; rw [hhi, hlo]; rfl
  obtain ⟨g1, g2⟩ := low_high hi lo (free p) (by rw [← hnum]; exact f2) (by omega)
  have o1 : aop .or .u64 p.ad.hi ((2 ^ (wid p.ad.v6 - p.bits.toNat - 64) - 1 : Nat) : Int) = ((hi + (2 ^ (free p - 64) - 1) : Nat) : Int) := by
    rw [hhi]
    exact or_maskC hi (free p - 64) (by omega) (by omega) g1
  have o2 : aop .or .u64 p.ad.lo ((2 ^ (min (wid p.ad.v6 - p.bits.toNat) 64) - 1 : Nat) : Int) = ((lo + (2 ^ (min (free p) 64) - 1) : Nat) : Int) := by
    rw [hlo]
    exact or_maskC lo (min (free p) 64) (by omega) (by omega) g2
  simp only [o1, o2]
  obtain ⟨m1, m2⟩ := mask_parts (free p)
  have hlt : lo + (2 ^ (min (free p) 64) - 1) < 18446744073709551616 := by
    have hle : min (free p) 64 ≤ 64 := by omega
    obtain ⟨m, hm⟩ := Nat.dvd_of_mod_eq_zero g2
    have h5 : (18446744073709551616 : Nat) = 2 ^ (min (free p) 64) * 2 ^ (64 - min (free p) 64) := by rw [← Nat.pow_add]; rw [show min (free p) 64 + (64 - min (free p) 64) = 64 by omega]
    have hl : lo < 18446744073709551616 := by omega
    have hpp := Nat.two_pow_pos (min (free p) 64)
    rw [hm, h5] at hl ⊢
    have := Nat.lt_of_mul_lt_mul_left hl
    have h7 : 2 ^ (min (free p) 64) * m + 2 ^ (min (free p) 64) ≤ 2 ^ (min (free p) 64) * 2 ^ (64 - min (free p) 64) := by
      calc 2 ^ (min (free p) 64) * m + 2 ^ (min (free p) 64) = 2 ^ (min (free p) 64) * (m + 1) := by rw [Nat.mul_add, Nat.mul_one]
        _ ≤ _ := Nat.mul_le_mul_left _ this
    omega
  have hsum : p.ad.num + (2 ^ free p - 1) = (hi + (2 ^ (free p - 64) - 1)) * 18446744073709551616 + (lo + (2 ^ (min (free p) 64) - 1)) := by
    rw [← m1, ← m2, hnum]
    omega
  rw [hsum]
  unfold ofNum
  congr 2
  simp only [Ad.mk.injEq, true_and]
  constructor <;> omega
theorem last_num {p : Pf} (hp : p.In) (cp : chkP p = 0) : (lastA p).num = p.ad.num + (2 ^ free p - 1) ∧ (lastA p).v6 = p.ad.v6 := by
  unfold lastA
  rw [num_ofNum]
  exact ⟨rfl, rfl⟩
theorem ofNum_inC {v : Bool} {n : Nat} (h : n < 2 ^ wid v) : (ofNum v n).In := by
  have : 2 ^ wid v ≤ 340282366920938463463374607431768211456 := by cases v <;> decide
  unfold ofNum
  exact ⟨⟨by simp only; omega, by simp only; omega⟩, by simp only; omega, by simp only; omega⟩
theorem ofNum_chkC {v : Bool} {n : Nat} (h : n < 2 ^ wid v) : chkA (ofNum v n) = 0 := by
  unfold chkA ofNum
  cases v
  · rw [show wid false = 32 from rfl] at h
    rw [if_neg]
    simp only
    omega
  · simp
theorem last_in {p : Pf} (hp : p.In) (cp : chkP p = 0) : (lastA p).In ∧ chkA (lastA p) = 0 := by
  obtain ⟨f1, f2, f3⟩ := free_facts hp cp
  have hpp := Nat.two_pow_pos (free p)
  have : p.ad.num + (2 ^ free p - 1) < 2 ^ wid p.ad.v6 := by omega
  exact ⟨ofNum_inC this, ofNum_chkC this⟩
/-- A prefix has what stands from its first address to its last one. -/
theorem holds_span {p : Pf} {a : Ad} (hp : p.In) (cp : chkP p = 0) (ha : a.In) : holds p a = true ↔ p.ad.v6 = a.v6 ∧ p.ad.num ≤ a.num ∧ a.num < p.ad.num + 2 ^ free p := by
  obtain ⟨f1, f2, f3⟩ := free_facts hp cp
  have hpp := Nat.two_pow_pos (free p)
  rw [holds_iff]
  constructor
  · rintro ⟨h1, h2⟩
    have h3 : p.ad.num = cutN a.num (free p) := by
      have h4 : (cutA a p.bits).num = cutN a.num (wid a.v6 - p.bits.toNat) := by unfold cutA; rw [num_ofNum]
      rw [h2] at h4
      rw [h4]
      unfold free
      rw [h1]
    unfold cutN at h3
    have := Nat.div_add_mod a.num (2 ^ free p)
    have h5 := Nat.mod_lt a.num hpp
    rw [Nat.mul_comm] at this
    refine ⟨h1, by omega, by omega⟩
  · rintro ⟨h1, h2, h3⟩
    refine ⟨h1, ?_⟩
    obtain ⟨m, hm⟩ := Nat.dvd_of_mod_eq_zero f2
    have h4 : a.num / 2 ^ free p = m := by
      apply Nat.div_eq_of_lt_le
      · rw [Nat.mul_comm]; omega
      · rw [Nat.add_mul, Nat.one_mul, Nat.mul_comm]; omega
    unfold cutA cutN
    rw [show wid a.v6 - p.bits.toNat = free p by unfold free; rw [h1], h4, ← h1, Nat.mul_comm, ← hm, ofNum_num p.ad hp.1.wf]
def endsT (p : Pf) : Ad × Ad × Int × Unit := if chkP p ≠ 0 then (⟨false, 0, 0⟩, ⟨false, 0, 0⟩, chkP p, ()) else (p.ad, lastA p, 0, ())
theorem prefix_Ends_eq {p : Pf} (hp : p.In) : prefix_Ends_t p = some (endsT p) := by
  unfold prefix_Ends_t endsT
  rw [prefix_Check_eq hp, bind_s]
  by_cases h : chkP p = 0
  · rw [decide_eq_true (show (chkP p, ()).1 = 0 from h), Bool.not_true, br_false, last_eq hp h, bind_s, if_neg (fun h' => h' h)]
  · rw [decide_eq_false (show ¬ (chkP p, ()).1 = 0 from h), Bool.not_false, br_true, if_pos h]
theorem ends_right {p : Pf} (cp : chkP p = 0) : endsT p = (p.ad, lastA p, 0, ()) := by
  unfold endsT
  rw [if_neg (fun h => h cp)]
theorem ends_wrong {p : Pf} (cp : chkP p ≠ 0) : endsT p = (⟨false, 0, 0⟩, ⟨false, 0, 0⟩, chkP p, ()) := by
  unfold endsT
  rw [if_pos cp]

theorem ends_law {p : Pf} {a : Ad} (hp : p.In) (cp : chkP p = 0) (ha : a.In) : holds p a = (!aheadA a p.ad && !aheadA (lastA p) a) := by
  have hpp := Nat.two_pow_pos (free p)
  obtain ⟨l1, l2⟩ := last_num hp cp
  rw [Bool.eq_iff_iff, holds_span hp cp ha]
  unfold aheadA
  rw [l1, l2]
  by_cases hv : p.ad.v6 = a.v6
  · have hv' := hv.symm
    simp only [hv, ne_eq, not_true, if_false, true_and, Bool.and_eq_true, Bool.not_eq_true', decide_eq_false_iff_not]
    omega
  · have hv' : ¬ a.v6 = p.ad.v6 := fun h => hv h.symm
    simp only [hv, hv', ne_eq, not_false_eq_true, if_true, false_and, false_iff]
    cases h1 : a.v6 <;> cases h2 : p.ad.v6 <;> simp_all
theorem over_refl {p : Pf} (cp : chkP p = 0) : over p p = true := over_iff.2 ⟨Int.le_refl _, holds_self cp⟩
theorem over_trans {p q r : Pf} (h : over p q = true) (h2 : over q r = true) : over p r = true := by
  obtain ⟨b1, b2⟩ := over_iff.1 h2
  exact over_iff.2 ⟨Int.le_trans (over_iff.1 h).1 b1, over_holds h b2⟩
theorem over_antisymm {p q : Pf} (cq : chkP q = 0) (h : over p q = true) (h2 : over q p = true) : p = q := by
  have b1 := (over_iff.1 h).1
  have b2 := (over_iff.1 h2).1
  exact holds_eq (over_iff.1 h).2 (holds_self cq) (by omega)
theorem apart_one {p q : Pf} (hp : p.In) (hq : q.In) (cp : chkP p = 0) (cq : chkP q = 0) (hv : p.ad.v6 = q.ad.v6) (h1 : q.ad.num ≤ p.ad.num + (2 ^ free p - 1)) (h2 : p.ad.num ≤ q.ad.num + (2 ^ free q - 1)) (hb : p.bits ≤ q.bits) : over p q = true := by
  rw [over_iff]
  refine ⟨hb, (holds_span hp cp hq.1).2 ⟨hv, ?_, by have := Nat.two_pow_pos (free p); omega⟩⟩
  obtain ⟨_, f2, _⟩ := free_facts hp cp
  obtain ⟨_, g2, _⟩ := free_facts hq cq
  have hle : free q ≤ free p := by unfold free; rw [hv]; omega
  have e : 2 ^ free p = 2 ^ free q * 2 ^ (free p - free q) := by rw [← Nat.pow_add]; congr 1; omega
  obtain ⟨m, hm⟩ := Nat.dvd_of_mod_eq_zero f2
  obtain ⟨k, hk⟩ := Nat.dvd_of_mod_eq_zero g2
  have hpos := Nat.two_pow_pos (free q)
  have hm' : p.ad.num = 2 ^ free q * (2 ^ (free p - free q) * m) := by rw [hm, e, Nat.mul_assoc]
  rw [hm', hk] at h2 ⊢
  apply Nat.mul_le_mul_left
  apply Nat.le_of_lt_succ
  apply Nat.lt_of_mul_lt_mul_left (a := 2 ^ free q)
  rw [Nat.mul_succ]
  omega
theorem apart_law {p q : Pf} (hp : p.In) (hq : q.In) (cp : chkP p = 0) (cq : chkP q = 0) (h1 : over p q = false) (h2 : over q p = false) : (aheadA (lastA p) q.ad || aheadA (lastA q) p.ad) = true := by
  obtain ⟨l1, l2⟩ := last_num hp cp
  obtain ⟨k1, k2⟩ := last_num hq cq
  unfold aheadA
  rw [l1, l2, k1, k2]
  by_cases hv : p.ad.v6 = q.ad.v6
  · have hv' := hv.symm
    simp only [hv, ne_eq, not_true, if_false, Bool.or_eq_true, decide_eq_true_eq]
    by_cases a1 : p.ad.num + (2 ^ free p - 1) < q.ad.num
    · exact .inl a1
    by_cases a2 : q.ad.num + (2 ^ free q - 1) < p.ad.num
    · exact .inr a2
    exfalso
    by_cases hb : p.bits ≤ q.bits
    · rw [apart_one hp hq cp cq hv (by omega) (by omega) hb] at h1; cases h1
    · rw [apart_one hq hp cq cp hv' (by omega) (by omega) (by omega)] at h2; cases h2
  · have hv' : ¬ q.ad.v6 = p.ad.v6 := fun h => hv h.symm
    simp only [hv, hv', ne_eq, not_false_eq_true, if_true]
    cases h1 : q.ad.v6 <;> cases h2 : p.ad.v6 <;> simp_all
theorem has_wrong {p q : Pf} (h : ¬ (chkP p = 0 ∧ chkP q = 0)) : ∃ e, e ≠ 0 ∧ hasT p q = (false, e, ()) := by
  unfold hasT
  by_cases h1 : chkP p = 0
  · have h2 : chkP q ≠ 0 := fun h2 => h ⟨h1, h2⟩
    exact ⟨chkP q, h2, by rw [if_neg (fun h' => h' h1), if_pos h2]⟩
  · exact ⟨chkP p, h1, by rw [if_pos h1]⟩
theorem apart_end {p q r : Pf} (hp : p.In) (hq : q.In) (hr : r.In) (cp : chkP p = 0) (cq : chkP q = 0) (A : Bool) (hA : A = over p q) :
    ((prefix_Has_t q r).bind fun y8 => (prefix_Has_t p r).bind fun y9 =>
      (br (!decide (y8.2.1 = 0)) (some true) (br (decide (y9.2.1 = 0)) (br (!A) (some true) (br (!y8.1) (some true) (some y9.1))) (some false))).bind fun c10 => some (c10, ())) = some (true, ()) := by
  rw [prefix_Has_eq hq hr, bind_s, prefix_Has_eq hp hr, bind_s]
  by_cases cr : chkP r = 0
  · rw [has_right cq cr, has_right cp cr]
    simp only [decide_true, Bool.not_true, br_false, br_true]
    cases hA2 : A
    · rfl
    · rw [hA2] at hA
      cases h2 : over q r
      · rfl
      · rw [over_trans hA.symm h2]; rfl
  · obtain ⟨e, he, h1⟩ := has_wrong (p := q) (q := r) (fun h => cr h.2)
    rw [h1]
    simp only [he, decide_false, Bool.not_false, br_true, bind_s]

/-! Part Lm. -/
theorem ofF_iff (p : Pf) : ∀ (m bf : List Ls), ofF p bf m = 0 ↔ (∀ x ∈ m, holds p x.ad = true) ∧ (∀ y ∈ bf, ∀ x ∈ m, y.who ≠ x.who) ∧ m.Pairwise fun x y => x.who ≠ y.who
  | [], bf => by simp [ofF]
  | x :: r, bf => by
    unfold ofF
    by_cases h1 : holds p x.ad = true
    · rw [if_neg (by simp [h1])]
      by_cases h2 : bf.any (whoP x.who) = true
      · rw [if_pos h2]
        constructor
        · intro h; exact absurd h (by decide)
        · rintro ⟨_, h3, _⟩
          obtain ⟨y, hy, hq⟩ := List.any_eq_true.1 h2
          exact absurd (by simpa [whoP] using hq) (h3 y hy x (by simp))
      · rw [if_neg h2, ofF_iff p r (bf ++ [x])]
        have h2' : ∀ y ∈ bf, y.who ≠ x.who := fun y hy he => h2 (List.any_eq_true.2 ⟨y, hy, by simp [whoP, he]⟩)
        constructor
        · rintro ⟨a1, a2, a3⟩
          refine ⟨fun z hz => ?_, fun y hy z hz => ?_, List.pairwise_cons.2 ⟨fun z hz => a2 x (by simp) z hz, a3⟩⟩
          · rcases List.mem_cons.1 hz with rfl | hz
            · exact h1
            · exact a1 z hz
          · rcases List.mem_cons.1 hz with rfl | hz
            · exact h2' y hy
            · exact a2 y (by simp [hy]) z hz
        · rintro ⟨a1, a2, a3⟩
          obtain ⟨b1, b2⟩ := List.pairwise_cons.1 a3
          refine ⟨fun z hz => a1 z (by simp [hz]), fun y hy z hz => ?_, b2⟩
          rcases List.mem_append.1 hy with hy | hy
          · exact a2 y hy z (by simp [hz])
          · have : y = x := by simpa using hy
            subst this
            exact b1 z hz
    · rw [if_pos (by simpa using h1)]
      constructor
      · intro h; exact absurd h (by decide)
      · rintro ⟨a1, _⟩; exact absurd (a1 x (by simp)) h1
/-- Leases of a pool that are right. -/
structure Good (p : Pf) (m : List Ls) : Prop where
  ins : lsIn m
  chk : ∀ x ∈ m, chkLs x = 0
  held : ∀ x ∈ m, holds p x.ad = true
  asc : m.Pairwise fun x y => rank x.ad < rank y.ad
  whos : m.Pairwise fun x y => x.who ≠ y.who
theorem good_of {p : Pf} {kp : List Ad} {l : List Ls} {now : Int} (h : lsIn l) (hc : chkOf p kp l now = 0) : Good p l := by
  obtain ⟨c1, c2, c3⟩ := chkOf_ok hc
  obtain ⟨a1, a2, a3, a4⟩ := allC_ok c2
  obtain ⟨o1, _, o3⟩ := (ofF_iff p l []).1 c3
  exact ⟨h, a2, o1, (asc_pair h).1 a3, o3⟩
theorem Good.live {p : Pf} {l : List Ls} (g : Good p l) (now : Int) : Good p (live l now) :=
  ⟨fun x hx => g.ins x (live_mem hx).1, fun x hx => g.chk x (live_mem hx).1, fun x hx => g.held x (live_mem hx).1, g.asc.filter _, g.whos.filter _⟩
theorem asc_len {lo : Nat} : ∀ {l : List Nat} {hi : Nat}, l.Pairwise (· < ·) → (∀ x ∈ l, lo ≤ x ∧ x < hi) → l.length ≤ hi - lo
  | [], _, _, _ => Nat.zero_le _
  | x :: r, hi, h, hb => by
    obtain ⟨h1, h2⟩ := List.pairwise_cons.1 h
    have hx := hb x (by simp)
    have := asc_len (lo := x + 1) (l := r) (hi := hi) h2 fun y hy => ⟨h1 y hy, (hb y (by simp [hy])).2⟩
    simp only [List.length_cons]
    omega
theorem Good.len {p : Pf} {l : List Ls} (g : Good p l) (hp : p.In) (cp : chkP p = 0) (hn : ((wid p.ad.v6 : Nat) : Int) - p.bits ≤ 4) : l.length ≤ 16 := by
  obtain ⟨n1, n2, n3, n4⟩ := narrow hp cp hn
  have h := asc_len (lo := rank p.ad) (l := l.map fun x => rank x.ad) (hi := rank p.ad + 16) (by rw [List.pairwise_map]; exact g.asc) fun y hy => by
    obtain ⟨x, hx, rfl⟩ := List.mem_map.1 hy
    obtain ⟨s1, s2, s3⟩ := (holds_span hp cp (g.ins x hx).1).1 (g.held x hx)
    have e : free p = freeBits p := rfl
    rw [e] at s3
    unfold rank
    rw [s1]
    omega
  rw [List.length_map] at h
  omega
theorem Good.ok {p : Pf} {l : List Ls} (g : Good p l) {kp : List Ad} (hp : p.In) (hc : chkPool p kp = 0) {now : Int} (ht : betw now 0 9999 = true) : chkOf p kp l now = 0 := by
  obtain ⟨cp, hn, _⟩ := chkPool_ok hc
  have hlen := g.len hp cp hn
  have ha : allC l now = 0 := by
    unfold allC
    rw [if_neg (by omega), chkLsF_of g.chk, if_neg (fun h => h rfl), (asc_pair g.ins).2 g.asc, if_neg (by simp), ht, if_neg (by simp)]
  unfold chkOf
  rw [hc, if_neg (fun h => h rfl), ha, if_neg (fun h => h rfl)]
  exact (ofF_iff p l []).2 ⟨g.held, fun y hy => absurd hy (by simp), g.whos⟩
theorem mem_setQ {b : List Ls} {k : Nat} {v x : Ls} (h : x ∈ b.set k v) : x ∈ b ∨ x = v := (List.mem_or_eq_of_mem_set h)
theorem map_set_same {α : Type} (f : Ls → α) {b : List Ls} {k : Nat} {e v : Ls} (he : b[k]? = some e) (h : f v = f e) : (b.set k v).map f = b.map f := by
  rw [List.map_set, h]
  have hk := (List.getElem?_eq_some_iff.1 he).1
  have : f e = (b.map f)[k]'(by simpa using hk) := by
    rw [List.getElem_map, (List.getElem?_eq_some_iff.1 he).2]
  rw [this, List.set_getElem_self]
theorem chkLs_new {a : Ad} {who : ByteArray} {u : Int} (ca : chkA a = 0) (hw : whoOk who = true) (hu : betw u 0 10499 = true) : chkLs ⟨a, who, u⟩ = 0 := by
  unfold chkLs
  simp only [ca, hw, hu]
  simp
theorem Good.set {p : Pf} {b : List Ls} (g : Good p b) {k : Nat} {e : Ls} (he : b[k]? = some e) {u : Int} (hu : betw u 0 10499 = true) : Good p (b.set k ⟨e.ad, e.who, u⟩) := by
  have hm := List.mem_of_getElem? he
  obtain ⟨u1, u2⟩ := betw_iff.1 hu
  obtain ⟨e1, e2, e3⟩ := chkLs_ad (g.chk e hm)
  obtain ⟨i1, i2, i3⟩ := g.ins e hm
  refine ⟨fun x hx => ?_, fun x hx => ?_, fun x hx => ?_, ?_, ?_⟩
  · rcases mem_setQ hx with hx | rfl
    · exact g.ins x hx
    · exact ⟨i1, i2, ⟨by show (-9223372036854775808 : Int) ≤ u; omega, by show u < 9223372036854775808; omega⟩⟩
  · rcases mem_setQ hx with hx | rfl
    · exact g.chk x hx
    · exact chkLs_new e1 e2 hu
  · rcases mem_setQ hx with hx | rfl
    · exact g.held x hx
    · exact g.held e hm
  · have := g.asc
    rw [← List.pairwise_map (f := fun x : Ls => rank x.ad) (R := (· < ·))] at this ⊢
    rwa [map_set_same (fun x : Ls => rank x.ad) (v := ⟨e.ad, e.who, u⟩) he rfl]
  · have := g.whos
    rw [← List.pairwise_map (f := fun x : Ls => x.who) (R := (· ≠ ·))] at this ⊢
    rwa [map_set_same (fun x : Ls => x.who) (v := ⟨e.ad, e.who, u⟩) he rfl]
theorem mem_ins {b : List Ls} {x y : Ls} : y ∈ insAt b x ↔ y ∈ b ∨ y = x := by
  unfold insAt
  have h := List.take_append_drop (posF x.ad b) b
  rw [List.mem_append, List.mem_cons]
  constructor
  · rintro (h1 | rfl | h1)
    · exact .inl (List.mem_of_mem_take h1)
    · exact .inr rfl
    · exact .inl (List.mem_of_mem_drop h1)
  · rintro (h1 | rfl)
    · rw [← h] at h1
      rcases List.mem_append.1 h1 with h2 | h2
      · exact .inl h2
      · exact .inr (.inr h2)
    · exact .inr (.inl rfl)
theorem Good.put {p : Pf} {b : List Ls} (g : Good p b) {a : Ad} (ha : a.In) (ca : chkA a = 0) (hh : holds p a = true) (hfree : ∀ x ∈ b, x.ad ≠ a) {who : ByteArray} (hs : strIn who) (hw : whoOk who = true) (hno : ∀ x ∈ b, x.who ≠ who) {u : Int} (hu : betw u 0 10499 = true) :
    Good p (insAt b ⟨a, who, u⟩) := by
  obtain ⟨u1, u2⟩ := betw_iff.1 hu
  have hsplit := List.take_append_drop (posF a b) b
  have hasc := g.asc
  have hwhos := g.whos
  rw [← hsplit, List.pairwise_append] at hasc hwhos
  have hpos := fun (h : Nat) (x : Ls) (hx : b[h]? = some x) => pos_iff ha g.ins ((asc_pair g.ins).2 g.asc) hx
  have hlo : ∀ y ∈ b.take (posF a b), rank y.ad < rank a := fun y hy => by
    obtain ⟨i, hi⟩ := List.getElem?_of_mem hy
    have hi2 : i < posF a b := by
      have := (List.getElem?_eq_some_iff.1 hi).1
      simp at this
      omega
    rw [List.getElem?_take_of_lt hi2] at hi
    exact (ord_rank (g.ins y (List.mem_of_getElem? hi)).1 ha).1.1 ((hpos i y hi).2 hi2)
  have hhi : ∀ y ∈ b.drop (posF a b), rank a < rank y.ad := fun y hy => by
    obtain ⟨i, hi⟩ := List.getElem?_of_mem hy
    rw [List.getElem?_drop] at hi
    have hm := List.mem_of_getElem? hi
    have h1 : ¬ rank y.ad < rank a := fun h => by
      have := (hpos _ y hi).1 ((ord_rank (g.ins y hm).1 ha).1.2 h)
      omega
    have h2 : rank y.ad ≠ rank a := fun h => hfree y hm (rank_inj (g.ins y hm).1 ha h)
    omega
  refine ⟨fun x hx => ?_, fun x hx => ?_, fun x hx => ?_, ?_, ?_⟩
  · rcases mem_ins.1 hx with hx | rfl
    · exact g.ins x hx
    · exact ⟨ha, hs, ⟨by show (-9223372036854775808 : Int) ≤ u; omega, by show u < 9223372036854775808; omega⟩⟩
  · rcases mem_ins.1 hx with hx | rfl
    · exact g.chk x hx
    · exact chkLs_new ca hw hu
  · rcases mem_ins.1 hx with hx | rfl
    · exact g.held x hx
    · exact hh
  · unfold insAt
    rw [List.pairwise_append, List.pairwise_cons]
    refine ⟨hasc.1, ⟨hhi, hasc.2.1⟩, fun y hy z hz => ?_⟩
    rcases List.mem_cons.1 hz with rfl | hz
    · exact hlo y hy
    · exact hasc.2.2 y hy z hz
  · unfold insAt
    rw [List.pairwise_append, List.pairwise_cons]
    refine ⟨hwhos.1, ⟨fun z hz he => hno z (List.mem_of_mem_drop hz) he.symm, hwhos.2.1⟩, fun y hy z hz => ?_⟩
    rcases List.mem_cons.1 hz with rfl | hz
    · exact hno y (List.mem_of_mem_take hy)
    · exact hwhos.2.2 y hy z hz
/-- Who is there is found. -/
theorem who_at {m : List Ls} (h : m.Pairwise fun x y => x.who ≠ y.who) {x : Ls} (hx : x ∈ m) : ∃ k, firstF (whoP x.who) m = some k ∧ m[k]? = some x := by
  cases hf : firstF (whoP x.who) m with
  | none =>
    have := firstF_none hf x hx
    simp [whoP] at this
  | some k =>
    obtain ⟨y, hy, hq, _⟩ := firstF_some hf
    refine ⟨k, rfl, ?_⟩
    have hyx : y.who = x.who := by simpa [whoP] using hq
    obtain ⟨i, hi⟩ := List.getElem?_of_mem hx
    obtain ⟨k1, k2⟩ := List.getElem?_eq_some_iff.1 hy
    obtain ⟨i1, i2⟩ := List.getElem?_eq_some_iff.1 hi
    have hp := List.pairwise_iff_getElem.1 h
    rcases Nat.lt_trichotomy k i with h1 | h1 | h1
    · exact absurd (by rw [k2, i2]; exact hyx) (hp k i k1 i1 h1)
    · subst h1; exact hi
    · exact absurd (by rw [k2, i2]; exact hyx.symm) (hp i k i1 k1 h1)
/-- What a grant that was given gives. -/
structure Given (p : Pf) (kp : List Ad) (l : List Ls) (who : ByteArray) (now u : Int) (m : List Ls) (a : Ad) : Prop where
  good : Good p m
  alive : ∀ x ∈ m, now ≤ x.upto
  mine : (⟨a, who, u⟩ : Ls) ∈ m
  others : ∀ x ∈ l, now ≤ x.upto → x.who ≠ who → x ∈ m
  fresh : (∀ x ∈ l, now ≤ x.upto → x.who ≠ who) → ∀ x ∈ kp, x ≠ a
theorem given_of {p : Pf} (hp : p.In) {kp : List Ad} {l : List Ls} (hl : lsIn l) {who : ByteArray} (hw : strIn who) {now ttl : Int} {m : List Ls} {a : Ad} (h : grantOf p kp l who now ttl = (m, a, 0, ())) :
    chkOf p kp l now = 0 ∧ whoOk who = true ∧ Given p kp l who now (now + ttl) m a := by
  unfold grantOf at h
  split at h
  · rename_i hc
    exact absurd (congrArg (fun y => y.2.2.1) h) hc
  rename_i hc
  have hc : chkOf p kp l now = 0 := Decidable.not_not.1 hc
  split at h
  · exact absurd (show (1 : Int) = 0 from congrArg (fun y => y.2.2.1) h) (by decide)
  rename_i hwo
  have hwo : whoOk who = true := by simpa using hwo
  split at h
  · exact absurd (show (3 : Int) = 0 from congrArg (fun y => y.2.2.1) h) (by decide)
  rename_i ht
  have ht : betw ttl 1 500 = true := by simpa using ht
  split at h
  · exact absurd (show (8 : Int) = 0 from congrArg (fun y => y.2.2.1) h) (by decide)
  rename_i hr
  obtain ⟨c1, c2, c3⟩ := chkOf_ok hc
  obtain ⟨cp, hn, _⟩ := chkPool_ok c1
  obtain ⟨t1, t2⟩ := betw_iff.1 ht
  obtain ⟨v1, v2⟩ := betw_iff.1 (allC_ok c2).2.2.2
  have hu : betw (now + ttl) 0 10499 = true := betw_iff.2 ⟨by omega, by omega⟩
  have g := (good_of hl hc).live now
  have hlm : ∀ x ∈ l, now ≤ x.upto → x ∈ live l now := fun x hx h => List.mem_filter.2 ⟨hx, by simp [liveP, h]⟩
  have hm : (rawOf p kp (live l now) who (now + ttl)).1 = m := congrArg (fun y => y.1) h
  have ha : (rawOf p kp (live l now) who (now + ttl)).2.1 = a := congrArg (fun y => y.2.1) h
  clear h
  refine ⟨hc, hwo, ?_⟩
  unfold rawOf at hm ha hr
  cases hf : firstF (whoP who) (live l now) with
  | some k =>
    rw [hf] at hm ha hr
    obtain ⟨e, he, hq, _⟩ := firstF_some hf
    have hew : e.who = who := by simpa [whoP] using hq
    simp only [keepOn, he] at hm ha
    subst hm ha
    have hk := (List.getElem?_eq_some_iff.1 he).1
    refine ⟨g.set he hu, fun x hx => ?_, ?_, fun x hx hx2 hx3 => ?_, fun hno => ?_⟩
    · rcases mem_setQ hx with hx | rfl
      · exact (live_mem hx).2
      · show now ≤ now + ttl
        omega
    · rw [← hew]
      exact List.mem_of_getElem? (List.getElem?_set_self (by exact hk))
    · obtain ⟨i, hi⟩ := List.getElem?_of_mem (hlm x hx hx2)
      have hik : k ≠ i := fun h => by
        subst h
        rw [he] at hi
        injection hi with hi
        exact hx3 (by rw [← hi, hew])
      exact List.mem_of_getElem? ((List.getElem?_set_ne hik).trans hi)
    · have hm := live_mem (List.mem_of_getElem? he)
      exact absurd hew (hno e hm.1 hm.2)
  | none =>
    rw [hf] at hm ha hr
    cases hfr : freeOf p kp (live l now) with
    | none =>
      rw [hfr] at hr
      exact absurd rfl hr
    | some b =>
      rw [hfr] at hm ha
      simp only [putNew] at hm ha
      subst hm ha
      obtain ⟨⟨i, hi, hbi⟩, htk⟩ := freeOf_some hfr
      obtain ⟨n1, n2, n3, n4⟩ := narrow hp cp hn
      obtain ⟨b1, b2⟩ := addrI_in n4 hi
      unfold takenB at htk
      simp only [Bool.or_eq_false_iff, List.any_eq_false, decide_eq_true_eq] at htk
      have hno : ∀ x ∈ live l now, x.who ≠ who := fun x hx he => by
        have := firstF_none hf x hx
        simp [whoP, he] at this
      refine ⟨g.put (by rw [hbi]; exact b1) (by rw [hbi]; exact b2) (by rw [hbi, holds_at hp cp hn]; exact decide_eq_true hi) htk.2 hw hwo hno hu, fun x hx => ?_, mem_ins.2 (.inr rfl), fun x hx hx2 hx3 => mem_ins.2 (.inl (hlm x hx hx2)), fun _ x hx he => htk.1 x hx he.symm⟩
      rcases mem_ins.1 hx with hx | rfl
      · exact (live_mem hx).2
      · show now ≤ now + ttl
        omega
theorem grant_err {p : Pf} {kp : List Ad} {l : List Ls} {who : ByteArray} {now ttl : Int} (h : (grantOf p kp l who now ttl).2.2.1 ≠ 0) : ∃ e, e ≠ 0 ∧ grantOf p kp l who now ttl = ([], ⟨false, 0, 0⟩, e, ()) := by
  unfold grantOf at h ⊢
  split
  · rename_i hc
    exact ⟨_, hc, rfl⟩
  rename_i hc
  rw [if_neg hc] at h
  split
  · exact ⟨1, by decide, rfl⟩
  rename_i hc2
  rw [if_neg hc2] at h
  split
  · exact ⟨3, by decide, rfl⟩
  rename_i hc3
  rw [if_neg hc3] at h
  split
  · exact ⟨8, by decide, rfl⟩
  rename_i hc4
  rw [if_neg hc4] at h
  exact absurd rfl h
abbrev QO := Bool × Int × Int × Int × Unit
/-- Has he a lease that is not over? -/
def hasP (who : ByteArray) (now : Int) (x : Ls) : Bool := decide (x.who = who) && liveP now x
theorem once_loop1 {l m : List Ls} (hl : l.length ≤ 1048576) (hm : m.length ≤ 1048576) (who : ByteArray) (now more : Int) (kp : List Ad) (q : QO) (a : Ad) (hw : m.Pairwise fun x y => x.who ≠ y.who) (ho : ∀ x ∈ l, now ≤ x.upto → x.who ≠ who → x ∈ m) :
    loopN law_LeaseOnce_L13 FUEL (((), (who, ()), (now, ()), (more, ()), (), (), (), (true, ()), (0, ()), ()), (kp, l, q, m, (a, ()), ())) =
      some (Sum.inr (((who, ()), (now, ()), (more, ()), (), (), (), (!l.any (hasP who now), ()), ()), (kp, l, q, m, (a, ()), ()))) := by
  obtain ⟨q1, q2, q3, q4, _⟩ := q
  have := loop_up (step := law_LeaseOnce_L13) (fun i => (((), (who, ()), (now, ()), (more, ()), (), (), (), (!(l.take i).any (hasP who now), ()), ((i : Int), ()), ()), (kp, l, (q1, q2, q3, q4, ()), m, (a, ()), ()))) l.length
    (fun _ => some (Sum.inr (((who, ()), (now, ()), (more, ()), (), (), (), (!l.any (hasP who now), ()), ()), (kp, l, (q1, q2, q3, q4, ()), m, (a, ()), ())))) (fun rec i hi hr => ?_) (fun rec => ?_) FUEL 0 (Nat.zero_le _) (fuel_gt (by omega))
  · simpa using this
  · obtain ⟨x, hx⟩ : ∃ x, l[i]? = some x := ⟨_, List.getElem?_eq_getElem hi⟩
    have hxm := List.mem_of_getElem? hx
    have r1 : inRange (i : Int) (lenL l) = true := inRange_of (by omega) (by unfold lenL; omega)
    have hst : (!(l.take (i + 1)).any (hasP who now)) = (!(l.take i).any (hasP who now) && !hasP who now x) := by
      rw [take_at hx, List.any_append]
      simp [Bool.not_or]
    rw [hst] at hr
    simp only [law_LeaseOnce_L13]
    rw [decide_eq_true (show (i : Int) < lenL l by unfold lenL; omega), br_true]
    simp only [r1, req_true, geti_at hx, bind_s, strcmp_eql]
    have hi64 : i64ok ((i : Int) + 1) = true := i64ok_of (by omega) (by omega)
    have hcast : ((i : Int) + 1) = ((i + 1 : Nat) : Int) := by omega
    by_cases h1 : x.who = who
    · by_cases h2 : now ≤ x.upto
      · have hh : hasP who now x = true := by simp [hasP, liveP, h1, h2]
        rw [hh, Bool.not_true, Bool.and_false] at hr
        simp only [h1, decide_true, br_true, bind_s, ge_iff_le, h2, hi64, req_true]
        rw [hcast, hr]
      · have hh : hasP who now x = false := by simp [hasP, liveP, h2]
        rw [hh, Bool.not_false, Bool.and_true] at hr
        simp only [h1, decide_true, br_true, bind_s, ge_iff_le, h2, decide_false, br_false, hi64, req_true]
        rw [hcast, hr]
    · have hh : hasP who now x = false := by simp [hasP, h1]
      rw [hh, Bool.not_false, Bool.and_true] at hr
      simp only [h1, decide_false, br_false, bind_s]
      by_cases h2 : x.upto < now
      · simp only [h2, decide_true, br_true, hi64, req_true]
        rw [hcast, hr]
      · simp only [h2, decide_false, br_false]
        obtain ⟨k, hk1, hk2⟩ := who_at hw (ho x hxm (by omega) h1)
        have hkl := (List.getElem?_eq_some_iff.1 hk2).1
        have r2 : inRange (k : Int) (lenL m) = true := inRange_of (by omega) (by unfold lenL; omega)
        rw [R_WhoAt_eq (by omega), bind_s, hk1]
        rw [decide_eq_false (show ¬ (idxI (some k), ()).1 < 0 by show ¬ (k : Int) < 0; omega), br_false]
        simp only [idxI]
        simp only [r2, req_true, geti_at hk2, bind_s, eqLs_eq, decide_true, Bool.not_true, br_false, hi64]
        rw [hcast, hr]
  · simp only [law_LeaseOnce_L13]
    rw [decide_eq_false (show ¬ (l.length : Int) < lenL l by unfold lenL; omega), br_false, List.take_length]
theorem once_loop2 {kp : List Ad} (hk : kp.length ≤ 1048576) (who : ByteArray) (now more : Int) (l m : List Ls) (q : QO) (a : Ad) (z : Bool) (hz : z = true → ∀ x ∈ kp, x ≠ a) :
    loopN law_LeaseOnce_L22 FUEL (((who, ()), (now, ()), (more, ()), (), (), (), (z, ()), (0, ()), ()), (kp, l, q, m, (a, ()), ())) =
      some (Sum.inr (((who, ()), (now, ()), (more, ()), (), (), (), ()), (kp, l, q, m, (a, ()), ()))) := by
  obtain ⟨q1, q2, q3, q4, _⟩ := q
  have := loop_up (step := law_LeaseOnce_L22) (fun i => (((who, ()), (now, ()), (more, ()), (), (), (), (z, ()), ((i : Int), ()), ()), (kp, l, (q1, q2, q3, q4, ()), m, (a, ()), ()))) kp.length
    (fun _ => some (Sum.inr (((who, ()), (now, ()), (more, ()), (), (), (), ()), (kp, l, (q1, q2, q3, q4, ()), m, (a, ()), ())))) (fun rec i hi hr => ?_) (fun rec => ?_) FUEL 0 (Nat.zero_le _) (fuel_gt (by omega))
  · simpa using this
  · obtain ⟨x, hx⟩ : ∃ x, kp[i]? = some x := ⟨_, List.getElem?_eq_getElem hi⟩
    have r1 : inRange (i : Int) (lenL kp) = true := inRange_of (by omega) (by unfold lenL; omega)
    simp only [law_LeaseOnce_L22]
    rw [decide_eq_true (show (i : Int) < lenL kp by unfold lenL; omega), br_true]
    simp only [r1, req_true, geti_at hx, bind_s, eqAd_eq]
    cases hz2 : z
    · simp only [br_false, bind_s]
      rw [hz2] at hr
      rw [show ((i : Int) + 1) = ((i + 1 : Nat) : Int) by omega, req_of (i64ok_of (by omega) (by omega)), hr]
    · rw [hz2] at hr
      simp only [br_true, bind_s]
      rw [decide_eq_false (hz hz2 x (List.mem_of_getElem? hx)), br_false, show ((i : Int) + 1) = ((i + 1 : Nat) : Int) by omega, req_of (i64ok_of (by omega) (by omega)), hr]
  · simp only [law_LeaseOnce_L22]
    rw [decide_eq_false (show ¬ (kp.length : Int) < lenL kp by unfold lenL; omega), br_false]
theorem pf_etaQ (p : Pf) : (⟨(⟨p.ad.v6, p.ad.hi, p.ad.lo⟩ : Ad), p.bits⟩ : Pf) = p := rfl
theorem LeaseOnce_eq {p : Pf} (hp : p.In) {kp : List Ad} (hk : rowIn .addr kp) {l : List Ls} (hl : rowIn .lease l) {who : ByteArray} (hw : strIn who) (now ttl more : Int) : law_LeaseOnce_t p kp l who now ttl more = some (true, ()) := by
  have hki : adIn kp := hk.2
  have hli : lsIn l := hl.2
  unfold law_LeaseOnce_t
  rw [leaseBegun_eq, bind_s, Bool.not_true, br_false, prefixBegun_eq, bind_s, bind_s, Bool.not_true, br_false, lease_Grant_eq hp hki hli hw, bind_s]
  by_cases he : (grantOf p kp l who now ttl).2.2.1 = 0
  rotate_left
  · obtain ⟨e, he1, hg⟩ := grant_err he
    rw [hg]
    simp only [he1, decide_false, Bool.not_false, br_true]
    rfl
  obtain ⟨m, a, hg⟩ : ∃ m a, grantOf p kp l who now ttl = (m, a, 0, ()) := ⟨_, _, by rw [← he]⟩
  rw [hg]
  obtain ⟨hc, hwo, G⟩ := given_of hp hli hw hg
  obtain ⟨c1, c2, c3⟩ := chkOf_ok hc
  obtain ⟨cp, hn, hk6⟩ := chkPool_ok c1
  have hnow := (allC_ok c2).2.2.2
  have hl20 := (allC_ok c2).1
  have hm16 := G.good.len hp cp hn
  have hcm : chkOf p kp m now = 0 := G.good.ok hp c1 hnow
  have hain : a.In := (G.good.ins _ G.mine).1
  have hca : chkA a = 0 := (chkLs_ad (G.good.chk _ G.mine)).1
  have hha : holds p a = true := G.good.held _ G.mine
  simp only [decide_true, Bool.not_true, br_false]
  rw [lease_Check_eq hp hki G.good.ins, bind_s]
  simp only [hcm, decide_true, Bool.not_true, br_false]
  rw [R_HasAddr_eq hp cp hain hca, bind_s, bind_s]
  simp only [hha, Bool.not_true, br_false]
  obtain ⟨i, hi1, hi2⟩ := who_at G.good.whos G.mine
  have hi1 : firstF (whoP who) m = some i := hi1
  have hil := (List.getElem?_eq_some_iff.1 hi2).1
  have r1 : inRange (i : Int) (lenL m) = true := inRange_of (by omega) (by unfold lenL; omega)
  rw [R_WhoAt_eq (by omega), bind_s, hi1]
  obtain ⟨v1, v2⟩ := betw_iff.1 hnow
  have hup := betw_iff.1 (chkLs_ad (G.good.chk _ G.mine)).2.2
  have hup1 : 0 ≤ now + ttl := hup.1
  have hup2 : now + ttl ≤ 10499 := hup.2
  rw [decide_eq_false (show ¬ (idxI (some i), ()).1 < 0 by show ¬ (i : Int) < 0; omega), br_false]
  simp only [idxI]
  simp only [r1, req_true, geti_at hi2, bind_s, eqAd_eq, decide_true, Bool.not_true, br_false]
  rw [req_of (i64ok_of (by omega) (by omega)), bind_s]
  simp only [br_false]
  rw [once_loop1 (show l.length ≤ 1048576 by omega) (show m.length ≤ 1048576 by omega) who now more kp _ a G.good.whos G.others, bind_s]
  simp only [sumC]
  rw [once_loop2 (show kp.length ≤ 1048576 by omega) who now more l m _ a _ (fun hz => ?_), bind_s]
  rotate_left
  · refine G.fresh fun x hx hx2 hx3 => ?_
    have : l.any (hasP who now) = false := by simpa using hz
    have := List.any_eq_false.1 this x hx
    simp [hasP, liveP, hx2, hx3] at this
  simp only []
  rw [pf_etaQ, lease_Grant_eq hp hki G.good.ins hw, bind_s]
  have hlive : live m now = m := by
    unfold live
    rw [List.filter_eq_self]
    intro x hx
    simp [liveP, G.alive x hx]
  cases ht : betw more 1 500
  · have hg2 : grantOf p kp m who now more = ([], ⟨false, 0, 0⟩, 3, ()) := by
      unfold grantOf
      rw [hcm, hwo, ht, if_neg (fun h => h rfl), if_neg (by decide), if_pos rfl]
    rw [hg2]
    have hor : more < 1 ∨ more > 500 := by
      rcases Int.lt_or_le more 1 with h | h
      · exact .inl h
      · rcases Int.lt_or_le 500 more with h2 | h2
        · exact .inr h2
        · have := betw_iff.2 ⟨h, h2⟩
          rw [this] at ht
          cases ht
    simp only [show decide ((3 : Int) = 0) = false from rfl, Bool.not_false, br_true]
    rcases hor with h | h
    · simp only [h, decide_true, br_true, bind_s]
    · by_cases h1 : more < 1
      · simp only [h1, decide_true, br_true, bind_s]
      · simp only [h1, h, decide_true, decide_false, br_true, br_false, bind_s]
  · have hg2 : grantOf p kp m who now more = (m.set i ⟨a, who, now + more⟩, a, 0, ()) := by
      unfold grantOf rawOf
      rw [hcm, hwo, ht, hlive, hi1, if_neg (fun h => h rfl), if_neg (by decide), if_neg (by decide)]
      simp only [keepOn, hi2]
      rfl
    rw [hg2]
    have hlen2 : lenL (m.set i ⟨a, who, now + more⟩) = lenL m := by simp [lenL]
    simp only [decide_true, Bool.not_true, br_true, br_false, bind_s, hlen2]
end Go.Ma
