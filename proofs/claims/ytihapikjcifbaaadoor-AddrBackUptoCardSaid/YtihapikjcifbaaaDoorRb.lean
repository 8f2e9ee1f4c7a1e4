/-
  An address's text, and what it is parsed as: what is printed is parsed as it was.
-/
import Derived.Test.YtihapikjcifbaaaDoorRa
import Derived.Test.YtihapikjcifbaaaDoorPc
import Derived.Test.YtihapikjcifbaaaDoorPm
namespace Go.Ma
open Go

/-! Groups. -/
theorem shr_nat (n k : Nat) (hk : k ≤ 64) : aop .shr .u64 (n : Int) (k : Int) = ((n / 2 ^ k : Nat) : Int) := by
  simp only [aop, Int.toNat_natCast, IntKind.bits, Nat.min_eq_left hk]
  rw [show ((2 : Int) ^ k) = ((2 ^ k : Nat) : Int) by push_cast; rfl, Int.fdiv_eq_ediv_of_nonneg _ (Int.natCast_nonneg _)]
  rfl
theorem ofInt_nat (n : Nat) (h : n < 18446744073709551616) : (BitVec.ofInt 64 (n : Int)).toNat = n := by
  rw [BitVec.ofInt_natCast, BitVec.toNat_ofNat]
  exact Nat.mod_eq_of_lt (by simpa using h)
theorem and_low (n k : Nat) (hn : n < 18446744073709551616) (hk : k ≤ 63) : aop .and .u64 (n : Int) ((2 ^ k - 1 : Nat) : Int) = ((n % 2 ^ k : Nat) : Int) := by
  have hp : 2 ^ k ≤ 2 ^ 63 := Nat.pow_le_pow_right (by omega) hk
  show IntKind.u64.wrap (((BitVec.ofInt 64 (n : Int) &&& BitVec.ofInt 64 ((2 ^ k - 1 : Nat) : Int)).toNat : Nat) : Int) = _
  rw [BitVec.toNat_and, ofInt_nat n hn, ofInt_nat _ (by omega), Nat.and_two_pow_sub_one_eq_mod, wrap_u64 (by omega)]
  have := Nat.mod_le n (2 ^ k)
  omega
theorem or_low (m u k : Nat) (hu : u < 2 ^ k) (h : 2 ^ k * m + u < 18446744073709551616) : aop .or .u64 ((2 ^ k * m : Nat) : Int) (u : Int) = ((2 ^ k * m + u : Nat) : Int) := by
  show IntKind.u64.wrap (((BitVec.ofInt 64 ((2 ^ k * m : Nat) : Int) ||| BitVec.ofInt 64 (u : Int)).toNat : Nat) : Int) = _
  rw [BitVec.toNat_or, ofInt_nat _ (by omega), ofInt_nat _ (by omega), ← Nat.two_pow_add_eq_or_of_lt hu, wrap_u64 (by omega) (by omega)]
theorem shl_nat (n k : Nat) (hk : k ≤ 64) (h : 2 ^ k * n < 18446744073709551616) : aop .shl .u64 (n : Int) (k : Int) = ((2 ^ k * n : Nat) : Int) := by
  simp only [aop, Int.toNat_natCast, IntKind.bits, Nat.min_eq_left hk]
  rw [show ((2 : Int) ^ k) = ((2 ^ k : Nat) : Int) by push_cast; rfl, ← Int.natCast_mul, Nat.mul_comm, wrap_u64 (by omega) (by omega)]
def gI (a : Ad) (i : Nat) : Nat := if i < 4 then a.hi.toNat / 2 ^ (48 - 16 * i) % 65536 else a.lo.toNat / 2 ^ (112 - 16 * i) % 65536
theorem gI_lt (a : Ad) (i : Nat) : gI a i < 65536 := by
  unfold gI
  split <;> exact Nat.mod_lt _ (by omega)
theorem addr_group_eq {a : Ad} (h : a.wf) {i : Nat} (hi : i < 8) : addr_group_t a i = some ((gI a i : Int), ()) := by
  obtain ⟨h1, h2, h3, h4⟩ := h
  unfold addr_group_t gI
  have m1 : ∀ n : Nat, n < 18446744073709551616 → aop .and .u64 (n : Int) 65535 = ((n % 65536 : Nat) : Int) := fun n hn => and_low n 16 hn (by omega)
  have hq : ∀ (n k : Nat), n < 18446744073709551616 → n / 2 ^ k < 18446744073709551616 := fun n k hn => Nat.lt_of_le_of_lt (Nat.div_le_self _ _) hn
  by_cases hlt : i < 4
  · rw [decide_eq_true (show (i : Int) < 4 by omega), br_true, req_of (i64ok_of (by omega) (by omega)), req_of (i64ok_of (by omega) (by omega)), req_of (by simp; omega), if_pos hlt]
    rw [show (48 : Int) - 16 * (i : Int) = ((48 - 16 * i : Nat) : Int) by omega]
    obtain ⟨n, hn⟩ := Int.eq_ofNat_of_zero_le h1
    rw [hn, shr_nat _ _ (by omega), m1 _ (hq _ _ (by omega))]
    rfl
  · rw [decide_eq_false (show ¬ (i : Int) < 4 by omega), br_false, req_of (i64ok_of (by omega) (by omega)), req_of (i64ok_of (by omega) (by omega)), req_of (by simp; omega), if_neg hlt]
    rw [show (112 : Int) - 16 * (i : Int) = ((112 - 16 * i : Nat) : Int) by omega]
    obtain ⟨n, hn⟩ := Int.eq_ofNat_of_zero_le h3
    rw [hn, shr_nat _ _ (by omega), m1 _ (hq _ _ (by omega))]
    rfl
theorem row_loop {a : Ad} (h : a.wf) {f : Nat} : ∀ (N n : Nat), 8 - (f + n) < N → f + n ≤ 8 → (∀ j, j < n → gI a (f + j) = 0) →
    ∃ m, n ≤ m ∧ f + m ≤ 8 ∧ (∀ j, j < m → gI a (f + j) = 0) ∧ (f + m < 8 → gI a (f + m) ≠ 0) ∧ loopN addr_row_L2 N ((((f : Int), ()), (), ((n : Int), ()), ()), ((a, ()), ())) = some ((((m : Int), ()), ()), ())
  | 0, _, h, _, _ => by omega
  | N + 1, n, hN, h8, hz => by
    have hstep : loopN addr_row_L2 (N + 1) ((((f : Int), ()), (), ((n : Int), ()), ()), ((a, ()), ())) = addr_row_L2 (loopN addr_row_L2 N) ((((f : Int), ()), (), ((n : Int), ()), ()), ((a, ()), ())) := loopN_succ ..
    by_cases hlt : f + n < 8
    · by_cases hg : gI a (f + n) = 0
      · obtain ⟨m, m1, m2, m3, m4, m5⟩ := row_loop h (f := f) N (n + 1) (by omega) (by omega) (fun j hj => by
          rcases Nat.lt_or_eq_of_le (Nat.le_of_lt_succ hj) with h1 | h1
          · exact hz j h1
          · rw [h1]; exact hg)
        refine ⟨m, by omega, m2, m3, m4, ?_⟩
        rw [hstep]
        simp only [addr_row_L2]
        rw [req_of (i64ok_of (by omega) (by omega)), decide_eq_true (show (f : Int) + (n : Int) < 8 by omega), br_true, req_of (i64ok_of (by omega) (by omega)), show (f : Int) + (n : Int) = ((f + n : Nat) : Int) by omega, addr_group_eq h hlt, bind_s, hg]
        simp only [bind_s]
        rw [decide_eq_true (by rfl), br_true, show (n : Int) + 1 = ((n + 1 : Nat) : Int) by omega, req_of (i64ok_of (by omega) (by omega)), m5]
      · refine ⟨n, Nat.le_refl _, h8, hz, fun _ => hg, ?_⟩
        rw [hstep]
        simp only [addr_row_L2]
        rw [req_of (i64ok_of (by omega) (by omega)), decide_eq_true (show (f : Int) + (n : Int) < 8 by omega), br_true, req_of (i64ok_of (by omega) (by omega)), show (f : Int) + (n : Int) = ((f + n : Nat) : Int) by omega, addr_group_eq h hlt, bind_s]
        simp only [bind_s]
        rw [decide_eq_false (by omega), br_false]
    · refine ⟨n, Nat.le_refl _, h8, hz, fun h => absurd h hlt, ?_⟩
      rw [hstep]
      simp only [addr_row_L2]
      rw [req_of (i64ok_of (by omega) (by omega)), decide_eq_false (show ¬ (f : Int) + (n : Int) < 8 by omega), br_false, bind_s, br_false]
theorem row_eq {a : Ad} (h : a.wf) {f : Nat} (hf : f ≤ 8) : ∃ m : Nat, f + m ≤ 8 ∧ (∀ j, j < m → gI a (f + j) = 0) ∧ (f + m < 8 → gI a (f + m) ≠ 0) ∧ addr_row_t a f = some ((m : Int), ()) := by
  obtain ⟨m, _, m2, m3, m4, m5⟩ := row_loop h (f := f) FUEL 0 (fuel_gt (by omega)) (by omega) (fun j hj => by omega)
  refine ⟨m, m2, m3, m4, ?_⟩
  unfold addr_row_t
  have m5 : loopN addr_row_L2 FUEL ((((f : Int), ()), (), ((0 : Int), ()), ()), ((a, ()), ())) = some ((((m : Int), ()), ()), ()) := m5
  rw [m5]
  rfl
/-- A row of noughts. -/
def Row0 (a : Ad) (at_ many : Nat) : Prop := at_ + many ≤ 8 ∧ ∀ j, j < many → gI a (at_ + j) = 0
theorem longest_loop {a : Ad} (h : a.wf) : ∀ (N i x m : Nat), 8 - i < N → i ≤ 8 → 1 ≤ m → (2 ≤ m → Row0 a x m) →
    ∃ x' m' : Nat, 1 ≤ m' ∧ (2 ≤ m' → Row0 a x' m') ∧ loopN addr_longest_L3 N (((), ((x : Int), ()), ((m : Int), ()), ((i : Int), ()), ()), ((a, ()), ())) = some ((((x' : Int), ()), ((m' : Int), ()), ()), ())
  | 0, _, _, _, h, _, _, _ => by omega
  | N + 1, i, x, m, hN, h8, hm, hr => by
    have hstep : loopN addr_longest_L3 (N + 1) (((), ((x : Int), ()), ((m : Int), ()), ((i : Int), ()), ()), ((a, ()), ())) = addr_longest_L3 (loopN addr_longest_L3 N) (((), ((x : Int), ()), ((m : Int), ()), ((i : Int), ()), ()), ((a, ()), ())) := loopN_succ ..
    by_cases hlt : i < 8
    · obtain ⟨n, n1, n2, n3, n4⟩ := row_eq h (f := i) h8
      by_cases hg : m < n
      · obtain ⟨x', m', q1, q2, q3⟩ := longest_loop h N (i + 1) i n (by omega) (by omega) (by omega) (fun _ => ⟨n1, n2⟩)
        refine ⟨x', m', q1, q2, ?_⟩
        rw [hstep]
        simp only [addr_longest_L3]
        rw [decide_eq_true (show (i : Int) < 8 by omega), br_true, n4, bind_s]
        simp only []
        rw [decide_eq_true (show (n : Int) > (m : Int) by omega), br_true, show (i : Int) + 1 = ((i + 1 : Nat) : Int) by omega, req_of (i64ok_of (by omega) (by omega)), q3]
      · obtain ⟨x', m', q1, q2, q3⟩ := longest_loop h N (i + 1) x m (by omega) (by omega) hm hr
        refine ⟨x', m', q1, q2, ?_⟩
        rw [hstep]
        simp only [addr_longest_L3]
        rw [decide_eq_true (show (i : Int) < 8 by omega), br_true, n4, bind_s]
        simp only []
        rw [decide_eq_false (show ¬ (n : Int) > (m : Int) by omega), br_false, show (i : Int) + 1 = ((i + 1 : Nat) : Int) by omega, req_of (i64ok_of (by omega) (by omega)), q3]
    · refine ⟨x, m, hm, hr, ?_⟩
      rw [hstep]
      simp only [addr_longest_L3]
      rw [decide_eq_false (show ¬ (i : Int) < 8 by omega), br_false]
theorem longest_eq {a : Ad} (h : a.wf) : addr_longest_t a = some (0, 0, ()) ∨ ∃ x m : Nat, 2 ≤ m ∧ Row0 a x m ∧ addr_longest_t a = some ((x : Int), (m : Int), ()) := by
  obtain ⟨x, m, q1, q2, q3⟩ := longest_loop h FUEL 0 0 1 (fuel_gt (by omega)) (by omega) (by omega) (fun h => by omega)
  have q3 : loopN addr_longest_L3 FUEL (((), ((0 : Int), ()), ((1 : Int), ()), ((0 : Int), ()), ()), ((a, ()), ())) = some ((((x : Int), ()), ((m : Int), ()), ()), ()) := q3
  unfold addr_longest_t
  rw [q3, bind_s]
  simp only []
  by_cases h2 : m < 2
  · left
    rw [decide_eq_true (show (m : Int) < 2 by omega), br_true]
  · right
    refine ⟨x, m, by omega, q2 (by omega), ?_⟩
    rw [decide_eq_false (show ¬ (m : Int) < 2 by omega), br_false]

/-! Texts. -/
def hexA (n : Nat) : ByteArray := ⟨(hex4 n).toArray⟩
def joinG (gs : List Nat) : List UInt8 := Lib.join (gs.map hex4) [58]
theorem join_len (c : UInt8) (k : Nat) : ∀ xs : List (List UInt8), (∀ x ∈ xs, x.length ≤ k) → (Lib.join xs [c]).length ≤ (k + 1) * xs.length
  | [], _ => by simp [Lib.join_nil]
  | [x], h => by
    rw [Lib.join_one]
    have := h x (by simp)
    simp
    omega
  | x :: y :: r, h => by
    have h1 := h x (by simp)
    have h2 := join_len c k (y :: r) (fun z hz => h z (by simp [hz]))
    rw [join_cons2]
    simp only [List.length_append, List.length_cons] at h2 ⊢
    rw [Nat.mul_add (k + 1) (r.length + 1) 1]
    omega
theorem joinG_len {gs : List Nat} (h : ∀ g ∈ gs, g < 65536) : (joinG gs).length ≤ 5 * gs.length := by
  have := join_len 58 4 (gs.map hex4) fun x hx => by
    obtain ⟨g, hg, rfl⟩ := List.mem_map.1 hx
    exact (hex4_read g (h g hg)).2.2.1
  rwa [List.length_map] at this
theorem Join_eq {l : List ByteArray} {c : UInt8} (h1 : l.length ≤ 1024) (h2 : (Lib.join (l.map (·.data.toList)) [c]).length ≤ 1099511627776) : strings_Join_t l ⟨#[c]⟩ = some (⟨(Lib.join (l.map (·.data.toList)) [c]).toArray⟩, ()) := by
  unfold strings_Join_t
  rw [req_of]
  rw [Bool.and_eq_true]
  exact ⟨Nat.ble_eq_true_of_le h1, Nat.ble_eq_true_of_le h2⟩
theorem hexA_fmt {g : Nat} (h : g < 65536) : strconv_FormatUint_t (g : Int) 16 = some (hexA g, ()) := by
  unfold strconv_FormatUint_t
  rw [if_pos rfl, req_of (by simp; omega)]
  rfl
theorem groups_loop {a : Ad} (h : a.wf) {t : Nat} (ht : t ≤ 8) : ∀ (N i : Nat) (out : List ByteArray), t - i < N → i ≤ t → out.length ≤ i →
    loopN addr_groups_L3 N ((((t : Int), ()), (), (), ((i : Int), ()), ()), ((a, ()), out, ())) = some (((), ()), (out ++ (List.range' i (t - i)).map (fun j => hexA (gI a j)), ()))
  | 0, _, _, h, _, _ => by omega
  | N + 1, i, out, hN, hi, ho => by
    rw [loopN_succ]
    simp only [addr_groups_L3]
    by_cases hlt : i < t
    · rw [decide_eq_true (show (i : Int) < (t : Int) by omega), br_true, addr_group_eq h (by omega), bind_s]
      simp only []
      rw [hexA_fmt (gI_lt a i), bind_s, req_of (room_of (lenL_nonneg _) (lenL_nonneg _) (by unfold lenL; simp only [List.length_cons, List.length_nil]; omega)), show (i : Int) + 1 = ((i + 1 : Nat) : Int) by omega, req_of (i64ok_of (by omega) (by omega))]
      rw [groups_loop h ht N (i + 1) _ (by omega) (by omega) (by simp; omega), show t - i = (t - (i + 1)) + 1 by omega, List.range'_succ, List.map_cons, List.append_assoc]
      rfl
    · have : i = t := by omega
      subst this
      rw [decide_eq_false (show ¬ (i : Int) < (i : Int) by omega), br_false, Nat.sub_self]
      simp
theorem groups_eq {a : Ad} (h : a.wf) {f t : Nat} (ht : t ≤ 8) (hf : f ≤ t) : addr_groups_t a f t = some (⟨(joinG ((List.range' f (t - f)).map (gI a))).toArray⟩, ()) := by
  unfold addr_groups_t
  rw [groups_loop h ht FUEL f [] (fuel_gt (by omega)) hf (by simp), bind_s]
  have e : (((List.range' f (t - f)).map (fun j => hexA (gI a j))).map (·.data.toList)) = ((List.range' f (t - f)).map (gI a)).map hex4 := by
    rw [List.map_map, List.map_map]
    rfl
  have hl := joinG_len (gs := (List.range' f (t - f)).map (gI a)) (fun g hg => by
    obtain ⟨i, _, rfl⟩ := List.mem_map.1 hg
    exact gI_lt a i)
  unfold joinG at hl
  rw [List.nil_append, Join_eq (by simp; omega) (by rw [e]; simp at hl ⊢; omega), e, bind_s]
  rfl
def gsA (a : Ad) : List Nat := (List.range 8).map (gI a)
/-- Texts of an address of sixteen bytes. -/
def Six (a : Ad) (T : List UInt8) : Prop := T = joinG (gsA a) ∨ ∃ x m : Nat, 2 ≤ m ∧ Row0 a x m ∧ T = joinG ((gsA a).take x) ++ [58, 58] ++ joinG ((gsA a).drop (x + m))
theorem gsA_take (a : Ad) {x : Nat} (h : x ≤ 8) : (gsA a).take x = (List.range' 0 (x - 0)).map (gI a) := by
  unfold gsA
  rw [← List.map_take, List.range_eq_range', Nat.sub_zero]
  congr 1
  have := List.range'_append_1 (s := 0) (m := x) (n := 8 - x)
  rw [Nat.zero_add, show x + (8 - x) = 8 by omega] at this
  rw [← this, List.take_left' (by simp)]
theorem gsA_drop (a : Ad) {x : Nat} (h : x ≤ 8) : (gsA a).drop x = (List.range' x (8 - x)).map (gI a) := by
  unfold gsA
  rw [← List.map_drop, List.range_eq_range', List.drop_range']
  simp
theorem gsA_lt (a : Ad) : ∀ g ∈ gsA a, g < 65536 := fun g hg => by
  obtain ⟨i, _, rfl⟩ := List.mem_map.1 hg
  exact gI_lt a i
theorem cat_lists (A B : List UInt8) : catS ⟨A.toArray⟩ ⟨B.toArray⟩ = (⟨(A ++ B).toArray⟩ : ByteArray) := by
  apply ByteArray.ext
  simp [catS]
theorem room_list (A : List UInt8) (hA : A.length ≤ 9223372036854775807) : roomS ⟨A.toArray⟩ = true := by
  unfold roomS
  exact Nat.ble_eq_true_of_le (by simpa [ByteArray.size] using hA)
/-- The text, given the longest row of noughts. -/
noncomputable def textOf6 (a : Ad) (y : Int × Int × Unit) : Option (ByteArray × Unit) :=
  br (decide (y.2.1 = 0))
      ((addr_groups_t a 0 8).bind fun y2 =>
      some (y2.1, ()))
      ((addr_groups_t a 0 y.1).bind fun y2 =>
      req (roomS (catS y2.1 (⟨#[58, 58]⟩ : ByteArray))) <|
      req (i64ok (y.1 + y.2.1)) <|
      (addr_groups_t a (y.1 + y.2.1) 8).bind fun y3 =>
      req (roomS (catS (catS y2.1 (⟨#[58, 58]⟩ : ByteArray)) y3.1)) <|
      some (catS (catS y2.1 (⟨#[58, 58]⟩ : ByteArray)) y3.1, ()))
theorem text_of6 {a : Ad} (hv : a.v6 = true) : addr_Text_t a = (addr_longest_t a).bind (textOf6 a) := by
  unfold addr_Text_t textOf6
  rw [hv, Bool.not_true, br_false]
theorem textOf6_none {a : Ad} (h : a.wf) : textOf6 a (0, 0, ()) = some (⟨(joinG (gsA a)).toArray⟩, ()) := by
  have := groups_eq h (f := 0) (t := 8) (by omega) (by omega)
  rw [← gsA_take a (Nat.le_refl 8), show (gsA a).take 8 = gsA a from List.take_of_length_le (by simp [gsA]), Int.natCast_zero, show ((8 : Nat) : Int) = 8 from rfl] at this
  unfold textOf6
  rw [show decide ((0, 0, ()).2.1 = (0 : Int)) = true from rfl, br_true, this, bind_s]
theorem textOf6_some {a : Ad} (h : a.wf) {x m : Nat} (m1 : 2 ≤ m) (m2 : Row0 a x m) : textOf6 a ((x : Int), (m : Int), ()) = some (⟨(joinG ((gsA a).take x) ++ [58, 58] ++ joinG ((gsA a).drop (x + m))).toArray⟩, ()) := by
  obtain ⟨r1, r2⟩ := m2
  have g1 : addr_groups_t a 0 (x : Int) = some (⟨(joinG ((gsA a).take x)).toArray⟩, ()) := by
    have := groups_eq h (f := 0) (t := x) (by omega) (by omega)
    rw [← gsA_take a (by omega), Int.natCast_zero] at this
    exact this
  have g2 : addr_groups_t a ((x : Int) + (m : Int)) 8 = some (⟨(joinG ((gsA a).drop (x + m))).toArray⟩, ()) := by
    have := groups_eq h (f := x + m) (t := 8) (by omega) r1
    rw [← gsA_drop a r1, show ((8 : Nat) : Int) = 8 from rfl] at this
    rw [show (x : Int) + (m : Int) = ((x + m : Nat) : Int) by omega]
    exact this
  have l1 := joinG_len (gs := (gsA a).take x) (fun g hg => gsA_lt a g (List.mem_of_mem_take hg))
  have l2 := joinG_len (gs := (gsA a).drop (x + m)) (fun g hg => gsA_lt a g (List.mem_of_mem_drop hg))
  have l3 : ((gsA a).take x).length ≤ 8 := by simp [gsA]; omega
  have l4 : ((gsA a).drop (x + m)).length ≤ 8 := by simp [gsA]
  unfold textOf6
  generalize joinG ((gsA a).take x) = A at g1 l1 ⊢
  generalize joinG ((gsA a).drop (x + m)) = B at g2 l2 ⊢
  rw [show decide (((x : Int), (m : Int), ()).2.1 = (0 : Int)) = false from decide_eq_false (by show ¬ (m : Int) = 0; omega), br_false]
  show (addr_groups_t a 0 (x : Int)).bind _ = _
  rw [g1, bind_s, show (⟨#[58, 58]⟩ : ByteArray) = ⟨([58, 58] : List UInt8).toArray⟩ from rfl, cat_lists, req_of (room_list _ (by simp; omega)), req_of (i64ok_of (by show (-9223372036854775808 : Int) ≤ (x : Int) + (m : Int); omega) (by show (x : Int) + (m : Int) < 9223372036854775808; omega))]
  show (addr_groups_t a ((x : Int) + (m : Int)) 8).bind _ = _
  rw [g2, bind_s, cat_lists, req_of (room_list _ (by simp; omega))]
theorem text6 {a : Ad} (h : a.wf) (hv : a.v6 = true) : ∃ T : List UInt8, addr_Text_t a = some (⟨T.toArray⟩, ()) ∧ Six a T := by
  rw [text_of6 hv]
  rcases longest_eq h with h1 | ⟨x, m, m1, m2, m3⟩
  · refine ⟨joinG (gsA a), ?_, .inl rfl⟩
    rw [h1, bind_s, textOf6_none h]
  · refine ⟨joinG ((gsA a).take x) ++ [58, 58] ++ joinG ((gsA a).drop (x + m)), ?_, .inr ⟨x, m, m1, m2, rfl⟩⟩
    rw [m3, bind_s, textOf6_some h m1 m2]
def text4 (n : Nat) : List UInt8 := Lib.join [dec3 (n / 2 ^ 24 % 256), dec3 (n / 2 ^ 16 % 256), dec3 (n / 2 ^ 8 % 256), dec3 (n % 256)] [46]
theorem dec_fmt {n : Nat} (h : n < 256) : strconv_FormatUint_t (n : Int) 10 = some (⟨(dec3 n).toArray⟩, ()) := by
  unfold strconv_FormatUint_t
  rw [if_neg (by decide), req_of (by simp; omega)]
  rfl
theorem text_v4 {a : Ad} (h : a.wf) (hv : a.v6 = false) : addr_Text_t a = some (⟨(text4 a.lo.toNat).toArray⟩, ()) := by
  obtain ⟨h1, h2, h3, h4⟩ := h
  obtain ⟨n, hn⟩ := Int.eq_ofNat_of_zero_le h3
  have hn2 : n < 18446744073709551616 := by omega
  unfold addr_Text_t
  rw [hv, Bool.not_false, br_true]
  have hb : ∀ k : Nat, k ≤ 64 → strconv_FormatUint_t (aop .and .u64 (aop .shr .u64 a.lo (k : Int)) 255) 10 = some (⟨(dec3 (n / 2 ^ k % 256)).toArray⟩, ()) := fun k hk => by
    rw [hn, shr_nat _ _ hk]
    have := and_low (n / 2 ^ k) 8 (Nat.lt_of_le_of_lt (Nat.div_le_self _ _) hn2) (by omega)
    rw [show (255 : Int) = ((2 ^ 8 - 1 : Nat) : Int) from rfl, this]
    exact dec_fmt (Nat.mod_lt _ (by omega))
  have b24 := hb 24 (by omega)
  have b16 := hb 16 (by omega)
  have b8 := hb 8 (by omega)
  have b0 := hb 0 (by omega)
  rw [show ((24 : Nat) : Int) = 24 from rfl] at b24
  rw [show ((16 : Nat) : Int) = 16 from rfl] at b16
  rw [show ((8 : Nat) : Int) = 8 from rfl] at b8
  rw [show ((0 : Nat) : Int) = 0 from rfl, Nat.pow_zero, Nat.div_one] at b0
  have hl : loopN addr_Text_L4 FUEL (((), (), (24, ()), ()), ((a, ()), ([] : List ByteArray), ())) = some (((), ()), ([⟨(dec3 (n / 2 ^ 24 % 256)).toArray⟩, ⟨(dec3 (n / 2 ^ 16 % 256)).toArray⟩, ⟨(dec3 (n / 2 ^ 8 % 256)).toArray⟩, ⟨(dec3 (n % 256)).toArray⟩], ())) := by
    rw [show FUEL = (FUEL - 5) + 1 + 1 + 1 + 1 + 1 from rfl]
    generalize FUEL - 5 = N
    have room1 : ∀ (l : List ByteArray) (x : ByteArray), l.length ≤ 8 → room (lenL l) (lenL [x]) = true := fun l x hl => room_of (lenL_nonneg _) (lenL_nonneg _) (by unfold lenL; simp only [List.length_cons, List.length_nil]; omega)
    rw [loopN_succ]
    simp only [addr_Text_L4]
    rw [decide_eq_true (show (24 : Int) ≥ 0 by omega), br_true, req_of (by rfl), b24, bind_s, req_of (room1 _ _ (by simp)), req_of (by rfl), show (24 : Int) - 8 = 16 from rfl, loopN_succ]
    simp only [addr_Text_L4]
    rw [decide_eq_true (show (16 : Int) ≥ 0 by omega), br_true, req_of (by rfl), b16, bind_s, req_of (room1 _ _ (by simp)), req_of (by rfl), show (16 : Int) - 8 = 8 from rfl, loopN_succ]
    simp only [addr_Text_L4]
    rw [decide_eq_true (show (8 : Int) ≥ 0 by omega), br_true, req_of (by rfl), b8, bind_s, req_of (room1 _ _ (by simp)), req_of (by rfl), show (8 : Int) - 8 = 0 from rfl, loopN_succ]
    simp only [addr_Text_L4]
    rw [decide_eq_true (show (0 : Int) ≥ 0 by omega), br_true, req_of (by rfl), b0, bind_s, req_of (room1 _ _ (by simp)), req_of (by rfl), show (0 : Int) - 8 = -8 from rfl, loopN_succ]
    simp only [addr_Text_L4]
    rw [decide_eq_false (show ¬ (-8 : Int) ≥ 0 by omega), br_false]
    rfl
  rw [hl, bind_s]
  have hlen := join_len 46 3 [dec3 (n / 2 ^ 24 % 256), dec3 (n / 2 ^ 16 % 256), dec3 (n / 2 ^ 8 % 256), dec3 (n % 256)] (fun x hx => by
    simp only [List.mem_cons, List.not_mem_nil, or_false] at hx
    rcases hx with rfl | rfl | rfl | rfl <;> exact (dec3_chars _ (by omega)).2.1)
  simp only []
  rw [Join_eq (by simp) (by simp only [List.map_cons, List.map_nil]; simp at hlen ⊢; omega), bind_s]
  simp only [List.map_cons, List.map_nil]
  rw [hn]
  rfl
end Go.Ma
