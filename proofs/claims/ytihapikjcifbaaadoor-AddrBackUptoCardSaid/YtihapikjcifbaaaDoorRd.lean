/-
  What is parsed is right; texts are short.
-/
import Derived.Test.YtihapikjcifbaaaDoorRc
namespace Go.Ma
open Go

theorem partF_bound {x : ByteArray} {b d m u : Int} (h : partF x b d m = some u) : 0 ≤ u ∧ u ≤ m := by
  unfold partF at h
  split at h
  · split at h
    · cases h
    · rename_i n hn
      split at h
      · cases h
      · rename_i hc
        injection h with h
        subst h
        simp only [not_or, Int.not_lt] at hc
        omega
  · cases h
theorem fourL_bound : ∀ (l : List ByteArray) (j n : Nat) (r : Int), j + l.length ≤ 4 → n < 256 ^ j → fourL l (n : Int) = some r → 0 ≤ r ∧ r < (256 ^ (j + l.length) : Nat)
  | [], j, n, r, _, hn, h => by
    simp only [fourL, Option.some.injEq] at h
    subst h
    simp only [List.length_nil, Nat.add_zero]
    omega
  | x :: l, j, n, r, hj, hn, h => by
    simp only [fourL] at h
    split at h
    · cases h
    · rename_i u hu
      obtain ⟨u1, u2⟩ := partF_bound hu
      obtain ⟨k, rfl⟩ := Int.eq_ofNat_of_zero_le u1
      simp only [List.length_cons] at hj
      have hp : 256 ^ j ≤ 256 ^ 3 := Nat.pow_le_pow_right (by omega) (by omega)
      have hs : aop .shl .u64 (n : Int) 8 = ((2 ^ 8 * n : Nat) : Int) := shl_nat n 8 (by omega) (by omega)
      rw [hs, or_low n k 8 (by omega) (by omega)] at h
      have := fourL_bound l (j + 1) (2 ^ 8 * n + k) r (by omega) (by rw [Nat.pow_succ]; omega) h
      rw [List.length_cons, show j + (l.length + 1) = j + 1 + l.length by omega]
      exact this
theorem fourF_bound {s : ByteArray} {r : Int} (h : fourF s = some r) : 0 ≤ r ∧ r < 4294967296 := by
  unfold fourF at h
  split at h
  · rename_i h4
    have := fourL_bound (splitOn s 46) 0 0 r (by omega) (by decide) h
    rw [h4] at this
    exact this
  · cases h
theorem someL_bound (last : Bool) (len : Nat) : ∀ (l : List ByteArray) (i : Nat) (out r : List Int), (∀ u ∈ out, 0 ≤ u ∧ u < 65536) → someL last len l i out = some r → ∀ u ∈ r, 0 ≤ u ∧ u < 65536
  | [], i, out, r, ho, h => by
    simp only [someL, Option.some.injEq] at h
    subst h
    exact ho
  | x :: l, i, out, r, ho, h => by
    simp only [someL] at h
    split at h
    · split at h
      · cases h
      · rename_i n hn
        obtain ⟨n1, n2⟩ := fourF_bound hn
        refine someL_bound last len l (i + 1) _ r (fun u hu => ?_) h
        rcases List.mem_append.1 hu with hu | hu
        · exact ho u hu
        · obtain ⟨k, rfl⟩ := Int.eq_ofNat_of_zero_le n1
          have := and_low k 16 (by omega) (by omega)
          rw [show ((2 ^ 16 - 1 : Nat) : Int) = 65535 from rfl] at this
          rw [this] at hu
          simp only [List.mem_cons, List.not_mem_nil, or_false] at hu
          rcases hu with rfl | rfl <;> omega
    · split at h
      · cases h
      · rename_i v hv
        obtain ⟨v1, v2⟩ := partF_bound hv
        refine someL_bound last len l (i + 1) _ r (fun u hu => ?_) h
        rcases List.mem_append.1 hu with hu | hu
        · exact ho u hu
        · rw [List.mem_singleton] at hu
          subst hu
          omega
theorem someF_bound {s : ByteArray} {last : Bool} {r : List Int} (h : someF s last = some r) : ∀ u ∈ r, 0 ≤ u ∧ u < 65536 := by
  unfold someF at h
  split at h
  · injection h with h
    subst h
    exact fun u hu => by cases hu
  · exact someL_bound _ _ _ _ _ _ (fun u hu => by cases hu) h
theorem packI_bound : ∀ (l : List Int) (j n : Nat), j + l.length ≤ 4 → n < 65536 ^ j → (∀ u ∈ l, 0 ≤ u ∧ u < 65536) → 0 ≤ packI l (n : Int) ∧ packI l (n : Int) < (65536 ^ (j + l.length) : Nat)
  | [], j, n, _, hn, _ => by
    simp only [packI, List.length_nil, Nat.add_zero]
    omega
  | x :: l, j, n, hj, hn, hl => by
    obtain ⟨u1, u2⟩ := hl x (by simp)
    obtain ⟨k, rfl⟩ := Int.eq_ofNat_of_zero_le u1
    simp only [List.length_cons] at hj
    have hp : 65536 ^ j ≤ 65536 ^ 3 := Nat.pow_le_pow_right (by omega) (by omega)
    have hs : aop .shl .u64 (n : Int) 16 = ((2 ^ 16 * n : Nat) : Int) := shl_nat n 16 (by omega) (by omega)
    rw [packI, hs, or_low n k 16 (by omega) (by omega), List.length_cons, show j + (l.length + 1) = j + 1 + l.length by omega]
    exact packI_bound l (j + 1) (2 ^ 16 * n + k) (by omega) (by rw [Nat.pow_succ]; omega) fun u hu => hl u (by simp [hu])
theorem packA_right {l : List Int} (h : ∀ u ∈ l, 0 ≤ u ∧ u < 65536) : (packA l).wf ∧ chkA (packA l) = 0 := by
  have b := fun (m : List Int) (hm : m.length ≤ 4) (hs : ∀ u ∈ m, u ∈ l) => packI_bound m 0 0 (by omega) (by decide) fun u hu => h u (hs u hu)
  have key : ∀ m : List Int, m.length ≤ 4 → (∀ u ∈ m, u ∈ l) → 0 ≤ packI m 0 ∧ packI m 0 < 18446744073709551616 := fun m hm hs => by
    obtain ⟨b1, b2⟩ := b m hm hs
    refine ⟨b1, Int.lt_of_lt_of_le b2 ?_⟩
    have : 65536 ^ (0 + m.length) ≤ 65536 ^ 4 := Nat.pow_le_pow_right (by omega) (by omega)
    omega
  obtain ⟨h1, h2⟩ := key (l.take 4) (by simp; omega) fun u hu => List.mem_of_mem_take hu
  obtain ⟨h3, h4⟩ := key ((l.drop 4).take 4) (by simp; omega) fun u hu => List.mem_of_mem_drop (List.mem_of_mem_take hu)
  exact ⟨⟨h1, h2, h3, h4⟩, rfl⟩
theorem toldF_right {s : ByteArray} {a : Ad} (h : toldF s = some a) : a.wf ∧ chkA a = 0 := by
  unfold toldF at h
  split at h
  · unfold sixteenF at h
    split at h
    · split at h
      · cases h
      · rename_i l hl
        split at h
        · cases h
        · rename_i m hm
          split at h
          · cases h
          · injection h with h
            subst h
            refine packA_right fun u hu => ?_
            rcases List.mem_append.1 hu with hu | hu
            · rcases List.mem_append.1 hu with hu | hu
              · exact someF_bound hl u hu
              · rw [(List.mem_replicate.1 hu).2]; omega
            · exact someF_bound hm u hu
    · split at h
      · cases h
      · rename_i l hl
        split at h
        · injection h with h
          subst h
          exact packA_right (someF_bound hl)
        · cases h
  · obtain ⟨n, hn, h⟩ := Option.map_eq_some_iff.1 h
    subst h
    obtain ⟨n1, n2⟩ := fourF_bound hn
    refine ⟨⟨by show (0 : Int) ≤ 0; omega, by show (0 : Int) < 18446744073709551616; omega, n1, by show n < 18446744073709551616; omega⟩, ?_⟩
    unfold chkA
    rw [if_neg]
    simp
    omega
theorem join_len1 (c : UInt8) (k : Nat) : ∀ xs : List (List UInt8), xs ≠ [] → (∀ x ∈ xs, x.length ≤ k) → (Lib.join xs [c]).length + 1 ≤ (k + 1) * xs.length
  | [], h, _ => absurd rfl h
  | [x], _, h => by
    rw [Lib.join_one]
    have := h x (by simp)
    simp
    omega
  | x :: y :: r, _, h => by
    have h1 := h x (by simp)
    have h2 := join_len1 c k (y :: r) (by simp) (fun z hz => h z (by simp [hz]))
    rw [join_cons2]
    simp only [List.length_append, List.length_cons] at h2 ⊢
    rw [Nat.mul_add (k + 1) (r.length + 1) 1]
    omega
theorem six_short {a : Ad} {T : List UInt8} (h : Six a T) : T.length ≤ 39 := by
  have hl : ∀ gs : List Nat, (∀ g ∈ gs, g < 65536) → ∀ x ∈ gs.map hex4, x.length ≤ 4 := fun gs hg x hx => by
    obtain ⟨g, hg', rfl⟩ := List.mem_map.1 hx
    exact (hex4_read g (hg g hg')).2.2.1
  rcases h with rfl | ⟨x, m, m1, hr, rfl⟩
  · have := join_len1 58 4 ((gsA a).map hex4) (by simp [gsA]) (hl _ (gsA_lt a))
    rw [List.length_map, show (gsA a).length = 8 by simp [gsA]] at this
    unfold joinG
    omega
  · have h1 := joinG_len (gs := (gsA a).take x) fun g hg => gsA_lt a g (List.mem_of_mem_take hg)
    have h2 := joinG_len (gs := (gsA a).drop (x + m)) fun g hg => gsA_lt a g (List.mem_of_mem_drop hg)
    have := hr.1
    simp only [List.length_append, List.length_cons, List.length_nil]
    rw [List.length_take, show (gsA a).length = 8 by simp [gsA]] at h1
    rw [List.length_drop, show (gsA a).length = 8 by simp [gsA]] at h2
    omega
theorem four_short (n : Nat) : (text4 n).length ≤ 15 := by
  have := join_len1 46 3 [dec3 (n / 2 ^ 24 % 256), dec3 (n / 2 ^ 16 % 256), dec3 (n / 2 ^ 8 % 256), dec3 (n % 256)] (by simp) fun x hx => by
    simp only [List.mem_cons, List.not_mem_nil, or_false] at hx
    rcases hx with rfl | rfl | rfl | rfl <;> exact (dec3_chars _ (by omega)).2.1
  unfold text4
  simp at this ⊢
  omega
/-- What is printed, and that it is parsed as it was. -/
theorem text_back {a : Ad} (h : a.wf) (hc : chkA a = 0) : ∃ T : List UInt8, addr_Text_t a = some (⟨T.toArray⟩, ()) ∧ toldF ⟨T.toArray⟩ = some a ∧ T.length ≤ 39 := by
  cases hv : a.v6
  · obtain ⟨h1, h2, h3, h4⟩ := id h
    have hcc : a.hi = 0 ∧ a.lo < 4294967296 := by
      unfold chkA at hc
      split at hc
      · cases hc
      · rename_i hn
        rw [hv] at hn
        simp only [true_and, not_or, ne_eq, Decidable.not_not, Int.not_le] at hn
        exact hn
    refine ⟨text4 a.lo.toNat, text_v4 h hv, ?_, Nat.le_trans (four_short _) (by omega)⟩
    rw [told_four (by omega)]
    obtain ⟨v, hi, lo⟩ := a
    simp only at hcc hv h3 ⊢
    rw [hv, hcc.1]
    congr 2
    omega
  · obtain ⟨T, t1, t2⟩ := text6 h hv
    exact ⟨T, t1, told_six h hv t2, six_short t2⟩
end Go.Ma
