/-
  Texts of addresses, as rows of bytes: what is joined is split again; what is cut; digits that are printed are read again.
-/
import Derived.Test.YtihapikjcifbaaaDoorQc
import Derived.Test.YtihapikjcifbaaaDoorPb
import Derived.Lib.IndexMore
import Derived.Lib.IndexLaws
namespace Go.Ma
open Go

/-! Where a text is found. -/
theorem occ_at (X Y sub : List UInt8) : Lib.occAt (X ++ sub ++ Y) sub X.length = true := by
  unfold Lib.occAt
  rw [List.append_assoc, List.drop_left, List.isPrefixOf_iff_prefix]
  exact List.prefix_append _ _
theorem index_at {s sub : List UInt8} {k : Nat} (hk : k ≤ s.length) (h : Lib.occAt s sub k = true) (hn : ∀ j, j < k → Lib.occAt s sub j = false) : Lib.index s sub = (k : Int) := by
  rcases Lib.index_spec s sub with ⟨_, h2⟩ | ⟨i, h1, _, h3, h4⟩
  · rw [h2 k hk] at h; cases h
  · rw [h1]
    rcases Nat.lt_trichotomy i k with hlt | he | hlt
    · rw [hn i hlt] at h3; cases h3
    · rw [he]
    · rw [h4 k hlt] at h; cases h
theorem index_no {s sub : List UInt8} (hn : ∀ j, j ≤ s.length → Lib.occAt s sub j = false) : Lib.index s sub = -1 := by
  rcases Lib.index_spec s sub with ⟨h1, _⟩ | ⟨i, _, h2, h3, _⟩
  · exact h1
  · rw [hn i h2] at h3; cases h3
theorem occ_one {s : List UInt8} {c : UInt8} {j : Nat} : Lib.occAt s [c] j = decide (s[j]? = some c) := by
  unfold Lib.occAt
  rw [← List.head?_drop]
  cases s.drop j with
  | nil => rfl
  | cons b r =>
    rw [Bool.eq_iff_iff]
    simp [List.isPrefixOf]
    exact eq_comm
theorem occ_two {s : List UInt8} {c d : UInt8} {j : Nat} : Lib.occAt s [c, d] j = (decide (s[j]? = some c) && decide (s[j + 1]? = some d)) := by
  unfold Lib.occAt
  have h1 : s[j]? = (s.drop j)[0]? := by rw [List.getElem?_drop, Nat.add_zero]
  have h2 : s[j + 1]? = (s.drop j)[1]? := by rw [List.getElem?_drop]
  rw [h1, h2]
  match s.drop j with
  | [] => rfl
  | [b] => simp [List.isPrefixOf]
  | b :: b2 :: r =>
    rw [Bool.eq_iff_iff]
    simp [List.isPrefixOf]
    constructor
    · rintro ⟨a, b⟩; exact ⟨a.symm, b.symm⟩
    · rintro ⟨a, b⟩; exact ⟨a.symm, b.symm⟩
theorem index_first (X Y : List UInt8) (c : UInt8) (h : c ∉ X) : Lib.index (X ++ c :: Y) [c] = (X.length : Int) := by
  refine index_at (by simp) ?_ fun j hj => ?_
  · have := occ_at X Y [c]
    rwa [List.append_assoc] at this
  · rw [occ_one]
    refine decide_eq_false fun he => ?_
    rw [List.getElem?_append_left hj] at he
    exact h (List.mem_of_getElem? he)
theorem index_none1 (X : List UInt8) (c : UInt8) (h : c ∉ X) : Lib.index X [c] = -1 := index_no fun j _ => by
  rw [occ_one]
  exact decide_eq_false fun he => h (List.mem_of_getElem? he)
theorem byte_first : ∀ (X Y : List UInt8) (c : UInt8), c ∉ X → Lib.indexByte (X ++ c :: Y) c = (X.length : Int)
  | [], Y, c, _ => by simp [Lib.indexByte]
  | b :: X, Y, c, h => by
    have hb : (b == c) = false := by
      rw [beq_eq_false_iff_ne]
      exact fun e => h (by simp [e])
    rw [List.cons_append, Lib.indexByte, hb, byte_first X Y c fun hx => h (by simp [hx])]
    have : ((X.length : Int) == -1) = false := by rw [beq_eq_false_iff_ne]; omega
    rw [this]
    simp
theorem byte_none : ∀ (X : List UInt8) (c : UInt8), c ∉ X → Lib.indexByte X c = -1
  | [], _, _ => rfl
  | b :: X, c, h => by
    have hb : (b == c) = false := by
      rw [beq_eq_false_iff_ne]
      exact fun e => h (by simp [e])
    rw [Lib.indexByte, hb, byte_none X c fun hx => h (by simp [hx])]
    rfl
theorem byte_some : ∀ {X : List UInt8} {c : UInt8}, c ∈ X → 0 ≤ Lib.indexByte X c
  | [], _, h => by cases h
  | b :: X, c, h => by
    rw [Lib.indexByte]
    cases hb : b == c
    · have hx : c ∈ X := by
        rcases List.mem_cons.1 h with rfl | hx
        · simp at hb
        · exact hx
      have ih := byte_some hx
      have : (Lib.indexByte X c == -1) = false := by rw [beq_eq_false_iff_ne]; omega
      rw [this]
      simp only [Bool.false_eq_true, if_false]
      omega
    · simp

/-! What is joined is split again. -/
theorem join_cons2 (x : List UInt8) (y : List UInt8) (r : List (List UInt8)) (c : UInt8) : Lib.join (x :: y :: r) [c] = x ++ c :: Lib.join (y :: r) [c] := by
  rw [Lib.join_cons, Lib.join_cons]
  simp [Lib.joinTail]
theorem splitK_join (c : UInt8) : ∀ (xs : List (List UInt8)), xs ≠ [] → (∀ x ∈ xs, c ∉ x) → ∀ k, xs.length ≤ k + 1 → Lib.splitK [c] 0 k (Lib.join xs [c]) = xs
  | [], h, _, _, _ => absurd rfl h
  | [x], _, hx, k, _ => by
    rw [Lib.join_one]
    cases k with
    | zero => rfl
    | succ k =>
      rw [Lib.splitK, index_none1 x c (hx x (by simp))]
      rfl
  | x :: y :: r, _, hx, k, hk => by
    cases k with
    | zero => simp at hk
    | succ k =>
      rw [join_cons2, Lib.splitK, index_first x _ c (hx x (by simp))]
      have : ((x.length : Int) == -1) = false := by rw [beq_eq_false_iff_ne]; omega
      rw [this]
      simp only [Bool.false_eq_true, if_false, Int.toNat_natCast, Nat.add_zero]
      have h1 : (x ++ c :: Lib.join (y :: r) [c]).take x.length = x := List.take_left
      have h2 : (x ++ c :: Lib.join (y :: r) [c]).drop (x.length + [c].length) = Lib.join (y :: r) [c] := by
        rw [← List.drop_drop, List.drop_left]
        rfl
      rw [h1, h2, splitK_join c (y :: r) (by simp) (fun z hz => hx z (by simp [hz])) k (by simpa using hk)]
theorem count_join (c : UInt8) : ∀ (xs : List (List UInt8)), (∀ x ∈ xs, c ∉ x) → (Lib.join xs [c]).count c + 1 = xs.length ∨ xs = []
  | [], _ => .inr rfl
  | [x], h => .inl (by rw [Lib.join_one, List.count_eq_zero.2 (h x (by simp))]; rfl)
  | x :: y :: r, h => by
    rcases count_join c (y :: r) (fun z hz => h z (by simp [hz])) with h1 | h1
    · left
      rw [join_cons2, List.count_append, List.count_cons_self, List.count_eq_zero.2 (h x (by simp))]
      simp only [List.length_cons] at h1 ⊢
      omega
    · cases h1
theorem split_join (c : UInt8) {xs : List (List UInt8)} (h0 : xs ≠ []) (h : ∀ x ∈ xs, c ∉ x) : splitOn ⟨(Lib.join xs [c]).toArray⟩ c = xs.map fun x => ⟨x.toArray⟩ := by
  have hd : (splitOn ⟨(Lib.join xs [c]).toArray⟩ c).map (·.data.toList) = xs := by
    unfold splitOn
    rw [Lib.splitB_data]
    have hc : Lib.countB ⟨(Lib.join xs [c]).toArray⟩ ⟨#[c]⟩ = (Lib.join xs [c]).count c := by
      have := Lib.count_one c (Lib.join xs [c])
      exact this
    rw [hc]
    rcases count_join c xs h with h1 | h1
    · exact splitK_join c xs h0 h _ (by omega)
    · exact absurd h1 h0
  have := congrArg (List.map fun x : List UInt8 => (⟨x.toArray⟩ : ByteArray)) hd
  rw [List.map_map] at this
  rw [← this]
  have : ((fun x : List UInt8 => (⟨x.toArray⟩ : ByteArray)) ∘ fun x : ByteArray => x.data.toList) = id := by
    funext x
    cases x
    rfl
  rw [this, List.map_id]

/-! Digits. -/
theorem hexD_val (d : Nat) (h : d < 16) : hexv (hexD d) = some d := by
  have : ∀ d : Fin 16, hexv (hexD d) = some d.val := by decide +kernel
  exact this ⟨d, h⟩
theorem hexD_plain (d : Nat) (h : d < 16) : plainB (hexD d) = true ∧ hexD d ≠ 58 ∧ hexD d ≠ 46 ∧ hexD d ≠ 47 := by
  have : ∀ d : Fin 16, plainB (hexD d) = true ∧ hexD d ≠ 58 ∧ hexD d ≠ 46 ∧ hexD d ≠ 47 := by decide +kernel
  exact this ⟨d, h⟩
theorem hexF_cons (d : Nat) (h : d < 16) (r : List UInt8) (a : Nat) (ha : a < 4096) : hexF (hexD d :: r) a = hexF r (a * 16 + d) := by
  rw [hexF, hexD_val d h]
  simp only
  rw [if_neg (by omega)]
theorem hex4_read (n : Nat) (h : n < 65536) : hexF (hex4 n) 0 = some n ∧ 1 ≤ (hex4 n).length ∧ (hex4 n).length ≤ 4 ∧ (∀ c ∈ hex4 n, plainB c = true ∧ c ≠ 58 ∧ c ≠ 46 ∧ c ≠ 47) := by
  have key : ∀ d : Nat, d < 16 → plainB (hexD d) = true ∧ hexD d ≠ 58 ∧ hexD d ≠ 46 ∧ hexD d ≠ 47 := hexD_plain
  unfold hex4
  by_cases h1 : n < 16
  · rw [if_pos h1]
    refine ⟨?_, by simp, by simp, fun c hc => ?_⟩
    · rw [hexF_cons n h1 _ _ (by omega)]
      simp [hexF]
    · rw [List.mem_singleton] at hc
      rw [hc]
      exact key _ h1
  · rw [if_neg h1]
    by_cases h2 : n < 256
    · rw [if_pos h2]
      refine ⟨?_, by simp, by simp, fun c hc => ?_⟩
      · rw [hexF_cons _ (by omega) _ _ (by omega), hexF_cons _ (by omega) _ _ (by omega)]
        simp only [hexF, Option.some.injEq]
        omega
      · simp only [List.mem_cons, List.not_mem_nil, or_false] at hc
        rcases hc with rfl | rfl <;> exact key _ (by omega)
    · rw [if_neg h2]
      by_cases h3 : n < 4096
      · rw [if_pos h3]
        refine ⟨?_, by simp, by simp, fun c hc => ?_⟩
        · rw [hexF_cons _ (by omega) _ _ (by omega), hexF_cons _ (by omega) _ _ (by omega), hexF_cons _ (by omega) _ _ (by omega)]
          simp only [hexF, Option.some.injEq]
          omega
        · simp only [List.mem_cons, List.not_mem_nil, or_false] at hc
          rcases hc with rfl | rfl | rfl <;> exact key _ (by omega)
      · rw [if_neg h3]
        refine ⟨?_, by simp, by simp, fun c hc => ?_⟩
        · rw [hexF_cons _ (by omega) _ _ (by omega), hexF_cons _ (by omega) _ _ (by omega), hexF_cons _ (by omega) _ _ (by omega), hexF_cons _ (by omega) _ _ (by omega)]
          simp only [hexF, Option.some.injEq]
          omega
        · simp only [List.mem_cons, List.not_mem_nil, or_false] at hc
          rcases hc with rfl | rfl | rfl | rfl <;> exact key _ (by omega)
theorem part_hex (n : Nat) (h : n < 65536) : partF ⟨(hex4 n).toArray⟩ 16 4 65535 = some (n : Int) := by
  obtain ⟨h1, h2, h3, h4⟩ := hex4_read n h
  unfold partF
  have hall : (hex4 n).all plainB = true := List.all_eq_true.2 fun c hc => (h4 c hc).1
  have hsz : (⟨(hex4 n).toArray⟩ : ByteArray).size = (hex4 n).length := by simp [ByteArray.size]
  rw [if_pos hall]
  have hn : numU 16 ⟨(hex4 n).toArray⟩ = some n := by
    unfold numU hexU
    rw [if_neg (by decide), if_neg (by rw [hsz]; omega)]
    exact h1
  rw [hn]
  simp only
  rw [if_neg]
  rw [hsz]
  omega
theorem part_dec (n : Nat) (h : n < 256) : partF ⟨(dec3 n).toArray⟩ 10 3 255 = some (n : Int) := by
  have : ∀ d : Fin 256, partF ⟨(dec3 d).toArray⟩ 10 3 255 = some ((d.val : Nat) : Int) := by decide +kernel
  exact this ⟨n, h⟩
theorem dec3_chars (n : Nat) (h : n < 1000) : 1 ≤ (dec3 n).length ∧ (dec3 n).length ≤ 3 ∧ ∀ c ∈ dec3 n, c ≠ 58 ∧ c ≠ 46 ∧ c ≠ 47 := by
  have : ∀ d : Fin 1000, 1 ≤ (dec3 d).length ∧ (dec3 d).length ≤ 3 ∧ (dec3 d).all (fun c => !(c == 58) && !(c == 46) && !(c == 47)) = true := by decide +kernel
  obtain ⟨a, b, c⟩ := this ⟨n, h⟩
  refine ⟨a, b, fun x hx => ?_⟩
  have := List.all_eq_true.1 c x hx
  simpa [and_assoc] using this
end Go.Ma
