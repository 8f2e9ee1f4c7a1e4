/-
  An address's text is parsed as it was.
-/
import Derived.Test.YtihapikjcifbaaaDoorRb
namespace Go.Ma
open Go

/-- What is joined by one letter has it nowhere twice. -/
theorem noCC (c : UInt8) : ∀ xs : List (List UInt8), (∀ x ∈ xs, x ≠ [] ∧ c ∉ x) → ∀ (R : List UInt8) (j : Nat), j < (Lib.join xs [c]).length → ¬ ((Lib.join xs [c] ++ R)[j]? = some c ∧ (Lib.join xs [c] ++ R)[j + 1]? = some c)
  | [], _, R, j, hj => by simp [Lib.join_nil] at hj
  | [x], h, R, j, hj => by
    rw [Lib.join_one] at hj ⊢
    rintro ⟨h1, _⟩
    rw [List.getElem?_append_left hj] at h1
    exact (h x (by simp)).2 (List.mem_of_getElem? h1)
  | x :: y :: r, h, R, j, hj => by
    rw [join_cons2] at hj ⊢
    rintro ⟨h1, h2⟩
    rw [List.append_assoc] at h1 h2
    rcases Nat.lt_trichotomy j x.length with hlt | he | hgt
    · rw [List.getElem?_append_left hlt] at h1
      exact (h x (by simp)).2 (List.mem_of_getElem? h1)
    · subst he
      rw [List.getElem?_append_right (by omega), show x.length + 1 - x.length = 0 + 1 by omega, List.cons_append, List.getElem?_cons_succ] at h2
      obtain ⟨hy, hc⟩ := h y (by simp)
      cases hyy : y with
      | nil => exact hy hyy
      | cons b t =>
        have hb : b ≠ c := fun e => hc (by rw [hyy, e]; simp)
        have : (Lib.join (y :: r) [c] ++ R)[0]? = some b := by
          cases r with
          | nil => rw [Lib.join_one, hyy]; rfl
          | cons z r => rw [join_cons2, hyy]; rfl
        rw [this] at h2
        injection h2 with h2
        exact hb h2
    · obtain ⟨k, rfl⟩ : ∃ k, j = x.length + 1 + k := ⟨j - x.length - 1, by omega⟩
      rw [List.getElem?_append_right (by omega), show x.length + 1 + k - x.length = k + 1 by omega, List.cons_append, List.getElem?_cons_succ] at h1
      rw [List.getElem?_append_right (by omega), show x.length + 1 + k + 1 - x.length = (k + 1) + 1 by omega, List.cons_append, List.getElem?_cons_succ] at h2
      exact noCC c (y :: r) (fun z hz => h z (by simp [hz])) R k (by simp only [List.length_append, List.length_cons] at hj; omega) ⟨h1, h2⟩
theorem hexs_ok {gs : List Nat} (h : ∀ g ∈ gs, g < 65536) : ∀ x ∈ gs.map hex4, x ≠ [] ∧ (58 : UInt8) ∉ x ∧ (46 : UInt8) ∉ x ∧ (47 : UInt8) ∉ x := fun x hx => by
  obtain ⟨g, hg, rfl⟩ := List.mem_map.1 hx
  obtain ⟨_, h2, _, h4⟩ := hex4_read g (h g hg)
  exact ⟨fun e => by rw [e] at h2; simp at h2, fun hc => (h4 _ hc).2.1 rfl, fun hc => (h4 _ hc).2.2.1 rfl, fun hc => (h4 _ hc).2.2.2 rfl⟩
/-- Which letters stand in what is joined. -/
theorem join_mem (c d : UInt8) : ∀ xs : List (List UInt8), d ∈ Lib.join xs [c] → (∃ x ∈ xs, d ∈ x) ∨ (d = c ∧ 2 ≤ xs.length)
  | [], h => by simp [Lib.join_nil] at h
  | [x], h => by rw [Lib.join_one] at h; exact .inl ⟨x, by simp, h⟩
  | x :: y :: r, h => by
    rw [join_cons2] at h
    rcases List.mem_append.1 h with h | h
    · exact .inl ⟨x, by simp, h⟩
    · rcases List.mem_cons.1 h with h | h
      · exact .inr ⟨h, by simp⟩
      · rcases join_mem c d (y :: r) h with ⟨z, hz, hd⟩ | ⟨e, _⟩
        · exact .inl ⟨z, by simp [hz], hd⟩
        · exact .inr ⟨e, by simp⟩
theorem sixteen_some : ∀ (gs : List Nat), (∀ g ∈ gs, g < 65536) → ∀ (last : Bool) (len i : Nat) (out : List Int), someL last len (gs.map hexA) i out = some (out ++ gs.map fun (g : Nat) => (g : Int))
  | [], _, _, _, _, out => by simp [someL]
  | g :: r, h, last, len, i, out => by
    have hd : dotIn (hexA g) = false := by
      unfold dotIn
      have := byte_none (hex4 g) 46 (hexs_ok (gs := [g]) (by simpa using h g (by simp)) _ (by simp)).2.2.1
      rw [show (hexA g).data.toList = hex4 g from rfl, this]
      rfl
    rw [List.map_cons, someL, hd, if_neg (by simp), part_hex' g (h g (by simp))]
    simp only
    rw [sixteen_some r (fun x hx => h x (by simp [hx])) last len (i + 1), List.map_cons, List.append_assoc]
    rfl
 where part_hex' (g : Nat) (h : g < 65536) : partF (hexA g) 16 4 65535 = some (g : Int) := part_hex g h
theorem joinG_split {gs : List Nat} (h0 : gs ≠ []) (h : ∀ g ∈ gs, g < 65536) : splitOn ⟨(joinG gs).toArray⟩ 58 = gs.map hexA := by
  unfold joinG
  rw [split_join 58 (by simpa using h0) fun x hx => (hexs_ok h x hx).2.1, List.map_map]
  rfl
theorem joinG_some {gs : List Nat} (h : ∀ g ∈ gs, g < 65536) (last : Bool) : someF ⟨(joinG gs).toArray⟩ last = some (gs.map fun (g : Nat) => (g : Int)) := by
  by_cases h0 : gs = []
  · subst h0
    rfl
  · have hpos : 0 < (joinG gs).length := by
      unfold joinG
      match gs, h0 with
      | g :: r, _ =>
        have := (hexs_ok h (hex4 g) (by simp)).1
        have hp : 0 < (hex4 g).length := List.length_pos_iff.2 this
        cases r with
        | nil => rw [List.map_cons, List.map_nil, Lib.join_one]; exact hp
        | cons g2 r => rw [List.map_cons, List.map_cons, join_cons2]; simp only [List.length_append]; omega
    unfold someF
    rw [if_neg (by simp [ByteArray.size]; intro e; rw [e] at hpos; simp at hpos), joinG_split h0 h, sixteen_some gs h]
    simp
theorem packI_nat : ∀ (gs : List Nat) (n : Nat), (∀ g ∈ gs, g < 65536) → (n + 1) * 65536 ^ gs.length ≤ 18446744073709551616 → packI (gs.map fun (g : Nat) => (g : Int)) (n : Int) = ((gs.foldl (fun n g => n * 65536 + g) n : Nat) : Int)
  | [], n, _, _ => rfl
  | g :: r, n, h, hn => by
    have hg := h g (by simp)
    have h1 : (n + 1) * 65536 * 65536 ^ r.length ≤ 18446744073709551616 := by rw [List.length_cons, Nat.pow_succ, Nat.mul_comm (65536 ^ r.length) 65536, ← Nat.mul_assoc] at hn; exact hn
    have h2 : 1 ≤ 65536 ^ r.length := Nat.pow_pos (by omega)
    have h3 : (n + 1) * 65536 ≤ 18446744073709551616 := Nat.le_trans (by simpa using Nat.mul_le_mul_left ((n + 1) * 65536) h2) h1
    rw [List.map_cons, packI, List.foldl_cons]
    have hs : aop .shl .u64 (n : Int) 16 = ((2 ^ 16 * n : Nat) : Int) := shl_nat n 16 (by omega) (by omega)
    rw [hs, or_low n g 16 (by omega) (by omega), show 2 ^ 16 * n + g = n * 65536 + g by omega]
    refine packI_nat r (n * 65536 + g) (fun x hx => h x (by simp [hx])) (Nat.le_trans (Nat.mul_le_mul_right _ ?_) h1)
    omega
theorem packA_gs {a : Ad} (h : a.wf) (hv : a.v6 = true) : packA ((gsA a).map fun (g : Nat) => (g : Int)) = a := by
  obtain ⟨h1, h2, h3, h4⟩ := h
  have e : gsA a = [gI a 0, gI a 1, gI a 2, gI a 3, gI a 4, gI a 5, gI a 6, gI a 7] := rfl
  have hp : ∀ b c d f : Nat, b < 65536 → c < 65536 → d < 65536 → f < 65536 → packI ([b, c, d, f].map fun (g : Nat) => (g : Int)) 0 = ((((b * 65536 + c) * 65536 + d) * 65536 + f : Nat) : Int) := fun b c d f hb hc hd hf => by
    have := packI_nat [b, c, d, f] 0 (by simp; omega) (by simp)
    simp only [List.foldl_cons, List.foldl_nil, Nat.zero_mul, Nat.zero_add] at this
    exact this
  unfold packA
  rw [e]
  have e1 : (([gI a 0, gI a 1, gI a 2, gI a 3, gI a 4, gI a 5, gI a 6, gI a 7].map fun (g : Nat) => (g : Int)).take 4) = ([gI a 0, gI a 1, gI a 2, gI a 3].map fun (g : Nat) => (g : Int)) := rfl
  have e2 : ((([gI a 0, gI a 1, gI a 2, gI a 3, gI a 4, gI a 5, gI a 6, gI a 7].map fun (g : Nat) => (g : Int)).drop 4).take 4) = ([gI a 4, gI a 5, gI a 6, gI a 7].map fun (g : Nat) => (g : Int)) := rfl
  rw [e1, e2, hp _ _ _ _ (gI_lt a 0) (gI_lt a 1) (gI_lt a 2) (gI_lt a 3), hp _ _ _ _ (gI_lt a 4) (gI_lt a 5) (gI_lt a 6) (gI_lt a 7)]
  obtain ⟨v, hi, lo⟩ := a
  simp only at h1 h2 h3 h4 hv
  subst hv
  obtain ⟨n, rfl⟩ := Int.eq_ofNat_of_zero_le h1
  obtain ⟨k, rfl⟩ := Int.eq_ofNat_of_zero_le h3
  simp only [gI, Int.toNat_natCast]
  congr 2 <;> simp <;> omega
theorem cut_at {s : List UInt8} {k : Nat} (hk : k ≤ s.length) (h : Lib.occAt s [58, 58] k = true) (hn : ∀ j, j < k → Lib.occAt s [58, 58] j = false) : Lib.cut s [58, 58] = (s.take k, s.drop (k + 2), true) := by
  unfold Lib.cut
  rw [index_at hk h hn]
  simp
theorem cut_no {s : List UInt8} (hn : ∀ j, j ≤ s.length → Lib.occAt s [58, 58] j = false) : Lib.cut s [58, 58] = (s, [], false) := by
  unfold Lib.cut
  rw [index_no hn]
  rfl
theorem colonIn_of {s : List UInt8} (h : (58 : UInt8) ∈ s) : colonIn ⟨s.toArray⟩ = true := decide_eq_true (byte_some h)
theorem colonIn_no {s : List UInt8} (h : (58 : UInt8) ∉ s) : colonIn ⟨s.toArray⟩ = false := decide_eq_false (by rw [show (⟨s.toArray⟩ : ByteArray).data.toList = s from rfl, byte_none s 58 h]; omega)
theorem join_colon : ∀ (x y : List UInt8) (r : List (List UInt8)) (c : UInt8), c ∈ Lib.join (x :: y :: r) [c] := fun x y r c => by
  rw [join_cons2]
  simp
theorem six_none {a : Ad} (h : a.wf) (hv : a.v6 = true) : toldF ⟨(joinG (gsA a)).toArray⟩ = some a := by
  have hg := gsA_lt a
  have hc : (58 : UInt8) ∈ joinG (gsA a) := join_colon _ _ _ 58
  unfold toldF
  rw [if_pos (colonIn_of hc)]
  have hcut : Lib.cut (joinG (gsA a)) [58, 58] = (joinG (gsA a), [], false) := cut_no fun j hj => by
    rw [occ_two]
    by_cases hlt : j < (joinG (gsA a)).length
    · have := noCC 58 ((gsA a).map hex4) (fun x hx => ⟨(hexs_ok hg x hx).1, (hexs_ok hg x hx).2.1⟩) [] j hlt
      rw [List.append_nil] at this
      rw [Bool.and_eq_false_iff, decide_eq_false_iff_not, decide_eq_false_iff_not]
      exact Classical.not_and_iff_not_or_not.1 this
    · rw [List.getElem?_eq_none (by omega)]
      rfl
  unfold sixteenF
  have h3 : cut3 ⟨(joinG (gsA a)).toArray⟩ = false := by unfold cut3; rw [show (⟨(joinG (gsA a)).toArray⟩ : ByteArray).data.toList = joinG (gsA a) from rfl, hcut]
  rw [h3, if_neg (by simp), joinG_some hg]
  simp only
  rw [if_pos (by simp [gsA]), packA_gs h hv]
theorem gs_zeros {a : Ad} {x m : Nat} (h : Row0 a x m) : gsA a = (gsA a).take x ++ List.replicate m 0 ++ (gsA a).drop (x + m) := by
  obtain ⟨h1, h2⟩ := h
  apply List.ext_getElem?
  intro i
  have hl : (gsA a).length = 8 := by simp [gsA]
  have hg : ∀ i, i < 8 → (gsA a)[i]? = some (gI a i) := fun i hi => by simp [gsA, hi]
  by_cases c1 : i < x
  · rw [List.append_assoc, List.getElem?_append_left (by simp [hl]; omega), List.getElem?_take, if_pos c1]
  · by_cases c2 : i < x + m
    · rw [List.getElem?_append_left (by simp [hl]; omega), List.getElem?_append_right (by simp [hl]; omega)]
      rw [hg i (by omega)]
      have := h2 (i - x) (by omega)
      rw [show x + (i - x) = i by omega] at this
      rw [this, List.getElem?_replicate, if_pos (by simp [hl]; omega)]
    · rw [List.getElem?_append_right (by simp [hl]; omega), List.getElem?_drop]
      congr 1
      simp [hl]
      omega
theorem six_some {a : Ad} (h : a.wf) (hv : a.v6 = true) {x m : Nat} (m1 : 2 ≤ m) (hr : Row0 a x m) : toldF ⟨(joinG ((gsA a).take x) ++ [58, 58] ++ joinG ((gsA a).drop (x + m))).toArray⟩ = some a := by
  have hg := gsA_lt a
  have hga : ∀ g ∈ (gsA a).take x, g < 65536 := fun g hx => hg g (List.mem_of_mem_take hx)
  have hgb : ∀ g ∈ (gsA a).drop (x + m), g < 65536 := fun g hx => hg g (List.mem_of_mem_drop hx)
  have hx8 : x + m ≤ 8 := hr.1
  have hl : (gsA a).length = 8 := by simp [gsA]
  have hla : ((gsA a).take x).length = x := by rw [List.length_take, hl]; omega
  have hlb : ((gsA a).drop (x + m)).length = 8 - (x + m) := by rw [List.length_drop, hl]
  have hz := gs_zeros hr
  have hcut : Lib.cut (joinG ((gsA a).take x) ++ [58, 58] ++ joinG ((gsA a).drop (x + m))) [58, 58] = (joinG ((gsA a).take x), joinG ((gsA a).drop (x + m)), true) := by
    have := cut_at (s := joinG ((gsA a).take x) ++ [58, 58] ++ joinG ((gsA a).drop (x + m))) (k := (joinG ((gsA a).take x)).length) (by simp only [List.length_append]; omega) (occ_at _ _ _) fun j hj => by
      rw [occ_two]
      have := noCC 58 (((gsA a).take x).map hex4) (fun y hy => ⟨(hexs_ok hga y hy).1, (hexs_ok hga y hy).2.1⟩) ([58, 58] ++ joinG ((gsA a).drop (x + m))) j hj
      rw [← List.append_assoc] at this
      rw [Bool.and_eq_false_iff, decide_eq_false_iff_not, decide_eq_false_iff_not]
      exact Classical.not_and_iff_not_or_not.1 this
    rw [this]
    congr 1
    · rw [List.append_assoc, List.take_left]
    · congr 1
      rw [← List.drop_drop, List.append_assoc, List.drop_left]
      rfl
  generalize hA : joinG ((gsA a).take x) = A at hcut ⊢
  generalize hB : joinG ((gsA a).drop (x + m)) = B at hcut ⊢
  have hc : (58 : UInt8) ∈ A ++ [58, 58] ++ B := by simp
  unfold toldF
  rw [if_pos (colonIn_of hc)]
  unfold sixteenF
  have e : (⟨(A ++ [58, 58] ++ B).toArray⟩ : ByteArray).data.toList = A ++ [58, 58] ++ B := rfl
  have h3 : cut3 ⟨(A ++ [58, 58] ++ B).toArray⟩ = true := by unfold cut3; rw [e, hcut]
  have h1 : cut1 ⟨(A ++ [58, 58] ++ B).toArray⟩ = ⟨A.toArray⟩ := by unfold cut1; rw [e, hcut]
  have h2 : cut2 ⟨(A ++ [58, 58] ++ B).toArray⟩ = ⟨B.toArray⟩ := by unfold cut2; rw [e, hcut]
  rw [h3, if_pos rfl, h1, h2, ← hA, ← hB, joinG_some hga, joinG_some hgb]
  simp only [List.length_map, hla, hlb]
  rw [if_neg (by omega), show 8 - x - (8 - (x + m)) = m by omega]
  rw [show ((gsA a).take x).map (fun (g : Nat) => (g : Int)) ++ List.replicate m 0 ++ ((gsA a).drop (x + m)).map (fun (g : Nat) => (g : Int)) = (gsA a).map fun (g : Nat) => (g : Int) by
    conv => rhs; rw [hz]
    simp, packA_gs h hv]
theorem told_six {a : Ad} (h : a.wf) (hv : a.v6 = true) {T : List UInt8} (hT : Six a T) : toldF ⟨T.toArray⟩ = some a := by
  rcases hT with rfl | ⟨x, m, m1, hr, rfl⟩
  · exact six_none h hv
  · exact six_some h hv m1 hr
theorem told_four {n : Nat} (h : n < 4294967296) : toldF ⟨(text4 n).toArray⟩ = some ⟨false, 0, n⟩ := by
  have hd : ∀ x ∈ [dec3 (n / 2 ^ 24 % 256), dec3 (n / 2 ^ 16 % 256), dec3 (n / 2 ^ 8 % 256), dec3 (n % 256)], (58 : UInt8) ∉ x ∧ (46 : UInt8) ∉ x := fun x hx => by
    simp only [List.mem_cons, List.not_mem_nil, or_false] at hx
    rcases hx with rfl | rfl | rfl | rfl <;> exact ⟨fun hc => ((dec3_chars _ (by omega)).2.2 _ hc).1 rfl, fun hc => ((dec3_chars _ (by omega)).2.2 _ hc).2.1 rfl⟩
  have hno : (58 : UInt8) ∉ text4 n := fun hc => by
    rcases join_mem 46 58 _ hc with ⟨x, hx, hc⟩ | ⟨e, _⟩
    · exact (hd x hx).1 hc
    · exact absurd e (by decide)
  unfold toldF
  rw [colonIn_no hno, if_neg (by simp)]
  unfold fourF
  have hs : splitOn ⟨(text4 n).toArray⟩ 46 = [⟨(dec3 (n / 2 ^ 24 % 256)).toArray⟩, ⟨(dec3 (n / 2 ^ 16 % 256)).toArray⟩, ⟨(dec3 (n / 2 ^ 8 % 256)).toArray⟩, ⟨(dec3 (n % 256)).toArray⟩] := by
    unfold text4
    rw [split_join 46 (by simp) fun x hx => (hd x hx).2]
    rfl
  rw [hs]
  simp only [List.length_cons, List.length_nil, Nat.zero_add, Nat.reduceAdd, if_true]
  have step : ∀ (k b : Nat) (r : List ByteArray), b < 256 → k < 4294967296 → fourL (⟨(dec3 b).toArray⟩ :: r) (k : Int) = fourL r ((k * 256 + b : Nat) : Int) := fun k b r hb hk => by
    rw [fourL, part_dec b hb]
    simp only
    have hs : aop .shl .u64 (k : Int) 8 = ((2 ^ 8 * k : Nat) : Int) := shl_nat k 8 (by omega) (by omega)
    rw [hs, or_low k b 8 (by omega) (by omega), show 2 ^ 8 * k + b = k * 256 + b by omega]
  rw [show (0 : Int) = ((0 : Nat) : Int) from rfl, step 0 _ _ (by omega) (by omega), step _ _ _ (by omega) (by omega), step _ _ _ (by omega) (by omega), step _ _ _ (by omega) (by omega), fourL]
  simp only [Option.map_some]
  congr 2
  omega
end Go.Ma
