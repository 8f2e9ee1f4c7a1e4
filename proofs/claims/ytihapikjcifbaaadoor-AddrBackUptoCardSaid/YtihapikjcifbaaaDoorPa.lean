/-
  Plain laws on the answers that the plain forms are made of: choices, requirements, loops, rows, strings.
-/
import Derived.Test.YtihapikjcifbaaaDoorMaR
import Derived.Test.YtihapikjcifbaaaDoorMaH
import Derived.Test.YtihapikjcifbaaaDoorMaJ
namespace Go.Ma
open Go

section
variable {X Y : Type}
theorem br_ss (c : Bool) (x y : X) : br c (some x) (some y) = some (bif c then x else y) := by cases c <;> rfl
theorem br_sb (c x y : Bool) : br c (some x) (some y) = some (bif c then x else y) := br_ss c x y
theorem br_true (a b : Option X) : br true a b = a := rfl
theorem br_false (a b : Option X) : br false a b = b := rfl
theorem br_same (c : Bool) (a : Option X) : br c a a = a := by cases c <;> rfl
theorem req_true (a : Option X) : req true a = a := rfl
theorem req_of {c : Bool} (h : c = true) (a : Option X) : req c a = a := by rw [h]; rfl
theorem both_self (a : Option X) : both a a = a := by unfold both; exact if_pos rfl
theorem dup_eq (n : Nat) (a : Option X) : dup n a = a := by
  induction n with
  | zero => rfl
  | succ n ih => rw [dup, ih, both_self]
theorem bind_s (x : X) (f : X → Option Y) : (some x).bind f = f x := rfl
end

/-! Numbers. -/
def betw (x a b : Int) : Bool := decide (a ≤ x) && decide (x ≤ b)
theorem betw_iff {x a b : Int} : betw x a b = true ↔ a ≤ x ∧ x ≤ b := by simp [betw]
theorem betw_bif (x a b : Int) : (bif decide (x ≥ a) then decide (x ≤ b) else false) = betw x a b := by
  unfold betw
  cases decide (x ≥ a) <;> rfl
theorem i64ok_of {x : Int} (h : -9223372036854775808 ≤ x) (h' : x < 9223372036854775808) : i64ok x = true := i64ok_iff.2 ⟨h, h'⟩
theorem inRange_of {i n : Int} (h : 0 ≤ i) (h' : i < n) : inRange i n = true := by simp [inRange, h, h']
theorem room_of {a b : Int} (h0 : 0 ≤ a) (h1 : 0 ≤ b) (h : a + b ≤ 274877906944) : room a b = true := by
  unfold room
  rw [Nat.ble_eq]
  omega

/-! Rows. -/
section
variable {α : Type}
theorem lenL_nonneg (l : List α) : 0 ≤ lenL l := by unfold lenL; omega
theorem lenL_nil : lenL ([] : List α) = 0 := rfl
theorem lenL_cons (a : α) (l : List α) : lenL (a :: l) = lenL l + 1 := by simp [lenL]
theorem lenL_app (l l' : List α) : lenL (l ++ l') = lenL l + lenL l' := by simp [lenL]
theorem geti_nat (l : List α) (i : Nat) : geti l (i : Int) = l[i]? := by
  unfold geti
  rw [if_pos (by omega)]
  rfl
theorem geti_at {l : List α} {i : Nat} {a : α} (h : l[i]? = some a) : geti l (i : Int) = some a := (geti_nat l i).trans h
end

/-! Loops. -/
theorem loopN_succ {α Y : Type} (step : (α → Option Y) → α → Option Y) (n : Nat) (x : α) : loopN step (n + 1) x = step (loopN step n) x := rfl
/-- A loop comes to f, if each round does, f being what the rest comes to. -/
theorem loop_by {α Y : Type} {step : (α → Option Y) → α → Option Y} (I : α → Prop) (μ : α → Nat) (f : α → Option Y)
    (h : ∀ rec x, I x → (∀ x', I x' → μ x' < μ x → rec x' = f x') → step rec x = f x) : ∀ (N : Nat) (x : α), I x → μ x < N → loopN step N x = f x := by
  intro N
  induction N with
  | zero => intro x _ hx; omega
  | succ N ih =>
    intro x hI hx
    exact h _ x hI fun x' hI' hx' => ih x' hI' (by omega)
/-- A loop that counts from i to n. -/
theorem loop_up {α Y : Type} {step : (α → Option Y) → α → Option Y} (mk : Nat → α) (n : Nat) (f : Nat → Option Y)
    (h : ∀ (rec : α → Option Y) i, i < n → rec (mk (i + 1)) = f (i + 1) → step rec (mk i) = f i) (hend : ∀ rec, step rec (mk n) = f n) : ∀ (N i : Nat), i ≤ n → n - i < N → loopN step N (mk i) = f i := by
  intro N
  induction N with
  | zero => intro i _ hx; omega
  | succ N ih =>
    intro i hi hx
    rw [loopN_succ]
    by_cases he : i = n
    · subst he; exact hend _
    · exact h _ i (by omega) (ih (i + 1) (by omega) (by omega))
/-- .. that counts, something being so at each round. -/
theorem loop_upI {α Y : Type} {step : (α → Option Y) → α → Option Y} (mk : Nat → α) (n : Nat) (f : Nat → Option Y) (I : Nat → Prop)
    (h : ∀ (rec : α → Option Y) i, i < n → I i → (I (i + 1) → rec (mk (i + 1)) = f (i + 1)) → step rec (mk i) = f i) (hend : ∀ rec, I n → step rec (mk n) = f n) : ∀ (N i : Nat), i ≤ n → I i → n - i < N → loopN step N (mk i) = f i := by
  intro N
  induction N with
  | zero => intro i _ _ hx; omega
  | succ N ih =>
    intro i hi hI hx
    rw [loopN_succ]
    by_cases he : i = n
    · subst he; exact hend _ hI
    · exact h _ i (by omega) hI fun hI' => ih (i + 1) (by omega) hI' (by omega)
theorem fuel_gt {n : Nat} (h : n < 18446744073709551616) : n < FUEL := by unfold FUEL; exact h
theorem maxLen_fuel {n : Nat} (h : n ≤ maxLen) : n < FUEL := by
  unfold FUEL
  have : maxLen < 18446744073709551616 := by unfold maxLen; decide
  exact Nat.lt_of_le_of_lt h this

/-! Strings. -/
theorem toList_loop (b : ByteArray) (i : Nat) (r : List UInt8) : ByteArray.toList.loop b i r = r.reverse ++ b.data.toList.drop i := by
  rw [ByteArray.toList.loop]
  split
  · rename_i h
    rw [toList_loop b (i + 1)]
    have h' : i < b.data.toList.length := by simpa using h
    rw [List.drop_eq_getElem_cons h', List.reverse_cons, List.append_assoc]
    have e : b.get! i = b.data.toList[i] := by
      simp only [ByteArray.get!, Array.getElem_toList]
      exact getElem!_pos b.data i (by simpa using h)
    rw [e]
    rfl
  · rename_i h
    rw [List.drop_of_length_le (by simpa using h), List.append_nil]
  termination_by b.size - i
theorem toList_data (b : ByteArray) : b.toList = b.data.toList := by
  rw [ByteArray.toList, toList_loop]; rfl
theorem beqL_iff (x y : ByteArray) : (x.toList == y.toList) = decide (x = y) := by
  have e : (x.toList = y.toList) = (x = y) := by
    rw [toList_data, toList_data]
    refine propext ⟨fun h => ByteArray.ext (Array.toList_inj.1 h), fun h => by rw [h]⟩
  simp only [← e]
  exact Bool.eq_iff_iff.2 (by simp)
theorem strcmp_eql (x y : ByteArray) : strcmp .eql x y = decide (x = y) := beqL_iff x y
theorem strcmp_neq (x y : ByteArray) : strcmp .neq x y = !decide (x = y) := by
  show (!(x.toList == y.toList)) = _
  rw [beqL_iff]
theorem lt_of_max {n : Nat} (h : n ≤ maxLen) : n < 9223372036854775808 := Nat.lt_of_le_of_lt h (by unfold maxLen; decide)
theorem byteAt_eq {s : ByteArray} {i : Nat} {b : UInt8} (h : s.data.toList[i]? = some b) : byteAt s (i : Int) = (b.toNat : Int) := by
  have h' : s[i]? = some b := by
    rw [Array.getElem?_toList] at h
    obtain ⟨hl, he⟩ := Array.getElem?_eq_some_iff.1 h
    rw [getElem?_pos s i hl]
    exact congrArg some he
  unfold byteAt
  simp only [Int.toNat_natCast]
  rw [h']
theorem data_len (s : ByteArray) : s.data.toList.length = s.size := by simp
theorem drop_all {α : Type} (p : α → Bool) {l : List α} {i : Nat} {a : α} (h : l[i]? = some a) : (l.drop i).all p = (p a && (l.drop (i + 1)).all p) := by
  obtain ⟨hl, he⟩ := List.getElem?_eq_some_iff.1 h
  rw [List.drop_eq_getElem_cons hl, he, List.all_cons]
theorem drop_cons {α : Type} {l : List α} {i : Nat} {a : α} (h : l[i]? = some a) : l.drop i = a :: l.drop (i + 1) := by
  obtain ⟨hl, he⟩ := List.getElem?_eq_some_iff.1 h
  rw [List.drop_eq_getElem_cons hl, he]
end Go.Ma
