/-
  Who may be asked for, and how wide a pool may be.
-/
import Derived.Test.YtjadfkpajjlgkaaPc
namespace Go.Ma
open Go

/-! Who. -/
def lowB (b : UInt8) : Bool := betw (b.toNat : Int) 97 122 || betw (b.toNat : Int) 48 57
def whoOk (s : ByteArray) : Bool := s.data.toList.all lowB && betw (lenS s) 1 8
theorem lease_within_eq (x a b : Int) : lease_within_t x a b = some (betw x a b, ()) := by
  unfold lease_within_t
  rw [br_ss, bind_s, betw_bif]
theorem lease_Who_eq {s : ByteArray} (h : strIn s) : lease_Who_t s = some (whoOk s, ()) := by
  have hs : s.size < 9223372036854775808 := lt_of_max h
  have hl : ∀ i, i ≤ s.size → loopN lease_Who_L2 FUEL (((s, ()), (lenS s, ()), ((i : Int), ()), ()), ()) = some (if (s.data.toList.drop i).all lowB then Sum.inr (((s, ()), ()), ()) else Sum.inl ((((false : Bool), ()), ()), ())) := by
    intro i hi
    refine loop_up (fun i => ((((s, ()), (lenS s, ()), ((i : Int), ()), ()), ()) : (((ByteArray × Unit) × (Int × Unit) × (Int × Unit) × Unit) × (Unit)))) s.size (fun i => some (if (s.data.toList.drop i).all lowB then Sum.inr (((s, ()), ()), ()) else Sum.inl ((((false : Bool), ()), ()), ()))) (fun rec i hi hr => ?_) (fun rec => ?_) FUEL i hi (fuel_gt (by omega))
    · obtain ⟨b, hb⟩ : ∃ b, s.data.toList[i]? = some b := ⟨_, List.getElem?_eq_getElem (by rw [data_len]; exact hi)⟩
      simp only [lease_Who_L2]
      rw [decide_eq_true (show (i : Int) < lenS s by unfold lenS; omega), br_true, req_of (inRange_of (by omega) (by unfold lenS; omega)), byteAt_eq hb]
      rw [br_ss, bind_s]
      simp only [br_ss, bind_s]
      rw [show ((i : Int) + 1) = ((i + 1 : Nat) : Int) by omega] 
      rw [req_of (i64ok_of (by omega) (by omega)), hr, drop_all lowB hb]
      have : (bif !(bif decide ((b.toNat : Int) ≥ 97) then decide ((b.toNat : Int) ≤ 122) else false) then (bif decide ((b.toNat : Int) ≥ 48) then !decide ((b.toNat : Int) ≤ 57) else true) else false) = !lowB b := by
        rw [betw_bif]
        unfold lowB
        cases betw (b.toNat : Int) 97 122
        · unfold betw
          by_cases h1 : (48 : Int) ≤ b.toNat <;> simp [h1]
        · rfl
      rw [this]
      cases lowB b <;> simp [br_true, br_false]
    · simp only [lease_Who_L2]
      rw [decide_eq_false (show ¬ (s.size : Int) < lenS s by unfold lenS; omega), br_false, List.drop_of_length_le (by rw [data_len]; exact Nat.le_refl _)]
      rfl
  unfold lease_Who_t whoOk
  have := hl 0 (Nat.zero_le _)
  rw [List.drop_zero] at this
  rw [show ((0 : Nat) : Int) = 0 from rfl] at this
  rw [this, bind_s]
  cases s.data.toList.all lowB
  · rfl
  · simp only [if_true, sumC, lease_within_eq, bind_s, Bool.true_and]

theorem lease_Narrow_eq {p : Pf} (h : chkP p = 0) : lease_Narrow_t p = some (decide (((wid p.ad.v6 : Nat) : Int) - p.bits ≤ 4), ()) := by
  obtain ⟨h1, h2⟩ := chkP_bits h
  have := wid_le p.ad.v6
  unfold lease_Narrow_t
  rw [prefix_Wide_eq, bind_s, req_of (i64ok_of (by simp only; omega) (by simp only; omega))]
theorem ite_ne {α : Type} {p : Prop} [Decidable p] (h : ¬ p) (a b : α) : (if p then a else b) = b := if_neg h
end Go.Ma
