/-
  The document's names, and how wide a pool may be.
-/
import Derived.Test.YtjadfkpajjlgkaaPw
import Derived.Test.YtjadfkpajjlgkaaPf
namespace Go.Ma
open Go

theorem convI_byte (b : UInt8) : convI .i64 (b.toNat : Int) = (b.toNat : Int) := by
  have := b.toNat_lt
  exact wrap_i64 (by omega) (by omega)
theorem R_IsWho_eq {s : ByteArray} (h : strIn s) : R_IsWho_t s = some (whoOk s, ()) := by
  have hs : s.size < 9223372036854775808 := lt_of_max h
  have hl : loopN R_IsWho_L2 FUEL (((s, ()), (0, ()), ()), ()) = some (if (s.data.toList.drop 0).all lowB then Sum.inr (((s, ()), ()), ()) else Sum.inl ((((false : Bool), ()), ()), ())) := by
    refine loop_up (step := R_IsWho_L2) (fun i => (((s, ()), ((i : Int), ()), ()), ())) s.size (fun i => some (if (s.data.toList.drop i).all lowB then Sum.inr (((s, ()), ()), ()) else Sum.inl ((((false : Bool), ()), ()), ()))) (fun rec i hi hr => ?_) (fun rec => ?_) FUEL 0 (Nat.zero_le _) (fuel_gt (by omega))
    · obtain ⟨b, hb⟩ : ∃ b, s.data.toList[i]? = some b := ⟨_, List.getElem?_eq_getElem (by rw [data_len]; exact hi)⟩
      simp only [R_IsWho_L2]
      have hr1 : inRange (i : Int) (lenS s) = true := inRange_of (by omega) (by unfold lenS; omega)
      rw [decide_eq_true (show (i : Int) < lenS s by unfold lenS; omega), br_true]
      simp only [hr1, req_true, byteAt_eq hb, convI_byte, R_between_eq, bind_s, br_sb]
      rw [show ((i : Int) + 1) = ((i + 1 : Nat) : Int) by omega, req_of (i64ok_of (by omega) (by omega)), hr, drop_all lowB hb]
      have : (bif !betw (b.toNat : Int) 97 122 then !betw (b.toNat : Int) 48 57 else false) = !lowB b := by
        unfold lowB
        cases betw (b.toNat : Int) 97 122 <;> cases betw (b.toNat : Int) 48 57 <;> rfl
      rw [this]
      cases lowB b <;> simp [br_true, br_false]
    · simp only [R_IsWho_L2]
      rw [decide_eq_false (show ¬ (s.size : Int) < lenS s by unfold lenS; omega), br_false, List.drop_of_length_le (by rw [data_len]; exact Nat.le_refl _)]
      rfl
  unfold R_IsWho_t whoOk
  rw [hl, bind_s, List.drop_zero]
  cases s.data.toList.all lowB
  · rfl
  · simp only [if_true, sumC, R_between_eq, bind_s, Bool.true_and]
theorem R_IsNarrow_eq {p : Pf} (h : chkP p = 0) : R_IsNarrow_t p = some (decide (((wid p.ad.v6 : Nat) : Int) - p.bits ≤ 4), ()) := by
  obtain ⟨h1, h2⟩ := chkP_bits h
  have := wid_le p.ad.v6
  unfold R_IsNarrow_t
  rw [R_wide_eq, bind_s, req_of (i64ok_of (by simp only; omega) (by simp only; omega))]
end Go.Ma
