/-
  AddrBack: what is printed is parsed as it was; whatever is parsed is printed in one way alone, never longer than it need be.
-/
import Derived.Test.YtihapikjcifbaaaDoorRd
import Derived.Test.YtihapikjcifbaaaDoorCe
namespace Go.Ma
open Go

def parseA (s : ByteArray) : Ad × Int × Unit := match toldF s with | some a => (a, 0, ()) | none => (⟨false, 0, 0⟩, 1, ())
theorem addr_Parse_eq {s : ByteArray} (hs : s.size ≤ 4294967200) : addr_Parse_t s = some (parseA s) := by
  unfold addr_Parse_t addr_told_t parseA toldA
  rw [req_of (Nat.ble_eq_true_of_le hs), bind_s]
  cases toldF s <;> rfl
theorem print_wrong {a : Ad} (h : chkA a ≠ 0) : addr_Print_t a = some (ByteArray.empty, chkA a, ()) := by
  unfold addr_Print_t
  rw [addr_Check_eq, bind_s, decide_eq_false (show ¬ (chkA a, ()).1 = 0 from h), Bool.not_false, br_true]
theorem print_right {a : Ad} (h : a.wf) (hc : chkA a = 0) : ∃ T : List UInt8, addr_Print_t a = some (⟨T.toArray⟩, 0, ()) ∧ addr_Parse_t ⟨T.toArray⟩ = some (a, 0, ()) ∧ T.length ≤ 39 := by
  obtain ⟨T, h1, h2, h3⟩ := text_back h hc
  refine ⟨T, ?_, ?_, h3⟩
  · unfold addr_Print_t
    rw [addr_Check_eq, bind_s, decide_eq_true (show (chkA a, ()).1 = 0 from hc), Bool.not_true, br_false, h1, bind_s]
  · rw [addr_Parse_eq (by simp [ByteArray.size]; omega)]
    unfold parseA
    rw [h2]
/-- What follows when the first half is right. -/
theorem back_tail {s : ByteArray} (hs : s.size ≤ 4294967200) :
    ((addr_Parse_t s).bind fun y5 =>
        br (!decide (y5.2.1 = 0))
          (some (eqAd y5.1 (⟨false, 0, 0⟩ : Ad), ()))
          ((addr_Print_t y5.1).bind fun y6 =>
          (addr_Parse_t y6.1).bind fun y7 =>
          (br (decide (y6.2.1 = 0))
              (some (decide (y7.2.1 = 0)))
              (some false)).bind fun c8 =>
          (br c8
              (some (eqAd y7.1 y5.1))
              (some false)).bind fun c9 =>
          (br c9
              ((addr_Check_t y5.1).bind fun y10 =>
              some (decide (y10.1 = 0)))
              (some false)).bind fun c10 =>
          (br c10
              (some (decide (lenS y6.1 ≤ 39)))
              (some false)).bind fun c11 =>
          (some (c11, ()) : Option (Bool × Unit)))) = some (true, ()) := by
  rw [addr_Parse_eq hs, bind_s]
  unfold parseA
  cases h : toldF s with
  | none => simp [br, eqAd_eq]
  | some b =>
    obtain ⟨b1, b2⟩ := toldF_right h
    obtain ⟨T, p1, p2, p3⟩ := print_right b1 b2
    simp only [decide_true, Bool.not_true, br_false]
    rw [p1, bind_s, p2, bind_s]
    have hl : lenS (⟨T.toArray⟩ : ByteArray) ≤ 39 := by simp [lenS, ByteArray.size]; omega
    simp [br, eqAd_eq, addr_Check_eq, b2, hl]
theorem AddrBack_eq {a : Ad} (ha : a.In) {s : ByteArray} (hs : s.size ≤ 4294967200) : law_AddrBack_t a s = some (true, ()) := by
  have ht := back_tail hs
  unfold law_AddrBack_t
  rw [addrBegun_eq, bind_s, Bool.not_true, br_false]
  by_cases hc : chkA a = 0
  · obtain ⟨T, p1, p2, _⟩ := print_right ha.wf hc
    rw [p1, bind_s, decide_eq_true (show ((⟨T.toArray⟩ : ByteArray), (0 : Int), ()).2.1 = 0 from rfl), br_true, p2, bind_s]
    have e : (br (!decide ((a, (0 : Int), ()).2.1 = 0)) (some true) (some (!(eqAd (a, (0 : Int), ()).1 a)))) = some false := by simp [br, eqAd_eq]
    rw [e, bind_s, br_false]
    exact ht
  · rw [print_wrong hc, bind_s, decide_eq_false (show ¬ (ByteArray.empty, chkA a, ()).2.1 = 0 from hc), br_false]
    exact ht
end Go.Ma
