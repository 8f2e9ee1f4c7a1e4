/-
  Leases of a pool: what is wrong with a pool, and with its leases: the program's and the document's.
-/
import Derived.Test.YtjadfkpajjlgkaaLb
import Derived.Test.YtjadfkpajjlgkaaHe
import Derived.Test.YtjadfkpajjlgkaaPm
namespace Go.Ma
open Go

theorem chkLs_ad {x : Ls} (h : chkLs x = 0) : chkA x.ad = 0 ∧ whoOk x.who = true ∧ betw x.upto 0 10499 = true := by
  unfold chkLs at h
  split at h
  · rename_i h1; exact absurd h h1
  split at h
  · cases h
  split at h
  · cases h
  · rename_i h1 h2 h3
    exact ⟨Decidable.not_not.1 h1, by simpa using h2, by simpa using h3⟩
theorem chkLsF_all : ∀ {l : List Ls}, chkLsF l = 0 → ∀ x ∈ l, chkLs x = 0
  | [], _, x, hx => by cases hx
  | y :: r, h, x, hx => by
    unfold chkLsF at h
    split at h
    · rename_i h1; exact absurd h h1
    · rename_i h1
      rcases List.mem_cons.1 hx with rfl | hx
      · exact Decidable.not_not.1 h1
      · exact chkLsF_all h x hx
theorem allC_ok {l : List Ls} {now : Int} (h : allC l now = 0) : l.length ≤ 20 ∧ (∀ x ∈ l, chkLs x = 0) ∧ ascL l = true ∧ betw now 0 9999 = true := by
  have h0 := allC_len h
  unfold allC at h
  rw [if_neg (by omega)] at h
  split at h
  · rename_i h1; exact absurd h h1
  split at h
  · cases h
  split at h
  · cases h
  · rename_i h1 h2 h3
    exact ⟨h0, chkLsF_all (Decidable.not_not.1 h1), by simpa using h2, by simpa using h3⟩
def lsOutR (l : List Ls) (now : Int) (r : Int) : (((Int × Unit) × Unit) × (List Ls × Unit)) ⊕ (((Unit) × (Int × Unit) × Unit) × (List Ls × Unit)) := lsOut l now r
theorem rleases_loop1 {l : List Ls} (h : lsIn l) (hlen : l.length ≤ 20) (now : Int) : loopN R_CheckLeases_L4 FUEL (((), (now, ()), (0, ()), ()), (l, ())) = some (lsOut l now (chkLsF l)) := by
  have := loop_up (step := R_CheckLeases_L4) (fun i => (((), (now, ()), ((i : Int), ()), ()), (l, ()))) l.length (fun i => some (lsOut l now (chkLsF (l.drop i)))) (fun rec i hi hr => ?_) (fun rec => ?_) FUEL 0 (Nat.zero_le _) (fuel_gt (by omega))
  · exact this
  · obtain ⟨e, he⟩ : ∃ e, l[i]? = some e := ⟨_, List.getElem?_eq_getElem hi⟩
    have hin := h e (List.mem_of_getElem? he)
    have r1 : inRange (i : Int) (lenL l) = true := inRange_of (by omega) (by unfold lenL; omega)
    simp only [R_CheckLeases_L4]
    rw [decide_eq_true (show (i : Int) < lenL l by unfold lenL; omega), br_true]
    simp only [r1, req_true, geti_at he, bind_s, R_CheckAddr_eq hin.1, R_IsWho_eq hin.2.1, R_between_eq]
    rw [drop_cons he, chkLsF]
    unfold chkLs
    by_cases hc : chkA e.ad = 0
    · simp only [hc, decide_true, Bool.not_true, br_false, ne_eq, not_true, if_false]
      cases whoOk e.who
      · rfl
      · simp only [Bool.not_true, br_false, Bool.true_eq_false, if_false]
        cases betw e.upto 0 10499
        · rfl
        · simp only [Bool.not_true, br_false, Bool.true_eq_false, if_false, not_true]
          rw [show ((i : Int) + 1) = ((i + 1 : Nat) : Int) by omega, req_of (i64ok_of (by omega) (by omega)), hr]
    · simp only [hc, decide_false, Bool.not_false, br_true, ne_eq, not_false_eq_true, if_true]
      rw [lsOut_ne hc]
  · simp only [R_CheckLeases_L4]
    rw [decide_eq_false (show ¬ (l.length : Int) < lenL l by unfold lenL; omega), br_false, List.drop_of_length_le (Nat.le_refl _)]
    rfl
theorem ahead_ord {a b : Ad} (ha : a.In) (hb : b.In) : aheadA a b = decide (ordA a b < 0) := by
  rw [ahead_rank ha hb]
  exact decide_eq_decide.2 (ord_rank ha hb).1.symm
theorem rleases_loop2 {l : List Ls} (h : lsIn l) (hc : ∀ x ∈ l, chkLs x = 0) (hlen : l.length ≤ 20) (now : Int) : loopN R_CheckLeases_L14 FUEL (((), (now, ()), (1, ()), ()), (l, ())) = some (ascOut l now (ascL l)) := by
  have := loop_upI (step := R_CheckLeases_L14) (fun i => (((), (now, ()), ((i : Int), ()), ()), (l, ()))) (max 1 l.length) (fun i => some (ascOut l now (ascAt l i))) (fun i => 1 ≤ i) (fun rec i hi h1 hr => ?_) (fun rec h1 => ?_) FUEL 1 (by omega) (Nat.le_refl _) (fuel_gt (by omega))
  · rw [ascAt_one] at this
    exact this
  · have hi' : i < l.length := by omega
    obtain ⟨k, rfl⟩ : ∃ k, i = k + 1 := ⟨i - 1, by omega⟩
    obtain ⟨e, he⟩ : ∃ e, l[k]? = some e := ⟨_, List.getElem?_eq_getElem (by omega)⟩
    obtain ⟨e', he'⟩ : ∃ e, l[k + 1]? = some e := ⟨_, List.getElem?_eq_getElem hi'⟩
    have r1 : inRange ((k + 1 : Nat) : Int) (lenL l) = true := inRange_of (by omega) (by unfold lenL; omega)
    have r2 : inRange (k : Int) (lenL l) = true := inRange_of (by omega) (by unfold lenL; omega)
    have m1 := List.mem_of_getElem? he
    have m2 := List.mem_of_getElem? he'
    simp only [R_CheckLeases_L14]
    rw [decide_eq_true (show ((k + 1 : Nat) : Int) < lenL l by unfold lenL; omega), br_true, show (((k + 1 : Nat) : Int) - 1) = (k : Int) by omega, req_of (i64ok_of (by omega) (by omega))]
    simp only [r1, r2, req_true, geti_at he, geti_at he', bind_s, R_IsAhead_eq (h e m1).1 (h e' m2).1 (chkLs_ad (hc e m1)).1 (chkLs_ad (hc e' m2)).1, ahead_ord (h e m1).1 (h e' m2).1]
    have ha : ascAt l (k + 1) = (decide (ordA e.ad e'.ad < 0) && ascAt l (k + 1 + 1)) := by
      unfold ascAt
      simp only [Nat.add_sub_cancel, he, he']
      rw [drop_cons he', ascF]
    rw [ha]
    by_cases hc : ordA e.ad e'.ad < 0
    · simp only [hc, decide_true, Bool.not_true, br_false, Bool.true_and]
      rw [show (((k + 1 : Nat) : Int) + 1) = ((k + 1 + 1 : Nat) : Int) by omega, req_of (i64ok_of (by omega) (by omega)), hr (by omega)]
    · simp only [hc, decide_false, Bool.not_false, br_true, Bool.false_and]
      rfl
  · simp only [R_CheckLeases_L14]
    rw [decide_eq_false (show ¬ ((max 1 l.length : Nat) : Int) < lenL l by unfold lenL; omega), br_false]
    have : ascAt l (max 1 l.length) = true := by
      unfold ascAt
      rw [List.drop_of_length_le (by omega)]
      cases l[max 1 l.length - 1]? <;> rfl
    rw [this]
    rfl
theorem R_CheckLeases_eq {l : List Ls} (h : lsIn l) (now : Int) : R_CheckLeases_t l now = some (allC l now, ()) := by
  unfold R_CheckLeases_t allC
  by_cases hlen : l.length > 20
  · rw [if_pos hlen, decide_eq_true (show lenL l > 20 by unfold lenL; omega), br_true]
  rw [if_neg hlen, decide_eq_false (show ¬ lenL l > 20 by unfold lenL; omega), br_false, rleases_loop1 h (by omega), bind_s]
  by_cases hc : chkLsF l = 0
  rotate_left
  · rw [lsOut_ne hc, if_pos hc]; rfl
  rw [if_neg (fun h => h hc), hc]
  simp only [lsOut, if_true, sumC]
  rw [rleases_loop2 h (chkLsF_all hc) (by omega), bind_s]
  cases ascL l
  · rfl
  · simp only [ascOut, if_true, sumC, Bool.true_eq_false, if_false, R_between_eq, bind_s]
    cases betw now 0 9999 <;> rfl

/-! Pools. -/
def adIn (l : List Ad) : Prop := ∀ a ∈ l, a.In
def backB : Option Ad → Ad → Bool
  | some b, a => decide (ordA b a ≥ 0)
  | none, _ => false
/-- What is wrong with those kept back, behind 'prev'. -/
def keptF (p : Pf) : Option Ad → List Ad → Int
  | _, [] => 0
  | prev, a :: r => if chkA a ≠ 0 then chkA a else if holds p a = false then 5 else if backB prev a = true then 4 else keptF p (some a) r
def chkPool (p : Pf) (kp : List Ad) : Int := if chkP p ≠ 0 then chkP p else if ¬ ((wid p.ad.v6 : Nat) : Int) - p.bits ≤ 4 ∨ kp.length > 6 then 2 else keptF p none kp
def prevA (kp : List Ad) (i : Nat) : Option Ad := match i with | 0 => none | k + 1 => kp[k]?
def poolOut (kp : List Ad) (r : Int) : (((Int × Unit) × Unit) × (List Ad × Unit)) ⊕ ((Unit) × (List Ad × Unit)) := if r = 0 then Sum.inr ((), (kp, ())) else Sum.inl (((r, ()), ()), (kp, ()))
theorem poolOut_ne {kp : List Ad} {r : Int} (h : r ≠ 0) : poolOut kp r = Sum.inl (((r, ()), ()), (kp, ())) := by rw [poolOut, if_neg h]
theorem pool_loop {p : Pf} (cp : chkP p = 0) {kp : List Ad} (h : adIn kp) (hlen : kp.length ≤ 6) : loopN lease_Pool_L7 FUEL (((), (), (lenL kp, ()), (0, ()), ()), (kp, (p.ad.v6, p.ad.hi, p.ad.lo, p.bits, ()), ())) = some (poolOut kp (keptF p none kp)) := by
  obtain ⟨b1, b2⟩ := chkP_bits cp
  have := loop_up (step := lease_Pool_L7) (fun i => (((), (), (lenL kp, ()), ((i : Int), ()), ()), (kp, (p.ad.v6, p.ad.hi, p.ad.lo, p.bits, ()), ()))) kp.length (fun i => some (poolOut kp (keptF p (prevA kp i) (kp.drop i)))) (fun rec i hi hr => ?_) (fun rec => ?_) FUEL 0 (Nat.zero_le _) (fuel_gt (by omega))
  · exact this
  · obtain ⟨e, he⟩ : ∃ e, kp[i]? = some e := ⟨_, List.getElem?_eq_getElem hi⟩
    simp only [lease_Pool_L7]
    rw [decide_eq_true (show (i : Int) < lenL kp by unfold lenL; omega), br_true, req_of (inRange_of (by omega) (by unfold lenL; omega)), geti_at he, bind_s, addr_Check_eq, bind_s, drop_cons he, keptF]
    by_cases hc : chkA e = 0
    rotate_left
    · simp only [hc, decide_false, Bool.not_false, br_true, ne_eq, not_false_eq_true, if_true]
      rw [poolOut_ne hc]
    simp only [hc, decide_true, Bool.not_true, br_false, ne_eq, not_true, if_false]
    rw [prefix_Holds_eq (p := p) b1 b2 (h e (List.mem_of_getElem? he)), bind_s]
    cases holds p e
    · rfl
    simp only [Bool.not_true, br_false, Bool.true_eq_false, if_false]
    have hcd : (br (decide ((i : Int) > 0)) (req (i64ok ((i : Int) - 1)) (req (inRange ((i : Int) - 1) (lenL kp)) ((geti kp ((i : Int) - 1)).bind fun p4 => (addr_Order_t p4 e).bind fun y5 => some (decide (y5.1 ≥ 0))))) (some false)) = some (backB (prevA kp i) e) := by
      cases i with
      | zero => rfl
      | succ k =>
        obtain ⟨e', he'⟩ : ∃ e, kp[k]? = some e := ⟨_, List.getElem?_eq_getElem (by omega)⟩
        rw [decide_eq_true (by omega), br_true, show (((k + 1 : Nat) : Int) - 1) = (k : Int) by omega, req_of (i64ok_of (by omega) (by omega)), req_of (inRange_of (by omega) (by unfold lenL; omega)), geti_at he', bind_s, addr_Order_eq, bind_s]
        simp only [prevA, he', backB]
    rw [hcd, bind_s]
    have hp1 : prevA kp (i + 1) = some e := he
    cases (backB (prevA kp i) e)
    · simp only [br_false, Bool.false_eq_true, if_false]
      rw [show ((i : Int) + 1) = ((i + 1 : Nat) : Int) by omega, req_of (i64ok_of (by omega) (by omega)), hr, hp1]
    · rfl
  · simp only [lease_Pool_L7]
    rw [decide_eq_false (show ¬ (kp.length : Int) < lenL kp by unfold lenL; omega), br_false, List.drop_of_length_le (Nat.le_refl _)]
    rfl
theorem lease_Pool_eq {p : Pf} (hp : p.In) {kp : List Ad} (h : adIn kp) : lease_Pool_t p kp = some (chkPool p kp, ()) := by
  unfold lease_Pool_t chkPool
  rw [prefix_Check_eq hp, bind_s]
  by_cases hc : chkP p = 0
  rotate_left
  · simp only [hc, decide_false, Bool.not_false, br_true, ne_eq, not_false_eq_true, if_true]
  simp only [hc, decide_true, Bool.not_true, br_false, ne_eq, not_true, if_false]
  rw [lease_Narrow_eq hc, bind_s]
  by_cases hn : ((wid p.ad.v6 : Nat) : Int) - p.bits ≤ 4
  rotate_left
  · simp only [hn, decide_false, Bool.not_false, br_true, bind_s, not_false_eq_true, true_or, if_true]
  by_cases hk : kp.length > 6
  · rw [if_pos (.inr hk)]
    simp only [hn, decide_true, Bool.not_true, br_false, bind_s]
    rw [decide_eq_true (show lenL kp > 6 by unfold lenL; omega), br_true]
  rw [if_neg (by simp only [not_or]; exact ⟨fun h => h hn, hk⟩)]
  simp only [hn, decide_true, Bool.not_true, br_false, bind_s]
  rw [decide_eq_false (show ¬ lenL kp > 6 by unfold lenL; omega), br_false, pool_loop hc h (by omega), bind_s]
  unfold poolOut
  by_cases h0 : keptF p none kp = 0
  · rw [if_pos h0, h0]; rfl
  · rw [if_neg h0]; rfl
theorem rpool_loop {p : Pf} (hp : p.In) (cp : chkP p = 0) {kp : List Ad} (h : adIn kp) (hlen : kp.length ≤ 6) : loopN R_CheckPool_L7 FUEL (((), (0, ()), ()), (kp, (p.ad.v6, p.ad.hi, p.ad.lo, p.bits, ()), ())) = some (poolOut kp (keptF p none kp)) := by
  have := loop_upI (step := R_CheckPool_L7) (fun i => (((), ((i : Int), ()), ()), (kp, (p.ad.v6, p.ad.hi, p.ad.lo, p.bits, ()), ()))) kp.length (fun i => some (poolOut kp (keptF p (prevA kp i) (kp.drop i)))) (fun i => ∀ b, prevA kp i = some b → chkA b = 0) (fun rec i hi hI hr => ?_) (fun rec _ => ?_) FUEL 0 (Nat.zero_le _) (fun b hb => by cases hb) (fuel_gt (by omega))
  · exact this
  · obtain ⟨e, he⟩ : ∃ e, kp[i]? = some e := ⟨_, List.getElem?_eq_getElem hi⟩
    have hin := h e (List.mem_of_getElem? he)
    have r1 : inRange (i : Int) (lenL kp) = true := inRange_of (by omega) (by unfold lenL; omega)
    simp only [R_CheckPool_L7]
    rw [decide_eq_true (show (i : Int) < lenL kp by unfold lenL; omega), br_true]
    simp only [r1, req_true, geti_at he, bind_s, R_CheckAddr_eq hin]
    rw [drop_cons he, keptF]
    by_cases hc : chkA e = 0
    rotate_left
    · simp only [hc, decide_false, Bool.not_false, br_true, ne_eq, not_false_eq_true, if_true]
      rw [poolOut_ne hc]
    simp only [hc, decide_true, Bool.not_true, br_false, ne_eq, not_true, if_false]
    rw [R_HasAddr_eq (p := p) hp cp hin hc, bind_s]
    cases holds p e
    · rfl
    simp only [Bool.not_true, br_false, Bool.true_eq_false, if_false]
    have hcd : (br (decide ((i : Int) > 0)) (req (i64ok ((i : Int) - 1)) (req (inRange ((i : Int) - 1) (lenL kp)) ((geti kp ((i : Int) - 1)).bind fun p5 => (R_IsAhead_t p5 e).bind fun y7 => some (!y7.1)))) (some false)) = some (backB (prevA kp i) e) := by
      cases i with
      | zero => rfl
      | succ k =>
        obtain ⟨e', he'⟩ : ∃ e, kp[k]? = some e := ⟨_, List.getElem?_eq_getElem (by omega)⟩
        have hin' := h e' (List.mem_of_getElem? he')
        rw [decide_eq_true (by omega), br_true, show (((k + 1 : Nat) : Int) - 1) = (k : Int) by omega, req_of (i64ok_of (by omega) (by omega)), req_of (inRange_of (by omega) (by unfold lenL; omega)), geti_at he', bind_s, R_IsAhead_eq hin' hin (hI e' he') hc, bind_s]
        simp only [prevA, he', backB, ahead_ord hin' hin]
        by_cases ho : ordA e' e < 0
        · have : ¬ ordA e' e ≥ 0 := by omega
          simp [ho, this]
        · have : ordA e' e ≥ 0 := by omega
          simp [ho, this]
    rw [hcd, bind_s]
    have hp1 : prevA kp (i + 1) = some e := he
    cases (backB (prevA kp i) e)
    · simp only [br_false, Bool.false_eq_true, if_false]
      rw [show ((i : Int) + 1) = ((i + 1 : Nat) : Int) by omega, req_of (i64ok_of (by omega) (by omega)), hr (fun b hb => by rw [hp1] at hb; cases hb; exact hc), hp1]
    · rfl
  · simp only [R_CheckPool_L7]
    rw [decide_eq_false (show ¬ (kp.length : Int) < lenL kp by unfold lenL; omega), br_false, List.drop_of_length_le (Nat.le_refl _)]
    rfl
theorem R_CheckPool_eq {p : Pf} (hp : p.In) {kp : List Ad} (h : adIn kp) : R_CheckPool_t p kp = some (chkPool p kp, ()) := by
  unfold R_CheckPool_t chkPool
  rw [R_CheckPrefix_eq hp, bind_s]
  by_cases hc : chkP p = 0
  rotate_left
  · simp only [hc, decide_false, Bool.not_false, br_true, ne_eq, not_false_eq_true, if_true]
  simp only [hc, decide_true, Bool.not_true, br_false, ne_eq, not_true, if_false]
  rw [R_IsNarrow_eq hc, bind_s]
  by_cases hn : ((wid p.ad.v6 : Nat) : Int) - p.bits ≤ 4
  rotate_left
  · simp only [hn, decide_false, Bool.not_false, br_true, bind_s, not_false_eq_true, true_or, if_true]
  by_cases hk : kp.length > 6
  · rw [if_pos (.inr hk)]
    simp only [hn, decide_true, Bool.not_true, br_false, bind_s]
    rw [decide_eq_true (show lenL kp > 6 by unfold lenL; omega), br_true]
  rw [if_neg (by simp only [not_or]; exact ⟨fun h => h hn, hk⟩)]
  simp only [hn, decide_true, Bool.not_true, br_false, bind_s]
  rw [decide_eq_false (show ¬ lenL kp > 6 by unfold lenL; omega), br_false, rpool_loop hp hc h (by omega), bind_s]
  unfold poolOut
  by_cases h0 : keptF p none kp = 0
  · rw [if_pos h0, h0]; rfl
  · rw [if_neg h0]; rfl
end Go.Ma
