/-
  Leases: what is wrong with them; those that are not over; Drop.
-/
import Derived.Test.YtjadfkpajjlgkaaPw
import Derived.Test.YtjadfkpajjlgkaaPo
namespace Go.Ma
open Go

/-! The order of addresses, as numbers. -/
def rank (a : Ad) : Nat := (if a.v6 then 340282366920938463463374607431768211456 else 0) + a.num
theorem num_lt {a : Ad} (h : a.In) : a.num < 340282366920938463463374607431768211456 := by
  obtain ⟨⟨h1, h2⟩, h3, h4⟩ := h
  unfold Ad.num
  omega
theorem ord_rank {a b : Ad} (ha : a.In) (hb : b.In) : (ordA a b < 0 ↔ rank a < rank b) ∧ (ordA a b = 0 ↔ rank a = rank b) := by
  have h1 := num_lt ha
  have h2 := num_lt hb
  obtain ⟨⟨a1, a2⟩, a3, a4⟩ := ha
  obtain ⟨⟨b1, b2⟩, b3, b4⟩ := hb
  unfold ordA ordI rank
  unfold Ad.num at *
  cases hv : a.v6 <;> cases hw : b.v6 <;> simp
  · by_cases h : a.hi = b.hi
    · simp only [h, if_true]
      by_cases h3 : a.lo < b.lo
      · simp only [h3, if_true]; omega
      · by_cases h4 : b.lo < a.lo
        · simp only [h3, h4, if_true, if_false]; omega
        · have h5 : a.lo = b.lo := by omega
          simp [h5]
    · simp only [h, if_false]
      by_cases h3 : a.hi < b.hi
      · simp only [h3, if_true]; omega
      · by_cases h4 : b.hi < a.hi
        · simp only [h3, h4, if_true, if_false]; omega
        · simp only [h3, h4, if_false]; omega
  · omega
  · omega
  · by_cases h : a.hi = b.hi
    · simp only [h, if_true]
      by_cases h3 : a.lo < b.lo
      · simp only [h3, if_true]; omega
      · by_cases h4 : b.lo < a.lo
        · simp only [h3, h4, if_true, if_false]; omega
        · have h5 : a.lo = b.lo := by omega
          simp [h5]
    · simp only [h, if_false]
      by_cases h3 : a.hi < b.hi
      · simp only [h3, if_true]; omega
      · by_cases h4 : b.hi < a.hi
        · simp only [h3, h4, if_true, if_false]; omega
        · simp only [h3, h4, if_false]; omega
theorem ahead_rank {a b : Ad} (ha : a.In) (hb : b.In) : aheadA a b = decide (rank a < rank b) := by
  have h1 := num_lt ha
  have h2 := num_lt hb
  unfold aheadA rank
  cases hv : a.v6 <;> cases hw : b.v6 <;> simp
  · omega
  · omega
theorem rank_inj {a b : Ad} (ha : a.In) (hb : b.In) (h : rank a = rank b) : a = b := by
  have h1 := num_lt ha
  have h2 := num_lt hb
  unfold rank at h
  have hv : a.v6 = b.v6 := by
    cases hv : a.v6 <;> cases hw : b.v6 <;> first | rfl | (exfalso; rw [hv, hw] at h; simp at h; omega)
  refine num_inj ha.wf hb.wf hv ?_
  rw [hv] at h
  omega

/-! What is wrong with leases. -/
def lsIn (l : List Ls) : Prop := ∀ x ∈ l, x.In
def chkLs (x : Ls) : Int := if chkA x.ad ≠ 0 then chkA x.ad else if whoOk x.who = false then 1 else if betw x.upto 0 10499 = false then 3 else 0
def chkLsF : List Ls → Int
  | [] => 0
  | x :: r => if chkLs x ≠ 0 then chkLs x else chkLsF r
/-- They rise, behind a. -/
def ascF : Ad → List Ls → Bool
  | _, [] => true
  | a, x :: r => decide (ordA a x.ad < 0) && ascF x.ad r
def ascL : List Ls → Bool
  | [] => true
  | x :: r => ascF x.ad r
/-- What lease.All answers. -/
def allC (l : List Ls) (now : Int) : Int := if l.length > 20 then 2 else if chkLsF l ≠ 0 then chkLsF l else if ascL l = false then 4 else if betw now 0 9999 = false then 3 else 0
theorem lease_one_eq {x : Ls} (h : x.In) : lease_one_t x = some (chkLs x, ()) := by
  unfold lease_one_t chkLs
  rw [addr_Check_eq, bind_s]
  by_cases hc : chkA x.ad = 0
  · simp only [hc, decide_true, Bool.not_true, br_false, ne_eq, not_true, if_false]
    rw [lease_Who_eq h.2.1, bind_s]
    cases whoOk x.who
    · rfl
    · simp only [Bool.not_true, br_false, Bool.true_eq_false, if_false]
      rw [lease_within_eq, bind_s]
      cases betw x.upto 0 10499 <;> rfl
  · simp only [hc, decide_false, Bool.not_false, br_true, ne_eq, not_false_eq_true, if_true]
def lsOut (l : List Ls) (now : Int) (r : Int) : (((Int × Unit) × Unit) × (List Ls × Unit)) ⊕ (((Unit) × (Int × Unit) × Unit) × (List Ls × Unit)) := if r = 0 then Sum.inr (((), (now, ()), ()), l, ()) else Sum.inl (((r, ()), ()), l, ())
def ascOut (l : List Ls) (now : Int) (r : Bool) : (((Int × Unit) × Unit) × (List Ls × Unit)) ⊕ (((Int × Unit) × Unit) × (List Ls × Unit)) := if r = true then Sum.inr (((now, ()), ()), l, ()) else Sum.inl (((4, ()), ()), l, ())
theorem lsOut_ne {l : List Ls} {now r : Int} (h : r ≠ 0) : lsOut l now r = Sum.inl (((r, ()), ()), l, ()) := by rw [lsOut, if_neg h]
def ascAt (l : List Ls) (i : Nat) : Bool := match l[i - 1]? with | some p => ascF p.ad (l.drop i) | none => true
theorem ascAt_one (l : List Ls) : ascAt l 1 = ascL l := by cases l <;> rfl
theorem all_loop1 {l : List Ls} (h : lsIn l) (hlen : l.length ≤ 20) (now : Int) : loopN lease_All_L4 FUEL (((), (now, ()), (), (lenL l, ()), (0, ()), ()), (l, ())) = some (lsOut l now (chkLsF l)) := by
  have := loop_up (step := lease_All_L4) (fun i => (((), (now, ()), (), (lenL l, ()), ((i : Int), ()), ()), (l, ()))) l.length (fun i => some (lsOut l now (chkLsF (l.drop i)))) (fun rec i hi hr => ?_) (fun rec => ?_) FUEL 0 (Nat.zero_le _) (fuel_gt (by omega))
  · exact this
  · obtain ⟨e, he⟩ : ∃ e, l[i]? = some e := ⟨_, List.getElem?_eq_getElem hi⟩
    simp only [lease_All_L4]
    rw [decide_eq_true (show (i : Int) < lenL l by unfold lenL; omega), br_true, req_of (inRange_of (by omega) (by unfold lenL; omega)), geti_at he, bind_s, lease_one_eq (h e (List.mem_of_getElem? he)), bind_s, drop_cons he, chkLsF]
    by_cases hc : chkLs e = 0
    · rw [if_neg (fun h => h hc), decide_eq_true hc, Bool.not_true, br_false, show ((i : Int) + 1) = ((i + 1 : Nat) : Int) by omega, req_of (i64ok_of (by omega) (by omega)), hr]
    · rw [if_pos hc, decide_eq_false hc, Bool.not_false, br_true, lsOut_ne hc]
  · simp only [lease_All_L4]
    rw [decide_eq_false (show ¬ (l.length : Int) < lenL l by unfold lenL; omega), br_false, List.drop_of_length_le (Nat.le_refl _)]
    rfl
theorem all_loop2 {l : List Ls} (hlen : l.length ≤ 20) (now : Int) : loopN lease_All_L11 FUEL (((), (now, ()), (1, ()), ()), (l, ())) = some (ascOut l now (ascL l)) := by
  have := loop_upI (step := lease_All_L11) (fun i => (((), (now, ()), ((i : Int), ()), ()), (l, ()))) (max 1 l.length) (fun i => some (ascOut l now (ascAt l i))) (fun i => 1 ≤ i) (fun rec i hi h1 hr => ?_) (fun rec h1 => ?_) FUEL 1 (by omega) (Nat.le_refl _) (fuel_gt (by omega))
  · rw [ascAt_one] at this
    exact this
  · have hi' : i < l.length := by omega
    obtain ⟨k, rfl⟩ : ∃ k, i = k + 1 := ⟨i - 1, by omega⟩
    obtain ⟨e, he⟩ : ∃ e, l[k]? = some e := ⟨_, List.getElem?_eq_getElem (by omega)⟩
    obtain ⟨e', he'⟩ : ∃ e, l[k + 1]? = some e := ⟨_, List.getElem?_eq_getElem hi'⟩
    have r1 : inRange ((k + 1 : Nat) : Int) (lenL l) = true := inRange_of (by omega) (by unfold lenL; omega)
    have r2 : inRange (k : Int) (lenL l) = true := inRange_of (by omega) (by unfold lenL; omega)
    simp only [lease_All_L11]
    rw [decide_eq_true (show ((k + 1 : Nat) : Int) < lenL l by unfold lenL; omega), br_true, show (((k + 1 : Nat) : Int) - 1) = (k : Int) by omega, req_of (i64ok_of (by omega) (by omega))]
    simp only [r1, r2, req_true, geti_at he, geti_at he', bind_s, addr_Order_eq]
    have ha : ascAt l (k + 1) = (decide (ordA e.ad e'.ad < 0) && ascAt l (k + 1 + 1)) := by
      unfold ascAt
      simp only [Nat.add_sub_cancel, he, he']
      rw [drop_cons he', ascF]
    rw [ha]
    by_cases hc : ordA e.ad e'.ad < 0
    · rw [decide_eq_false (show ¬ ordA e.ad e'.ad ≥ 0 by omega), br_false, show (((k + 1 : Nat) : Int) + 1) = ((k + 1 + 1 : Nat) : Int) by omega, req_of (i64ok_of (by omega) (by omega)), hr (by omega), decide_eq_true hc, Bool.true_and]
    · rw [decide_eq_true (show ordA e.ad e'.ad ≥ 0 by omega), br_true, decide_eq_false hc, Bool.false_and]
      rfl
  · simp only [lease_All_L11]
    rw [decide_eq_false (show ¬ ((max 1 l.length : Nat) : Int) < lenL l by unfold lenL; omega), br_false]
    have : ascAt l (max 1 l.length) = true := by
      unfold ascAt
      rw [List.drop_of_length_le (by omega)]
      cases l[max 1 l.length - 1]? <;> rfl
    rw [this]
    rfl
theorem lease_All_eq {l : List Ls} (h : lsIn l) (now : Int) : lease_All_t l now = some (allC l now, ()) := by
  unfold lease_All_t allC
  by_cases hlen : l.length > 20
  · rw [if_pos hlen, decide_eq_true (show lenL l > 20 by unfold lenL; omega), br_true]
  rw [if_neg hlen, decide_eq_false (show ¬ lenL l > 20 by unfold lenL; omega), br_false, all_loop1 h (by omega), bind_s]
  by_cases hc : chkLsF l = 0
  rotate_left
  · rw [lsOut_ne hc, if_pos hc]; rfl
  rw [if_neg (fun h => h hc), hc]
  simp only [lsOut, if_true, sumC]
  rw [all_loop2 (by omega), bind_s]
  cases ascL l
  · rfl
  · simp only [ascOut, if_true, sumC, Bool.true_eq_false, if_false, lease_within_eq, bind_s]
    cases betw now 0 9999 <;> rfl
end Go.Ma
