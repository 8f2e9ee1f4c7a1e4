/-
  Leases of a pool: Check: the program's and the document's.
-/
import Derived.Test.YtjadfkpajjlgkaaLc
namespace Go.Ma
open Go

theorem idxI_nonneg (o : Option Nat) : decide (idxI o ≥ 0) = o.isSome := by
  cases o with
  | none => rfl
  | some k =>
    have : idxI (some k) ≥ 0 := by show (k : Int) ≥ 0; omega
    simp [this]
theorem twiceL_app : ∀ (l : List Ls) (seen : List ByteArray) (x : Ls), twiceL seen (l ++ [x]) = (twiceL seen l || (seen.any (fun s => decide (s = x.who)) || l.any (whoP x.who)))
  | [], seen, x => by
    show (bif seen.any (fun s => decide (s = x.who)) then true else false) = _
    cases seen.any (fun s => decide (s = x.who)) <;> rfl
  | y :: r, seen, x => by
    show (bif seen.any (fun s => decide (s = y.who)) then true else twiceL (y.who :: seen) (r ++ [x])) = ((bif seen.any (fun s => decide (s = y.who)) then true else twiceL (y.who :: seen) r) || _)
    rw [twiceL_app r (y.who :: seen) x]
    cases seen.any (fun s => decide (s = y.who))
    · simp only [cond_false, List.any_cons]
      rw [show whoP x.who y = decide (y.who = x.who) from rfl]
      generalize seen.any (fun s => decide (s = x.who)) = b1
      generalize twiceL (y.who :: seen) r = b2
      generalize r.any (whoP x.who) = b3
      generalize decide (y.who = x.who) = b4
      revert b1 b2 b3 b4
      decide
    · rfl
/-- What is wrong with leases of a pool, behind some that are right. -/
def ofF (p : Pf) : List Ls → List Ls → Int
  | _, [] => 0
  | bf, x :: r => if holds p x.ad = false then 5 else if bf.any (whoP x.who) = true then 6 else ofF p (bf ++ [x]) r
def chkOf (p : Pf) (kp : List Ad) (l : List Ls) (now : Int) : Int := if chkPool p kp ≠ 0 then chkPool p kp else if allC l now ≠ 0 then allC l now else ofF p [] l
def ckOut (kp : List Ad) (l : List Ls) (r : Int) : (((Int × Unit) × Unit) × (List Ad × List Ls × Unit)) ⊕ ((Unit) × (List Ad × List Ls × Unit)) := if r = 0 then Sum.inr ((), (kp, l, ())) else Sum.inl (((r, ()), ()), (kp, l, ()))
theorem chkPool_ok {p : Pf} {kp : List Ad} (h : chkPool p kp = 0) : chkP p = 0 ∧ ((wid p.ad.v6 : Nat) : Int) - p.bits ≤ 4 ∧ kp.length ≤ 6 := by
  unfold chkPool at h
  split at h
  · rename_i h1; exact absurd h h1
  split at h
  · cases h
  · rename_i h1 h2
    simp only [not_or, Decidable.not_not] at h2
    exact ⟨Decidable.not_not.1 h1, h2.1, by omega⟩
theorem take_at {l : List Ls} {i : Nat} {x : Ls} (h : l[i]? = some x) : l.take (i + 1) = l.take i ++ [x] := by
  have hi := (List.getElem?_eq_some_iff.1 h).1
  rw [List.take_succ_eq_append_getElem hi, (List.getElem?_eq_some_iff.1 h).2]
theorem check_loop {p : Pf} (cp : chkP p = 0) (kp : List Ad) {l : List Ls} (h : lsIn l) (hc : ∀ x ∈ l, chkLs x = 0) (hlen : l.length ≤ 20) : loopN lease_Check_L7 FUEL (((), (), (), (lenL l, ()), (0, ()), ()), (kp, l, (p.ad.v6, p.ad.hi, p.ad.lo, p.bits, ()), ())) = some (ckOut kp l (ofF p [] l)) := by
  obtain ⟨b1, b2⟩ := chkP_bits cp
  have := loop_upI (step := lease_Check_L7) (fun i => (((), (), (), (lenL l, ()), ((i : Int), ()), ()), (kp, l, (p.ad.v6, p.ad.hi, p.ad.lo, p.bits, ()), ()))) l.length (fun i => some (ckOut kp l (ofF p (l.take i) (l.drop i)))) (fun i => twiceL [] (l.take i) = false) (fun rec i hi hI hr => ?_) (fun rec _ => ?_) FUEL 0 (Nat.zero_le _) rfl (fuel_gt (by omega))
  · exact this
  · obtain ⟨e, he⟩ : ∃ e, l[i]? = some e := ⟨_, List.getElem?_eq_getElem hi⟩
    have hin := h e (List.mem_of_getElem? he)
    simp only [lease_Check_L7]
    rw [decide_eq_true (show (i : Int) < lenL l by unfold lenL; omega), br_true, req_of (inRange_of (by omega) (by unfold lenL; omega)), geti_at he, bind_s, prefix_Holds_eq (p := p) b1 b2 hin.1, bind_s, drop_cons he, ofF]
    cases hh : holds p e.ad
    · rfl
    simp only [Bool.not_true, br_false, Bool.true_eq_false, if_false]
    have hsub : subL l 0 ((i : Int) + 1) = l.take (i + 1) := by
      have : ((i : Int) + 1).toNat = i + 1 := by omega
      simp [subL, this]
    have htw : lease_Twice_t (l.take (i + 1)) = some (twiceL [] (l.take (i + 1)), ()) := by
      unfold lease_Twice_t
      rw [req_of]
      simp only [Bool.and_eq_true, List.all_eq_true]
      refine ⟨Nat.ble_eq_true_of_le (by simp; omega), fun x hx => ?_⟩
      have := (betw_iff.1 (by
        have := (chkLs_ad (hc x (List.mem_of_mem_take hx))).2.1
        unfold whoOk at this
        rw [Bool.and_eq_true] at this
        exact this.2)).2
      unfold lenS at this
      exact Nat.ble_eq_true_of_le (by omega)
    have r5 : (decide ((0 : Int) ≤ (i : Int) + 1) && decide ((i : Int) + 1 ≤ lenL l)) = true := by
      rw [decide_eq_true (show (0 : Int) ≤ (i : Int) + 1 by omega), decide_eq_true (show (i : Int) + 1 ≤ lenL l by unfold lenL; omega)]
      rfl
    rw [req_of (i64ok_of (by omega) (by omega)), req_of r5, hsub, htw, bind_s, take_at he, twiceL_app, hI]
    simp only [List.any_nil, Bool.false_or]
    cases hw : (l.take i).any (whoP e.who)
    · simp only [br_false, Bool.false_eq_true, if_false]
      rw [show ((i : Int) + 1) = ((i + 1 : Nat) : Int) by omega, req_of (i64ok_of (by omega) (by omega)), hr (by rw [take_at he, twiceL_app, hI, hw]; rfl), take_at he]
    · rfl
  · simp only [lease_Check_L7]
    rw [decide_eq_false (show ¬ (l.length : Int) < lenL l by unfold lenL; omega), br_false, List.drop_of_length_le (Nat.le_refl _)]
    rfl
theorem lease_Check_eq {p : Pf} (hp : p.In) {kp : List Ad} (hk : adIn kp) {l : List Ls} (h : lsIn l) (now : Int) : lease_Check_t p kp l now = some (chkOf p kp l now, ()) := by
  unfold lease_Check_t chkOf
  rw [lease_Pool_eq hp hk, bind_s]
  by_cases hc : chkPool p kp = 0
  rotate_left
  · simp only [hc, decide_false, Bool.not_false, br_true, br_false, ne_eq, not_false_eq_true, if_true]
  simp only [hc, decide_true, br_true, ne_eq, not_true, if_false]
  rw [lease_All_eq h, bind_s]
  by_cases ha : allC l now = 0
  rotate_left
  · simp only [ha, decide_false, Bool.not_false, br_true, ne_eq, not_false_eq_true, if_true]
  obtain ⟨a1, a2, a3, a4⟩ := allC_ok ha
  simp only [ha, decide_true, Bool.not_true, br_false, ne_eq, not_true, if_false]
  rw [check_loop (chkPool_ok hc).1 kp h a2 a1, bind_s]
  unfold ckOut
  by_cases h0 : ofF p [] l = 0
  · rw [if_pos h0, h0]; rfl
  · rw [if_neg h0]; rfl
theorem rof_loop {p : Pf} (hp : p.In) (kp : List Ad) {l : List Ls} (h : lsIn l) (hlen : l.length ≤ 9223372036854775807) :
    ∀ (N i : Nat) (e : Int), l.length - i + 1 < N → i ≤ l.length → (e = 0 → chkP p = 0 ∧ l.length ≤ 20 ∧ ∀ x ∈ l, chkLs x = 0) →
      loopN R_CheckOf_L5 N (((), (), (e, ()), ((i : Int), ()), ()), (kp, l, (p.ad.v6, p.ad.hi, p.ad.lo, p.bits, ()), ())) = some (((if e ≠ 0 then e else ofF p (l.take i) (l.drop i), ()), ()), (kp, l, ()))
  | 0, _, _, hN, _, _ => by omega
  | N + 1, i, e, hN, hi, hok => by
    rw [loopN_succ]
    simp only [R_CheckOf_L5, br_sb, bind_s]
    by_cases he0 : e = 0
    rotate_left
    · rw [if_pos he0, decide_eq_false he0]
      cases decide ((i : Int) < lenL l) <;> rfl
    subst he0
    obtain ⟨cp, h20, hch⟩ := hok rfl
    rw [if_neg (fun h => h rfl)]
    by_cases hil : i < l.length
    · obtain ⟨x, hx⟩ : ∃ e, l[i]? = some e := ⟨_, List.getElem?_eq_getElem hil⟩
      have hm := List.mem_of_getElem? hx
      have hin := h x hm
      have r1 : inRange (i : Int) (lenL l) = true := inRange_of (by omega) (by unfold lenL; omega)
      have r2 : (decide ((0 : Int) ≤ (i : Int)) && decide ((i : Int) ≤ lenL l)) = true := by simp [lenL]; omega
      have r3 : i64ok ((i : Int) + 1) = true := i64ok_of (by omega) (by omega)
      have hsub : subL l 0 (i : Int) = l.take i := by simp [subL]
      have hwa : R_WhoAt_t (l.take i) x.who = some (idxI (firstF (whoP x.who) (l.take i)), ()) := R_WhoAt_eq (by simp; omega) _
      rw [decide_eq_true (show (i : Int) < lenL l by unfold lenL; omega)]
      simp only [decide_true, cond_true, br_true, r1, r2, r3, req_true, geti_at hx, bind_s, R_HasAddr_eq (p := p) hp cp hin.1 (chkLs_ad (hch x hm)).1, hsub, hwa, both_self, idxI_nonneg, firstF_any]
      rw [drop_cons hx, ofF, show ((i : Int) + 1) = ((i + 1 : Nat) : Int) by omega]
      cases holds p x.ad
      · simp only [Bool.not_false, br_true, if_true]
        rw [rof_loop hp kp h hlen N (i + 1) 5 (by omega) (by omega) (fun h => by cases h)]
        rfl
      · simp only [Bool.not_true, br_false, Bool.true_eq_false, if_false]
        cases (l.take i).any (whoP x.who)
        · simp only [br_false, Bool.false_eq_true, if_false]
          rw [rof_loop hp kp h hlen N (i + 1) 0 (by omega) (by omega) hok, if_neg (fun h => h rfl), take_at hx]
        · simp only [br_true, if_true]
          rw [rof_loop hp kp h hlen N (i + 1) 6 (by omega) (by omega) (fun h => by cases h)]
          rfl
    · have : i = l.length := by omega
      subst this
      rw [decide_eq_false (show ¬ (l.length : Int) < lenL l by unfold lenL; omega)]
      simp only [cond_false, br_false]
      rw [List.drop_of_length_le (Nat.le_refl _)]
      rfl
theorem R_CheckOf_eq {p : Pf} (hp : p.In) {kp : List Ad} (hk : adIn kp) {l : List Ls} (h : lsIn l) (hlen : l.length ≤ 9223372036854775807) (now : Int) : R_CheckOf_t p kp l now = some (chkOf p kp l now, ()) := by
  have fu : l.length - 0 + 1 < FUEL := by have : FUEL = 18446744073709551616 := rfl; omega
  unfold R_CheckOf_t chkOf
  rw [R_CheckPool_eq hp hk, bind_s]
  by_cases hc : chkPool p kp = 0
  rotate_left
  · simp only [hc, decide_false, br_false, ne_eq, not_false_eq_true, if_true]
    have := rof_loop hp kp h hlen FUEL 0 (chkPool p kp) fu (Nat.zero_le _) (fun h => absurd h hc)
    rw [show ((0 : Nat) : Int) = 0 from rfl] at this
    rw [this, if_pos hc]
    rfl
  simp only [hc, decide_true, br_true, ne_eq, not_true, if_false]
  rw [R_CheckLeases_eq h, bind_s]
  have := rof_loop hp kp h hlen FUEL 0 (allC l now) fu (Nat.zero_le _) (fun h => ⟨(chkPool_ok hc).1, (allC_ok h).1, (allC_ok h).2.1⟩)
  rw [show ((0 : Nat) : Int) = 0 from rfl] at this
  rw [this]
  rfl
end Go.Ma
