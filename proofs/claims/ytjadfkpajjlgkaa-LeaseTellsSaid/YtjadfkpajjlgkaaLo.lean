/-
  What is dropped twice is dropped once: LeaseOver.
-/
import Derived.Test.YtjadfkpajjlgkaaLg
namespace Go.Ma
open Go

def quadP : Pf := ⟨⟨false, 0, 8⟩, 30⟩
theorem quad_eq : law_quad_t = some ((quadP, [⟨false, 0, 8⟩], ()), ()) := rfl
theorem quad_in : quadP.In := ⟨⟨⟨by decide, by decide⟩, by decide, by decide⟩, by decide, by decide⟩
theorem kept_in : adIn [⟨false, 0, 8⟩] := fun a ha => by
  simp only [List.mem_singleton] at ha
  subst ha
  exact ⟨⟨by decide, by decide⟩, by decide, by decide⟩
def wx : ByteArray := ⟨#[120]⟩
def wy : ByteArray := ⟨#[121]⟩
def wz : ByteArray := ⟨#[122]⟩
theorem wx_in : strIn wx := by unfold strIn maxLen; decide
theorem wy_in : strIn wy := by unfold strIn maxLen; decide
theorem wz_in : strIn wz := by unfold strIn maxLen; decide
theorem live_mem {l : List Ls} {now : Int} {x : Ls} (h : x ∈ live l now) : x ∈ l ∧ now ≤ x.upto := ⟨(List.mem_filter.1 h).1, by have := (List.mem_filter.1 h).2; simpa [liveP] using this⟩
def l1 : List Ls := [⟨⟨false, 0, 9⟩, wx, 15⟩]
def l2 : List Ls := [⟨⟨false, 0, 9⟩, wx, 15⟩, ⟨⟨false, 0, 10⟩, wy, 6⟩]
def l3 : List Ls := [⟨⟨false, 0, 9⟩, wx, 15⟩, ⟨⟨false, 0, 10⟩, wz, 8⟩]
theorem l1_in : lsIn l1 := fun x hx => by
  simp only [l1, List.mem_singleton] at hx
  subst hx
  exact ⟨⟨⟨by decide, by decide⟩, by decide, by decide⟩, wx_in, by decide, by decide⟩
theorem l2_in : lsIn l2 := fun x hx => by
  simp only [l2, List.mem_cons, List.not_mem_nil, or_false] at hx
  rcases hx with rfl | rfl
  · exact ⟨⟨⟨by decide, by decide⟩, by decide, by decide⟩, wx_in, by decide, by decide⟩
  · exact ⟨⟨⟨by decide, by decide⟩, by decide, by decide⟩, wy_in, by decide, by decide⟩
theorem lsIn_nil : lsIn [] := fun x hx => by cases hx
theorem g1 : grantOf quadP [⟨false, 0, 8⟩] [] wx 5 10 = (l1, ⟨false, 0, 9⟩, 0, ()) := by decide +kernel
theorem g2 : grantOf quadP [⟨false, 0, 8⟩] l1 wy 5 1 = (l2, ⟨false, 0, 10⟩, 0, ()) := by decide +kernel
theorem g3 : grantOf quadP [⟨false, 0, 8⟩] l2 wz 7 1 = (l3, ⟨false, 0, 10⟩, 0, ()) := by decide +kernel
theorem g4 : dropOf l2 7 = (l1, 1, 0, ()) := by decide +kernel
theorem g5 : chkPool quadP [⟨false, 0, 8⟩] = 0 := by decide +kernel
theorem g6 : chkOf quadP [⟨false, 0, 8⟩] l2 5 = 0 := by decide +kernel
theorem leaseBegun_eq : law_leaseBegun_t = some (true, ()) := by
  unfold law_leaseBegun_t
  have e1 := lease_Grant_eq quad_in kept_in lsIn_nil (who := wx) wx_in 5 10
  have e2 := lease_Grant_eq quad_in kept_in l1_in (who := wy) wy_in 5 1
  have e3 := lease_Grant_eq quad_in kept_in l2_in (who := wz) wz_in 7 1
  rw [g1] at e1
  rw [g2] at e2
  rw [g3] at e3
  have e4 := lease_Drop_eq l2_in 7
  rw [g4] at e4
  have e5 := lease_Pool_eq quad_in kept_in
  rw [g5] at e5
  have e6 := lease_Check_eq quad_in kept_in l2_in 5
  rw [g6] at e6
  unfold wx at e1
  unfold wy at e2
  unfold wz at e3
  simp only [quad_eq, bind_s]
  rw [e1, bind_s]
  simp only []
  rw [e2, bind_s]
  simp only []
  rw [e3, bind_s]
  simp only []
  rw [e4, bind_s, e5, bind_s]
  simp only []
  rw [e6, bind_s]
  simp only [law_v4_t, bind_s, decide_true, br_true, eqAd_eq]
  rfl

theorem chkLsF_of : ∀ {l : List Ls}, (∀ x ∈ l, chkLs x = 0) → chkLsF l = 0
  | [], _ => rfl
  | y :: r, h => by
    unfold chkLsF
    rw [if_neg (fun h' => h' (h y (by simp))), chkLsF_of fun x hx => h x (by simp [hx])]
theorem live_ok {l : List Ls} (h : lsIn l) {now t : Int} (ha : allC l now = 0) (ht : betw t 0 9999 = true) : allC (live l now) t = 0 := by
  obtain ⟨a1, a2, a3, a4⟩ := allC_ok ha
  have := live_len l now
  unfold allC
  rw [if_neg (by omega), chkLsF_of (l := live l now) (fun x hx => a2 x (live_mem hx).1), if_neg (fun h => h rfl), live_asc h a3, if_neg (by simp), ht, if_neg (by simp)]
theorem allC_at {l : List Ls} {now t : Int} (ha : allC l now = 0) (ht : betw t 0 9999 = true) : allC l t = 0 := by
  obtain ⟨a1, a2, a3, a4⟩ := allC_ok ha
  unfold allC
  rw [if_neg (by omega), chkLsF_of a2, if_neg (fun h => h rfl), a3, if_neg (by simp), ht, if_neg (by simp)]
theorem live_live (l : List Ls) {now t : Int} (h : now ≤ t) : live (live l now) t = live l t := by
  unfold live
  rw [List.filter_filter]
  congr 1
  funext x
  unfold liveP
  by_cases h1 : t ≤ x.upto
  · have : now ≤ x.upto := by omega
    simp [h1, this]
  · simp [h1]
theorem over_loop {l d : List Ls} (later : Int) (hl : l.length ≤ 20) (hd : d.length ≤ 20) (hsub : ∀ x ∈ d, x ∈ l ∧ later ≤ x.upto) : loopN law_LeaseOver_L16 FUEL (((), (later, ()), (), (0, ()), ()), (l, d, ())) = some (Sum.inr ((), (l, ()))) := by
  have := loop_up (step := law_LeaseOver_L16) (fun i => (((), (later, ()), (), ((i : Int), ()), ()), (l, d, ()))) d.length (fun i => some (Sum.inr ((), (l, ())))) (fun rec i hi hr => ?_) (fun rec => ?_) FUEL 0 (Nat.zero_le _) (fuel_gt (by omega))
  · exact this
  · obtain ⟨e, he⟩ : ∃ e, d[i]? = some e := ⟨_, List.getElem?_eq_getElem hi⟩
    obtain ⟨m1, m2⟩ := hsub e (List.mem_of_getElem? he)
    have r1 : inRange (i : Int) (lenL d) = true := inRange_of (by omega) (by unfold lenL; omega)
    simp only [law_LeaseOver_L16]
    rw [decide_eq_true (show (i : Int) < lenL d by unfold lenL; omega), br_true]
    simp only [r1, req_true, geti_at he, bind_s, R_WhoAt_eq (show l.length ≤ 9223372036854775807 by omega)]
    have hx : idxI (firstF (whoP e.who) l) ≥ 0 := by
      have : (firstF (whoP e.who) l).isSome = true := by
        rw [firstF_any, List.any_eq_true]
        exact ⟨e, m1, by simp [whoP]⟩
      have h2 := idxI_nonneg (firstF (whoP e.who) l)
      rw [this] at h2
      simpa using h2
    rw [decide_eq_false (show ¬ idxI (firstF (whoP e.who) l) < 0 by omega), br_false, bind_s, decide_eq_false (show ¬ e.upto < later by omega), br_false, show ((i : Int) + 1) = ((i + 1 : Nat) : Int) by omega, req_of (i64ok_of (by omega) (by omega)), hr]
  · simp only [law_LeaseOver_L16]
    rw [decide_eq_false (show ¬ (d.length : Int) < lenL d by unfold lenL; omega), br_false]
/-- **LeaseOver**. -/
theorem LeaseOver_eq {l : List Ls} (hr : rowIn .lease l) (now later : Int) : law_LeaseOver_t l now later = some (true, ()) := by
  have h : lsIn l := hr.2
  unfold law_LeaseOver_t
  rw [leaseBegun_eq, bind_s, Bool.not_true, br_false, lease_Drop_eq h, bind_s]
  by_cases hc : allC l now = 0
  rotate_left
  · unfold dropOf
    rw [if_pos hc]
    simp only [hc, decide_false, Bool.not_false, br_true, lenL_nil, decide_true, bind_s]
  have hd : dropOf l now = (live l now, lenL l - lenL (live l now), 0, ()) := by unfold dropOf; rw [if_neg (fun h => h hc)]
  obtain ⟨a1, a2, a3, a4⟩ := allC_ok hc
  have hll := live_len l now
  have hi := live_in h now
  have ho := live_ok h hc a4
  have hd2 : dropOf (live l now) now = (live l now, 0, 0, ()) := by
    unfold dropOf
    rw [if_neg (fun h => h ho), live_live l (Int.le_refl _)]
    simp
  rw [hd]
  simp only [decide_true, Bool.not_true, br_false]
  rw [lease_Drop_eq hi, bind_s, hd2]
  simp only [decide_true, Bool.not_true, br_false, bind_s, R_SameLeases_eq (show (live l now).length < 9223372036854775808 by omega)]
  rw [req_of (i64ok_of (by unfold lenL; omega) (by unfold lenL; omega)), bind_s, decide_eq_true (show lenL (live l now) + (lenL l - lenL (live l now)) = lenL l by omega), Bool.not_true, br_false]
  by_cases h1 : later < now
  · simp only [h1, decide_true, br_true, bind_s]
  by_cases h2 : later > 9999
  · simp only [h1, h2, decide_true, decide_false, br_true, br_false, bind_s]
  simp only [h1, h2, decide_false, br_false, bind_s]
  have ht : betw later 0 9999 = true := betw_iff.2 ⟨by have := (betw_iff.1 a4).1; omega, by omega⟩
  have ho2 := live_ok h hc ht
  have ho3 := allC_at hc ht
  have hll2 := live_len l later
  have hd3 : dropOf (live l now) later = (live l later, lenL (live l now) - lenL (live l later), 0, ()) := by
    unfold dropOf
    rw [if_neg (fun h => h ho2), live_live l (by omega)]
  have hd4 : dropOf l later = (live l later, lenL l - lenL (live l later), 0, ()) := by unfold dropOf; rw [if_neg (fun h => h ho3)]
  have hlen : (live l later).length ≤ (live l now).length := by
    rw [← live_live l (show now ≤ later by omega)]
    exact live_len _ _
  rw [lease_Drop_eq hi, bind_s, lease_Drop_eq h, bind_s, hd3, hd4]
  simp only [decide_true, Bool.not_true, br_false, bind_s, R_SameLeases_eq (show (live l later).length < 9223372036854775808 by omega)]
  rw [decide_eq_false (show ¬ lenL (live l later) > lenL (live l now) by unfold lenL; omega), br_false]
  rw [over_loop (d := live l later) later a1 (by omega) (fun x hx => live_mem hx), bind_s]
  rfl
end Go.Ma
