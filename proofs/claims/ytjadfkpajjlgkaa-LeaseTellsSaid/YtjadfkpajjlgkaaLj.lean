/-
  All calls of leases answer just what the document says: LeaseTells.
-/
import Derived.Test.YtjadfkpajjlgkaaLi
import Derived.Test.YtjadfkpajjlgkaaLo
namespace Go.Ma
open Go

theorem leasesAre_ok {m want : List Ls} (w : Int) (hm : m.length < 9223372036854775808) (h1 : w ≠ 0 → m = []) (h2 : w = 0 → m = want) : law_leasesAre_t m w w want = some (true, ()) := by
  unfold law_leasesAre_t
  by_cases h : w = 0
  · have := h2 h
    subst this
    simp only [h, decide_true, Bool.not_true, br_false, br_true, R_SameLeases_eq hm, bind_s]
  · have := h1 h
    subst this
    simp only [h, decide_true, decide_false, Bool.not_false, br_true, R_SameLeases_eq hm, bind_s]
theorem insAt_len (b : List Ls) (x : Ls) : (insAt b x).length = b.length + 1 := by
  have := posF_le x.ad b
  unfold insAt
  simp
  omega
theorem rawOf_len (p : Pf) (kp : List Ad) (b : List Ls) (who : ByteArray) (u : Int) : (rawOf p kp b who u).1.length ≤ b.length + 1 := by
  unfold rawOf
  cases firstF (whoP who) b with
  | some k =>
    simp only
    unfold keepOn
    cases b[k]? <;> simp
  | none =>
    simp only
    cases freeOf p kp b with
    | none => simp [putNew]
    | some a => simp [putNew, insAt_len]
theorem pf_eta (p : Pf) : (⟨(⟨p.ad.v6, p.ad.hi, p.ad.lo⟩ : Ad), p.bits⟩ : Pf) = p := rfl
theorem eqAd_self (a : Ad) : eqAd a a = true := by rw [eqAd_eq]; simp
set_option maxHeartbeats 1000000 in
/-- **LeaseTells**. -/
theorem LeaseTells_eq {p : Pf} (hp : p.In) {kp : List Ad} (hk : rowIn .addr kp) {l : List Ls} (hl : rowIn .lease l) {who : ByteArray} (hw : strIn who) (now ttl : Int) : law_LeaseTells_t p kp l who now ttl = some (true, ()) := by
  have h : lsIn l := hl.2
  have hki : adIn kp := hk.2
  have hlen : l.length < 9223372036854775808 := lt_of_max hl.1
  have e1 := lease_Grant_eq hp hki h hw now ttl
  have e2 := lease_Drop_eq h now
  have e3 := R_CheckLeases_eq h now
  have e4 := R_CheckOf_eq hp hki h (by omega) now
  have e5 := R_IsWho_eq hw
  have e6 := lease_Pool_eq hp hki
  have e7 := R_CheckPool_eq hp hki
  have e8 := lease_Check_eq hp hki h now
  have hll := live_len l now
  have dl : dropOf l now = if allC l now = 0 then (live l now, lenL l - lenL (live l now), 0, ()) else ([], 0, allC l now, ()) := by
    unfold dropOf
    by_cases hu : allC l now = 0
    · rw [if_neg (fun h => h hu), if_pos hu]
    · rw [if_pos hu, if_neg hu]
  unfold law_LeaseTells_t
  rw [e1, bind_s, e2, bind_s, e3, bind_s, e4, bind_s]
  by_cases hc : chkOf p kp l now = 0
  rotate_left
  · have hg : grantOf p kp l who now ttl = ([], ⟨false, 0, 0⟩, chkOf p kp l now, ()) := by unfold grantOf; rw [if_pos hc]
    have k1 := leasesAre_ok (m := []) (want := []) (chkOf p kp l now) (by decide) (fun _ => rfl) (fun _ => rfl)
    by_cases hu : allC l now = 0
    · rw [if_pos hu] at dl
      have hl20 := allC_len hu
      have r1 : i64ok (lenL l - lenL (live l now)) = true := i64ok_of (by unfold lenL; omega) (by unfold lenL; omega)
      have e9 := R_LiveOf_eq (show l.length ≤ 1048576 by omega) now
      have k2 := leasesAre_ok (m := live l now) (want := live l now) 0 (by omega) (fun h => absurd rfl h) (fun _ => rfl)
      simp only [hg, dl, hc, hu, decide_false, decide_true, br_false, br_true, bind_s, pf_eta, e9, leaseBegun_eq, e6, e7, e8, k1, k2, r1, req_true, eqAd_self]
    · rw [if_neg hu] at dl
      have k2 := leasesAre_ok (m := []) (want := []) (allC l now) (by decide) (fun _ => rfl) (fun _ => rfl)
      simp only [hg, dl, hc, hu, decide_false, decide_true, br_false, br_true, bind_s, pf_eta, leaseBegun_eq, e6, e7, e8, k1, k2, eqAd_self]
  obtain ⟨c1, c2, c3⟩ := chkOf_ok hc
  rw [if_pos c2] at dl
  have hl20 := allC_len c2
  have r1 : i64ok (lenL l - lenL (live l now)) = true := i64ok_of (by unfold lenL; omega) (by unfold lenL; omega)
  have e9 := R_LiveOf_eq (show l.length ≤ 1048576 by omega) now
  have k2 := leasesAre_ok (m := live l now) (want := live l now) 0 (by omega) (fun h => absurd rfl h) (fun _ => rfl)
  have k3 : ∀ w : Int, w ≠ 0 → law_leasesAre_t [] w w [] = some (true, ()) := fun w hw => leasesAre_ok w (by decide) (fun _ => rfl) (fun _ => rfl)
  cases hwo : whoOk who
  · have hg : grantOf p kp l who now ttl = ([], ⟨false, 0, 0⟩, 1, ()) := by unfold grantOf; rw [if_neg (fun h => h hc), hwo, if_pos rfl]
    rw [hwo] at e5
    have k1 := k3 1 (by decide)
    simp only [hg, dl, hc, c2, e5, decide_true, Bool.not_false, br_true, br_false, bind_s, show decide ((1 : Int) = 0) = false from rfl, pf_eta, e9, leaseBegun_eq, e6, e7, e8, k1, k2, r1, req_true, eqAd_self]
  rw [hwo] at e5
  obtain ⟨u1, u2⟩ := betw_iff.1 (allC_ok c2).2.2.2
  cases ht : betw ttl 1 500
  · have hg : grantOf p kp l who now ttl = ([], ⟨false, 0, 0⟩, 3, ()) := by unfold grantOf; rw [if_neg (fun h => h hc), hwo, if_neg (by simp), ht, if_pos rfl]
    have k1 := k3 3 (by decide)
    have hcond : (br (decide (ttl < 1)) (some true) (some (decide (ttl > 500)))) = some true := by
      unfold betw at ht
      by_cases h1 : ttl < 1
      · rw [decide_eq_true h1, br_true]
      · rw [decide_eq_false h1, br_false]
        by_cases h2 : ttl > 500
        · rw [decide_eq_true h2]
        · exfalso
          have a1 : 1 ≤ ttl := by omega
          have a2 : ttl ≤ 500 := by omega
          simp [a1, a2] at ht
    simp only [hg, dl, hc, c2, e5, hcond, decide_true, Bool.not_true, br_true, br_false, bind_s, show decide ((3 : Int) = 0) = false from rfl, pf_eta, e9, leaseBegun_eq, e6, e7, e8, k1, k2, r1, req_true, eqAd_self]
  obtain ⟨t1, t2⟩ := betw_iff.1 ht
  have hcond : (br (decide (ttl < 1)) (some true) (some (decide (ttl > 500)))) = some false := by
    rw [decide_eq_false (show ¬ ttl < 1 by omega), br_false, decide_eq_false (show ¬ ttl > 500 by omega)]
  have e10 := R_GrantOf_eq hp (kp := kp) h c1 c2 (i64ok_of (show -9223372036854775808 ≤ now + ttl by omega) (by omega)) who
  have hrl := rawOf_len p kp (live l now) who (now + ttl)
  have hg : grantOf p kp l who now ttl = if (rawOf p kp (live l now) who (now + ttl)).2.2.1 = false then ([], ⟨false, 0, 0⟩, 8, ()) else ((rawOf p kp (live l now) who (now + ttl)).1, (rawOf p kp (live l now) who (now + ttl)).2.1, 0, ()) := by
    unfold grantOf
    rw [if_neg (fun h => h hc), hwo, if_neg (by simp), ht, if_neg (by simp)]
  generalize rawOf p kp (live l now) who (now + ttl) = r at hg e10 hrl
  obtain ⟨rm, ra, rok, _⟩ := r
  cases rok
  · have k1 := leasesAre_ok (m := []) (want := rm) 8 (by decide) (fun _ => rfl) (fun h => absurd h (by decide))
    simp only [if_true] at hg
    simp only [hg, dl, hc, c2, e5, hcond, e10, decide_true, Bool.not_true, Bool.not_false, br_true, br_false, bind_s, pf_eta, e9, leaseBegun_eq, e6, e7, e8, k1, k2, r1, req_true, eqAd_self]
  · have k1 := leasesAre_ok (m := rm) (want := rm) 0 (by simp only at hrl; omega) (fun h => absurd rfl h) (fun _ => rfl)
    simp only [Bool.true_eq_false, if_false] at hg
    simp only [hg, dl, hc, c2, e5, hcond, e10, decide_true, Bool.not_true, br_true, br_false, bind_s, pf_eta, e9, leaseBegun_eq, e6, e7, e8, k1, k2, r1, req_true, eqAd_self]
end Go.Ma
