/-
  The document's grant.
-/
import Derived.Test.YtjadfkpajjlgkaaLh
namespace Go.Ma
open Go

theorem R_hasAddr_eq {kp : List Ad} (hlen : kp.length ≤ 1048576) (a : Ad) : R_hasAddr_t kp a = some (kp.any (fun x => decide (a = x)), ()) := by
  unfold R_hasAddr_t
  have := loop_up (step := R_hasAddr_L2) (fun i => (((), (), ((i : Int), ()), ()), (kp, (a, ()), ()))) kp.length (fun i => some (if (kp.drop i).any (fun x => decide (a = x)) = true then Sum.inl (((true, ()), ()), (kp, ())) else Sum.inr ((), (kp, ())))) (fun rec i hi hr => ?_) (fun rec => ?_) FUEL 0 (Nat.zero_le _) (fuel_gt (by omega))
  · rw [show ((0 : Nat) : Int) = 0 from rfl, List.drop_zero] at this
    rw [this, bind_s]
    cases kp.any (fun x => decide (a = x)) <;> rfl
  · obtain ⟨e, he⟩ : ∃ e, kp[i]? = some e := ⟨_, List.getElem?_eq_getElem hi⟩
    simp only [R_hasAddr_L2]
    rw [decide_eq_true (show (i : Int) < lenL kp by unfold lenL; omega), br_true, req_of (inRange_of (by omega) (by unfold lenL; omega)), geti_at he, bind_s, eqAd_eq, drop_cons he, List.any_cons]
    by_cases hc : e = a
    · subst hc
      simp only [decide_true, br_true, Bool.true_or, if_true]
    · have hc' : ¬ a = e := fun h => hc h.symm
      simp only [hc, hc', decide_false, br_false, Bool.false_or]
      rw [show ((i : Int) + 1) = ((i + 1 : Nat) : Int) by omega, req_of (i64ok_of (by omega) (by omega)), hr]
  · simp only [R_hasAddr_L2]
    rw [decide_eq_false (show ¬ (kp.length : Int) < lenL kp by unfold lenL; omega), br_false, List.drop_of_length_le (Nat.le_refl _)]
    rfl
abbrev Q4 := Bool × Int × Int × Int × Unit
theorem leased_loop {b : List Ls} (hlen : b.length ≤ 1048576) (who : ByteArray) (now ttl n : Int) (kp : List Ad) (l g : List Ls) (q : Q4) (a0 a : Ad) :
    loopN R_GrantOf_L13 FUEL (((who, ()), (now, ()), (ttl, ()), (), (), (), (), (), (n, ()), (false, ()), (0, ()), ()), (kp, l, q, (a0, ()), b, g, (a, ()), ())) =
      some (((who, ()), (now, ()), (ttl, ()), (), (), (), (), (), (n, ()), (b.any (fun x => decide (x.ad = a)), ()), ()), (kp, l, q, (a0, ()), b, g, (a, ()), ())) := by
  obtain ⟨q1, q2, q3, q4, _⟩ := q
  have := loop_up (step := R_GrantOf_L13) (fun i => (((who, ()), (now, ()), (ttl, ()), (), (), (), (), (), (n, ()), ((b.take i).any (fun x => decide (x.ad = a)), ()), ((i : Int), ()), ()), (kp, l, ((q1, q2, q3, q4, ()) : Q4), (a0, ()), b, g, (a, ()), ()))) b.length
    (fun i => some (((who, ()), (now, ()), (ttl, ()), (), (), (), (), (), (n, ()), (b.any (fun x => decide (x.ad = a)), ()), ()), (kp, l, ((q1, q2, q3, q4, ()) : Q4), (a0, ()), b, g, (a, ()), ()))) (fun rec i hi hr => ?_) (fun rec => ?_) FUEL 0 (Nat.zero_le _) (fuel_gt (by omega))
  · exact this
  · obtain ⟨e, he⟩ : ∃ e, b[i]? = some e := ⟨_, List.getElem?_eq_getElem hi⟩
    have r1 : inRange (i : Int) (lenL b) = true := inRange_of (by omega) (by unfold lenL; omega)
    simp only [R_GrantOf_L13]
    rw [decide_eq_true (show (i : Int) < lenL b by unfold lenL; omega), br_true]
    simp only [r1, req_true, geti_at he, bind_s, br_ss, eqAd_eq]
    have : (b.take (i + 1)).any (fun x => decide (x.ad = a)) = bif (b.take i).any (fun x => decide (x.ad = a)) then true else decide (e.ad = a) := by
      rw [take_at he, List.any_append]
      simp only [List.any_cons, List.any_nil, Bool.or_false]
      cases (b.take i).any (fun x => decide (x.ad = a)) <;> rfl
    rw [← this, show ((i : Int) + 1) = ((i + 1 : Nat) : Int) by omega, req_of (i64ok_of (by omega) (by omega)), hr]
  · simp only [R_GrantOf_L13]
    rw [decide_eq_false (show ¬ (b.length : Int) < lenL b by unfold lenL; omega), br_false, List.take_of_length_le (Nat.le_refl _)]
/-- The row so far, and whether the new lease is in it. -/
def insSt (b : List Ls) (x : Ls) (k : Nat) : Bool × List Ls := if k ≤ posF x.ad b then (false, b.take k) else (true, b.take (posF x.ad b) ++ x :: (b.drop (posF x.ad b)).take (k - posF x.ad b))
theorem ins_loop {b : List Ls} (hb : lsIn b) (hc : ∀ y ∈ b, chkLs y = 0) (hs : ascL b = true) (hlen : b.length ≤ 20) {x : Ls} (hx : x.ad.In) (cx : chkA x.ad = 0) (hne : b.any (fun y => decide (y.ad = x.ad)) = false) (kp : List Ad) (l : List Ls) (a0 : Ad) :
    loopN R_GrantOf_L20 FUEL (((), (), (), (), (), (false, ()), (0, ()), ()), (kp, l, (a0, ()), b, ([] : List Ls), (x.ad, ()), (x, ()), ())) =
      some (((), (), (), (), ((insSt b x b.length).1, ()), ()), (kp, l, (a0, ()), (insSt b x b.length).2, (x.ad, ()), (x, ()), ())) := by
  have hp := posF_le x.ad b
  have hlen2 : ∀ k, k ≤ b.length → (insSt b x k).2.length ≤ 21 := fun k hk => by
    unfold insSt
    split
    · simp; omega
    · simp; omega
  have := loop_up (step := R_GrantOf_L20) (fun i => (((), (), (), (), (), ((insSt b x i).1, ()), ((i : Int), ()), ()), (kp, l, (a0, ()), b, (insSt b x i).2, (x.ad, ()), (x, ()), ()))) b.length
    (fun i => some (((), (), (), (), ((insSt b x b.length).1, ()), ()), (kp, l, (a0, ()), (insSt b x b.length).2, (x.ad, ()), (x, ()), ()))) (fun rec i hi hr => ?_) (fun rec => ?_) FUEL 0 (Nat.zero_le _) (fuel_gt (by omega))
  · have h0 : insSt b x 0 = (false, []) := by unfold insSt; rw [if_pos (Nat.zero_le _)]; rfl
    rw [h0] at this
    exact this
  · obtain ⟨e, he⟩ : ∃ e, b[i]? = some e := ⟨_, List.getElem?_eq_getElem hi⟩
    have hm := List.mem_of_getElem? he
    have r1 : inRange (i : Int) (lenL b) = true := inRange_of (by omega) (by unfold lenL; omega)
    have hl2 := hlen2 i (by omega)
    have hpi := pos_iff hx hb hs he
    have hah : aheadA x.ad e.ad = !decide (ordA e.ad x.ad < 0) := by
      have hne2 : e.ad ≠ x.ad := fun h => by
        have := List.any_eq_false.1 hne e hm
        simp [h] at this
      have h1 := ord_rank (hb e hm).1 hx
      rw [ahead_rank hx (hb e hm).1]
      have h2 : rank e.ad ≠ rank x.ad := fun h => hne2 (rank_inj (hb e hm).1 hx h)
      by_cases h3 : ordA e.ad x.ad < 0
      · have := h1.1.1 h3
        rw [decide_eq_true h3, decide_eq_false (by omega)]
        rfl
      · have : ¬ rank e.ad < rank x.ad := fun h => h3 (h1.1.2 h)
        rw [decide_eq_false h3, decide_eq_true (by omega)]
        rfl
    simp only [R_GrantOf_L20]
    rw [decide_eq_true (show (i : Int) < lenL b by unfold lenL; omega), br_true]
    simp only [r1, req_true, geti_at he, bind_s, R_IsAhead_eq hx (hb e hm).1 cx (chkLs_ad (hc e hm)).1, hah]
    have i1 : i64ok ((i : Int) + 1) = true := i64ok_of (by omega) (by omega)
    have rm : ∀ (y : Ls) (z : List Ls), z.length ≤ 22 → room (lenL z) (lenL ([y] : List Ls)) = true := fun y z hz => room_of (lenL_nonneg _) (lenL_nonneg _) (by unfold lenL; simp only [List.length_cons, List.length_nil]; omega)
    rw [show ((i : Int) + 1) = ((i + 1 : Nat) : Int) by omega] at i1 ⊢
    have rm1 := rm x (insSt b x i).2 (by omega)
    have rm2 := rm e (insSt b x i).2 (by omega)
    have rm3 := rm e ((insSt b x i).2 ++ [x]) (by simp; omega)
    simp only [i1, rm1, rm2, rm3, req_true]
    by_cases h1 : i ≤ posF x.ad b
    · have e1 : insSt b x i = (false, b.take i) := by unfold insSt; rw [if_pos h1]
      rw [e1]
      simp only [Bool.not_false, br_true, bind_s]
      by_cases h2 : i < posF x.ad b
      · have e2 : insSt b x (i + 1) = (false, b.take (i + 1)) := by unfold insSt; rw [if_pos (by omega)]
        rw [decide_eq_true (hpi.2 h2), Bool.not_true, br_false, ← take_at he]
        rw [e2] at hr
        exact hr
      · have hpe : posF x.ad b = i := by omega
        have e2 : insSt b x (i + 1) = (true, (b.take i ++ [x]) ++ [e]) := by
          unfold insSt
          rw [if_neg (by omega), hpe, show i + 1 - i = 1 by omega, drop_cons he]
          simp
        rw [decide_eq_false (fun h => h2 (hpi.1 h)), Bool.not_false, br_true]
        rw [e2] at hr
        exact hr
    · have e1 : insSt b x i = (true, b.take (posF x.ad b) ++ x :: (b.drop (posF x.ad b)).take (i - posF x.ad b)) := by unfold insSt; rw [if_neg h1]
      have e2 : insSt b x (i + 1) = (true, (b.take (posF x.ad b) ++ x :: (b.drop (posF x.ad b)).take (i - posF x.ad b)) ++ [e]) := by
        unfold insSt
        rw [if_neg (by omega), show i + 1 - posF x.ad b = i - posF x.ad b + 1 by omega]
        have : (b.drop (posF x.ad b))[i - posF x.ad b]? = some e := by
          rw [List.getElem?_drop, show posF x.ad b + (i - posF x.ad b) = i by omega, he]
        rw [take_at this]
        simp
      rw [e2] at hr
      rw [e1]
      simp only [Bool.not_true, br_false, bind_s]
      exact hr
  · simp only [R_GrantOf_L20]
    rw [decide_eq_false (show ¬ (b.length : Int) < lenL b by unfold lenL; omega), br_false]
theorem ins_done (b : List Ls) (x : Ls) : (bif (insSt b x b.length).1 then (insSt b x b.length).2 else (insSt b x b.length).2 ++ [x]) = insAt b x := by
  have := posF_le x.ad b
  unfold insSt insAt
  by_cases h : b.length ≤ posF x.ad b
  · have e : posF x.ad b = b.length := by omega
    rw [if_pos h, e]
    simp
  · rw [if_neg h]
    simp only [cond_true]
    rw [List.take_of_length_le (l := b.drop (posF x.ad b)) (by simp)]
/-! Sixteen rounds. -/
theorem holds_at {p : Pf} (hp : p.In) (cp : chkP p = 0) (hn : ((wid p.ad.v6 : Nat) : Int) - p.bits ≤ 4) {i : Nat} : holds p (addrI p i) = decide (i < 2 ^ freeBits p) := by
  obtain ⟨n1, n2, n3, n4⟩ := narrow hp cp hn
  have hpp := Nat.two_pow_pos (freeBits p)
  unfold holds addrI
  rw [show (ofNum p.ad.v6 (p.ad.num + i)).v6 = p.ad.v6 from rfl, beq_self_eq_true, Bool.true_and]
  refine decide_eq_decide.2 ?_
  unfold cutA
  rw [num_ofNum, show (ofNum p.ad.v6 (p.ad.num + i)).v6 = p.ad.v6 from rfl]
  show ofNum p.ad.v6 (cutN (p.ad.num + i) (freeBits p)) = p.ad ↔ _
  have hq : cutN (p.ad.num + i) (freeBits p) = p.ad.num ↔ i < 2 ^ freeBits p := by
    unfold cutN
    obtain ⟨m, hm⟩ := Nat.dvd_of_mod_eq_zero n3
    rw [hm, Nat.mul_add_div hpp]
    constructor
    · intro h
      have h1 : i / 2 ^ freeBits p = 0 := by
        rw [Nat.mul_comm (2 ^ freeBits p) m] at h
        have := Nat.eq_of_mul_eq_mul_right hpp h
        omega
      rcases Nat.div_eq_zero_iff.1 h1 with h2 | h2
      · omega
      · exact h2
    · intro h
      rw [Nat.div_eq_of_lt h, Nat.add_zero, Nat.mul_comm]
  rw [← hq]
  constructor
  · intro h
    have := congrArg Ad.num h
    rwa [num_ofNum] at this
  · intro h
    rw [h, ofNum_num _ hp.1.wf]
def hitB (p : Pf) (kp : List Ad) (b : List Ls) (i : Nat) : Bool := decide (i < 2 ^ freeBits p) && !takenB kp b (addrI p i)
theorem hit_free {p : Pf} (n2 : 2 ^ freeBits p ≤ 16) (kp : List Ad) (b : List Ls) : ((List.range' 0 16).find? (hitB p kp b)).map (addrI p) = freeOf p kp b := by
  unfold freeOf
  rw [List.find?_map]
  congr 1
  have hr : List.range' 0 16 = List.range (2 ^ freeBits p) ++ List.range' (2 ^ freeBits p) (16 - 2 ^ freeBits p) := by
    have h1 : List.range' 0 (2 ^ freeBits p) ++ List.range' (0 + 2 ^ freeBits p) (16 - 2 ^ freeBits p) = List.range' 0 (2 ^ freeBits p + (16 - 2 ^ freeBits p)) := List.range'_append_1
    rw [Nat.zero_add, show 2 ^ freeBits p + (16 - 2 ^ freeBits p) = 16 by omega] at h1
    rw [List.range_eq_range', h1]
  rw [hr, List.find?_append]
  have h2 : (List.range' (2 ^ freeBits p) (16 - 2 ^ freeBits p)).find? (hitB p kp b) = none := by
    rw [List.find?_eq_none]
    intro i hi
    have := (List.mem_range'_1.1 hi).1
    unfold hitB
    rw [decide_eq_false (by omega)]
    simp
  rw [h2, Option.or_none]
  have : ∀ l : List Nat, (∀ i ∈ l, i < 2 ^ freeBits p) → l.find? (hitB p kp b) = l.find? ((fun a => !takenB kp b a) ∘ addrI p) := by
    intro l
    induction l with
    | nil => intro _; rfl
    | cons i r ih =>
      intro h
      rw [List.find?_cons, List.find?_cons, ih fun j hj => h j (by simp [hj])]
      have : hitB p kp b i = ((fun a => !takenB kp b a) ∘ addrI p) i := by
        unfold hitB
        rw [decide_eq_true (h i (by simp))]
        rfl
      rw [this]
  exact this _ fun i hi => List.mem_range.1 hi
def goG (kp : List Ad) (l b : List Ls) (who : ByteArray) (u : Int) (a0 : Ad) : Option Ad → (((Unit) × (Unit) × (Bool × Unit) × Unit) × (List Ad × List Ls × List Ls × (Ad × Unit) × Unit)) ⊕ (((Unit) × Unit) × (List Ad × List Ls × (Ad × Unit) × Unit))
  | some a => Sum.inl (((), (), (true, ()), ()), (kp, l, insAt b ⟨a, who, u⟩, (a, ()), ()))
  | none => Sum.inr (((), ()), (kp, l, (a0, ()), ()))
theorem grant_loop {p : Pf} (hp : p.In) (cp : chkP p = 0) (hn : ((wid p.ad.v6 : Nat) : Int) - p.bits ≤ 4) {kp : List Ad} (hk : kp.length ≤ 1048576) (l : List Ls) {b : List Ls} (hb : lsIn b) (hc : ∀ y ∈ b, chkLs y = 0) (hs : ascL b = true) (hlen : b.length ≤ 20)
    (who : ByteArray) (now ttl : Int) (hu : i64ok (now + ttl) = true) (a0 : Ad) : ∀ (N n : Nat), 16 - n < N → n ≤ 16 → p.ad.num + n < 2 ^ wid p.ad.v6 →
      loopN R_GrantOf_L9 N (((who, ()), (now, ()), (ttl, ()), (), (), (), (), (), ((n : Int), ()), ()), (kp, l, (p.ad.v6, p.ad.hi, p.ad.lo, p.bits, ()), (a0, ()), b, ([] : List Ls), (addrI p n, ()), ())) =
        some (goG kp l b who (now + ttl) a0 (((List.range' n (16 - n)).find? (hitB p kp b)).map (addrI p)))
  | 0, _, h, _, _ => by omega
  | N + 1, n, hN, h16, hv => by
    obtain ⟨n1, n2, n3, n4⟩ := narrow hp cp hn
    rw [loopN_succ]
    simp only [R_GrantOf_L9]
    by_cases hlt : n < 16
    rotate_left
    · have : n = 16 := by omega
      subst this
      rw [decide_eq_false (by omega), br_false]
      rfl
    rw [decide_eq_true (show (n : Int) < 16 by omega), br_true, leased_loop (show b.length ≤ 1048576 by omega), bind_s]
    simp only []
    have hin : (addrI p n).In := ofNum_in hv
    have hca : chkA (addrI p n) = 0 := ofNum_chk hv
    rw [R_HasAddr_eq (p := p) hp cp hin hca, bind_s, holds_at hp cp hn, br_ss, bind_s]
    have hr : List.range' n (16 - n) = n :: List.range' (n + 1) (16 - (n + 1)) := by
      rw [show 16 - n = 16 - (n + 1) + 1 by omega, List.range'_succ]
    rw [hr, List.find?_cons]
    have hgo : ((R_NextOf_t (addrI p n)).bind fun y5 =>
        br (!y5.2.1)
          (some (Sum.inr ((((), ()), (kp, l, (a0, ()), ())))))
          (req (i64ok ((n : Int) + 1)) <|
          loopN R_GrantOf_L9 N (((who, ()), (now, ()), (ttl, ()), (), (), (), (), (), ((n : Int) + 1, ()), ()), (kp, l, (p.ad.v6, p.ad.hi, p.ad.lo, p.bits, ()), (a0, ()), b, ([] : List Ls), (y5.1, ()), ())))) =
        some (goG kp l b who (now + ttl) a0 (((List.range' (n + 1) (16 - (n + 1))).find? (hitB p kp b)).map (addrI p))) := by
      have e : addrI p (n + 1) = ofNum p.ad.v6 (p.ad.num + n + 1) := by unfold addrI; rw [Nat.add_assoc]
      have hnx := R_NextOf_eq hv
      rw [← e, ← addrI] at hnx
      rw [hnx, bind_s]
      by_cases h1 : p.ad.num + n + 1 < 2 ^ wid p.ad.v6
      · rw [if_pos h1]
        simp only [Bool.not_true, br_false]
        rw [show ((n : Int) + 1) = ((n + 1 : Nat) : Int) by omega, req_of (i64ok_of (by omega) (by omega))]
        exact grant_loop hp cp hn hk l hb hc hs hlen who now ttl hu a0 N (n + 1) (by omega) (by omega) (by omega)
      · rw [if_neg h1]
        have h2 : (List.range' (n + 1) (16 - (n + 1))).find? (hitB p kp b) = none := by
          rw [List.find?_eq_none]
          intro i hi
          have := (List.mem_range'_1.1 hi).1
          unfold hitB
          rw [decide_eq_false (by omega)]
          simp
        rw [h2]
        rfl
    have hhit : hitB p kp b n = (decide (n < 2 ^ freeBits p) && !(kp.any (fun x => decide (addrI p n = x)) || b.any (fun x => decide (x.ad = addrI p n)))) := rfl
    rw [hhit]
    cases decide (n < 2 ^ freeBits p)
    · simp only [cond_false, br_false, bind_s, Bool.false_and]
      exact hgo
    cases hba : b.any (fun x => decide (x.ad = addrI p n))
    rotate_left
    · simp only [cond_true, Bool.not_true, br_false, bind_s, Bool.or_true, Bool.and_false]
      exact hgo
    simp only [cond_true, Bool.not_false, br_true, R_hasAddr_eq hk, bind_s, Bool.or_false, Bool.true_and]
    cases hka : kp.any (fun x => decide (addrI p n = x))
    rotate_left
    · simp only [Bool.not_true, br_false]
      exact hgo
    simp only [Bool.not_false, br_true]
    rw [req_of hu]
    have hI : loopN R_GrantOf_L20 FUEL (((), (), (), (), (), (false, ()), (0, ()), ()), (kp, l, (a0, ()), b, ([] : List Ls), (addrI p n, ()), ((⟨addrI p n, who, now + ttl⟩ : Ls), ()), ())) =
        some (((), (), (), (), ((insSt b ⟨addrI p n, who, now + ttl⟩ b.length).1, ()), ()), (kp, l, (a0, ()), (insSt b ⟨addrI p n, who, now + ttl⟩ b.length).2, (addrI p n, ()), ((⟨addrI p n, who, now + ttl⟩ : Ls), ()), ())) :=
      ins_loop (x := ⟨addrI p n, who, now + ttl⟩) hb hc hs hlen hin hca hba kp l a0
    rw [hI, bind_s]
    simp only [Option.map_some, goG]
    rw [← ins_done]
    have hl2 : (insSt b ⟨addrI p n, who, now + ttl⟩ b.length).2.length ≤ 21 := by
      have := posF_le (addrI p n) b
      unfold insSt
      split
      · simp; omega
      · simp; omega
    cases (insSt b ⟨addrI p n, who, now + ttl⟩ b.length).1
    · simp only [Bool.not_false, br_true, cond_false]
      rw [req_of (room_of (lenL_nonneg _) (lenL_nonneg _) (by unfold lenL; simp only [List.length_cons, List.length_nil]; omega))]
    · simp only [Bool.not_true, br_false, cond_true]
theorem R_GrantOf_eq {p : Pf} (hp : p.In) {kp : List Ad} {l : List Ls} (h : lsIn l) {now ttl : Int} (hc : chkPool p kp = 0) (ha : allC l now = 0) (hu : i64ok (now + ttl) = true) (who : ByteArray) :
    R_GrantOf_t p kp l who now ttl = some (rawOf p kp (live l now) who (now + ttl)) := by
  obtain ⟨a1, a2, a3, a4⟩ := allC_ok ha
  obtain ⟨c1, c2, c3⟩ := chkPool_ok hc
  have hll := live_len l now
  unfold R_GrantOf_t
  rw [R_LiveOf_eq (by omega) now, bind_s]
  have hbs := live_asc h a3 now
  have hbi := live_in h now
  have hbc : ∀ y ∈ live l now, chkLs y = 0 := fun y hy => a2 y (List.mem_filter.1 hy).1
  generalize live l now = b at hll hbs hbi hbc ⊢
  obtain ⟨n1, n2, n3, n4⟩ := narrow hp c1 c2
  rw [R_WhoAt_eq (show b.length ≤ 9223372036854775807 by omega), bind_s]
  unfold rawOf
  cases hfw : firstF (whoP who) b with
  | some k =>
    have hk := firstF_lt hfw
    obtain ⟨e, he⟩ : ∃ e, b[k]? = some e := ⟨_, List.getElem?_eq_getElem hk⟩
    have r1 : inRange (k : Int) (lenL b) = true := inRange_of (by omega) (by unfold lenL; omega)
    have r2 : inRange (k : Int) (lenL (seti b (k : Int) (⟨e.ad, e.who, now + ttl⟩ : Ls))) = true := inRange_of (by omega) (by unfold lenL seti; simp only [List.length_set]; omega)
    have hg : geti (seti b (k : Int) (⟨e.ad, e.who, now + ttl⟩ : Ls)) (k : Int) = some ⟨e.ad, e.who, now + ttl⟩ := by
      rw [geti_nat]
      simp [seti, hk]
    simp only [idxI_nonneg, Option.isSome_some, br_true]
    simp only [idxI]
    rw [req_of hu]
    simp only [r1, req_true, geti_at he, bind_s, r2, hg]
    unfold keepOn
    rw [he]
    simp [seti]
  | none =>
    simp only [idxI_nonneg, Option.isSome_none, br_false]
    have hg := grant_loop hp c1 c2 (kp := kp) (by omega) l hbi hbc hbs (by omega) who now ttl hu ⟨false, 0, 0⟩ FUEL 0 (by have : FUEL = 18446744073709551616 := rfl; omega) (by omega) (by have := Nat.two_pow_pos (freeBits p); omega)
    have h0 : addrI p 0 = p.ad := by
      unfold addrI
      rw [Nat.add_zero, ofNum_num _ hp.1.wf]
    rw [h0, show ((0 : Nat) : Int) = 0 from rfl, show 16 - 0 = 16 from rfl, hit_free n2] at hg
    rw [hg, bind_s]
    cases freeOf p kp b <;> rfl
end Go.Ma
