/-
  lease.Raw and lease.Grant: what they answer.
-/
import Derived.Test.YtjadfkpajjlgkaaLe
namespace Go.Ma
open Go

/-! Leases in order. -/
theorem ascF_rank : ∀ {r : List Ls} {c : Ad}, c.In → lsIn r → ascF c r = true → ∀ z ∈ r, rank c < rank z.ad
  | [], _, _, _, _, z, hz => by cases hz
  | y :: r, c, hc, hr, h, z, hz => by
    unfold ascF at h
    simp only [Bool.and_eq_true, decide_eq_true_eq] at h
    have hy := hr y (by simp)
    have h1 := (ord_rank hc hy.1).1.1 h.1
    rcases List.mem_cons.1 hz with rfl | hz
    · exact h1
    · have := ascF_rank hy.1 (fun x hx => hr x (by simp [hx])) h.2 z hz
      omega
theorem asc_pair : ∀ {l : List Ls}, lsIn l → (ascL l = true ↔ l.Pairwise fun x y => rank x.ad < rank y.ad)
  | [], _ => by simp [ascL]
  | x :: r, h => by
    have hx := h x (by simp)
    have hr : lsIn r := fun y hy => h y (by simp [hy])
    rw [List.pairwise_cons, ← asc_pair hr]
    constructor
    · intro h1
      have h1 : ascF x.ad r = true := h1
      refine ⟨ascF_rank hx.1 hr h1, ?_⟩
      cases r with
      | nil => rfl
      | cons y r =>
        unfold ascF at h1
        simp only [Bool.and_eq_true] at h1
        exact h1.2
    · rintro ⟨h1, h2⟩
      show ascF x.ad r = true
      cases r with
      | nil => rfl
      | cons y r =>
        unfold ascF
        simp only [Bool.and_eq_true, decide_eq_true_eq]
        exact ⟨(ord_rank hx.1 (hr y (by simp)).1).1.2 (h1 y (by simp)), h2⟩
theorem live_in {l : List Ls} (h : lsIn l) (now : Int) : lsIn (live l now) := fun x hx => h x (List.mem_filter.1 hx).1
theorem live_asc {l : List Ls} (h : lsIn l) (ha : ascL l = true) (now : Int) : ascL (live l now) = true := (asc_pair (live_in h now)).2 (((asc_pair h).1 ha).filter _)
/-- How many are ahead of a. -/
def posF (a : Ad) (b : List Ls) : Nat := (b.takeWhile fun y => decide (ordA y.ad a < 0)).length
theorem posF_le (a : Ad) (b : List Ls) : posF a b ≤ b.length := (List.takeWhile_sublist _).length_le
theorem pos_iff {a : Ad} (ha : a.In) : ∀ {b : List Ls}, lsIn b → ascL b = true → ∀ {h : Nat} {x : Ls}, b[h]? = some x → (ordA x.ad a < 0 ↔ h < posF a b)
  | [], _, _, _, _, hx => by simp at hx
  | y :: r, hb, hs, h, x, hx => by
    have hy := hb y (by simp)
    have hr : lsIn r := fun z hz => hb z (by simp [hz])
    have hrs : ascL r = true := (asc_pair hr).2 (List.pairwise_cons.1 ((asc_pair hb).1 hs)).2
    have hyr := (List.pairwise_cons.1 ((asc_pair hb).1 hs)).1
    unfold posF
    rw [List.takeWhile_cons]
    by_cases ho : ordA y.ad a < 0
    · simp only [ho, decide_true, if_true, List.length_cons]
      cases h with
      | zero =>
        simp only [List.getElem?_cons_zero, Option.some.injEq] at hx
        subst hx
        simp [ho]
      | succ h =>
        have := pos_iff ha hr hrs (h := h) (x := x) (by simpa using hx)
        unfold posF at this
        omega
    · simp only [ho, decide_false, Bool.false_eq_true, if_false, List.length_nil]
      cases h with
      | zero =>
        simp only [List.getElem?_cons_zero, Option.some.injEq] at hx
        subst hx
        simp [ho]
      | succ h =>
        have hx' : r[h]? = some x := by simpa using hx
        have hm := List.mem_of_getElem? hx'
        have h1 := hyr x hm
        have h2 := (ord_rank hy.1 ha).1
        have h3 := (ord_rank (hr x hm).1 ha).1
        constructor
        · intro h4
          have := h3.1 h4
          have : ¬ rank y.ad < rank a := fun h => ho (h2.2 h)
          omega
        · intro h4; omega
theorem half_eq (i j : Nat) (h : i + j < 9223372036854775808) : convI .i64 (aop .shr .u64 (convI .u64 ((i : Int) + (j : Int))) 1) = (((i + j) / 2 : Nat) : Int) := by
  unfold convI
  rw [wrap_u64 (by omega) (by omega)]
  have e1 : aop .shr .u64 ((i : Int) + (j : Int)) 1 = (((i + j) / 2 : Nat) : Int) := by
    simp only [aop, IntKind.bits]
    rw [show ((2 : Int) ^ (min ((1 : Int).toNat) 64)) = 2 from rfl, Int.fdiv_eq_ediv_of_nonneg _ (by omega)]
    omega
  rw [e1]
  exact wrap_i64 (by omega) (by omega)
abbrev DR := List Ad × List Ls × (Bool × Int × Int × Int × Unit) × (ByteArray × Unit) × List Ls × (Ad × Unit) × List Ls × (Bool × Int × Int × Int × Unit) × (Ad × Unit) × (Ls × Unit) × (Ls × Unit) × Unit
theorem bs_loop {kp : List Ad} {l b g : List Ls} (q q' : Bool × Int × Int × Int × Unit) (who : ByteArray) (ga a0 : Ad) (x x2 : Ls) (hx : x2.ad.In) (hb : lsIn b) (hs : ascL b = true) (hlen : b.length ≤ 1048576) (n : Int) :
    ∀ (N i j : Nat), j - i < N → i ≤ posF x2.ad b → posF x2.ad b ≤ j → j ≤ b.length →
      loopN lease_Raw_slices_BinarySearchFunc___api_Lease_api_Lease_api_Lease__L3 N (((), (), (), (n, ()), ((i : Int), ()), ((j : Int), ()), ()), ((kp, l, q, (who, ()), g, (ga, ()), b, q', (a0, ()), (x, ()), (x2, ()), ()) : DR)) =
        some (((), (), (), (n, ()), (((posF x2.ad b : Nat) : Int), ()), ()), (kp, l, q, (who, ()), g, (ga, ()), b, q', (a0, ()), (x, ()), (x2, ()), ()))
  | 0, _, _, h, _, _, _ => by omega
  | N + 1, i, j, hN, h1, h2, h3 => by
    rw [loopN_succ]
    simp only [lease_Raw_slices_BinarySearchFunc___api_Lease_api_Lease_api_Lease__L3]
    obtain ⟨q1, q2, q3, q4, _⟩ := q
    obtain ⟨r1, r2, r3, r4, _⟩ := q'
    by_cases hij : i < j
    · have hh : (i + j) / 2 < b.length := by omega
      obtain ⟨e, he⟩ : ∃ e, b[(i + j) / 2]? = some e := ⟨_, List.getElem?_eq_getElem hh⟩
      have hp := pos_iff hx hb hs he
      rw [decide_eq_true (show (i : Int) < (j : Int) by omega), br_true, req_of (i64ok_of (by omega) (by omega))]
      simp only [half_eq i j (by omega)]
      rw [req_of (inRange_of (by omega) (by unfold lenL; omega)), geti_at he, bind_s, lease_Raw_2_t, addr_Order_eq, bind_s, bind_s]
      by_cases ho : ordA e.ad x2.ad < 0
      · have := hp.1 ho
        simp only [ho, decide_true, br_true]
        rw [show (((i + j) / 2 : Nat) : Int) + 1 = (((i + j) / 2 + 1 : Nat) : Int) by omega, req_of (i64ok_of (by omega) (by omega))]
        exact bs_loop _ _ who ga a0 x x2 hx hb hs hlen n N ((i + j) / 2 + 1) j (by omega) (by omega) h2 h3
      · have : ¬ (i + j) / 2 < posF x2.ad b := fun h => ho (hp.2 h)
        simp only [ho, decide_false, br_false]
        exact bs_loop _ _ who ga a0 x x2 hx hb hs hlen n N i ((i + j) / 2) (by omega) h1 (by omega) (by omega)
    · have : posF x2.ad b = i := by omega
      rw [decide_eq_false (show ¬ (i : Int) < (j : Int) by omega), br_false, this]

theorem bs_same : lease_Raw_slices_BinarySearchFunc___api_Lease_api_Lease_api_Lease__1_L3 = lease_Raw_slices_BinarySearchFunc___api_Lease_api_Lease_api_Lease__L3 := rfl
abbrev DW := List Ad × List Ls × (Bool × Int × Int × Int × Unit) × (ByteArray × Unit) × List Ls × (Ad × Unit) × List Ls × (Bool × Int × Int × Int × Unit) × Unit
def rwOut (d : DW) : Option Nat → (((Int × Unit) × Unit) × DW) ⊕ ((Unit) × DW)
  | some k => Sum.inl ((((k : Int), ()), ()), d)
  | none => Sum.inr ((), d)
theorem rw_loop (p : Pf) (kp : List Ad) (l : List Ls) {b : List Ls} (hlen : b.length ≤ 1048576) (who : ByteArray) :
    loopN lease_Raw_slices_IndexFunc___api_Lease_api_Lease__L2 FUEL (((), (), (lenL b, ()), (0, ()), ()), (kp, l, (p.ad.v6, p.ad.hi, p.ad.lo, p.bits, ()), (who, ()), ([] : List Ls), ((⟨false, 0, 0⟩ : Ad), ()), b, (p.ad.v6, p.ad.hi, p.ad.lo, p.bits, ()), ())) =
      some (rwOut (kp, l, (p.ad.v6, p.ad.hi, p.ad.lo, p.bits, ()), (who, ()), ([] : List Ls), ((⟨false, 0, 0⟩ : Ad), ()), b, (p.ad.v6, p.ad.hi, p.ad.lo, p.bits, ()), ()) (firstF (whoP who) b)) := by
  have := loop_up (step := lease_Raw_slices_IndexFunc___api_Lease_api_Lease__L2) (fun i => (((), (), (lenL b, ()), ((i : Int), ()), ()), ((kp, l, (p.ad.v6, p.ad.hi, p.ad.lo, p.bits, ()), (who, ()), ([] : List Ls), ((⟨false, 0, 0⟩ : Ad), ()), b, (p.ad.v6, p.ad.hi, p.ad.lo, p.bits, ()), ()) : DW))) b.length
    (fun i => some (rwOut (kp, l, (p.ad.v6, p.ad.hi, p.ad.lo, p.bits, ()), (who, ()), ([] : List Ls), ((⟨false, 0, 0⟩ : Ad), ()), b, (p.ad.v6, p.ad.hi, p.ad.lo, p.bits, ()), ()) ((firstF (whoP who) (b.drop i)).map (· + i)))) (fun rec i hi hr => ?_) (fun rec => ?_) FUEL 0 (Nat.zero_le _) (fuel_gt (by omega))
  · rw [List.drop_zero, show (fun x => x + 0) = (id : Nat → Nat) from rfl, Option.map_id] at this
    exact this
  · obtain ⟨e, he⟩ : ∃ e, b[i]? = some e := ⟨_, List.getElem?_eq_getElem hi⟩
    simp only [lease_Raw_slices_IndexFunc___api_Lease_api_Lease__L2]
    rw [decide_eq_true (show (i : Int) < lenL b by unfold lenL; omega), br_true, req_of (inRange_of (by omega) (by unfold lenL; omega)), geti_at he, bind_s, lease_Raw_1_t, bind_s, firstF_at he, strcmp_eql]
    unfold whoP
    by_cases hc : e.who = who
    · simp only [hc, decide_true, br_true, if_true]
      rfl
    · simp only [hc, decide_false, br_false]
      rw [show ((i : Int) + 1) = ((i + 1 : Nat) : Int) by omega, req_of (i64ok_of (by omega) (by omega)), hr]
      rfl
  · simp only [lease_Raw_slices_IndexFunc___api_Lease_api_Lease__L2]
    rw [decide_eq_false (show ¬ (b.length : Int) < lenL b by unfold lenL; omega), br_false, List.drop_of_length_le (Nat.le_refl _)]
    rfl
/-- Somebody's lease put in its place. -/
def insAt (b : List Ls) (x : Ls) : List Ls := b.take (posF x.ad b) ++ x :: b.drop (posF x.ad b)
def keepOn (b : List Ls) (k : Nat) (u : Int) : List Ls × Ad × Bool × Unit := match b[k]? with | some e => (b.set k ⟨e.ad, e.who, u⟩, e.ad, true, ()) | none => ([], ⟨false, 0, 0⟩, false, ())
def putNew (b : List Ls) (who : ByteArray) (u : Int) : Option Ad → List Ls × Ad × Bool × Unit
  | some a => (insAt b ⟨a, who, u⟩, a, true, ())
  | none => ([], ⟨false, 0, 0⟩, false, ())
/-- What lease.Raw answers. -/
def rawOf (p : Pf) (kp : List Ad) (b : List Ls) (who : ByteArray) (u : Int) : List Ls × Ad × Bool × Unit :=
  match firstF (whoP who) b with
  | some k => keepOn b k u
  | none => putNew b who u (freeOf p kp b)
theorem addrI_in {p : Pf} (n4 : p.ad.num + 2 ^ freeBits p ≤ 2 ^ wid p.ad.v6) {i : Nat} (h : i < 2 ^ freeBits p) : (addrI p i).In ∧ chkA (addrI p i) = 0 := ⟨ofNum_in (by omega), ofNum_chk (by omega)⟩
theorem freeOf_some {p : Pf} {kp : List Ad} {b : List Ls} {a : Ad} (h : freeOf p kp b = some a) : (∃ i, i < 2 ^ freeBits p ∧ a = addrI p i) ∧ takenB kp b a = false := by
  unfold freeOf at h
  have h1 := List.mem_of_find?_eq_some h
  have h2 := List.find?_some h
  obtain ⟨i, hi, rfl⟩ := List.mem_map.1 h1
  exact ⟨⟨i, List.mem_range.1 hi, rfl⟩, by simpa using h2⟩
theorem lease_Raw_eq {p : Pf} (hp : p.In) {kp : List Ad} {l : List Ls} (h : lsIn l) {now ttl : Int} (hc : chkPool p kp = 0) (ha : allC l now = 0) (hu : -9223372036854775808 ≤ now + ttl) (hu' : now + ttl < 9223372036854775808) (who : ByteArray) :
    lease_Raw_t p kp l who now ttl = some (rawOf p kp (live l now) who (now + ttl)) := by
  obtain ⟨a1, a2, a3, a4⟩ := allC_ok ha
  obtain ⟨c1, c2, c3⟩ := chkPool_ok hc
  have hll := live_len l now
  unfold lease_Raw_t
  rw [lease_Live_eq (by omega) now, bind_s]
  have hbs := live_asc h a3 now
  have hbi := live_in h now
  generalize live l now = b at hll hbs hbi ⊢
  obtain ⟨n1, n2, n3, n4⟩ := narrow hp c1 c2
  rw [rw_loop p kp l (show b.length ≤ 1048576 by omega) who, bind_s]
  unfold rawOf
  have hin : ∀ a, freeOf p kp b = some a → a.In := fun a hf => by
    obtain ⟨⟨i, hi, rfl⟩, _⟩ := freeOf_some hf
    exact (addrI_in n4 hi).1
  have hf := first_eq hp c1 c2 (kp := kp) (by omega) (b := b) (by omega)
  have hfu : b.length - 0 < FUEL := by have : FUEL = 18446744073709551616 := rfl; omega
  have hroom : ∀ a : Ad, (decide ((0 : Int) ≤ ((posF a b : Nat) : Int)) && decide (((posF a b : Nat) : Int) ≤ lenL b) && room (lenL b) 1) = true := fun a => by
    have := posF_le a b
    rw [decide_eq_true (show (0 : Int) ≤ ((posF a b : Nat) : Int) by omega), decide_eq_true (show ((posF a b : Nat) : Int) ≤ lenL b by unfold lenL; omega), room_of (lenL_nonneg _) (by omega) (by unfold lenL; omega)]
    rfl
  have hpick : ∀ (a : Ad) (x : Ls), x.ad = a → (br (decide (((posF a b : Nat) : Int) < lenL b)) (req (inRange ((posF a b : Nat) : Int) (lenL b)) ((geti b ((posF a b : Nat) : Int)).bind fun p6 => (lease_Raw_2_t p6 x).bind fun y7 => some (((posF a b : Nat) : Int), decide (y7.1 = 0), ()))) (some (((posF a b : Nat) : Int), false, ()))) =
      some (((posF a b : Nat) : Int), (br (decide (((posF a b : Nat) : Int) < lenL b)) ((geti b ((posF a b : Nat) : Int)).bind fun p6 => (lease_Raw_2_t p6 x).bind fun y7 => some (decide (y7.1 = 0))) (some false)).getD false, ()) := fun a x hx => by
    by_cases hlt : posF a b < b.length
    · obtain ⟨e, he⟩ : ∃ e, b[posF a b]? = some e := ⟨_, List.getElem?_eq_getElem hlt⟩
      rw [decide_eq_true (show ((posF a b : Nat) : Int) < lenL b by unfold lenL; omega), br_true, req_of (inRange_of (by omega) (by unfold lenL; omega)), geti_at he, bind_s, lease_Raw_2_t, addr_Order_eq, bind_s, bind_s, br_true, bind_s, lease_Raw_2_t, addr_Order_eq, bind_s, bind_s]
      rfl
    · rw [decide_eq_false (show ¬ ((posF a b : Nat) : Int) < lenL b by unfold lenL; omega), br_false, br_false]
      rfl
  cases hfw : firstF (whoP who) b with
  | some k =>
    have hk := firstF_lt hfw
    obtain ⟨e, he⟩ : ∃ e, b[k]? = some e := ⟨_, List.getElem?_eq_getElem hk⟩
    have r1 : inRange (k : Int) (lenL b) = true := inRange_of (by omega) (by unfold lenL; omega)
    have r2 : inRange (k : Int) (lenL (seti b (k : Int) (⟨e.ad, e.who, now + ttl⟩ : Ls))) = true := inRange_of (by omega) (by unfold lenL seti; simp only [List.length_set]; omega)
    have hg : geti (seti b (k : Int) (⟨e.ad, e.who, now + ttl⟩ : Ls)) (k : Int) = some ⟨e.ad, e.who, now + ttl⟩ := by
      rw [geti_nat]
      simp [seti, hk]
    simp only [rwOut, sumC]
    rw [decide_eq_true (show (k : Int) ≥ 0 by omega), br_true, req_of (i64ok_of hu hu')]
    simp only [r1, req_true, geti_at he, bind_s, r2, hg]
    unfold keepOn
    rw [he]
    simp [seti]
  | none =>
    simp only [rwOut, sumC]
    show (m_lease_book__first_t p kp b).bind _ = _
    rw [hf, bind_s]
    cases hfo : freeOf p kp b with
    | none => rfl
    | some a =>
      simp only [foundA, Bool.not_true, br_false]
      rw [req_of (i64ok_of hu hu')]
      have hl := bs_loop (kp := kp) (l := l) (g := ([] : List Ls)) (p.ad.v6, p.ad.hi, p.ad.lo, p.bits, ()) (p.ad.v6, p.ad.hi, p.ad.lo, p.bits, ()) who ⟨false, 0, 0⟩ a ⟨a, who, now + ttl⟩ ⟨a, who, now + ttl⟩ (hin a hfo) hbi hbs (by omega) (lenL b) FUEL 0 b.length hfu (Nat.zero_le _) (posF_le _ _) (Nat.le_refl _)
      rw [show ((0 : Nat) : Int) = 0 from rfl, show ((b.length : Nat) : Int) = lenL b from rfl] at hl
      rw [bs_same, hl, bind_s, hpick a ⟨a, who, now + ttl⟩ rfl, bind_s]
      simp only [hroom a, req_true, dup_eq, both_self]
      unfold putNew insAt insL
      simp
/-- What lease.Grant answers. -/
def grantOf (p : Pf) (kp : List Ad) (l : List Ls) (who : ByteArray) (now ttl : Int) : List Ls × Ad × Int × Unit :=
  if chkOf p kp l now ≠ 0 then ([], ⟨false, 0, 0⟩, chkOf p kp l now, ()) else if whoOk who = false then ([], ⟨false, 0, 0⟩, 1, ()) else if betw ttl 1 500 = false then ([], ⟨false, 0, 0⟩, 3, ())
  else if (rawOf p kp (live l now) who (now + ttl)).2.2.1 = false then ([], ⟨false, 0, 0⟩, 8, ()) else ((rawOf p kp (live l now) who (now + ttl)).1, (rawOf p kp (live l now) who (now + ttl)).2.1, 0, ())
theorem chkOf_ok {p : Pf} {kp : List Ad} {l : List Ls} {now : Int} (h : chkOf p kp l now = 0) : chkPool p kp = 0 ∧ allC l now = 0 ∧ ofF p [] l = 0 := by
  unfold chkOf at h
  split at h
  · rename_i h1; exact absurd h h1
  split at h
  · rename_i h1; exact absurd h h1
  · rename_i h1 h2
    exact ⟨Decidable.not_not.1 h1, Decidable.not_not.1 h2, h⟩
theorem lease_Grant_eq {p : Pf} (hp : p.In) {kp : List Ad} (hk : adIn kp) {l : List Ls} (h : lsIn l) {who : ByteArray} (hw : strIn who) (now ttl : Int) : lease_Grant_t p kp l who now ttl = some (grantOf p kp l who now ttl) := by
  unfold lease_Grant_t grantOf
  rw [lease_Check_eq hp hk h, bind_s]
  by_cases hc : chkOf p kp l now = 0
  rotate_left
  · simp only [hc, decide_false, Bool.not_false, br_true, ne_eq, not_false_eq_true, if_true]
  obtain ⟨c1, c2, c3⟩ := chkOf_ok hc
  simp only [hc, decide_true, Bool.not_true, br_false, ne_eq, not_true, if_false]
  rw [lease_Who_eq hw, bind_s]
  cases whoOk who
  · rfl
  simp only [Bool.not_true, br_false, Bool.true_eq_false, if_false]
  rw [lease_within_eq, bind_s]
  cases ht : betw ttl 1 500
  · rfl
  obtain ⟨t1, t2⟩ := betw_iff.1 ht
  obtain ⟨u1, u2⟩ := betw_iff.1 (allC_ok c2).2.2.2
  simp only [Bool.not_true, br_false, Bool.true_eq_false, if_false]
  rw [lease_Raw_eq hp h c1 c2 (by omega) (by omega), bind_s]
  cases (rawOf p kp (live l now) who (now + ttl)).2.2.1
  · rfl
  · rfl
end Go.Ma
