/-
  Parts: Lg Lh Li Lo Ca Cf Ph Ce Pi Pj Pk Cb Cd Lm Pd Pe Pg Sa Cc Sb Sc Sd Se Sf Sg Sh Si Sj Sk Ps Ta Tb Ua Ub Uc Sl Ud Ue Tc Uf.
-/
import Derived.Test.YtjncjiegmnicbabGreatVc3
set_option linter.unusedVariables false
set_option linter.unusedSimpArgs false
namespace Go.Ma
open Go
theorem ascF_rank : ∀ {r : List Ls} {c : Ad}, c.In → lsIn r → ascF c r = true → ∀ z ∈ r, rank c < rank z.ad
 | [], _, _, _, _, z, hz => by cases hz
 | y :: r, c, hc, hr, h, z, hz => by
  unfold ascF at h
  simp only [Bool.and_eq_true, decide_eq_true_eq] at h
  have hy := hr y (by simp)
  have h1 := (ord_rank hc hy.1).1.1 h.1
  rcases List.mem_cons.1 hz with rfl | hz
  ·exact h1
  ·have := ascF_rank hy.1 (fun x hx => hr x (by simp [hx])) h.2 z hz
   omega
theorem asc_pair : ∀ {l : List Ls}, lsIn l → (ascL l = true ↔ l.Pairwise fun x y => rank x.ad < rank y.ad)
 | [], _ => by simp [ascL]
 | x :: r, h => by
  have hx := h x (by simp)
  have hr : lsIn r := fun y hy => h y (by simp [hy])
  rw [List.pairwise_cons, ← asc_pair hr]
  constructor
  ·intro h1
   have h1 : ascF x.ad r = true := h1
   refine ⟨ascF_rank hx.1 hr h1, ?_⟩
   cases r with
   | nil => rfl
   | cons y r =>
    unfold ascF at h1
    simp only [Bool.and_eq_true] at h1
    exact h1.2
  ·rintro ⟨h1, h2⟩
   show ascF x.ad r = true
   cases r with
   | nil => rfl
   | cons y r =>
    unfold ascF
    simp only [Bool.and_eq_true, decide_eq_true_eq]
    exact ⟨(ord_rank hx.1 (hr y (by simp)).1).1.2 (h1 y (by simp)), h2⟩
theorem live_in {l : List Ls} (h : lsIn l) (now : Int) : lsIn (live l now) := fun x hx => h x (List.mem_filter.1 hx).1
theorem live_asc {l : List Ls} (h : lsIn l) (ha : ascL l = true) (now : Int) : ascL (live l now) = true := (asc_pair (live_in h now)).2 (((asc_pair h).1 ha).filter _)
def posF (a : Ad) (b : List Ls) : Nat := (b.takeWhile fun y => decide (ordA y.ad a < 0)).length
theorem posF_le (a : Ad) (b : List Ls) : posF a b ≤ b.length := (List.takeWhile_sublist _).length_le
theorem pos_iff {a : Ad} (ha : a.In) : ∀ {b : List Ls}, lsIn b → ascL b = true → ∀ {h : Nat} {x : Ls}, b[h]? = some x → (ordA x.ad a < 0 ↔ h < posF a b)
 | [], _, _, _, _, hx => by simp at hx
 | y :: r, hb, hs, h, x, hx => by
  have hy := hb y (by simp)
  have hr : lsIn r := fun z hz => hb z (by simp [hz])
  have hrs : ascL r = true := (asc_pair hr).2 (List.pairwise_cons.1 ((asc_pair hb).1 hs)).2
  have hyr := (List.pairwise_cons.1 ((asc_pair hb).1 hs)).1
  unfold posF
  rw [List.takeWhile_cons]
  by_cases ho : ordA y.ad a < 0
  ·simp only [ho, decide_true, if_true, List.length_cons]
   cases h with
   | zero =>
    simp only [List.getElem?_cons_zero, Option.some.injEq] at hx
    subst hx
    simp [ho]
   | succ h =>
    have := pos_iff ha hr hrs (h := h) (x := x) (by simpa using hx)
    unfold posF at this
    omega
  ·simp only [ho, decide_false, Bool.false_eq_true, if_false, List.length_nil]
   cases h with
   | zero =>
    simp only [List.getElem?_cons_zero, Option.some.injEq] at hx
    subst hx
    simp [ho]
   | succ h =>
    have hx' : r[h]? = some x := by simpa using hx
    have hm := List.mem_of_getElem? hx'
    have h1 := hyr x hm
    have h2 := (ord_rank hy.1 ha).1
    have h3 := (ord_rank (hr x hm).1 ha).1
    constructor
    ·intro h4
     have := h3.1 h4
     have : ¬ rank y.ad < rank a := fun h => ho (h2.2 h)
     omega
    ·intro h4; omega
theorem half_eq (i j : Nat) (h : i + j < 9223372036854775808) : convI .i64 (aop .shr .u64 (convI .u64 ((i : Int) + (j : Int))) 1) = (((i + j) / 2 : Nat) : Int) := by
 unfold convI
 rw [wrap_u64 (by omega) (by omega)]
 have e1 : aop .shr .u64 ((i : Int) + (j : Int)) 1 = (((i + j) / 2 : Nat) : Int) := by
  simp only [aop, IntKind.bits]
  rw [show ((2 : Int) ^ (min ((1 : Int).toNat) 64)) = 2 from rfl, Int.fdiv_eq_ediv_of_nonneg _ (by omega)]
  omega
 rw [e1]
 exact wrap_i64 (by omega) (by omega)
abbrev DR := List Ad × List Ls × (Bool × Int × Int × Int × Unit) × (ByteArray × Unit) × List Ls × (Ad × Unit) × List Ls × (Bool × Int × Int × Int × Unit) × (Ad × Unit) × (Ls × Unit) × (Ls × Unit) × Unit
theorem bs_loop {kp : List Ad} {l b g : List Ls} (q q' : Bool × Int × Int × Int × Unit) (who : ByteArray) (ga a0 : Ad) (x x2 : Ls) (hx : x2.ad.In) (hb : lsIn b) (hs : ascL b = true) (hlen : b.length ≤ 1048576) (n : Int) :
  ∀ (N i j : Nat), j - i < N → i ≤ posF x2.ad b → posF x2.ad b ≤ j → j ≤ b.length →
   loopN zq45 N (((), (), (), (n, ()), ((i : Int), ()), ((j : Int), ()), ()), ((kp, l, q, (who, ()), g, (ga, ()), b, q', (a0, ()), (x, ()), (x2, ()), ()) : DR)) =
    some (((), (), (), (n, ()), (((posF x2.ad b : Nat) : Int), ()), ()), (kp, l, q, (who, ()), g, (ga, ()), b, q', (a0, ()), (x, ()), (x2, ()), ()))
 | 0, _, _, h, _, _, _ => by omega
 | N + 1, i, j, hN, h1, h2, h3 => by
  rw [loopN_succ]
  simp only [zq45]
  obtain ⟨q1, q2, q3, q4, _⟩ := q
  obtain ⟨r1, r2, r3, r4, _⟩ := q'
  by_cases hij : i < j
  ·have hh : (i + j) / 2 < b.length := by omega
   obtain ⟨e, he⟩ : ∃ e, b[(i + j) / 2]? = some e := ⟨_, List.getElem?_eq_getElem hh⟩
   have hp := pos_iff hx hb hs he
   rw [decide_eq_true (show (i : Int) < (j : Int) by omega), br_true, req_of (i64ok_of (by omega) (by omega))]
   simp only [half_eq i j (by omega)]
   rw [req_of (zq33 (by omega) (by unfold lenL; omega)), geti_at he, bind_s, lease_Raw_2_t, addr_Order_eq, bind_s, bind_s]
   by_cases ho : ordA e.ad x2.ad < 0
   ·have := hp.1 ho
    simp only [ho, decide_true, br_true]
    rw [show (((i + j) / 2 : Nat) : Int) + 1 = (((i + j) / 2 + 1 : Nat) : Int) by omega, req_of (i64ok_of (by omega) (by omega))]
    exact bs_loop _ _ who ga a0 x x2 hx hb hs hlen n N ((i + j) / 2 + 1) j (by omega) (by omega) h2 h3
   ·have : ¬ (i + j) / 2 < posF x2.ad b := fun h => ho (hp.2 h)
    simp only [ho, decide_false, br_false]
    exact bs_loop _ _ who ga a0 x x2 hx hb hs hlen n N i ((i + j) / 2) (by omega) h1 (by omega) (by omega)
  ·have : posF x2.ad b = i := by omega
   rw [decide_eq_false (show ¬ (i : Int) < (j : Int) by omega), br_false, this]
theorem bs_same : zq44 = zq45 := rfl
abbrev DW := List Ad × List Ls × (Bool × Int × Int × Int × Unit) × (ByteArray × Unit) × List Ls × (Ad × Unit) × List Ls × (Bool × Int × Int × Int × Unit) × Unit
def rwOut (d : DW) : Option Nat → (((Int × Unit) × Unit) × DW) ⊕ ((Unit) × DW)
 | some k => Sum.inl ((((k : Int), ()), ()), d)
 | none => Sum.inr ((), d)
theorem rw_loop (p : Pf) (kp : List Ad) (l : List Ls) {b : List Ls} (hlen : b.length ≤ 1048576) (who : ByteArray) :
  loopN zq51 FUEL (((), (), (lenL b, ()), (0, ()), ()), (kp, l, (p.ad.v6, p.ad.hi, p.ad.lo, p.bits, ()), (who, ()), ([] : List Ls), ((⟨false, 0, 0⟩ : Ad), ()), b, (p.ad.v6, p.ad.hi, p.ad.lo, p.bits, ()), ())) =
   some (rwOut (kp, l, (p.ad.v6, p.ad.hi, p.ad.lo, p.bits, ()), (who, ()), ([] : List Ls), ((⟨false, 0, 0⟩ : Ad), ()), b, (p.ad.v6, p.ad.hi, p.ad.lo, p.bits, ()), ()) (firstF (whoP who) b)) := by
 have := loop_up (step := zq51) (fun i => (((), (), (lenL b, ()), ((i : Int), ()), ()), ((kp, l, (p.ad.v6, p.ad.hi, p.ad.lo, p.bits, ()), (who, ()), ([] : List Ls), ((⟨false, 0, 0⟩ : Ad), ()), b, (p.ad.v6, p.ad.hi, p.ad.lo, p.bits, ()), ()) : DW))) b.length
  (fun i => some (rwOut (kp, l, (p.ad.v6, p.ad.hi, p.ad.lo, p.bits, ()), (who, ()), ([] : List Ls), ((⟨false, 0, 0⟩ : Ad), ()), b, (p.ad.v6, p.ad.hi, p.ad.lo, p.bits, ()), ()) ((firstF (whoP who) (b.drop i)).map (· + i)))) (fun rec i hi hr => ?_) (fun rec => ?_) FUEL 0 (Nat.zero_le _) (fuel_gt (by omega))
 ·rw [List.drop_zero, show (fun x => x + 0) = (id : Nat → Nat) from rfl, Option.map_id] at this
  exact this
 ·obtain ⟨e, he⟩ : ∃ e, b[i]? = some e := ⟨_, List.getElem?_eq_getElem hi⟩
  simp only [zq51]
  rw [decide_eq_true (show (i : Int) < lenL b by unfold lenL; omega), br_true, req_of (zq33 (by omega) (by unfold lenL; omega)), geti_at he, bind_s, lease_Raw_1_t, bind_s, firstF_at he, strcmp_eql]
  unfold whoP
  by_cases hc : e.who = who
  ·simp only [hc, decide_true, br_true, if_true]
   rfl
  ·simp only [hc, decide_false, br_false]
   rw [show ((i : Int) + 1) = ((i + 1 : Nat) : Int) by omega, req_of (i64ok_of (by omega) (by omega)), hr]
   rfl
 ·simp only [zq51]
  rw [decide_eq_false (show ¬ (b.length : Int) < lenL b by unfold lenL; omega), br_false, List.drop_of_length_le (Nat.le_refl _)]
  rfl
def insAt (b : List Ls) (x : Ls) : List Ls := b.take (posF x.ad b) ++ x :: b.drop (posF x.ad b)
def keepOn (b : List Ls) (k : Nat) (u : Int) : List Ls × Ad × Bool × Unit := match b[k]? with | some e => (b.set k ⟨e.ad, e.who, u⟩, e.ad, true, ()) | none => ([], ⟨false, 0, 0⟩, false, ())
def putNew (b : List Ls) (who : ByteArray) (u : Int) : Option Ad → List Ls × Ad × Bool × Unit
 | some a => (insAt b ⟨a, who, u⟩, a, true, ())
 | none => ([], ⟨false, 0, 0⟩, false, ())
def rawOf (p : Pf) (kp : List Ad) (b : List Ls) (who : ByteArray) (u : Int) : List Ls × Ad × Bool × Unit :=
 match firstF (whoP who) b with
 | some k => keepOn b k u
 | none => putNew b who u (freeOf p kp b)
theorem addrI_in {p : Pf} (n4 : p.ad.num + 2 ^ freeBits p ≤ 2 ^ wid p.ad.v6) {i : Nat} (h : i < 2 ^ freeBits p) : (addrI p i).In ∧ chkA (addrI p i) = 0 := ⟨ofNum_in (by omega), ofNum_chk (by omega)⟩
theorem freeOf_some {p : Pf} {kp : List Ad} {b : List Ls} {a : Ad} (h : freeOf p kp b = some a) : (∃ i, i < 2 ^ freeBits p ∧ a = addrI p i) ∧ takenB kp b a = false := by
 unfold freeOf at h
 have h1 := List.mem_of_find?_eq_some h
 have h2 := List.find?_some h
 obtain ⟨i, hi, rfl⟩ := List.mem_map.1 h1
 exact ⟨⟨i, List.mem_range.1 hi, rfl⟩, by simpa using h2⟩
theorem lease_Raw_eq {p : Pf} (hp : p.In) {kp : List Ad} {l : List Ls} (h : lsIn l) {now ttl : Int} (hc : chkPool p kp = 0) (ha : allC l now = 0) (hu : -9223372036854775808 ≤ now + ttl) (hu' : now + ttl < 9223372036854775808) (who : ByteArray) :
  lease_Raw_t p kp l who now ttl = some (rawOf p kp (live l now) who (now + ttl)) := by
 obtain ⟨a1, a2, a3, a4⟩ := allC_ok ha
 obtain ⟨c1, c2, c3⟩ := chkPool_ok hc
 have hll := live_len l now
 unfold lease_Raw_t
 rw [lease_Live_eq (by omega) now, bind_s]
 have hbs := live_asc h a3 now
 have hbi := live_in h now
 generalize live l now = b at hll hbs hbi ⊢
 obtain ⟨n1, n2, n3, n4⟩ := narrow hp c1 c2
 rw [rw_loop p kp l (show b.length ≤ 1048576 by omega) who, bind_s]
 unfold rawOf
 have hin : ∀ a, freeOf p kp b = some a → a.In := fun a hf => by
  obtain ⟨⟨i, hi, rfl⟩, _⟩ := freeOf_some hf
  exact (addrI_in n4 hi).1
 have hf := first_eq hp c1 c2 (kp := kp) (by omega) (b := b) (by omega)
 have hfu : b.length - 0 < FUEL := by have : FUEL = 18446744073709551616 := rfl; omega
 have hroom : ∀ a : Ad, (decide ((0 : Int) ≤ ((posF a b : Nat) : Int)) && decide (((posF a b : Nat) : Int) ≤ lenL b) && room (lenL b) 1) = true := fun a => by
  have := posF_le a b
  rw [decide_eq_true (show (0 : Int) ≤ ((posF a b : Nat) : Int) by omega), decide_eq_true (show ((posF a b : Nat) : Int) ≤ lenL b by unfold lenL; omega), room_of (zq55 _) (by omega) (by unfold lenL; omega)]
  rfl
 have hpick : ∀ (a : Ad) (x : Ls), x.ad = a → (br (decide (((posF a b : Nat) : Int) < lenL b)) (req (inRange ((posF a b : Nat) : Int) (lenL b)) ((geti b ((posF a b : Nat) : Int)).bind fun p6 => (lease_Raw_2_t p6 x).bind fun y7 => some (((posF a b : Nat) : Int), decide (y7.1 = 0), ()))) (some (((posF a b : Nat) : Int), false, ()))) =
   some (((posF a b : Nat) : Int), (br (decide (((posF a b : Nat) : Int) < lenL b)) ((geti b ((posF a b : Nat) : Int)).bind fun p6 => (lease_Raw_2_t p6 x).bind fun y7 => some (decide (y7.1 = 0))) (some false)).getD false, ()) := fun a x hx => by
  by_cases hlt : posF a b < b.length
  ·obtain ⟨e, he⟩ : ∃ e, b[posF a b]? = some e := ⟨_, List.getElem?_eq_getElem hlt⟩
   rw [decide_eq_true (show ((posF a b : Nat) : Int) < lenL b by unfold lenL; omega), br_true, req_of (zq33 (by omega) (by unfold lenL; omega)), geti_at he, bind_s, lease_Raw_2_t, addr_Order_eq, bind_s, bind_s, br_true, bind_s, lease_Raw_2_t, addr_Order_eq, bind_s, bind_s]
   rfl
  ·rw [decide_eq_false (show ¬ ((posF a b : Nat) : Int) < lenL b by unfold lenL; omega), br_false, br_false]
   rfl
 cases hfw : firstF (whoP who) b with
 | some k =>
  have hk := firstF_lt hfw
  obtain ⟨e, he⟩ : ∃ e, b[k]? = some e := ⟨_, List.getElem?_eq_getElem hk⟩
  have r1 : inRange (k : Int) (lenL b) = true := zq33 (by omega) (by unfold lenL; omega)
  have r2 : inRange (k : Int) (lenL (seti b (k : Int) (⟨e.ad, e.who, now + ttl⟩ : Ls))) = true := zq33 (by omega) (by unfold lenL seti; simp only [List.length_set]; omega)
  have hg : geti (seti b (k : Int) (⟨e.ad, e.who, now + ttl⟩ : Ls)) (k : Int) = some ⟨e.ad, e.who, now + ttl⟩ := by
   rw [geti_nat]
   simp [seti, hk]
  simp only [rwOut, sumC]
  rw [decide_eq_true (show (k : Int) ≥ 0 by omega), br_true, req_of (i64ok_of hu hu')]
  simp only [r1, req_true, geti_at he, bind_s, r2, hg]
  unfold keepOn
  rw [he]
  simp [seti]
 | none =>
  simp only [rwOut, sumC]
  show (zq0 p kp b).bind _ = _
  rw [hf, bind_s]
  cases hfo : freeOf p kp b with
  | none => rfl
  | some a =>
   simp only [foundA, Bool.not_true, br_false]
   rw [req_of (i64ok_of hu hu')]
   have hl := bs_loop (kp := kp) (l := l) (g := ([] : List Ls)) (p.ad.v6, p.ad.hi, p.ad.lo, p.bits, ()) (p.ad.v6, p.ad.hi, p.ad.lo, p.bits, ()) who ⟨false, 0, 0⟩ a ⟨a, who, now + ttl⟩ ⟨a, who, now + ttl⟩ (hin a hfo) hbi hbs (by omega) (lenL b) FUEL 0 b.length hfu (Nat.zero_le _) (posF_le _ _) (Nat.le_refl _)
   rw [show ((0 : Nat) : Int) = 0 from rfl, show ((b.length : Nat) : Int) = lenL b from rfl] at hl
   rw [bs_same, hl, bind_s, hpick a ⟨a, who, now + ttl⟩ rfl, bind_s]
   simp only [hroom a, req_true, dup_eq, both_self]
   unfold putNew insAt insL
   simp
def grantOf (p : Pf) (kp : List Ad) (l : List Ls) (who : ByteArray) (now ttl : Int) : List Ls × Ad × Int × Unit :=
 if chkOf p kp l now ≠ 0 then ([], ⟨false, 0, 0⟩, chkOf p kp l now, ()) else if whoOk who = false then ([], ⟨false, 0, 0⟩, 1, ()) else if betw ttl 1 500 = false then ([], ⟨false, 0, 0⟩, 3, ())
 else if (rawOf p kp (live l now) who (now + ttl)).2.2.1 = false then ([], ⟨false, 0, 0⟩, 8, ()) else ((rawOf p kp (live l now) who (now + ttl)).1, (rawOf p kp (live l now) who (now + ttl)).2.1, 0, ())
theorem chkOf_ok {p : Pf} {kp : List Ad} {l : List Ls} {now : Int} (h : chkOf p kp l now = 0) : chkPool p kp = 0 ∧ allC l now = 0 ∧ ofF p [] l = 0 := by
 unfold chkOf at h
 split at h
 ·rename_i h1; exact absurd h h1
 split at h
 ·rename_i h1; exact absurd h h1
 ·rename_i h1 h2
  exact ⟨Decidable.not_not.1 h1, Decidable.not_not.1 h2, h⟩
end Go.Ma
namespace Go.Ma
open Go
end Go.Ma
namespace Go.Ma
open Go
theorem holds_at {p : Pf} (hp : p.In) (cp : chkP p = 0) (hn : ((wid p.ad.v6 : Nat) : Int) - p.bits ≤ 4) {i : Nat} : holds p (addrI p i) = decide (i < 2 ^ freeBits p) := by
 obtain ⟨n1, n2, n3, n4⟩ := narrow hp cp hn
 have hpp := Nat.two_pow_pos (freeBits p)
 unfold holds addrI
 rw [show (ofNum p.ad.v6 (p.ad.num + i)).v6 = p.ad.v6 from rfl, beq_self_eq_true, Bool.true_and]
 refine decide_eq_decide.2 ?_
 unfold cutA
 rw [num_ofNum, show (ofNum p.ad.v6 (p.ad.num + i)).v6 = p.ad.v6 from rfl]
 show ofNum p.ad.v6 (cutN (p.ad.num + i) (freeBits p)) = p.ad ↔ _
 have hq : cutN (p.ad.num + i) (freeBits p) = p.ad.num ↔ i < 2 ^ freeBits p := by
  unfold cutN
  obtain ⟨m, hm⟩ := Nat.dvd_of_mod_eq_zero n3
  rw [hm, Nat.mul_add_div hpp]
  constructor
  ·intro h
   have h1 : i / 2 ^ freeBits p = 0 := by
    rw [Nat.mul_comm (2 ^ freeBits p) m] at h
    have := Nat.eq_of_mul_eq_mul_right hpp h
    omega
   rcases Nat.div_eq_zero_iff.1 h1 with h2 | h2
   ·omega
   ·exact h2
  ·intro h
   rw [Nat.div_eq_of_lt h, Nat.add_zero, Nat.mul_comm]
 rw [← hq]
 constructor
 ·intro h
  have := congrArg Ad.num h
  rwa [num_ofNum] at this
 ·intro h
  rw [h, ofNum_num _ hp.1.wf]
end Go.Ma
namespace Go.Ma
open Go
theorem live_mem {l : List Ls} {now : Int} {x : Ls} (h : x ∈ live l now) : x ∈ l ∧ now ≤ x.upto := ⟨(List.mem_filter.1 h).1, by have := (List.mem_filter.1 h).2; simpa [liveP] using this⟩
theorem lsIn_nil : lsIn [] := fun x hx => by cases hx
theorem chkLsF_of : ∀ {l : List Ls}, (∀ x ∈ l, chkLs x = 0) → chkLsF l = 0
 | [], _ => rfl
 | y :: r, h => by
  unfold chkLsF
  rw [if_neg (fun h' => h' (h y (by simp))), chkLsF_of fun x hx => h x (by simp [hx])]
end Go.Ma
namespace Go.Ma
open Go
end Go.Ma
namespace Go.Ma
open Go
end Go.Ma
namespace Go.Ma
open Go
theorem prefix_Order_eq {p q : Pf} (hp : chkP p = 0) (hq : chkP q = 0) : prefix_Order_t p q = some (ordP p q, ()) := by
 have h1 := chkP_bits hp
 have h2 := chkP_bits hq
 have h3 := wid_le p.ad.v6
 have h4 := wid_le q.ad.v6
 unfold prefix_Order_t ordP
 rw [addr_Order_eq, bind_s]
 by_cases h : ordA p.ad q.ad = 0
 ·rw [decide_eq_true (show (ordA p.ad q.ad, ()).1 = 0 from h), Bool.not_true, br_false, if_neg (fun h' => h' h), req_of (i64ok_of (by omega) (by omega))]
 ·rw [decide_eq_false (show ¬ (ordA p.ad q.ad, ()).1 = 0 from h), Bool.not_false, br_true, if_pos h]
theorem prefix_Over_eq {p q : Pf} (cp : chkP p = 0) (hq : q.In) : prefix_Over_t p q = some (over p q, ()) := by
 obtain ⟨h1, h2⟩ := chkP_bits cp
 unfold prefix_Over_t over
 rw [prefix_Holds_eq h1 h2 hq.1, bind_s, br_sb, bind_s]
 cases decide (p.bits ≤ q.bits) <;> rfl
end Go.Ma
namespace Go.Ma
open Go
end Go.Ma
namespace Go.Ma
open Go
end Go.Ma
namespace Go.Ma
open Go
end Go.Ma
namespace Go.Ma
open Go
end Go.Ma
namespace Go.Ma
open Go
theorem holds_iff {p : Pf} {a : Ad} : holds p a = true ↔ p.ad.v6 = a.v6 ∧ cutA a p.bits = p.ad := by simp [holds]
theorem over_iff {p q : Pf} : over p q = true ↔ p.bits ≤ q.bits ∧ holds p q.ad = true := by simp [over]
theorem holds_self {p : Pf} (cp : chkP p = 0) : holds p p.ad = true := by
 rw [holds_iff]
 exact ⟨rfl, chkP_cut cp⟩
end Go.Ma
namespace Go.Ma
open Go
def free (p : Pf) : Nat := wid p.ad.v6 - p.bits.toNat
theorem free_facts {p : Pf} (hp : p.In) (cp : chkP p = 0) : free p ≤ wid p.ad.v6 ∧ p.ad.num % 2 ^ free p = 0 ∧ p.ad.num + 2 ^ free p ≤ 2 ^ wid p.ad.v6 := by
 have h3 : p.ad.num % 2 ^ free p = 0 := (cutN_iff _ _).1 ((cutA_iff hp.1.wf p.bits).1 (chkP_cut cp))
 have h4 := right_num p.ad ⟨hp.1.wf, chkP_ad cp⟩
 have hk : free p ≤ wid p.ad.v6 := by unfold free; omega
 refine ⟨hk, h3, ?_⟩
 have h5 : 2 ^ wid p.ad.v6 = 2 ^ free p * 2 ^ (wid p.ad.v6 - free p) := by rw [← Nat.pow_add]; congr 1; omega
 obtain ⟨m, hm⟩ := Nat.dvd_of_mod_eq_zero h3
 rw [hm, h5] at h4 ⊢
 have := Nat.lt_of_mul_lt_mul_left h4
 calc 2 ^ free p * m + 2 ^ free p = 2 ^ free p * (m + 1) := by rw [Nat.mul_add, Nat.mul_one]
  _ ≤ _ := Nat.mul_le_mul_left _ this
theorem holds_span {p : Pf} {a : Ad} (hp : p.In) (cp : chkP p = 0) (ha : a.In) : holds p a = true ↔ p.ad.v6 = a.v6 ∧ p.ad.num ≤ a.num ∧ a.num < p.ad.num + 2 ^ free p := by
 obtain ⟨f1, f2, f3⟩ := free_facts hp cp
 have hpp := Nat.two_pow_pos (free p)
 rw [holds_iff]
 constructor
 ·rintro ⟨h1, h2⟩
  have h3 : p.ad.num = cutN a.num (free p) := by
   have h4 : (cutA a p.bits).num = cutN a.num (wid a.v6 - p.bits.toNat) := by unfold cutA; rw [num_ofNum]
   rw [h2] at h4
   rw [h4]
   unfold free
   rw [h1]
  unfold cutN at h3
  have := Nat.div_add_mod a.num (2 ^ free p)
  have h5 := Nat.mod_lt a.num hpp
  rw [Nat.mul_comm] at this
  refine ⟨h1, by omega, by omega⟩
 ·rintro ⟨h1, h2, h3⟩
  refine ⟨h1, ?_⟩
  obtain ⟨m, hm⟩ := Nat.dvd_of_mod_eq_zero f2
  have h4 : a.num / 2 ^ free p = m := by
   apply Nat.div_eq_of_lt_le
   ·rw [Nat.mul_comm]; omega
   ·rw [Nat.add_mul, Nat.one_mul, Nat.mul_comm]; omega
  unfold cutA cutN
  rw [show wid a.v6 - p.bits.toNat = free p by unfold free; rw [h1], h4, ← h1, Nat.mul_comm, ← hm, ofNum_num p.ad hp.1.wf]
theorem over_refl {p : Pf} (cp : chkP p = 0) : over p p = true := over_iff.2 ⟨Int.le_refl _, holds_self cp⟩
theorem apart_one {p q : Pf} (hp : p.In) (hq : q.In) (cp : chkP p = 0) (cq : chkP q = 0) (hv : p.ad.v6 = q.ad.v6) (h1 : q.ad.num ≤ p.ad.num + (2 ^ free p - 1)) (h2 : p.ad.num ≤ q.ad.num + (2 ^ free q - 1)) (hb : p.bits ≤ q.bits) : over p q = true := by
 rw [over_iff]
 refine ⟨hb, (holds_span hp cp hq.1).2 ⟨hv, ?_, by have := Nat.two_pow_pos (free p); omega⟩⟩
 obtain ⟨_, f2, _⟩ := free_facts hp cp
 obtain ⟨_, g2, _⟩ := free_facts hq cq
 have hle : free q ≤ free p := by unfold free; rw [hv]; omega
 have e : 2 ^ free p = 2 ^ free q * 2 ^ (free p - free q) := by rw [← Nat.pow_add]; congr 1; omega
 obtain ⟨m, hm⟩ := Nat.dvd_of_mod_eq_zero f2
 obtain ⟨k, hk⟩ := Nat.dvd_of_mod_eq_zero g2
 have hpos := Nat.two_pow_pos (free q)
 have hm' : p.ad.num = 2 ^ free q * (2 ^ (free p - free q) * m) := by rw [hm, e, Nat.mul_assoc]
 rw [hm', hk] at h2 ⊢
 apply Nat.mul_le_mul_left
 apply Nat.le_of_lt_succ
 apply Nat.lt_of_mul_lt_mul_left (a := 2 ^ free q)
 rw [Nat.mul_succ]
 omega
end Go.Ma
namespace Go.Ma
open Go
theorem ofF_iff (p : Pf) : ∀ (m bf : List Ls), ofF p bf m = 0 ↔ (∀ x ∈ m, holds p x.ad = true) ∧ (∀ y ∈ bf, ∀ x ∈ m, y.who ≠ x.who) ∧ m.Pairwise fun x y => x.who ≠ y.who
 | [], bf => by simp [ofF]
 | x :: r, bf => by
  unfold ofF
  by_cases h1 : holds p x.ad = true
  ·rw [if_neg (by simp [h1])]
   by_cases h2 : bf.any (whoP x.who) = true
   ·rw [if_pos h2]
    constructor
    ·intro h; exact absurd h (by decide)
    ·rintro ⟨_, h3, _⟩
     obtain ⟨y, hy, hq⟩ := List.any_eq_true.1 h2
     exact absurd (by simpa [whoP] using hq) (h3 y hy x (by simp))
   ·rw [if_neg h2, ofF_iff p r (bf ++ [x])]
    have h2' : ∀ y ∈ bf, y.who ≠ x.who := fun y hy he => h2 (List.any_eq_true.2 ⟨y, hy, by simp [whoP, he]⟩)
    constructor
    ·rintro ⟨a1, a2, a3⟩
     refine ⟨fun z hz => ?_, fun y hy z hz => ?_, List.pairwise_cons.2 ⟨fun z hz => a2 x (by simp) z hz, a3⟩⟩
     ·rcases List.mem_cons.1 hz with rfl | hz
      ·exact h1
      ·exact a1 z hz
     ·rcases List.mem_cons.1 hz with rfl | hz
      ·exact h2' y hy
      ·exact a2 y (by simp [hy]) z hz
    ·rintro ⟨a1, a2, a3⟩
     obtain ⟨b1, b2⟩ := List.pairwise_cons.1 a3
     refine ⟨fun z hz => a1 z (by simp [hz]), fun y hy z hz => ?_, b2⟩
     rcases List.mem_append.1 hy with hy | hy
     ·exact a2 y hy z (by simp [hz])
     ·have : y = x := by simpa using hy
      subst this
      exact b1 z hz
  ·rw [if_pos (by simpa using h1)]
   constructor
   ·intro h; exact absurd h (by decide)
   ·rintro ⟨a1, _⟩; exact absurd (a1 x (by simp)) h1
structure Good (p : Pf) (m : List Ls) : Prop where
 ins : lsIn m
 chk : ∀ x ∈ m, chkLs x = 0
 held : ∀ x ∈ m, holds p x.ad = true
 asc : m.Pairwise fun x y => rank x.ad < rank y.ad
 whos : m.Pairwise fun x y => x.who ≠ y.who
theorem good_of {p : Pf} {kp : List Ad} {l : List Ls} {now : Int} (h : lsIn l) (hc : chkOf p kp l now = 0) : Good p l := by
 obtain ⟨c1, c2, c3⟩ := chkOf_ok hc
 obtain ⟨a1, a2, a3, a4⟩ := allC_ok c2
 obtain ⟨o1, _, o3⟩ := (ofF_iff p l []).1 c3
 exact ⟨h, a2, o1, (asc_pair h).1 a3, o3⟩
theorem Good.live {p : Pf} {l : List Ls} (g : Good p l) (now : Int) : Good p (live l now) :=
 ⟨fun x hx => g.ins x (live_mem hx).1, fun x hx => g.chk x (live_mem hx).1, fun x hx => g.held x (live_mem hx).1, g.asc.filter _, g.whos.filter _⟩
theorem asc_len {lo : Nat} : ∀ {l : List Nat} {hi : Nat}, l.Pairwise (· < ·) → (∀ x ∈ l, lo ≤ x ∧ x < hi) → l.length ≤ hi - lo
 | [], _, _, _ => Nat.zero_le _
 | x :: r, hi, h, hb => by
  obtain ⟨h1, h2⟩ := List.pairwise_cons.1 h
  have hx := hb x (by simp)
  have := asc_len (lo := x + 1) (l := r) (hi := hi) h2 fun y hy => ⟨h1 y hy, (hb y (by simp [hy])).2⟩
  simp only [List.length_cons]
  omega
theorem Good.len {p : Pf} {l : List Ls} (g : Good p l) (hp : p.In) (cp : chkP p = 0) (hn : ((wid p.ad.v6 : Nat) : Int) - p.bits ≤ 4) : l.length ≤ 16 := by
 obtain ⟨n1, n2, n3, n4⟩ := narrow hp cp hn
 have h := asc_len (lo := rank p.ad) (l := l.map fun x => rank x.ad) (hi := rank p.ad + 16) (by rw [List.pairwise_map]; exact g.asc) fun y hy => by
  obtain ⟨x, hx, rfl⟩ := List.mem_map.1 hy
  obtain ⟨s1, s2, s3⟩ := (holds_span hp cp (g.ins x hx).1).1 (g.held x hx)
  have e : free p = freeBits p := rfl
  rw [e] at s3
  unfold rank
  rw [s1]
  omega
 rw [List.length_map] at h
 omega
theorem Good.ok {p : Pf} {l : List Ls} (g : Good p l) {kp : List Ad} (hp : p.In) (hc : chkPool p kp = 0) {now : Int} (ht : betw now 0 9999 = true) : chkOf p kp l now = 0 := by
 obtain ⟨cp, hn, _⟩ := chkPool_ok hc
 have hlen := g.len hp cp hn
 have ha : allC l now = 0 := by
  unfold allC
  rw [if_neg (by omega), chkLsF_of g.chk, if_neg (fun h => h rfl), (asc_pair g.ins).2 g.asc, if_neg (by simp), ht, if_neg (by simp)]
 unfold chkOf
 rw [hc, if_neg (fun h => h rfl), ha, if_neg (fun h => h rfl)]
 exact (ofF_iff p l []).2 ⟨g.held, fun y hy => absurd hy (by simp), g.whos⟩
theorem mem_setQ {b : List Ls} {k : Nat} {v x : Ls} (h : x ∈ b.set k v) : x ∈ b ∨ x = v := (List.mem_or_eq_of_mem_set h)
theorem map_set_same {α : Type} (f : Ls → α) {b : List Ls} {k : Nat} {e v : Ls} (he : b[k]? = some e) (h : f v = f e) : (b.set k v).map f = b.map f := by
 rw [List.map_set, h]
 have hk := (List.getElem?_eq_some_iff.1 he).1
 have : f e = (b.map f)[k]'(by simpa using hk) := by
  rw [List.getElem_map, (List.getElem?_eq_some_iff.1 he).2]
 rw [this, List.set_getElem_self]
theorem chkLs_new {a : Ad} {who : ByteArray} {u : Int} (ca : chkA a = 0) (hw : whoOk who = true) (hu : betw u 0 10499 = true) : chkLs ⟨a, who, u⟩ = 0 := by
 unfold chkLs
 simp only [ca, hw, hu]
 simp
theorem Good.set {p : Pf} {b : List Ls} (g : Good p b) {k : Nat} {e : Ls} (he : b[k]? = some e) {u : Int} (hu : betw u 0 10499 = true) : Good p (b.set k ⟨e.ad, e.who, u⟩) := by
 have hm := List.mem_of_getElem? he
 obtain ⟨u1, u2⟩ := betw_iff.1 hu
 obtain ⟨e1, e2, e3⟩ := chkLs_ad (g.chk e hm)
 obtain ⟨i1, i2, i3⟩ := g.ins e hm
 refine ⟨fun x hx => ?_, fun x hx => ?_, fun x hx => ?_, ?_, ?_⟩
 ·rcases mem_setQ hx with hx | rfl
  ·exact g.ins x hx
  ·exact ⟨i1, i2, ⟨by show (-9223372036854775808 : Int) ≤ u; omega, by show u < 9223372036854775808; omega⟩⟩
 ·rcases mem_setQ hx with hx | rfl
  ·exact g.chk x hx
  ·exact chkLs_new e1 e2 hu
 ·rcases mem_setQ hx with hx | rfl
  ·exact g.held x hx
  ·exact g.held e hm
 ·have := g.asc
  rw [← List.pairwise_map (f := fun x : Ls => rank x.ad) (R := (· < ·))] at this ⊢
  rwa [map_set_same (fun x : Ls => rank x.ad) (v := ⟨e.ad, e.who, u⟩) he rfl]
 ·have := g.whos
  rw [← List.pairwise_map (f := fun x : Ls => x.who) (R := (· ≠ ·))] at this ⊢
  rwa [map_set_same (fun x : Ls => x.who) (v := ⟨e.ad, e.who, u⟩) he rfl]
theorem mem_ins {b : List Ls} {x y : Ls} : y ∈ insAt b x ↔ y ∈ b ∨ y = x := by
 unfold insAt
 have h := List.take_append_drop (posF x.ad b) b
 rw [List.mem_append, List.mem_cons]
 constructor
 ·rintro (h1 | rfl | h1)
  ·exact .inl (List.mem_of_mem_take h1)
  ·exact .inr rfl
  ·exact .inl (List.mem_of_mem_drop h1)
 ·rintro (h1 | rfl)
  ·rw [← h] at h1
   rcases List.mem_append.1 h1 with h2 | h2
   ·exact .inl h2
   ·exact .inr (.inr h2)
  ·exact .inr (.inl rfl)
theorem Good.put {p : Pf} {b : List Ls} (g : Good p b) {a : Ad} (ha : a.In) (ca : chkA a = 0) (hh : holds p a = true) (hfree : ∀ x ∈ b, x.ad ≠ a) {who : ByteArray} (hs : strIn who) (hw : whoOk who = true) (hno : ∀ x ∈ b, x.who ≠ who) {u : Int} (hu : betw u 0 10499 = true) :
  Good p (insAt b ⟨a, who, u⟩) := by
 obtain ⟨u1, u2⟩ := betw_iff.1 hu
 have hsplit := List.take_append_drop (posF a b) b
 have hasc := g.asc
 have hwhos := g.whos
 rw [← hsplit, List.pairwise_append] at hasc hwhos
 have hpos := fun (h : Nat) (x : Ls) (hx : b[h]? = some x) => pos_iff ha g.ins ((asc_pair g.ins).2 g.asc) hx
 have hlo : ∀ y ∈ b.take (posF a b), rank y.ad < rank a := fun y hy => by
  obtain ⟨i, hi⟩ := List.getElem?_of_mem hy
  have hi2 : i < posF a b := by
   have := (List.getElem?_eq_some_iff.1 hi).1
   simp at this
   omega
  rw [List.getElem?_take_of_lt hi2] at hi
  exact (ord_rank (g.ins y (List.mem_of_getElem? hi)).1 ha).1.1 ((hpos i y hi).2 hi2)
 have hhi : ∀ y ∈ b.drop (posF a b), rank a < rank y.ad := fun y hy => by
  obtain ⟨i, hi⟩ := List.getElem?_of_mem hy
  rw [List.getElem?_drop] at hi
  have hm := List.mem_of_getElem? hi
  have h1 : ¬ rank y.ad < rank a := fun h => by
   have := (hpos _ y hi).1 ((ord_rank (g.ins y hm).1 ha).1.2 h)
   omega
  have h2 : rank y.ad ≠ rank a := fun h => hfree y hm (rank_inj (g.ins y hm).1 ha h)
  omega
 refine ⟨fun x hx => ?_, fun x hx => ?_, fun x hx => ?_, ?_, ?_⟩
 ·rcases mem_ins.1 hx with hx | rfl
  ·exact g.ins x hx
  ·exact ⟨ha, hs, ⟨by show (-9223372036854775808 : Int) ≤ u; omega, by show u < 9223372036854775808; omega⟩⟩
 ·rcases mem_ins.1 hx with hx | rfl
  ·exact g.chk x hx
  ·exact chkLs_new ca hw hu
 ·rcases mem_ins.1 hx with hx | rfl
  ·exact g.held x hx
  ·exact hh
 ·unfold insAt
  rw [List.pairwise_append, List.pairwise_cons]
  refine ⟨hasc.1, ⟨hhi, hasc.2.1⟩, fun y hy z hz => ?_⟩
  rcases List.mem_cons.1 hz with rfl | hz
  ·exact hlo y hy
  ·exact hasc.2.2 y hy z hz
 ·unfold insAt
  rw [List.pairwise_append, List.pairwise_cons]
  refine ⟨hwhos.1, ⟨fun z hz he => hno z (List.mem_of_mem_drop hz) he.symm, hwhos.2.1⟩, fun y hy z hz => ?_⟩
  rcases List.mem_cons.1 hz with rfl | hz
  ·exact hno y (List.mem_of_mem_take hy)
  ·exact hwhos.2.2 y hy z hz
theorem who_at {m : List Ls} (h : m.Pairwise fun x y => x.who ≠ y.who) {x : Ls} (hx : x ∈ m) : ∃ k, firstF (whoP x.who) m = some k ∧ m[k]? = some x := by
 cases hf : firstF (whoP x.who) m with
 | none =>
  have := firstF_none hf x hx
  simp [whoP] at this
 | some k =>
  obtain ⟨y, hy, hq, _⟩ := firstF_some hf
  refine ⟨k, rfl, ?_⟩
  have hyx : y.who = x.who := by simpa [whoP] using hq
  obtain ⟨i, hi⟩ := List.getElem?_of_mem hx
  obtain ⟨k1, k2⟩ := List.getElem?_eq_some_iff.1 hy
  obtain ⟨i1, i2⟩ := List.getElem?_eq_some_iff.1 hi
  have hp := List.pairwise_iff_getElem.1 h
  rcases Nat.lt_trichotomy k i with h1 | h1 | h1
  ·exact absurd (by rw [k2, i2]; exact hyx) (hp k i k1 i1 h1)
  ·subst h1; exact hi
  ·exact absurd (by rw [k2, i2]; exact hyx.symm) (hp i k i1 k1 h1)
structure Given (p : Pf) (kp : List Ad) (l : List Ls) (who : ByteArray) (now u : Int) (m : List Ls) (a : Ad) : Prop where
 good : Good p m
 alive : ∀ x ∈ m, now ≤ x.upto
 mine : (⟨a, who, u⟩ : Ls) ∈ m
 others : ∀ x ∈ l, now ≤ x.upto → x.who ≠ who → x ∈ m
 fresh : (∀ x ∈ l, now ≤ x.upto → x.who ≠ who) → ∀ x ∈ kp, x ≠ a
theorem given_of {p : Pf} (hp : p.In) {kp : List Ad} {l : List Ls} (hl : lsIn l) {who : ByteArray} (hw : strIn who) {now ttl : Int} {m : List Ls} {a : Ad} (h : grantOf p kp l who now ttl = (m, a, 0, ())) :
  chkOf p kp l now = 0 ∧ whoOk who = true ∧ Given p kp l who now (now + ttl) m a := by
 unfold grantOf at h
 split at h
 ·rename_i hc
  exact absurd (congrArg (fun y => y.2.2.1) h) hc
 rename_i hc
 have hc : chkOf p kp l now = 0 := Decidable.not_not.1 hc
 split at h
 ·exact absurd (show (1 : Int) = 0 from congrArg (fun y => y.2.2.1) h) (by decide)
 rename_i hwo
 have hwo : whoOk who = true := by simpa using hwo
 split at h
 ·exact absurd (show (3 : Int) = 0 from congrArg (fun y => y.2.2.1) h) (by decide)
 rename_i ht
 have ht : betw ttl 1 500 = true := by simpa using ht
 split at h
 ·exact absurd (show (8 : Int) = 0 from congrArg (fun y => y.2.2.1) h) (by decide)
 rename_i hr
 obtain ⟨c1, c2, c3⟩ := chkOf_ok hc
 obtain ⟨cp, hn, _⟩ := chkPool_ok c1
 obtain ⟨t1, t2⟩ := betw_iff.1 ht
 obtain ⟨v1, v2⟩ := betw_iff.1 (allC_ok c2).2.2.2
 have hu : betw (now + ttl) 0 10499 = true := betw_iff.2 ⟨by omega, by omega⟩
 have g := (good_of hl hc).live now
 have hlm : ∀ x ∈ l, now ≤ x.upto → x ∈ live l now := fun x hx h => List.mem_filter.2 ⟨hx, by simp [liveP, h]⟩
 have hm : (rawOf p kp (live l now) who (now + ttl)).1 = m := congrArg (fun y => y.1) h
 have ha : (rawOf p kp (live l now) who (now + ttl)).2.1 = a := congrArg (fun y => y.2.1) h
 clear h
 refine ⟨hc, hwo, ?_⟩
 unfold rawOf at hm ha hr
 cases hf : firstF (whoP who) (live l now) with
 | some k =>
  rw [hf] at hm ha hr
  obtain ⟨e, he, hq, _⟩ := firstF_some hf
  have hew : e.who = who := by simpa [whoP] using hq
  simp only [keepOn, he] at hm ha
  subst hm ha
  have hk := (List.getElem?_eq_some_iff.1 he).1
  refine ⟨g.set he hu, fun x hx => ?_, ?_, fun x hx hx2 hx3 => ?_, fun hno => ?_⟩
  ·rcases mem_setQ hx with hx | rfl
   ·exact (live_mem hx).2
   ·show now ≤ now + ttl
    omega
  ·rw [← hew]
   exact List.mem_of_getElem? (List.getElem?_set_self (by exact hk))
  ·obtain ⟨i, hi⟩ := List.getElem?_of_mem (hlm x hx hx2)
   have hik : k ≠ i := fun h => by
    subst h
    rw [he] at hi
    injection hi with hi
    exact hx3 (by rw [← hi, hew])
   exact List.mem_of_getElem? ((List.getElem?_set_ne hik).trans hi)
  ·have hm := live_mem (List.mem_of_getElem? he)
   exact absurd hew (hno e hm.1 hm.2)
 | none =>
  rw [hf] at hm ha hr
  cases hfr : freeOf p kp (live l now) with
  | none =>
   rw [hfr] at hr
   exact absurd rfl hr
  | some b =>
   rw [hfr] at hm ha
   simp only [putNew] at hm ha
   subst hm ha
   obtain ⟨⟨i, hi, hbi⟩, htk⟩ := freeOf_some hfr
   obtain ⟨n1, n2, n3, n4⟩ := narrow hp cp hn
   obtain ⟨b1, b2⟩ := addrI_in n4 hi
   unfold takenB at htk
   simp only [Bool.or_eq_false_iff, List.any_eq_false, decide_eq_true_eq] at htk
   have hno : ∀ x ∈ live l now, x.who ≠ who := fun x hx he => by
    have := firstF_none hf x hx
    simp [whoP, he] at this
   refine ⟨g.put (by rw [hbi]; exact b1) (by rw [hbi]; exact b2) (by rw [hbi, holds_at hp cp hn]; exact decide_eq_true hi) htk.2 hw hwo hno hu, fun x hx => ?_, mem_ins.2 (.inr rfl), fun x hx hx2 hx3 => mem_ins.2 (.inl (hlm x hx hx2)), fun _ x hx he => htk.1 x hx he.symm⟩
   rcases mem_ins.1 hx with hx | rfl
   ·exact (live_mem hx).2
   ·show now ≤ now + ttl
    omega
end Go.Ma
namespace Go.Ma
open Go
theorem eqEn_eq (a b : En) : eqEn a b = decide (a = b) := by
 have e : (a = b) ↔ (a.num = b.num ∧ a.epoch = b.epoch ∧ a.op.kind = b.op.kind ∧ a.op.pf.ad.v6 = b.op.pf.ad.v6 ∧ a.op.pf.ad.hi = b.op.pf.ad.hi ∧ a.op.pf.ad.lo = b.op.pf.ad.lo ∧ a.op.pf.bits = b.op.pf.bits ∧
   a.op.ad.v6 = b.op.ad.v6 ∧ a.op.ad.hi = b.op.ad.hi ∧ a.op.ad.lo = b.op.ad.lo ∧ a.op.who = b.op.who ∧ a.op.of_ = b.op.of_ ∧ a.op.n = b.op.n) := by
  cases a with | mk n1 e1 o1 => cases b with | mk n2 e2 o2 =>
  cases o1 with | mk k1 p1 a1 w1 f1 m1 => cases o2 with | mk k2 p2 a2 w2 f2 m2 =>
  cases p1 with | mk pa1 pb1 => cases p2 with | mk pa2 pb2 =>
  cases pa1; cases pa2; cases a1; cases a2
  simp only [En.mk.injEq, Oq.mk.injEq, Pf.mk.injEq, Ad.mk.injEq, and_assoc]
 rw [Bool.eq_iff_iff, decide_eq_true_iff, e]
 unfold eqEn eqOq
 simp [beqB, acmp, strcmp_eql]
theorem state_within_eq (x a b : Int) : state_within_t x a b = some (betw x a b, ()) := by
 unfold state_within_t
 rw [br_ss, bind_s, betw_bif]
def extraO (o : Oq) : Bool :=
 bif (bif (bif (bif (bif !decide (o.kind = 1) then !(eqPf o.pf ⟨⟨false, 0, 0⟩, 0⟩) else false) then true else (bif !decide (o.kind = 2) then !(eqAd o.ad ⟨false, 0, 0⟩) else false))
  then true else (bif !decide (o.kind = 3) then (bif !decide (o.kind = 4) then strcmp .neq o.who ByteArray.empty else false) else false))
  then true else (bif !decide (o.kind = 3) then !decide (o.of_ = 0) else false))
  then true else (bif !decide (o.kind = 3) then (bif !decide (o.kind = 5) then !decide (o.n = 0) else false) else false)
def formO (o : Oq) : Int :=
 if betw o.kind 1 5 = false then 7 else if extraO o = true then 1
 else if o.kind = 1 then (if chkP o.pf ≠ 0 then chkP o.pf else if ((wid o.pf.ad.v6 : Nat) : Int) - o.pf.bits ≤ 4 then 0 else 2)
 else if o.kind = 2 then chkA o.ad
 else if o.kind < 5 ∧ whoOk o.who = false then 1
 else if o.kind = 3 ∧ (betw o.of_ 0 2 = false ∨ betw o.n 1 500 = false) then 3
 else if o.kind = 5 ∧ betw o.n 0 9999 = false then 3 else 0
theorem state_extra_eq (o : Oq) : state_extra_t o = some (extraO o, ()) := by
 unfold state_extra_t
 simp only [br_ss, bind_s]
 rfl
theorem state_Form_eq {o : Oq} (h : o.In) : state_Form_t o = some (formO o, ()) := by
 obtain ⟨_, hp, ha, hw, _, _⟩ := h
 unfold state_Form_t formO
 rw [state_within_eq, bind_s]
 cases hk : betw o.kind 1 5
 ·rfl
 obtain ⟨hk1, hk2⟩ := betw_iff.1 hk
 simp only [Bool.not_true, br_false, Bool.true_eq_false, if_false]
 rw [state_extra_eq, bind_s]
 cases extraO o
 rotate_left
 ·rfl
 simp only [br_false, Bool.false_eq_true, if_false]
 by_cases k1 : o.kind = 1
 ·rw [decide_eq_true k1, br_true, if_pos k1, prefix_Check_eq hp, bind_s]
  by_cases hc : chkP o.pf = 0
  ·simp only [hc, decide_true, Bool.not_true, br_false, ne_eq, not_true, if_false]
   rw [lease_Narrow_eq hc, bind_s]
   by_cases hn : ((wid o.pf.ad.v6 : Nat) : Int) - o.pf.bits ≤ 4 <;> simp [hn, br_true, br_false]
  ·simp [hc, br_true]
 rw [decide_eq_false k1, br_false, if_neg k1]
 by_cases k2 : o.kind = 2
 ·rw [decide_eq_true k2, br_true, if_pos k2, addr_Check_eq, bind_s]
 rw [decide_eq_false k2, br_false, if_neg k2]
 have who : ∀ (X : Bool → Option (Int × Unit)), ((lease_Who_t o.who).bind fun y => X y.1) = X (whoOk o.who) := fun X => by rw [lease_Who_eq hw, bind_s]
 by_cases k3 : o.kind = 3
 ·simp only [k3, decide_true, br_true, lease_Who_eq hw, bind_s, state_within_eq, br_ss]
  cases whoOk o.who <;> cases betw o.of_ 0 2 <;> cases betw o.n 1 500 <;> simp [br_true, br_false]
 ·simp only [k3, decide_false, br_false]
  by_cases k4 : o.kind = 4
  ·simp only [k4, lease_Who_eq hw, bind_s, state_within_eq, br_ss]
   cases whoOk o.who <;> simp [br_true, br_false]
  ·have k5 : o.kind = 5 := by omega
   simp only [k5, state_within_eq, bind_s]
   cases betw o.n 0 9999 <;> simp [br_true, br_false]
theorem log_epoch_eq (x : Int) : log_epoch_t x = some (betw x 1 999, ()) := by
 unfold log_epoch_t
 rw [br_ss, bind_s, betw_bif]
def chkLogF : List En → Int → Int → Int
 | [], _, _ => 0
 | e :: r, i, p => if e.num ≠ i + 1 then 4 else if betw e.epoch 1 999 = false then 3 else if e.epoch < p then 4 else if formO e.op ≠ 0 then formO e.op else chkLogF r (i + 1) e.epoch
def chkLog (l : List En) : Int := if l.length > 30 then 2 else chkLogF l 0 0
def prevE (l : List En) : Nat → Int
 | 0 => 0
 | i + 1 => match l[i]? with | some e => e.epoch | none => 0
def logIn (l : List En) : Prop := ∀ e ∈ l, e.In
def logOut (l : List En) (r : Int) : (((Int × Unit) × Unit) × (List En × Unit)) ⊕ ((Unit) × (List En × Unit)) := if r = 0 then Sum.inr ((), l, ()) else Sum.inl (((r, ()), ()), l, ())
theorem logOut_ne {l : List En} {r : Int} (h : r ≠ 0) : some (logOut l r) = some (Sum.inl (((r, ()), ()), l, ())) := by rw [logOut, if_neg h]
theorem log_Check_eq {l : List En} (h : logIn l) : log_Check_t l = some (chkLog l, ()) := by
 unfold log_Check_t chkLog
 by_cases hlen : l.length > 30
 ·rw [if_pos hlen, decide_eq_true (show lenL l > 30 by unfold lenL; omega), br_true]
 rw [if_neg hlen, decide_eq_false (show ¬ lenL l > 30 by unfold lenL; omega), br_false]
 have hl : loopN log_Check_L4 FUEL (((), (), (lenL l, ()), ((((0 : Nat) : Int)), ()), ()), l, ()) = some (logOut l (chkLogF (l.drop 0) 0 (prevE l 0))) := by
  refine loop_up (fun i => (((((), (), (lenL l, ()), ((i : Int), ()), ()), l, ()) : (((Unit) × (Unit) × (Int × Unit) × (Int × Unit) × Unit) × (List En × Unit))))) l.length (fun i => some (logOut l (chkLogF (l.drop i) (i : Int) (prevE l i)))) (fun rec i hi hr => ?_) (fun rec => ?_) FUEL 0 (Nat.zero_le _) (fuel_gt (by omega))
  ·obtain ⟨e, he⟩ : ∃ e, l[i]? = some e := ⟨_, List.getElem?_eq_getElem hi⟩
   simp only [log_Check_L4]
   rw [decide_eq_true (show (i : Int) < lenL l by unfold lenL; omega), br_true, req_of (zq33 (by omega) (by unfold lenL; omega)), geti_at he, bind_s]
   rw [req_of (i64ok_of (by omega) (by omega)), drop_cons he, chkLogF]
   by_cases hn : e.num = (i : Int) + 1
   rotate_left
   ·rw [if_pos hn, decide_eq_false hn, Bool.not_false, br_true]
    rfl
   rw [if_neg (fun h0 => h0 hn), decide_eq_true hn, Bool.not_true, br_false, log_epoch_eq, bind_s]
   cases hb : betw e.epoch 1 999
   ·rfl
   simp only [Bool.not_true, br_false, Bool.true_eq_false, if_false]
   have hc : (br (decide ((i : Int) > 0)) (req (i64ok ((i : Int) - 1)) (req (inRange ((i : Int) - 1) (lenL l)) (req (inRange ((i : Int) - 1) (lenL l)) ((geti l ((i : Int) - 1)).bind fun p3 => some (decide (e.epoch < p3.epoch)))))) (some false)) = some (decide (e.epoch < prevE l i)) := by
    cases i with
    | zero =>
     have := betw_iff.1 hb
     rw [decide_eq_false (by omega), br_false, decide_eq_false (show ¬ e.epoch < prevE l 0 by simp only [prevE]; omega)]
    | succ k =>
     obtain ⟨e', he'⟩ : ∃ e, l[k]? = some e := ⟨_, List.getElem?_eq_getElem (by omega)⟩
     rw [decide_eq_true (by omega), br_true, show (((k + 1 : Nat) : Int) - 1) = (k : Int) by omega, req_of (i64ok_of (by omega) (by omega)), req_of (zq33 (by omega) (by unfold lenL; omega)), req_of (zq33 (by omega) (by unfold lenL; omega)), geti_at he', bind_s]
     simp only [prevE, he']
   rw [hc, bind_s]
   by_cases hp : e.epoch < prevE l i
   ·rw [if_pos hp, decide_eq_true hp, br_true]
    rfl
   rw [if_neg hp, decide_eq_false hp, br_false, state_Form_eq (h e (List.mem_of_getElem? he)).2.2, bind_s]
   by_cases hf : formO e.op = 0
   rotate_left
   ·rw [if_pos hf, decide_eq_false hf, Bool.not_false, br_true, logOut_ne hf]
   rw [if_neg (fun h0 => h0 hf), decide_eq_true hf, Bool.not_true, br_false, show ((i : Int) + 1) = ((i + 1 : Nat) : Int) by omega, req_of (i64ok_of (by omega) (by omega)), hr]
   rw [show prevE l (i + 1) = e.epoch by simp only [prevE, he]]
  ·simp only [log_Check_L4]
   rw [decide_eq_false (show ¬ (l.length : Int) < lenL l by unfold lenL; omega), br_false, List.drop_of_length_le (Nat.le_refl _)]
   rfl
 rw [show (((0 : Nat) : Int)) = 0 from rfl, List.drop_zero] at hl
 rw [hl, bind_s]
 show sumC (logOut l (chkLogF l 0 0)) _ _ = _
 unfold logOut
 by_cases h0 : chkLogF l 0 0 = 0
 ·rw [if_pos h0, h0]; rfl
 ·rw [if_neg h0]; rfl
end Go.Ma
namespace Go.Ma
open Go
theorem clone_eq {l : List En} (h : l.length ≤ 274877906944) : zq68 l = some (l, ()) := by
 unfold zq68
 rw [req_of (room_of (by simp [lenL]) (zq55 l) (by unfold lenL; simp; omega)), List.nil_append]
 cases l with
 | nil => exact both_self _
 | cons a r => rfl
theorem fence_within_eq (x a b : Int) : fence_within_t x a b = some (betw x a b, ()) := by
 unfold fence_within_t
 rw [br_ss, bind_s, betw_bif]
def chkDisk (ep h u : Int) (l : List En) : Int :=
 if betw ep 0 999 = false ∨ betw h 0 2 = false ∨ betw u 0 10009 = false then 3
 else if (h = 0 ∧ (ep ≠ 0 ∨ u ≠ 0)) ∨ (h ≠ 0 ∧ ep = 0) then 4
 else if chkLog l ≠ 0 then chkLog l else if l.any (fun e => decide (ep < e.epoch)) = true then 4 else 0
abbrev DK := List En × (Int × Int × Int × Unit) × Unit
def goE (ep : Int) (d : DK) : List En → Int → (((Int × Unit) × Unit) × DK) ⊕ (Unit × DK)
 | [], _ => Sum.inr ((), d)
 | e :: r, i => if e.epoch > ep then Sum.inl (((i, ()), ()), d) else goE ep d r (i + 1)
theorem goE_eq (ep : Int) (d : DK) : ∀ (l : List En) (i : Int), 0 ≤ i → sumC (goE ep d l i) (fun y8 => br (decide (y8.1.1.1 ≥ 0)) (some ((4 : Int), ())) (some (0, ()))) (fun _ => some (0, ())) = some (if l.any (fun e => decide (ep < e.epoch)) = true then 4 else 0, ())
 | [], _, _ => rfl
 | e :: r, i, hi => by
  unfold goE
  by_cases h : e.epoch > ep
  ·rw [if_pos h]
   have h' : ep < e.epoch := h
   simp only [sumC, List.any_cons, decide_eq_true h', Bool.true_or, if_true]
   rw [decide_eq_true (show i ≥ 0 from hi), br_true]
  ·rw [if_neg h, goE_eq ep d r (i + 1) (by omega)]
   have h' : ¬ ep < e.epoch := h
   simp only [List.any_cons, decide_eq_false h', Bool.false_or]
theorem fence_loop {ep h u : Int} {l : List En} (hl : l.length < 9223372036854775808) :
  loopN zq24 FUEL (((), (), (lenL l, ()), (0, ()), ()), (l, (ep, h, u, ()), ())) = some (goE ep (l, (ep, h, u, ()), ()) l 0) := by
 have := loop_up (step := zq24) (fun i => (((), (), (lenL l, ()), ((i : Int), ()), ()), (l, (ep, h, u, ()), ()))) l.length (fun i => some (goE ep (l, (ep, h, u, ()), ()) (l.drop i) i)) (fun rec i hi hr => ?_) (fun rec => ?_) FUEL 0 (Nat.zero_le _) (fuel_gt (by omega))
 ·exact this
 ·obtain ⟨e, he⟩ : ∃ e, l[i]? = some e := ⟨_, List.getElem?_eq_getElem hi⟩
  simp only [zq24]
  rw [decide_eq_true (show (i : Int) < lenL l by unfold lenL; omega), br_true, req_of (zq33 (by omega) (by unfold lenL; omega)), geti_at he, bind_s, drop_cons he]
  simp only [fence_Check_1_t, bind_s, goE]
  by_cases hp : e.epoch > ep
  ·rw [if_pos hp, decide_eq_true hp, br_true]
  ·rw [if_neg hp, decide_eq_false hp, br_false, show ((i : Int) + 1) = ((i + 1 : Nat) : Int) by omega, req_of (i64ok_of (by omega) (by omega)), hr]
 ·simp only [zq24]
  rw [decide_eq_false (show ¬ (l.length : Int) < lenL l by unfold lenL; omega), br_false, List.drop_of_length_le (Nat.le_refl _)]
  rfl
theorem chkLog_len {l : List En} (h : chkLog l = 0) : l.length ≤ 30 := by
 unfold chkLog at h
 split at h
 ·cases h
 ·omega
theorem fence_Check_eq (ep h u : Int) {l : List En} (hl : logIn l) : fence_Check_t ep h u l = some (chkDisk ep h u l, ()) := by
 unfold fence_Check_t chkDisk
 simp only [fence_within_eq, bind_s, br_sb]
 cases h1 : betw ep 0 999 <;> cases h2 : betw h 0 2 <;> cases h3 : betw u 0 10009 <;> simp only [Bool.not_false, Bool.not_true, cond_true, cond_false, br_true, br_false, true_or, or_true, if_true]
 simp only [Bool.true_eq_false, or_self, if_false]
 have tail : ((log_Check_t l).bind fun y6 => br (!decide (y6.1 = 0)) (some (y6.1, ())) ((loopN zq24 FUEL (((), (), (lenL l, ()), (0, ()), ()), (l, (ep, h, u, ()), ()))).bind fun y7 =>
   sumC y7 (fun y8 => br (decide (y8.1.1.1 ≥ 0)) (some ((4 : Int), ())) (some (0, ()))) (fun y9 => some (0, ())))) = some (if chkLog l ≠ 0 then chkLog l else if l.any (fun e => decide (ep < e.epoch)) = true then 4 else 0, ()) := by
  rw [log_Check_eq hl, bind_s]
  by_cases h0 : chkLog l = 0
  ·rw [if_neg (fun h => h h0), decide_eq_true (show (chkLog l, ()).1 = 0 from h0), Bool.not_true, br_false, fence_loop (by have := chkLog_len h0; omega), bind_s, goE_eq _ _ _ _ (by omega)]
  ·rw [if_pos h0, decide_eq_false (show ¬ (chkLog l, ()).1 = 0 from h0), Bool.not_false, br_true]
 by_cases k : h = 0
 ·by_cases k1 : ep = 0
  ·by_cases k2 : u = 0
   ·simp only [k, k1, k2, decide_true, cond_true, Bool.not_true, br_true, br_false, cond_false] at tail ⊢
    rw [if_neg (by simp)]
    exact tail
   ·simp [k, k1, k2, br_true, br_false]
  ·simp [k, k1, br_true, br_false]
 ·by_cases k1 : ep = 0
  ·simp [k, k1, br_true, br_false]
  ·simp only [k, k1, decide_false, cond_true, Bool.not_false, br_true, br_false, cond_false] at tail ⊢
   rw [if_neg (by simp)]
   exact tail
abbrev Dk := Int × Int × Int × (List En) × Unit
def noDk : Dk := (0, 0, 0, [], ())
def overL (h u now : Int) : Bool := decide (h = 0) || decide (u < now)
def acqOf (ep h u : Int) (l : List En) (who now : Int) : Dk × Int × Unit :=
 if overL h u now = false ∧ h ≠ who then (noDk, 4, ()) else if overL h u now = true ∧ ep = 999 then (noDk, 2, ()) else ((if overL h u now = true then ep + 1 else ep, who, now + 10, l, ()), 0, ())
theorem fence_Own_eq (ep h u : Int) {l : List En} (hl : l.length ≤ 274877906944) : fence_Own_t ep h u l = some ((ep, h, u, l, ()), ()) := by
 unfold fence_Own_t
 rw [clone_eq hl, bind_s]
theorem fence_Get_eq (ep h u : Int) {l : List En} (hl : l.length ≤ 274877906944) (who now : Int) (h1 : 0 ≤ ep) (h2 : ep ≤ 999) (h3 : 0 ≤ now) (h4 : now ≤ 9999) : fence_Get_t ep h u l who now = some (acqOf ep h u l who now) := by
 unfold fence_Get_t acqOf
 rw [fence_Own_eq ep h u hl, bind_s, br_ss, bind_s]
 have e : (bif decide (h = 0) then true else decide (u < now)) = overL h u now := by unfold overL; cases decide (h = 0) <;> rfl
 simp only [e, br_sb, bind_s]
 have i1 : i64ok (ep + 1) = true := i64ok_of (by omega) (by omega)
 have i2 : i64ok (now + 10) = true := i64ok_of (by omega) (by omega)
 simp only [i1, i2, req_true]
 cases overL h u now
 ·by_cases k : h = who <;> simp [k, br_true, br_false, noDk]
 ·by_cases k : ep = 999 <;> simp [k, br_true, br_false, noDk]
theorem chkDisk_ok {ep h u : Int} {l : List En} (hc : chkDisk ep h u l = 0) : (0 ≤ ep ∧ ep ≤ 999) ∧ (0 ≤ h ∧ h ≤ 2) ∧ (0 ≤ u ∧ u ≤ 10009) ∧ ((h = 0 ∧ ep = 0 ∧ u = 0) ∨ (h ≠ 0 ∧ ep ≠ 0)) ∧ chkLog l = 0 ∧ l.any (fun e => decide (ep < e.epoch)) = false := by
 unfold chkDisk at hc
 split at hc
 ·cases hc
 rename_i h1
 split at hc
 ·cases hc
 rename_i h2
 split at hc
 ·rename_i h3; exact absurd hc h3
 rename_i h3
 split at hc
 ·cases hc
 rename_i h4
 simp only [not_or, Bool.not_eq_false, betw_iff] at h1
 refine ⟨h1.1, h1.2.1, h1.2.2, ?_, Decidable.not_not.1 h3, by simpa using h4⟩
 omega
def moreOf (l : List En) (ep : Int) (o : Oq) : (List En) × Int × Unit :=
 if betw ep 1 999 = false then ([], 3, ()) else if ep < prevE l l.length then ([], 4, ()) else if formO o ≠ 0 then ([], formO o, ()) else if l.length = 30 then ([], 2, ()) else (l ++ [⟨lenL l + 1, ep, o⟩], 0, ())
theorem last_br {l : List En} {ep : Int} (hl : l.length ≤ 30) (he : 0 ≤ ep) : (br (decide (lenL l > 0)) (req (i64ok ((lenL l) - 1)) <| req (inRange ((lenL l) - 1) (lenL l)) <| req (inRange ((lenL l) - 1) (lenL l)) <| (geti l ((lenL l) - 1)).bind fun p2 => some (decide (ep < p2.epoch))) (some false)) = some (decide (ep < prevE l l.length)) := by
 cases hn : l.length with
 | zero =>
  rw [decide_eq_false (show ¬ lenL l > 0 by unfold lenL; omega), br_false, decide_eq_false (show ¬ ep < prevE l 0 by simp only [prevE]; omega)]
 | succ k =>
  obtain ⟨e, he⟩ : ∃ e, l[k]? = some e := ⟨_, List.getElem?_eq_getElem (by omega)⟩
  have e1 : lenL l - 1 = (k : Int) := by unfold lenL; omega
  rw [decide_eq_true (show lenL l > 0 by unfold lenL; omega), br_true, e1, req_of (i64ok_of (by omega) (by omega)), req_of (zq33 (by omega) (by unfold lenL; omega)), req_of (zq33 (by omega) (by unfold lenL; omega)), geti_at he, bind_s]
  simp only [prevE, he]
theorem log_More_eq {l : List En} (hl : l.length ≤ 30) (ep : Int) {o : Oq} (ho : o.In) : log_More_t l ep o = some (moreOf l ep o) := by
 unfold log_More_t moreOf
 rw [log_epoch_eq, bind_s]
 cases h1 : betw ep 1 999
 ·rfl
 obtain ⟨h2, h3⟩ := betw_iff.1 h1
 simp only [Bool.not_true, br_false, Bool.true_eq_false, if_false]
 rw [last_br hl (by omega), bind_s]
 by_cases h4 : ep < prevE l l.length
 ·rw [decide_eq_true h4, br_true, if_pos h4]
 rw [decide_eq_false h4, br_false, if_neg h4, state_Form_eq ho, bind_s]
 by_cases h5 : formO o = 0
 ·rw [decide_eq_true (show (formO o, ()).1 = 0 from h5), Bool.not_true, br_false, if_neg (fun h => h h5)]
  by_cases h6 : l.length = 30
  ·rw [decide_eq_true (show lenL l = 30 by unfold lenL; omega), br_true, if_pos h6]
  ·rw [decide_eq_false (show ¬ lenL l = 30 by unfold lenL; omega), br_false, if_neg h6, dup_eq, clone_eq (by omega), bind_s, req_of (i64ok_of (by unfold lenL; omega) (by unfold lenL; omega))]
   rw [req_of (room_of (zq55 _) (zq55 _) (by simp only [lenL, List.length_cons, List.length_nil]; omega))]
 ·rw [decide_eq_false (show ¬ (formO o, ()).1 = 0 from h5), Bool.not_false, br_true, if_pos h5]
def putOf (ep h u : Int) (l : List En) (e : Int) (o : Oq) : Dk × Int × Unit :=
 if e = 0 ∨ e ≠ ep then (noDk, 4, ()) else if (moreOf l e o).2.1 ≠ 0 then (noDk, (moreOf l e o).2.1, ()) else ((ep, h, u, (moreOf l e o).1, ()), 0, ())
theorem fence_Put_eq (ep h u : Int) {l : List En} (hl : l.length ≤ 30) (e : Int) {o : Oq} (ho : o.In) : fence_Put_t ep h u l e o = some (putOf ep h u l e o) := by
 unfold fence_Put_t putOf
 rw [br_sb, bind_s, log_More_eq hl e ho, bind_s]
 by_cases h1 : e = 0
 ·simp [h1, br_true, noDk]
 by_cases h2 : e = ep
 ·rw [if_neg (by simp [h1, h2]; omega)]
  simp only [decide_eq_false h1, decide_eq_true h2, cond_false, Bool.not_true, br_false]
  by_cases h3 : (moreOf l e o).2.1 = 0 <;> simp [h3, br_true, br_false, noDk]
 ·simp [h1, h2, br_true, noDk]
def op1 : Oq := ⟨1, ⟨⟨false, 0, 8⟩, 30⟩, ⟨false, 0, 0⟩, ByteArray.empty, 0, 0⟩
def op2 : Oq := ⟨2, ⟨⟨false, 0, 0⟩, 0⟩, ⟨false, 0, 8⟩, ByteArray.empty, 0, 0⟩
def op3 : Oq := ⟨3, ⟨⟨false, 0, 0⟩, 0⟩, ⟨false, 0, 0⟩, ⟨#[120]⟩, 0, 10⟩
def ents : List En := [⟨1, 1, op1⟩, ⟨2, 1, op2⟩, ⟨3, 4, op3⟩]
theorem some_eq : law_some_t = some ([op1, op2, op3], ()) := rfl
theorem entries_eq : law_entries_t = some (ents, ()) := rfl
theorem z_in : (⟨false, 0, 0⟩ : Ad).In := by constructor <;> constructor <;> decide
theorem op_in : op1.In ∧ op2.In ∧ op3.In := by
 have a8 : (⟨false, 0, 8⟩ : Ad).In := by constructor <;> constructor <;> decide
 have e0 : strIn ByteArray.empty := by unfold strIn; exact Nat.zero_le _
 have e1 : strIn ⟨#[120]⟩ := by unfold strIn maxLen; decide
 have n : ∀ x : Int, 0 ≤ x → x < 100 → i64In x := fun x h h' => ⟨by omega, by omega⟩
 exact ⟨⟨n _ (by decide) (by decide), ⟨a8, n _ (by decide) (by decide)⟩, z_in, e0, n _ (by decide) (by decide), n _ (by decide) (by decide)⟩,
  ⟨n _ (by decide) (by decide), ⟨z_in, n _ (by decide) (by decide)⟩, a8, e0, n _ (by decide) (by decide), n _ (by decide) (by decide)⟩,
  ⟨n _ (by decide) (by decide), ⟨z_in, n _ (by decide) (by decide)⟩, z_in, e1, n _ (by decide) (by decide), n _ (by decide) (by decide)⟩⟩
theorem ents_in : logIn ents := by
 have n : ∀ x : Int, 0 ≤ x → x < 100 → i64In x := fun x h h' => ⟨by omega, by omega⟩
 intro e he
 simp only [ents, List.mem_cons, List.not_mem_nil, or_false] at he
 rcases he with rfl | rfl | rfl
 ·exact ⟨n _ (by decide) (by decide), n _ (by decide) (by decide), op_in.1⟩
 ·exact ⟨n _ (by decide) (by decide), n _ (by decide) (by decide), op_in.2.1⟩
 ·exact ⟨n _ (by decide) (by decide), n _ (by decide) (by decide), op_in.2.2⟩
def ents4 : List En := ents ++ [⟨4, 4, op3⟩]
theorem in2 : inRange 2 (lenL [op1, op2, op3]) = true := rfl
theorem get2 : geti [op1, op2, op3] 2 = some op3 := rfl
theorem any_mono {l : List En} {a b : Int} (h : l.any (fun e => decide (a < e.epoch)) = false) (hab : a ≤ b) : l.any (fun e => decide (b < e.epoch)) = false := by
 rw [List.any_eq_false] at h ⊢
 intro e he
 have := h e he
 simp only [decide_eq_true_eq] at this ⊢
 omega
theorem acq_disk {ep h u : Int} {l : List En} {who now : Int} (hc : chkDisk ep h u l = 0) (hw : 1 ≤ who ∧ who ≤ 2) (hn : 0 ≤ now ∧ now ≤ 9999) (ho : overL h u now = true ∨ h = who) (he : overL h u now = true → ep ≠ 999) :
  chkDisk (if overL h u now = true then ep + 1 else ep) who (now + 10) l = 0 := by
 obtain ⟨h1, h2, h3, h4, h5, h6⟩ := chkDisk_ok hc
 have key : ∀ e : Int, 1 ≤ e → e ≤ 999 → ep ≤ e → chkDisk e who (now + 10) l = 0 := by
  intro e g1 g2 g3
  unfold chkDisk
  rw [if_neg, if_neg, if_neg (fun h => h h5), if_neg (by rw [any_mono h6 g3]; simp)]
  ·rintro (⟨g, _⟩ | ⟨_, g⟩) <;> omega
  ·simp only [not_or, Bool.not_eq_false, betw_iff]
   omega
 cases hov : overL h u now
 ·simp only [Bool.false_eq_true, if_false]
  have hh : h = who := by
   rcases ho with ho | ho
   ·rw [hov] at ho; cases ho
   ·exact ho
  refine key ep ?_ h1.2 (Int.le_refl _)
  rcases h4 with ⟨g, _, _⟩ | ⟨_, g⟩
  ·omega
  ·omega
 ·simp only [if_true]
  have := he hov
  exact key (ep + 1) (by omega) (by omega) (by omega)
end Go.Ma
namespace Go.Ma
open Go
theorem R_CheckOp_eq {o : Oq} (h : o.In) : R_CheckOp_t o = some (formO o, ()) := by
 obtain ⟨_, hp, ha, hw, _, _⟩ := h
 unfold R_CheckOp_t formO
 rw [R_between_eq, bind_s]
 cases hk : betw o.kind 1 5
 ·rfl
 obtain ⟨hk1, hk2⟩ := betw_iff.1 hk
 simp only [Bool.not_true, br_false, Bool.true_eq_false, if_false, br_sb, bind_s]
 have e : ∀ a b : Option (Int × Unit), br (bif (bif (bif (bif (bif !decide (o.kind = 1) then !(eqPf o.pf ⟨⟨false, 0, 0⟩, 0⟩) else false) then true else (bif !decide (o.kind = 2) then !(eqAd o.ad ⟨false, 0, 0⟩) else false))
  then true else (bif !decide (o.kind = 3) then (bif !decide (o.kind = 4) then strcmp .neq o.who ByteArray.empty else false) else false))
  then true else (bif !decide (o.kind = 3) then !decide (o.of_ = 0) else false))
  then true else (bif !decide (o.kind = 3) then (bif !decide (o.kind = 5) then !decide (o.n = 0) else false) else false)) a b = br (extraO o) a b := fun _ _ => rfl
 rw [e]
 cases extraO o
 rotate_left
 ·rfl
 simp only [br_false, Bool.false_eq_true, if_false]
 by_cases k1 : o.kind = 1
 ·rw [decide_eq_true k1, br_true, if_pos k1, R_CheckPrefix_eq hp, bind_s]
  by_cases hc : chkP o.pf = 0
  ·simp only [hc, decide_true, br_true, ne_eq, not_true, if_false, R_IsNarrow_eq hc, bind_s]
   by_cases hn : ((wid o.pf.ad.v6 : Nat) : Int) - o.pf.bits ≤ 4 <;> simp [hn, br_true, br_false]
  ·simp only [hc, decide_false, br_false, bind_s, ne_eq, not_false_eq_true, if_true]
 rw [decide_eq_false k1, br_false, if_neg k1]
 by_cases k2 : o.kind = 2
 ·rw [decide_eq_true k2, br_true, if_pos k2, R_CheckAddr_eq ha, bind_s]
 rw [decide_eq_false k2, br_false, if_neg k2]
 by_cases k3 : o.kind = 3
 ·simp only [k3, decide_true, br_true, R_IsWho_eq hw, bind_s, R_between_eq, br_sb, show decide ((3 : Int) < 5) = true from rfl, show decide ((3 : Int) = 5) = false from rfl, br_false]
  cases whoOk o.who <;> cases betw o.of_ 0 2 <;> cases betw o.n 1 500 <;> simp [br_true, br_false]
 ·by_cases k4 : o.kind = 4
  ·simp only [k4, R_IsWho_eq hw, bind_s, show decide ((4 : Int) < 5) = true from rfl, show decide ((4 : Int) = 5) = false from rfl, show decide ((4 : Int) = 3) = false from rfl, br_false, br_true]
   cases whoOk o.who <;> simp [br_true, br_false]
  ·have k5 : o.kind = 5 := by omega
   simp only [k5, R_between_eq, bind_s, show decide ((5 : Int) < 5) = false from rfl, show decide ((5 : Int) = 5) = true from rfl, show decide ((5 : Int) = 3) = false from rfl, br_false, br_true]
   cases betw o.n 0 9999 <;> simp [br_true, br_false]
end Go.Ma
namespace Go.Ma
open Go
section
variable {α A R : Type}
theorem idx_loop {step : (A → Option R) → A → Option R} (b : List α) (q : α → Bool) (mk : Nat → A) (out : Option Nat → R) (hlen : b.length < 9223372036854775808)
  (h : ∀ (rec : A → Option R) (i : Nat) (x : α), b[i]? = some x → i < b.length → step rec (mk i) = if q x then some (out (some i)) else rec (mk (i + 1)))
  (hend : ∀ rec : A → Option R, step rec (mk b.length) = some (out none)) : loopN step FUEL (mk 0) = some (out (firstF q b)) := by
 have := loop_up (step := step) mk b.length (fun i => some (out ((firstF q (b.drop i)).map (· + i)))) (fun rec i hi hr => ?_) (fun rec => ?_) FUEL 0 (Nat.zero_le _) (fuel_gt (by omega))
 ·rw [List.drop_zero, show (fun x => x + 0) = (id : Nat → Nat) from rfl, Option.map_id] at this
  exact this
 ·obtain ⟨e, he⟩ : ∃ e, b[i]? = some e := ⟨_, List.getElem?_eq_getElem hi⟩
  rw [h rec i e he hi, firstF_at he]
  cases q e
  ·rw [if_neg (by simp), if_neg (by simp), hr]
  ·rw [if_pos rfl, if_pos rfl]
 ·rw [hend, List.drop_of_length_le (Nat.le_refl _)]
  rfl
theorem bin_loop {step : (A → Option R) → A → Option R} (n pos : Nat) (hp : pos ≤ n) (hn : n < 9223372036854775808) (mk : Nat → Nat → A) (out : R)
  (h : ∀ (rec : A → Option R) (i j : Nat), i < j → i ≤ pos → pos ≤ j → j ≤ n → step rec (mk i j) = if (i + j) / 2 < pos then rec (mk ((i + j) / 2 + 1) j) else rec (mk i ((i + j) / 2)))
  (hend : ∀ rec : A → Option R, step rec (mk pos pos) = some out) : loopN step FUEL (mk 0 n) = some out := by
 have key : ∀ (N i j : Nat), j - i < N → i ≤ pos → pos ≤ j → j ≤ n → loopN step N (mk i j) = some out := by
  intro N
  induction N with
  | zero => intro i j h; omega
  | succ N ih =>
   intro i j hN h1 h2 h3
   rw [loopN_succ]
   by_cases hij : i < j
   ·rw [h _ i j hij h1 h2 h3]
    by_cases hh : (i + j) / 2 < pos
    ·rw [if_pos hh]; exact ih _ _ (by omega) (by omega) h2 h3
    ·rw [if_neg hh]; exact ih _ _ (by omega) h1 (by omega) (by omega)
   ·have : i = pos := by omega
    have : j = pos := by omega
    subst i j
    exact hend _
 exact key FUEL 0 n (fuel_gt (by omega)) (Nat.zero_le _) hp (Nat.le_refl _)
end
theorem padL_id {α : Type} (ls : List (List α)) : padL ls.length ls = ls := by simp [padL]
theorem padL_of {α : Type} {ls : List (List α)} {n : Nat} (h : ls.length = n) : padL n ls = ls := by subst h; exact padL_id ls
theorem getL_nat {α : Type} (ls : List (List α)) (i : Nat) : getL ls (i : Int) = ls.getD i [] := by
 unfold getL
 rw [if_pos (by omega)]
 rfl
def pfIn (l : List Pf) : Prop := ∀ p ∈ l, p.In ∧ chkP p = 0
def poolIx (ps : List Pf) (a : Ad) : Option Nat := firstF (fun p => holds p a) ps
theorem prefix_Meet_eq {p q : Pf} (hp : p.In) (hq : q.In) (cp : chkP p = 0) (cq : chkP q = 0) : prefix_Meet_t p q = some (over p q || over q p, ()) := by
 unfold prefix_Meet_t
 rw [prefix_Over_eq cp hq, bind_s, prefix_Over_eq cq hp]
 cases over p q <;> rfl
theorem state_poolOf_eq {ps : List Pf} (hp : pfIn ps) (hlen : ps.length ≤ 1048576) (ks : List (List Ad)) (ls : List Ls) (now : Int) {a : Ad} (ha : a.In) : state_poolOf_t (ps, ks) ls now a = some (idxI (poolIx ps a), ()) := by
 unfold state_poolOf_t
 have := idx_loop (step := zq104) ps (fun p => holds p a) (fun i => (((), (), (lenL ps, ()), ((i : Int), ()), ()), (ks, ps, ls, (now, ()), (a, ()), ())))
  (fun o => match o with | some i => Sum.inl ((((i : Int), ()), ()), (ks, ps, ls, (now, ()), (a, ()), ())) | none => Sum.inr ((), (ks, ps, ls, (now, ()), (a, ()), ()))) (by omega) (fun rec i x hx hi => ?_) (fun rec => ?_)
 ·rw [show ((0 : Nat) : Int) = 0 from rfl] at this
  simp only
  rw [this, bind_s]
  unfold poolIx
  cases firstF (fun p => holds p a) ps <;> rfl
 ·obtain ⟨h1, h2⟩ := hp x (List.mem_of_getElem? hx)
  obtain ⟨b1, b2⟩ := chkP_bits h2
  simp only [zq104]
  rw [decide_eq_true (show (i : Int) < lenL ps by unfold lenL; omega), br_true, req_of (zq33 (by omega) (by unfold lenL; omega)), geti_at hx, bind_s, state_poolOf_1_t, prefix_Holds_eq b1 b2 ha, bind_s, bind_s]
  cases holds x a
  ·rw [show ((i : Int) + 1) = ((i + 1 : Nat) : Int) by omega, br_false, req_of (i64ok_of (by omega) (by omega)), if_neg (by simp)]
  ·rw [br_true, if_pos rfl]
 ·simp only [zq104]
  rw [decide_eq_false (show ¬ (ps.length : Int) < lenL ps by unfold lenL; omega), br_false]
def meets (p q : Pf) : Bool := over p q || over q p
def poolsF : List Pf → List (List Ad) → Int
 | [], _ => 0
 | p :: r, ks => if chkPool p (ks.headD []) ≠ 0 then chkPool p (ks.headD []) else poolsF r ks.tail
def adjOk : List Pf → Bool
 | p :: q :: r => decide (ordP p q < 0) && (!meets p q && adjOk (q :: r))
 | _ => true
def stF' (ps : List Pf) (now : Int) : List Ls → List Ls → Int
 | _, [] => 0
 | bf, x :: r => if (poolIx ps x.ad).isNone = true then 5 else if bf.any (whoP x.who) = true then 6 else if x.upto < now then 4 else stF' ps now (bf ++ [x]) r
def chkS (ps : List Pf) (ks : List (List Ad)) (ls : List Ls) (now : Int) : Int :=
 if ps.length > 3 then 2 else if poolsF ps ks ≠ 0 then poolsF ps ks else if adjOk ps = false then 4 else if betw now 0 9999 = false then 3
 else if allC ls now ≠ 0 then allC ls now else stF' ps now [] ls
theorem poolsF_all : ∀ {ps : List Pf} {ks : List (List Ad)}, poolsF ps ks = 0 → ∀ (i : Nat) (p : Pf), ps[i]? = some p → chkPool p (ks.getD i []) = 0
 | [], _, _, i, p, h => by simp at h
 | q :: r, ks, h, i, p, hp => by
  unfold poolsF at h
  by_cases hc : chkPool q (ks.headD []) = 0
  ·rw [if_neg (fun h => h hc)] at h
   match i with
   | 0 =>
    simp only [List.getElem?_cons_zero, Option.some.injEq] at hp
    subst hp
    cases ks <;> exact hc
   | i + 1 =>
    simp only [List.getElem?_cons_succ] at hp
    have := poolsF_all h i p hp
    cases ks <;> simpa using this
  ·rw [if_pos hc] at h; exact absurd h hc
end Go.Ma
namespace Go.Ma
open Go
def kV (v : Bool) : Int := if v then 1 else 0
theorem ordA_key (a b : Ad) : (ordA a b < 0 ↔ kV a.v6 < kV b.v6 ∨ (kV a.v6 = kV b.v6 ∧ (a.hi < b.hi ∨ (a.hi = b.hi ∧ a.lo < b.lo)))) ∧ (ordA a b = 0 ↔ kV a.v6 = kV b.v6 ∧ a.hi = b.hi ∧ a.lo = b.lo) := by
 unfold ordA ordI kV
 cases a.v6 <;> cases b.v6 <;> simp <;> (by_cases h1 : a.hi = b.hi <;> simp [h1] <;> constructor <;> (repeat' split) <;> omega)
theorem ordP_key (p q : Pf) : ordP p q < 0 ↔ kV p.ad.v6 < kV q.ad.v6 ∨ (kV p.ad.v6 = kV q.ad.v6 ∧ (p.ad.hi < q.ad.hi ∨ (p.ad.hi = q.ad.hi ∧ (p.ad.lo < q.ad.lo ∨ (p.ad.lo = q.ad.lo ∧ p.bits < q.bits))))) := by
 obtain ⟨h1, h2⟩ := ordA_key p.ad q.ad
 unfold ordP
 split <;> omega
theorem kV_inj {v w : Bool} (h : kV v = kV w) : v = w := by cases v <;> cases w <;> first | rfl | (exact absurd h (by decide))
theorem ordP_trans {p q r : Pf} (h1 : ordP p q < 0) (h2 : ordP q r < 0) : ordP p r < 0 := by
 rw [ordP_key] at h1 h2 ⊢
 omega
theorem ordP_self (p : Pf) : ordP p p = 0 := by
 have h := (ordA_key p.ad p.ad).2.2 ⟨rfl, rfl, rfl⟩
 unfold ordP
 rw [if_neg (fun h' => h' h)]
 omega
end Go.Ma
namespace Go.Ma
open Go
theorem ordP_rank {p q : Pf} (hp : p.In) (hq : q.In) (h : ordP p q < 0) : rank p.ad ≤ rank q.ad := by
 obtain ⟨h1, h2⟩ := ord_rank hp.1 hq.1
 unfold ordP at h
 split at h
 ·have := h1.1 h; omega
 ·rename_i h3
  have := h2.1 (Decidable.not_not.1 h3); omega
theorem rank_parts {a b : Ad} (ha : a.In) (hb : b.In) (h : rank a ≤ rank b) (hv : a.v6 = b.v6) : a.num ≤ b.num := by
 unfold rank at h
 rw [hv] at h
 omega
theorem rank_v6 {a b c : Ad} (ha : a.In) (hb : b.In) (hc : c.In) (h : rank a ≤ rank b) (h2 : rank b ≤ rank c) (hv : a.v6 = c.v6) : a.v6 = b.v6 ∧ b.v6 = c.v6 := by
 have h3 := num_lt ha
 have h4 := num_lt hb
 have h5 := num_lt hc
 unfold rank at h h2
 rw [← hv] at h2 ⊢
 cases hav : a.v6 <;> cases hbv : b.v6 <;> simp only [hav, hbv, if_true, Bool.false_eq_true, if_false] at h h2 <;> first | exact ⟨rfl, rfl⟩ | (exfalso; omega)
theorem meets_comm (p q : Pf) : meets p q = meets q p := by unfold meets; exact Bool.or_comm _ _
theorem meets_of {p q : Pf} (hp : p.In) (hq : q.In) (cp : chkP p = 0) (cq : chkP q = 0) (hv : p.ad.v6 = q.ad.v6) (h1 : q.ad.num ≤ p.ad.num + (2 ^ free p - 1)) (h2 : p.ad.num ≤ q.ad.num + (2 ^ free q - 1)) : meets p q = true := by
 unfold meets
 by_cases hb : p.bits ≤ q.bits
 ·rw [apart_one hp hq cp cq hv h1 h2 hb]; rfl
 ·rw [apart_one hq hp cq cp hv.symm h2 h1 (by omega)]; simp
theorem meets_iff {p q : Pf} (hp : p.In) (hq : q.In) (cp : chkP p = 0) (cq : chkP q = 0) : meets p q = true ↔ p.ad.v6 = q.ad.v6 ∧ q.ad.num ≤ p.ad.num + (2 ^ free p - 1) ∧ p.ad.num ≤ q.ad.num + (2 ^ free q - 1) := by
 constructor
 ·intro h
  unfold meets at h
  rw [Bool.or_eq_true] at h
  have e1 := Nat.two_pow_pos (free p)
  have e2 := Nat.two_pow_pos (free q)
  rcases h with h | h
  ·obtain ⟨h1, h2, h3⟩ := (holds_span hp cp hq.1).1 (over_iff.1 h).2
   exact ⟨h1, by omega, by omega⟩
  ·obtain ⟨h1, h2, h3⟩ := (holds_span hq cq hp.1).1 (over_iff.1 h).2
   exact ⟨h1.symm, by omega, by omega⟩
 ·rintro ⟨h1, h2, h3⟩
  exact meets_of hp hq cp cq h1 h2 h3
theorem meets_between {p q r : Pf} (hp : p.In) (hq : q.In) (hr : r.In) (cp : chkP p = 0) (cq : chkP q = 0) (cr : chkP r = 0) (h1 : ordP p q < 0) (h2 : ordP q r < 0) (h : meets p r = true) : meets p q = true := by
 obtain ⟨m1, m2, m3⟩ := (meets_iff hp hr cp cr).1 h
 have r1 := ordP_rank hp hq h1
 have r2 := ordP_rank hq hr h2
 obtain ⟨v1, v2⟩ := rank_v6 hp.1 hq.1 hr.1 r1 r2 m1
 have n1 := rank_parts hp.1 hq.1 r1 v1
 have n2 := rank_parts hq.1 hr.1 r2 v2
 exact meets_of hp hq cp cq v1 (by omega) (by omega)
def apartP (p q : Pf) : Prop := ordP p q < 0 ∧ meets p q = false
theorem adj_pair : ∀ {ps : List Pf}, pfIn ps → (adjOk ps = true ↔ ps.Pairwise apartP)
 | [], _ => by simp [adjOk]
 | [p], _ => by simp [adjOk]
 | p :: q :: r, h => by
  have h' : pfIn (q :: r) := fun x hx => h x (List.mem_cons_of_mem _ hx)
  have ih := adj_pair h'
  have hp := h p List.mem_cons_self
  have hq := h q (List.mem_cons_of_mem _ List.mem_cons_self)
  simp only [adjOk, Bool.and_eq_true, decide_eq_true_eq, Bool.not_eq_true']
  rw [ih]
  constructor
  ·rintro ⟨h1, h2, h3⟩
   refine List.pairwise_cons.2 ⟨fun x hx => ?_, h3⟩
   rcases List.mem_cons.1 hx with rfl | hx
   ·exact ⟨h1, h2⟩
   ·have hqx := (List.pairwise_cons.1 h3).1 x hx
    have hxi := h' x (List.mem_cons_of_mem _ hx)
    refine ⟨ordP_trans h1 hqx.1, ?_⟩
    cases hm : meets p x
    ·rfl
    ·rw [meets_between hp.1 hq.1 hxi.1 hp.2 hq.2 hxi.2 h1 hqx.1 hm] at h2
     cases h2
  ·intro hh
   obtain ⟨h1, h2⟩ := List.pairwise_cons.1 hh
   have := h1 q List.mem_cons_self
   exact ⟨this.1, this.2, h2⟩
def kpIn (ks : List (List Ad)) : Prop := ∀ k ∈ ks, adIn k
theorem kp_at {ks : List (List Ad)} (h : kpIn ks) (i : Nat) : adIn (ks.getD i []) := by
 rw [List.getD_eq_getElem?_getD]
 cases he : ks[i]? with
 | none => intro a ha; cases ha
 | some k => exact h k (List.mem_of_getElem? he)
end Go.Ma
namespace Go.Ma
open Go
theorem idxI_neg (o : Option Nat) : decide (idxI o < 0) = o.isNone := by
 cases o with
 | none => rfl
 | some k =>
  have : ¬ idxI (some k) < 0 := by show ¬ (k : Int) < 0; omega
  simp [this]
theorem pfIn_of {ps : List Pf} (hp : ∀ p ∈ ps, p.In) {ks : List (List Ad)} (h : poolsF ps ks = 0) : pfIn ps := fun p hm => by
 obtain ⟨i, hi⟩ := List.mem_iff_getElem?.1 hm
 exact ⟨hp p hm, (chkPool_ok (poolsF_all h i p hi)).1⟩
end Go.Ma
namespace Go.Ma
open Go
theorem poolsF_iff : ∀ (ps : List Pf) (ks : List (List Ad)), poolsF ps ks = 0 ↔ ∀ (i : Nat) (p : Pf), ps[i]? = some p → chkPool p (ks.getD i []) = 0 := fun ps ks => by
 refine ⟨poolsF_all, ?_⟩
 induction ps generalizing ks with
 | nil => intro _; rfl
 | cons q r ih =>
  intro h
  have h0 := h 0 q rfl
  have h0' : chkPool q (ks.headD []) = 0 := by cases ks <;> exact h0
  rw [poolsF, if_neg (fun hh => hh h0')]
  refine ih _ fun i p hp => ?_
  have := h (i + 1) p hp
  cases ks <;> simpa using this
theorem stF_iff (ps : List Pf) (now : Int) : ∀ (m bf : List Ls), stF' ps now bf m = 0 ↔ (∀ x ∈ m, (poolIx ps x.ad).isSome = true) ∧ (∀ x ∈ m, now ≤ x.upto) ∧ (∀ y ∈ bf, ∀ x ∈ m, y.who ≠ x.who) ∧ m.Pairwise fun x y => x.who ≠ y.who
 | [], bf => by simp [stF']
 | x :: r, bf => by
  unfold stF'
  by_cases h1 : (poolIx ps x.ad).isSome = true
  ·rw [if_neg (by cases hq : poolIx ps x.ad <;> simp_all)]
   by_cases h2 : bf.any (whoP x.who) = true
   ·rw [if_pos h2]
    constructor
    ·intro h; exact absurd h (by decide)
    ·rintro ⟨_, _, h3, _⟩
     obtain ⟨y, hy, hq⟩ := List.any_eq_true.1 h2
     exact absurd (by simpa [whoP] using hq) (h3 y hy x (by simp))
   ·rw [if_neg h2]
    have h2' : ∀ y ∈ bf, y.who ≠ x.who := fun y hy he => h2 (List.any_eq_true.2 ⟨y, hy, by simp [whoP, he]⟩)
    by_cases hu : x.upto < now
    ·rw [if_pos hu]
     constructor
     ·intro h; exact absurd h (by decide)
     ·rintro ⟨_, h3, _⟩
      have := h3 x (by simp)
      omega
    rw [if_neg hu, stF_iff ps now r (bf ++ [x])]
    constructor
    ·rintro ⟨a1, a0, a2, a3⟩
     refine ⟨fun z hz => ?_, fun z hz => ?_, fun y hy z hz => ?_, List.pairwise_cons.2 ⟨fun z hz => a2 x (by simp) z hz, a3⟩⟩
     ·rcases List.mem_cons.1 hz with rfl | hz
      ·exact h1
      ·exact a1 z hz
     ·rcases List.mem_cons.1 hz with rfl | hz
      ·omega
      ·exact a0 z hz
     ·rcases List.mem_cons.1 hz with rfl | hz
      ·exact h2' y hy
      ·exact a2 y (by simp [hy]) z hz
    ·rintro ⟨a1, a0, a2, a3⟩
     obtain ⟨b1, b2⟩ := List.pairwise_cons.1 a3
     refine ⟨fun z hz => a1 z (by simp [hz]), fun z hz => a0 z (by simp [hz]), fun y hy z hz => ?_, b2⟩
     rcases List.mem_append.1 hy with hy | hy
     ·exact a2 y hy z (by simp [hz])
     ·have : y = x := by simpa using hy
      subst this
      exact b1 z hz
  ·rw [if_pos (by simpa using h1)]
   constructor
   ·intro h; exact absurd h (by decide)
   ·rintro ⟨a1, _⟩; exact absurd (a1 x (by simp)) h1
theorem poolIx_some {ps : List Pf} {a : Ad} : (poolIx ps a).isSome = true ↔ ∃ p ∈ ps, holds p a = true := by
 unfold poolIx
 rw [firstF_any, List.any_eq_true]
structure StOk (ps : List Pf) (ks : List (List Ad)) (ls : List Ls) (now : Int) : Prop where
 pin : pfIn ps
 kin : kpIn ks
 lin : lsIn ls
 klen : ks.length = ps.length
 plen : ps.length ≤ 3
 pool : ∀ (i : Nat) (p : Pf), ps[i]? = some p → chkPool p (ks.getD i []) = 0
 pair : ps.Pairwise apartP
 time : betw now 0 9999 = true
 all : allC ls now = 0
 has : ∀ x ∈ ls, ∃ p ∈ ps, holds p x.ad = true
 upto : ∀ x ∈ ls, now ≤ x.upto
 who : ls.Pairwise fun x y => x.who ≠ y.who
theorem stOk_of {ps : List Pf} (hp : ∀ p ∈ ps, p.In) {ks : List (List Ad)} (hk : kpIn ks) {ls : List Ls} (hl : lsIn ls) (hlen : ks.length = ps.length) {now : Int} (h : chkS ps ks ls now = 0) : StOk ps ks ls now := by
 unfold chkS at h
 split at h
 ·cases h
 rename_i h3
 split at h
 ·rename_i h4; exact absurd h h4
 rename_i h4
 have h4 := Decidable.not_not.1 h4
 split at h
 ·cases h
 rename_i ha
 split at h
 ·cases h
 rename_i hb
 split at h
 ·rename_i hc; exact absurd h hc
 rename_i hc
 have hpf := pfIn_of hp h4
 obtain ⟨s1, s2, _, s3⟩ := (stF_iff ps now ls []).1 h
 exact ⟨hpf, hk, hl, hlen, by omega, (poolsF_iff ps ks).1 h4, (adj_pair hpf).1 (by simpa using ha), by simpa using hb, Decidable.not_not.1 hc, fun x hx => poolIx_some.1 (s1 x hx), s2, s3⟩
abbrev StV := (List Pf × List (List Ad)) × List Ls × Int × Unit
abbrev DoV := StV × Ad × Int × Unit
def noSt : StV := ((([] : List Pf), ([] : List (List Ad))), ([] : List Ls), 0, ())
def noAd : Ad := ⟨false, 0, 0⟩
def errS (e : Int) : DoV := (noSt, noAd, e, ())
def okS (ps : List Pf) (ks : List (List Ad)) (ls : List Ls) (now : Int) (a : Ad) : DoV := (((ps, ks), ls, now, ()), a, 0, ())
def posP (p : Pf) (ps : List Pf) : Nat := (ps.takeWhile fun y => decide (ordP y p < 0)).length
def posA (a : Ad) (kp : List Ad) : Nat := (kp.takeWhile fun y => decide (ordA y a < 0)).length
def putAt {α : Type} (l : List α) (n : Nat) (x : α) : List α := l.take n ++ x :: l.drop n
def doPool (ps : List Pf) (ks : List (List Ad)) (ls : List Ls) (now : Int) (p : Pf) : DoV :=
 if ps.any (fun q => meets q p) = true then errS 6 else if ps.length = 3 then errS 2 else okS (putAt ps (posP p ps) p) (putAt ks (posP p ps) []) ls now noAd
def doKeep (ps : List Pf) (ks : List (List Ad)) (ls : List Ls) (now : Int) (a : Ad) : DoV :=
 match poolIx ps a with
 | none => errS 5
 | some i => if (ks.getD i []).any (fun x => decide (a = x)) = true then errS 6 else if (ks.getD i []).length = 6 then errS 2 else okS ps (ks.set i (putAt (ks.getD i []) (posA a (ks.getD i [])) a)) ls now noAd
def ownL (p : Pf) (ls : List Ls) : List Ls := ls.filter fun x => holds p x.ad
def othL (p : Pf) (ls : List Ls) : List Ls := ls.filter fun x => !holds p x.ad
def awayB (p : Pf) (ls : List Ls) (who : ByteArray) : Bool := match firstF (whoP who) ls with | some i => (match ls[i]? with | some x => !holds p x.ad | none => false) | none => false
def grantR (p : Pf) (kp : List Ad) (ls : List Ls) (who : ByteArray) (now ttl : Int) : List Ls × Ad × Bool × Unit := rawOf p kp (live (ownL p ls) now) who (now + ttl)
def doGrant (ps : List Pf) (ks : List (List Ad)) (ls : List Ls) (now : Int) (who : ByteArray) (k : Int) (ttl : Int) : DoV :=
 match ps[k.toNat]? with
 | none => errS 5
 | some p => if awayB p ls who = true then errS 6 else if (grantR p (ks.getD k.toNat []) ls who now ttl).2.2.1 = false then errS 8
  else if (grantR p (ks.getD k.toNat []) ls who now ttl).1.length + (othL p ls).length > 20 then errS 2
  else okS ps ks (sortL ((grantR p (ks.getD k.toNat []) ls who now ttl).1 ++ othL p ls)) now (grantR p (ks.getD k.toNat []) ls who now ttl).2.1
def doFree (ps : List Pf) (ks : List (List Ad)) (ls : List Ls) (now : Int) (who : ByteArray) : DoV :=
 match firstF (whoP who) ls with
 | none => errS 5
 | some i => (match ls[i]? with | some x => okS ps ks (ls.take i ++ ls.drop (i + 1)) now x.ad | none => errS 5)
def doTick (ps : List Pf) (ks : List (List Ad)) (ls : List Ls) (now n : Int) : DoV := if n < now then errS 4 else okS ps ks (live ls n) n noAd
def doOf (ps : List Pf) (ks : List (List Ad)) (ls : List Ls) (now : Int) (o : Oq) : DoV :=
 if formO o ≠ 0 then errS (formO o)
 else if o.kind = 1 then doPool ps ks ls now o.pf
 else if o.kind = 2 then doKeep ps ks ls now o.ad
 else if o.kind = 3 then doGrant ps ks ls now o.who o.of_ o.n
 else if o.kind = 4 then doFree ps ks ls now o.who
 else doTick ps ks ls now o.n
theorem form_pool {o : Oq} (h : formO o = 0) (hk : o.kind = 1) : chkP o.pf = 0 ∧ ((wid o.pf.ad.v6 : Nat) : Int) - o.pf.bits ≤ 4 := by
 unfold formO at h
 split at h
 ·cases h
 split at h
 ·cases h
 split at h
 ·rename_i h1; exact absurd h h1
 rename_i h1
 split at h
 ·rename_i h2; exact ⟨Decidable.not_not.1 h1, h2⟩
 ·cases h
theorem form_keep {o : Oq} (h : formO o = 0) (hk : o.kind = 2) : chkA o.ad = 0 := by
 unfold formO at h
 split at h
 ·cases h
 split at h
 ·cases h
 rwa [if_neg (by omega)] at h
theorem form_kind {o : Oq} (h : formO o = 0) : 1 ≤ o.kind ∧ o.kind ≤ 5 := by
 unfold formO at h
 split at h
 ·cases h
 rename_i hk
 exact betw_iff.1 (by simpa using hk)
theorem form_who {o : Oq} (h : formO o = 0) (hk : o.kind = 3 ∨ o.kind = 4) : whoOk o.who = true := by
 unfold formO at h
 split at h
 ·cases h
 split at h
 ·cases h
 rw [if_neg (by omega), if_neg (by omega)] at h
 split at h
 ·cases h
 rename_i h1
 have : o.kind < 5 := by omega
 cases hw : whoOk o.who
 ·exact absurd ⟨this, hw⟩ h1
 ·rfl
theorem form_grant {o : Oq} (h : formO o = 0) (hk : o.kind = 3) : betw o.of_ 0 2 = true ∧ betw o.n 1 500 = true := by
 unfold formO at h
 split at h
 ·cases h
 split at h
 ·cases h
 rw [if_neg (by omega), if_neg (by omega)] at h
 split at h
 ·cases h
 split at h
 ·cases h
 rename_i h2
 cases h1 : betw o.of_ 0 2
 ·exact absurd ⟨hk, .inl h1⟩ h2
 ·cases h3 : betw o.n 1 500
  ·exact absurd ⟨hk, .inr h3⟩ h2
  ·exact ⟨rfl, rfl⟩
theorem form_tick {o : Oq} (h : formO o = 0) (hk : o.kind = 5) : betw o.n 0 9999 = true := by
 unfold formO at h
 split at h
 ·cases h
 split at h
 ·cases h
 rw [if_neg (by omega), if_neg (by omega)] at h
 split at h
 ·cases h
 split at h
 ·cases h
 split at h
 ·cases h
 rename_i h2
 cases h1 : betw o.n 0 9999
 ·exact absurd ⟨hk, h1⟩ h2
 ·rfl
theorem tw_iff {α : Type} {q : α → Bool} : ∀ {l : List α}, (l.Pairwise fun x y => q y = true → q x = true) → ∀ {i : Nat} {x : α}, l[i]? = some x → (q x = true ↔ i < (l.takeWhile q).length)
 | [], _, i, x, h => by simp at h
 | y :: r, hp, i, x, h => by
  obtain ⟨h1, h2⟩ := List.pairwise_cons.1 hp
  rw [List.takeWhile_cons]
  cases hq : q y
  ·simp only [Bool.false_eq_true, if_false, List.length_nil, Nat.not_lt_zero, iff_false, Bool.not_eq_true]
   match i with
   | 0 =>
    simp only [List.getElem?_cons_zero, Option.some.injEq] at h
    rw [← h]; exact hq
   | i + 1 =>
    rw [List.getElem?_cons_succ] at h
    cases hx : q x
    ·rfl
    ·rw [h1 x (List.mem_of_getElem? h) hx] at hq; cases hq
  ·simp only [if_true, List.length_cons]
   match i with
   | 0 =>
    simp only [List.getElem?_cons_zero, Option.some.injEq] at h
    rw [← h, hq]; simp
   | i + 1 =>
    rw [List.getElem?_cons_succ] at h
    rw [tw_iff h2 h]; omega
theorem tw_le {α : Type} (q : α → Bool) (l : List α) : (l.takeWhile q).length ≤ l.length := (List.takeWhile_sublist q).length_le
theorem posP_iff {ps : List Pf} (h : ps.Pairwise apartP) (p : Pf) {i : Nat} {x : Pf} (hx : ps[i]? = some x) : ordP x p < 0 ↔ i < posP p ps := by
 have := tw_iff (q := fun y => decide (ordP y p < 0)) (l := ps) (h.imp fun {a b} hab hb => by
  simp only [decide_eq_true_eq] at hb ⊢
  exact ordP_trans hab.1 hb) hx
 simpa [posP] using this
theorem posP_le (p : Pf) (ps : List Pf) : posP p ps ≤ ps.length := tw_le _ _
theorem ordA_trans {a b c : Ad} (h1 : ordA a b < 0) (h2 : ordA b c < 0) : ordA a c < 0 := by
 have := (ordA_key a b).1.1 h1
 have := (ordA_key b c).1.1 h2
 exact (ordA_key a c).1.2 (by omega)
theorem posA_iff {kp : List Ad} (h : kp.Pairwise fun a b => ordA a b < 0) (p : Ad) {i : Nat} {x : Ad} (hx : kp[i]? = some x) : ordA x p < 0 ↔ i < posA p kp := by
 have := tw_iff (q := fun y => decide (ordA y p < 0)) (l := kp) (h.imp fun {a b} hab hb => by
  simp only [decide_eq_true_eq] at hb ⊢
  exact ordA_trans hab hb) hx
 simpa [posA] using this
theorem posA_le (p : Ad) (kp : List Ad) : posA p kp ≤ kp.length := tw_le _ _
theorem kept_iff {p : Pf} : ∀ (kp : List Ad) (o : Option Ad), keptF p o kp = 0 ↔ (∀ a ∈ kp, chkA a = 0 ∧ holds p a = true) ∧ (kp.Pairwise fun a b => ordA a b < 0) ∧ ∀ b, o = some b → ∀ a ∈ kp, ordA b a < 0
 | [], o => by simp [keptF]
 | x :: r, o => by
  rw [keptF]
  by_cases h1 : chkA x = 0
  rotate_left
  ·rw [if_pos h1]
   exact ⟨fun h => absurd h h1, fun h => absurd (h.1 x (by simp)).1 h1⟩
  rw [if_neg (fun h => h h1)]
  cases h2 : holds p x
  ·rw [if_pos rfl]
   refine ⟨fun h => (by cases h), fun h => ?_⟩
   rw [(h.1 x (by simp)).2] at h2; cases h2
  rw [if_neg (by simp)]
  by_cases h3 : backB o x = true
  ·rw [if_pos h3]
   refine ⟨fun h => (by cases h), fun h => ?_⟩
   cases o with
   | none => cases h3
   | some b =>
    have := h.2.2 b rfl x (by simp)
    simp only [backB, decide_eq_true_eq] at h3
    omega
  ·rw [if_neg h3, kept_iff r (some x)]
   have h4 : ∀ b, o = some b → ordA b x < 0 := fun b hb => by
    subst hb
    simp only [backB, decide_eq_true_eq] at h3
    omega
   constructor
   ·rintro ⟨g1, g2, g3⟩
    refine ⟨fun a ha => ?_, List.pairwise_cons.2 ⟨fun a ha => g3 x rfl a ha, g2⟩, fun b hb a ha => ?_⟩
    ·rcases List.mem_cons.1 ha with rfl | ha
     ·exact ⟨h1, h2⟩
     ·exact g1 a ha
    ·rcases List.mem_cons.1 ha with rfl | ha
     ·exact h4 b hb
     ·exact ordA_trans (h4 b hb) (g3 x rfl a ha)
   ·rintro ⟨g1, g2, g3⟩
    obtain ⟨k1, k2⟩ := List.pairwise_cons.1 g2
    exact ⟨fun a ha => g1 a (List.mem_cons_of_mem _ ha), k2, fun b hb a ha => by injection hb with hb; subst hb; exact k1 a ha⟩
theorem chkPool_iff {p : Pf} {kp : List Ad} : chkPool p kp = 0 ↔ chkP p = 0 ∧ ((wid p.ad.v6 : Nat) : Int) - p.bits ≤ 4 ∧ kp.length ≤ 6 ∧ (∀ a ∈ kp, chkA a = 0 ∧ holds p a = true) ∧ kp.Pairwise fun a b => ordA a b < 0 := by
 unfold chkPool
 by_cases h1 : chkP p = 0
 rotate_left
 ·rw [if_pos h1]
  exact ⟨fun h => absurd h h1, fun h => absurd h.1 h1⟩
 rw [if_neg (fun h => h h1)]
 by_cases h2 : ((wid p.ad.v6 : Nat) : Int) - p.bits ≤ 4 ∧ kp.length ≤ 6
 ·rw [if_neg (by omega), kept_iff]
  constructor
  ·rintro ⟨g1, g2, _⟩; exact ⟨h1, h2.1, h2.2, g1, g2⟩
  ·rintro ⟨_, _, _, g1, g2⟩; exact ⟨g1, g2, fun b hb => by cases hb⟩
 ·rw [if_pos (by omega)]
  exact ⟨fun h => (by cases h), fun h => absurd ⟨h.2.1, h.2.2.1⟩ h2⟩
end Go.Ma
namespace Go.Ma
open Go
theorem clone_ad {l : List Ad} (h : l.length ≤ 1048576) : zq65 l = some (l, ()) := by
 unfold zq65
 rw [req_of (room_of (by simp [lenL]) (zq55 l) (by unfold lenL; simp; omega)), List.nil_append]
 cases l with
 | nil => exact both_self _
 | cons a r => rfl
theorem StOk.kept {ps : List Pf} {ks : List (List Ad)} {ls : List Ls} {now : Int} (h : StOk ps ks ls now) {i : Nat} {p : Pf} (hp : ps[i]? = some p) : (ks.getD i []).length ≤ 6 := (chkPool_iff.1 (h.pool i p hp)).2.2.1
theorem StOk.llen {ps : List Pf} {ks : List (List Ad)} {ls : List Ls} {now : Int} (h : StOk ps ks ls now) : ls.length ≤ 20 := (allC_ok h.all).1
theorem StOk.lchk {ps : List Pf} {ks : List (List Ad)} {ls : List Ls} {now : Int} (h : StOk ps ks ls now) : ∀ x ∈ ls, chkLs x = 0 := (allC_ok h.all).2.1
theorem state_Own_eq {ps : List Pf} {ks : List (List Ad)} {ls : List Ls} {now : Int} (h : StOk ps ks ls now) : state_Own_t (ps, ks) ls now = some (((ps, ks), ls, now, ()), ()) := by
 have hpl := h.plen
 have hkl := h.klen
 have hll := h.llen
 unfold state_Own_t
 rw [clone_ls (by omega), bind_s, dup_eq]
 simp only
 have := loop_up (step := state_Own_L3) (fun i => (((), (), (), (lenL ps, ()), ((i : Int), ()), ()), (ks, ps, ls, ((0 : Int), ()), (now, ()), ([] : List Pf), ([] : List Ls), ps.take i, ls, ([] : List (List Ad)), ks.take i, ()))) ps.length
  (fun _ => some (((), (), ()), (ks, ps, ls, ((0 : Int), ()), (now, ()), ([] : List Pf), ([] : List Ls), ps, ls, ([] : List (List Ad)), ks, ()))) (fun rec i hi hr => ?_) (fun rec => ?_) FUEL 0 (Nat.zero_le _) (fuel_gt (by omega))
 ·rw [show ((0 : Nat) : Int) = 0 from rfl, List.take_zero, List.take_zero] at this
  rw [this, bind_s]
 ·obtain ⟨p, hp⟩ : ∃ e, ps[i]? = some e := ⟨_, List.getElem?_eq_getElem hi⟩
  have hk6 := h.kept hp
  have e1 : ps.take (i + 1) = ps.take i ++ [p] := by rw [List.take_succ_eq_append_getElem hi, (List.getElem?_eq_some_iff.1 hp).2]
  have hik : i < ks.length := by omega
  have e2 : ks.take (i + 1) = ks.take i ++ [ks.getD i []] := by
   rw [List.take_succ_eq_append_getElem hik, List.getD_eq_getElem?_getD, List.getElem?_eq_getElem hik]
   rfl
  have e3 : padL (ps.take i).length (ks.take i) = ks.take i := padL_of (by simp; omega)
  simp only [state_Own_L3]
  rw [decide_eq_true (show (i : Int) < lenL ps by unfold lenL; omega), br_true, req_of (zq33 (by omega) (by unfold lenL; omega)), geti_at hp, bind_s, getL_nat, clone_ad (by omega)]
  simp only [bind_s, dup_eq, both_self, e3]
  rw [req_of (room_of (zq55 _) (zq55 _) (by unfold lenL; simp; omega)), show ((i : Int) + 1) = ((i + 1 : Nat) : Int) by omega, req_of (i64ok_of (by omega) (by omega)), ← e1, ← e2, hr]
 ·simp only [state_Own_L3]
  rw [decide_eq_false (show ¬ (ps.length : Int) < lenL ps by unfold lenL; omega), br_false, List.take_length, ← hkl, List.take_length]
theorem state_find_eq (ps : List Pf) (ks : List (List Ad)) {ls : List Ls} (hlen : ls.length ≤ 1048576) (now : Int) (who : ByteArray) : m_state_doer__find_t (ps, ks) ls now who = some (idxI (firstF (whoP who) ls), ()) := by
 unfold m_state_doer__find_t
 have := idx_loop (step := zq10) ls (whoP who) (fun i => (((), (), (lenL ls, ()), ((i : Int), ()), ()), ((now, ()), ks, ps, ls, (who, ()), ())))
  (fun o => match o with | some i => Sum.inl ((((i : Int), ()), ()), ((now, ()), ks, ps, ls, (who, ()), ())) | none => Sum.inr ((), ((now, ()), ks, ps, ls, (who, ()), ()))) (by omega) (fun rec i x hx hi => ?_) (fun rec => ?_)
 ·rw [show ((0 : Nat) : Int) = 0 from rfl] at this
  simp only
  rw [this, bind_s]
  cases firstF (whoP who) ls <;> rfl
 ·simp only [zq10]
  rw [decide_eq_true (show (i : Int) < lenL ls by unfold lenL; omega), br_true, req_of (zq33 (by omega) (by unfold lenL; omega)), geti_at hx, bind_s, m_state_doer__find_1_t, bind_s, strcmp_eql]
  unfold whoP
  by_cases hc : x.who = who
  ·rw [decide_eq_true hc, br_true, if_pos rfl]
  ·rw [decide_eq_false hc, br_false, if_neg (by simp), show ((i : Int) + 1) = ((i + 1 : Nat) : Int) by omega, req_of (i64ok_of (by omega) (by omega))]
 ·simp only [zq10]
  rw [decide_eq_false (show ¬ (ls.length : Int) < lenL ls by unfold lenL; omega), br_false]
abbrev DPl := List (List Ad) × List Pf × List Ls × (Int × Unit) × (Oq × Unit) × (Int × Unit) × List (List Ad) × List Pf × List Ls × (Ad × Unit) × List (List Ad) × List Pf × List Ls × (Int × Unit) × (Oq × Unit) × (Ad × Unit) × (Pf × Unit) × Unit
abbrev DPl2 := List (List Ad) × List Pf × List Ls × (Int × Unit) × (Oq × Unit) × (Int × Unit) × List (List Ad) × List Pf × List Ls × (Ad × Unit) × List (List Ad) × List Pf × List Ls × (Int × Unit) × (Oq × Unit) × (Ad × Unit) × (Pf × Unit) × (Pf × Unit) × Unit
theorem pool_any {ps : List Pf} (hp : pfIn ps) (hlen : ps.length ≤ 1048576) (ks : List (List Ad)) (ls : List Ls) (now : Int) (o : Oq) (h1 : o.pf.In) (h2 : chkP o.pf = 0) :
  loopN zq98 FUEL (((), (), (lenL ps, ()), (0, ()), ()), ((ks, ps, ls, (now, ()), (o, ()), ((0 : Int), ()), ([] : List (List Ad)), ([] : List Pf), ([] : List Ls), ((⟨false, 0, 0⟩ : Ad), ()), ks, ps, ls, (now, ()), (o, ()), ((⟨false, 0, 0⟩ : Ad), ()), (o.pf, ()), ()) : DPl)) =
   some (match firstF (fun q => meets q o.pf) ps with
    | some i => Sum.inl ((((i : Int), ()), ()), ((ks, ps, ls, (now, ()), (o, ()), ((0 : Int), ()), ([] : List (List Ad)), ([] : List Pf), ([] : List Ls), ((⟨false, 0, 0⟩ : Ad), ()), ks, ps, ls, (now, ()), (o, ()), ((⟨false, 0, 0⟩ : Ad), ()), (o.pf, ()), ()) : DPl))
    | none => Sum.inr ((), ((ks, ps, ls, (now, ()), (o, ()), ((0 : Int), ()), ([] : List (List Ad)), ([] : List Pf), ([] : List Ls), ((⟨false, 0, 0⟩ : Ad), ()), ks, ps, ls, (now, ()), (o, ()), ((⟨false, 0, 0⟩ : Ad), ()), (o.pf, ()), ()) : DPl))) := by
 have := idx_loop (step := zq98) ps (fun q => meets q o.pf) (fun i => (((), (), (lenL ps, ()), ((i : Int), ()), ()), ((ks, ps, ls, (now, ()), (o, ()), ((0 : Int), ()), ([] : List (List Ad)), ([] : List Pf), ([] : List Ls), ((⟨false, 0, 0⟩ : Ad), ()), ks, ps, ls, (now, ()), (o, ()), ((⟨false, 0, 0⟩ : Ad), ()), (o.pf, ()), ()) : DPl)))
  (fun r => match r with | some i => Sum.inl ((((i : Int), ()), ()), ((ks, ps, ls, (now, ()), (o, ()), ((0 : Int), ()), ([] : List (List Ad)), ([] : List Pf), ([] : List Ls), ((⟨false, 0, 0⟩ : Ad), ()), ks, ps, ls, (now, ()), (o, ()), ((⟨false, 0, 0⟩ : Ad), ()), (o.pf, ()), ()) : DPl)) | none => Sum.inr ((), ((ks, ps, ls, (now, ()), (o, ()), ((0 : Int), ()), ([] : List (List Ad)), ([] : List Pf), ([] : List Ls), ((⟨false, 0, 0⟩ : Ad), ()), ks, ps, ls, (now, ()), (o, ()), ((⟨false, 0, 0⟩ : Ad), ()), (o.pf, ()), ()) : DPl))) (by omega) (fun rec i x hx hi => ?_) (fun rec => ?_)
 ·exact this
 ·obtain ⟨g1, g2⟩ := hp x (List.mem_of_getElem? hx)
  simp only [zq98]
  rw [decide_eq_true (show (i : Int) < lenL ps by unfold lenL; omega), br_true, req_of (zq33 (by omega) (by unfold lenL; omega)), geti_at hx, bind_s, m_state_doer__pool_1_t, prefix_Meet_eq g1 h1 g2 h2, bind_s, bind_s]
  simp only [show (over x o.pf || over o.pf x) = meets x o.pf from rfl]
  cases meets x o.pf
  ·rw [show ((i : Int) + 1) = ((i + 1 : Nat) : Int) by omega, br_false, req_of (i64ok_of (by omega) (by omega)), if_neg (by simp)]
  ·rw [br_true, if_pos rfl]
 ·simp only [zq98]
  rw [decide_eq_false (show ¬ (ps.length : Int) < lenL ps by unfold lenL; omega), br_false]
theorem pool_bin {ps : List Pf} (hp : pfIn ps) (hpw : ps.Pairwise apartP) (hlen : ps.length ≤ 1048576) (ks : List (List Ad)) (ls : List Ls) (now : Int) (o : Oq) (h2 : chkP o.pf = 0) :
  loopN zq88 FUEL (((), (), (), (lenL ps, ()), (0, ()), (lenL ps, ()), ()), ((ks, ps, ls, (now, ()), (o, ()), ((0 : Int), ()), ([] : List (List Ad)), ([] : List Pf), ([] : List Ls), ((⟨false, 0, 0⟩ : Ad), ()), ks, ps, ls, (now, ()), (o, ()), ((⟨false, 0, 0⟩ : Ad), ()), (o.pf, ()), (o.pf, ()), ()) : DPl2)) =
   some (((), (), (), (lenL ps, ()), (((posP o.pf ps : Nat) : Int), ()), ()), ((ks, ps, ls, (now, ()), (o, ()), ((0 : Int), ()), ([] : List (List Ad)), ([] : List Pf), ([] : List Ls), ((⟨false, 0, 0⟩ : Ad), ()), ks, ps, ls, (now, ()), (o, ()), ((⟨false, 0, 0⟩ : Ad), ()), (o.pf, ()), (o.pf, ()), ()) : DPl2)) := by
 refine bin_loop (step := zq88) ps.length (posP o.pf ps) (posP_le _ _) (by omega)
  (fun i j => (((), (), (), (lenL ps, ()), ((i : Int), ()), ((j : Int), ()), ()), ((ks, ps, ls, (now, ()), (o, ()), ((0 : Int), ()), ([] : List (List Ad)), ([] : List Pf), ([] : List Ls), ((⟨false, 0, 0⟩ : Ad), ()), ks, ps, ls, (now, ()), (o, ()), ((⟨false, 0, 0⟩ : Ad), ()), (o.pf, ()), (o.pf, ()), ()) : DPl2))) _ (fun rec i j hij h3 h4 h5 => ?_) (fun rec => ?_)
 ·obtain ⟨e, he⟩ : ∃ e, ps[(i + j) / 2]? = some e := ⟨_, List.getElem?_eq_getElem (by omega)⟩
  obtain ⟨g1, g2⟩ := hp e (List.mem_of_getElem? he)
  have hpos := posP_iff hpw o.pf he
  simp only [zq88]
  rw [decide_eq_true (show (i : Int) < (j : Int) by omega), br_true, req_of (i64ok_of (by omega) (by omega))]
  simp only [half_eq i j (by omega)]
  rw [req_of (zq33 (by omega) (by unfold lenL; omega)), geti_at he, bind_s, zq14, prefix_Order_eq g2 h2, bind_s, bind_s]
  by_cases ho : ordP e o.pf < 0
  ·rw [decide_eq_true ho, br_true, if_pos (hpos.1 ho), show (((i + j) / 2 : Nat) : Int) + 1 = (((i + j) / 2 + 1 : Nat) : Int) by omega, req_of (i64ok_of (by omega) (by omega))]
  ·rw [decide_eq_false ho, br_false, if_neg (fun h => ho (hpos.2 h))]
 ·simp only [zq88]
  rw [decide_eq_false (show ¬ ((posP o.pf ps : Nat) : Int) < ((posP o.pf ps : Nat) : Int) by omega), br_false]
theorem any_first {α : Type} {q : α → Bool} {l : List α} : l.any q = (firstF q l).isSome := (firstF_any l).symm
theorem raw_pool {ps : List Pf} {ks : List (List Ad)} {ls : List Ls} {now : Int} (h : StOk ps ks ls now) {o : Oq} (ho : o.In) (hf : formO o = 0) (hk : o.kind = 1) : state_Raw_t (ps, ks) ls now o = some (doPool ps ks ls now o.pf) := by
 obtain ⟨c1, c2⟩ := form_pool hf hk
 have hpl := h.plen
 have hkl := h.klen
 have hpo := posP_le o.pf ps
 unfold state_Raw_t doPool
 rw [state_Form_eq ho, bind_s, hf, decide_eq_true rfl, Bool.not_true, br_false, state_Own_eq h, bind_s, decide_eq_true hk, br_true]
 simp only
 rw [pool_any h.pin (by omega) ks ls now o ho.2.1 c1, bind_s, any_first]
 cases hm : firstF (fun q => meets q o.pf) ps with
 | some i =>
  simp only [sumC, Option.isSome, if_true]
  rw [decide_eq_true (show (i : Int) ≥ 0 by omega), br_true]
  rfl
 | none =>
  simp only [sumC, Option.isSome, Bool.false_eq_true, if_false]
  by_cases h3 : ps.length = 3
  ·rw [decide_eq_true (show lenL ps = 3 by unfold lenL; omega), br_true, if_pos h3]; rfl
  ·rw [decide_eq_false (show ¬ lenL ps = 3 by unfold lenL; omega), br_false, if_neg h3, pool_bin h.pin h.pair (by omega) ks ls now o c1, bind_s]
   simp only
   have r1 : (decide ((0 : Int) ≤ ((posP o.pf ps : Nat) : Int)) && decide (((posP o.pf ps : Nat) : Int) ≤ lenL ps) && room (lenL ps) 1) = true := by
    rw [decide_eq_true (show (0 : Int) ≤ ((posP o.pf ps : Nat) : Int) by omega), decide_eq_true (show ((posP o.pf ps : Nat) : Int) ≤ lenL ps by unfold lenL; omega), room_of (zq55 _) (by omega) (by unfold lenL; omega)]
    rfl
   have r2 : ∃ b, (br (decide (((posP o.pf ps : Nat) : Int) < lenL ps)) (req (inRange ((posP o.pf ps : Nat) : Int) (lenL ps)) ((geti ps ((posP o.pf ps : Nat) : Int)).bind fun p9 => (zq14 p9 (getL ks ((posP o.pf ps : Nat) : Int)) o.pf).bind fun y10 => some (((posP o.pf ps : Nat) : Int), decide (y10.1 = 0), ()))) (some (((posP o.pf ps : Nat) : Int), false, ()))) = some (((posP o.pf ps : Nat) : Int), b, ()) := by
    by_cases hlt : posP o.pf ps < ps.length
    ·obtain ⟨e, he⟩ : ∃ e, ps[posP o.pf ps]? = some e := ⟨_, List.getElem?_eq_getElem hlt⟩
     obtain ⟨g1, g2⟩ := h.pin e (List.mem_of_getElem? he)
     exact ⟨_, by rw [decide_eq_true (show ((posP o.pf ps : Nat) : Int) < lenL ps by unfold lenL; omega), br_true, req_of (zq33 (by omega) (by unfold lenL; omega)), geti_at he, bind_s, zq14, prefix_Order_eq g2 c1, bind_s, bind_s]⟩
    ·exact ⟨_, by rw [decide_eq_false (show ¬ ((posP o.pf ps : Nat) : Int) < lenL ps by unfold lenL; omega), br_false]⟩
   obtain ⟨b, hb⟩ := r2
   rw [hb, bind_s]
   simp only [r1, req_true, dup_eq, both_self, padL_of hkl]
   simp [okS, noAd, insL, putAt]
abbrev DKp := List (List Ad) × List Pf × List Ls × (Int × Unit) × (Oq × Unit) × (Int × Unit) × List (List Ad) × List Pf × List Ls × (Ad × Unit) × List (List Ad) × List Pf × List Ls × (Int × Unit) × (Oq × Unit) × (Ad × Unit) × (Ad × Unit) × (Ad × Unit) × Unit
theorem keep_bin {kp : List Ad} (hpw : kp.Pairwise fun a b => ordA a b < 0) (hlen : kp.length ≤ 1048576) (ps : List Pf) (ks : List (List Ad)) (ls : List Ls) (now : Int) (o : Oq) {i : Nat} (hkp : ks.getD i [] = kp) :
  loopN zq81 FUEL ((((i : Int), ()), (), (), (lenL kp, ()), (0, ()), (lenL kp, ()), ()), ((ks, ps, ls, (now, ()), (o, ()), ((0 : Int), ()), ([] : List (List Ad)), ([] : List Pf), ([] : List Ls), ((⟨false, 0, 0⟩ : Ad), ()), ks, ps, ls, (now, ()), (o, ()), ((⟨false, 0, 0⟩ : Ad), ()), (o.ad, ()), (o.ad, ()), ()) : DKp)) =
   some ((((i : Int), ()), (), (), (lenL kp, ()), (((posA o.ad kp : Nat) : Int), ()), ()), ((ks, ps, ls, (now, ()), (o, ()), ((0 : Int), ()), ([] : List (List Ad)), ([] : List Pf), ([] : List Ls), ((⟨false, 0, 0⟩ : Ad), ()), ks, ps, ls, (now, ()), (o, ()), ((⟨false, 0, 0⟩ : Ad), ()), (o.ad, ()), (o.ad, ()), ()) : DKp)) := by
 refine bin_loop (step := zq81) kp.length (posA o.ad kp) (posA_le _ _) (by omega)
  (fun a b => ((((i : Int), ()), (), (), (lenL kp, ()), ((a : Int), ()), ((b : Int), ()), ()), ((ks, ps, ls, (now, ()), (o, ()), ((0 : Int), ()), ([] : List (List Ad)), ([] : List Pf), ([] : List Ls), ((⟨false, 0, 0⟩ : Ad), ()), ks, ps, ls, (now, ()), (o, ()), ((⟨false, 0, 0⟩ : Ad), ()), (o.ad, ()), (o.ad, ()), ()) : DKp))) _ (fun rec a b hij h3 h4 h5 => ?_) (fun rec => ?_)
 ·obtain ⟨e, he⟩ : ∃ e, kp[(a + b) / 2]? = some e := ⟨_, List.getElem?_eq_getElem (by omega)⟩
  have hpos := posA_iff hpw o.ad he
  simp only [zq81]
  rw [decide_eq_true (show (a : Int) < (b : Int) by omega), br_true, req_of (i64ok_of (by omega) (by omega))]
  simp only [half_eq a b (by omega), getL_nat, hkp]
  rw [req_of (zq33 (by omega) (by unfold lenL; omega)), geti_at he, bind_s, addr_Order_eq, bind_s]
  by_cases ho : ordA e o.ad < 0
  ·rw [decide_eq_true ho, br_true, if_pos (hpos.1 ho), show (((a + b) / 2 : Nat) : Int) + 1 = (((a + b) / 2 + 1 : Nat) : Int) by omega, req_of (i64ok_of (by omega) (by omega))]
  ·rw [decide_eq_false ho, br_false, if_neg (fun h => ho (hpos.2 h))]
 ·simp only [zq81]
  rw [decide_eq_false (show ¬ ((posA o.ad kp : Nat) : Int) < ((posA o.ad kp : Nat) : Int) by omega), br_false]
theorem ordA_eq0 {a b : Ad} : ordA a b = 0 ↔ a = b := by
 constructor
 ·intro h
  obtain ⟨h1, h2, h3⟩ := (ordA_key a b).2.1 h
  have h1 := kV_inj h1
  obtain ⟨av, ah, al⟩ := a
  obtain ⟨bv, bh, bl⟩ := b
  simp only at h1 h2 h3
  rw [h1, h2, h3]
 ·rintro rfl
  exact (ordA_key a a).2.2 ⟨rfl, rfl, rfl⟩
theorem posA_found {kp : List Ad} (hpw : kp.Pairwise fun a b => ordA a b < 0) (a : Ad) : (match kp[posA a kp]? with | some e => decide (ordA e a = 0) | none => false) = kp.any (fun x => decide (a = x)) := by
 rw [Bool.eq_iff_iff, List.any_eq_true]
 constructor
 ·intro h
  split at h
  ·rename_i e he
   exact ⟨e, List.mem_of_getElem? he, by simp [ordA_eq0.1 (of_decide_eq_true h)]⟩
  ·cases h
 ·rintro ⟨x, hx, hax⟩
  have hax := of_decide_eq_true hax
  subst hax
  obtain ⟨i, hi⟩ := List.mem_iff_getElem?.1 hx
  have h1 := posA_iff hpw a hi
  have h0 : ¬ ordA a a < 0 := by rw [ordA_eq0.2 rfl]; omega
  have hle : posA a kp ≤ i := by
   rcases Nat.lt_or_ge i (posA a kp) with h | h
   ·exact absurd (h1.2 h) h0
   ·exact h
  have hil := (List.getElem?_eq_some_iff.1 hi).1
  have hpos : posA a kp = i := by
   rcases Nat.lt_or_ge (posA a kp) i with h | h
   ·obtain ⟨e, he⟩ : ∃ e, kp[posA a kp]? = some e := ⟨_, List.getElem?_eq_getElem (by omega)⟩
    have h2 := posA_iff hpw a he
    have h3 : ordA e a < 0 := by
     rw [List.pairwise_iff_getElem] at hpw
     have := hpw _ i (by omega) hil h
     rwa [(List.getElem?_eq_some_iff.1 he).2, (List.getElem?_eq_some_iff.1 hi).2] at this
    have := h2.1 h3
    omega
   ·omega
  rw [hpos, hi]
  exact decide_eq_true (ordA_eq0.2 rfl)
theorem set_self {α : Type} {l : List α} {i : Nat} {x : α} (h : l[i]? = some x) : l.set i x = l := by
 obtain ⟨h1, h2⟩ := List.getElem?_eq_some_iff.1 h
 rw [← h2]
 exact List.set_getElem_self h1
theorem raw_keep {ps : List Pf} {ks : List (List Ad)} {ls : List Ls} {now : Int} (h : StOk ps ks ls now) {o : Oq} (ho : o.In) (hf : formO o = 0) (hk : o.kind = 2) : state_Raw_t (ps, ks) ls now o = some (doKeep ps ks ls now o.ad) := by
 have hpl := h.plen
 have hkl := h.klen
 unfold state_Raw_t doKeep
 rw [state_Form_eq ho, bind_s, hf, decide_eq_true rfl, Bool.not_true, br_false, state_Own_eq h, bind_s, decide_eq_false (show ¬ o.kind = 1 by omega), br_false, decide_eq_true hk, br_true]
 simp only
 rw [state_poolOf_eq h.pin (by omega) ks ls now ho.2.2.1, bind_s]
 simp only [idxI_neg]
 cases hx : poolIx ps o.ad with
 | none => rfl
 | some i =>
  have hil := firstF_lt hx
  obtain ⟨p, hp⟩ : ∃ e, ps[i]? = some e := ⟨_, List.getElem?_eq_getElem hil⟩
  obtain ⟨k1, k2, k3, k4, k5⟩ := chkPool_iff.1 (h.pool i p hp)
  have hik : i < ks.length := by omega
  simp only [Option.isNone, br_false, idxI, getL_nat]
  have r1 : inRange (i : Int) (lenL ps) = true := zq33 (by omega) (by unfold lenL; omega)
  have hb := keep_bin k5 (by omega) ps ks ls now o (i := i) rfl
  simp only [r1, req_true, geti_at hp, bind_s]
  rw [hb, bind_s]
  simp only [getL_nat]
  generalize hkp : ks.getD i [] = kp at *
  have hpo := posA_le o.ad kp
  have r2 : (br (decide (((posA o.ad kp : Nat) : Int) < lenL kp)) (req (inRange ((posA o.ad kp : Nat) : Int) (lenL kp)) ((geti kp ((posA o.ad kp : Nat) : Int)).bind fun p6 => (addr_Order_t p6 o.ad).bind fun y7 => some (((posA o.ad kp : Nat) : Int), decide (y7.1 = 0), ()))) (some (((posA o.ad kp : Nat) : Int), false, ()))) = some (((posA o.ad kp : Nat) : Int), kp.any (fun x => decide (o.ad = x)), ()) := by
   rw [← posA_found k5]
   by_cases hlt : posA o.ad kp < kp.length
   ·obtain ⟨e, he⟩ : ∃ e, kp[posA o.ad kp]? = some e := ⟨_, List.getElem?_eq_getElem hlt⟩
    rw [decide_eq_true (show ((posA o.ad kp : Nat) : Int) < lenL kp by unfold lenL; omega), br_true, req_of (zq33 (by omega) (by unfold lenL; omega)), geti_at he, bind_s, addr_Order_eq, bind_s, he]
   ·rw [decide_eq_false (show ¬ ((posA o.ad kp : Nat) : Int) < lenL kp by unfold lenL; omega), br_false, List.getElem?_eq_none (by omega)]
  rw [r2, bind_s]
  simp only
  cases hany : kp.any (fun x => decide (o.ad = x))
  rotate_left
  ·rfl
  simp only [br_false, Bool.false_eq_true, if_false]
  by_cases h6 : kp.length = 6
  ·rw [decide_eq_true (show lenL kp = 6 by unfold lenL; omega), br_true, if_pos h6]; rfl
  rw [decide_eq_false (show ¬ lenL kp = 6 by unfold lenL; omega), br_false, if_neg h6]
  have r3 : (decide ((0 : Int) ≤ ((posA o.ad kp : Nat) : Int)) && decide (((posA o.ad kp : Nat) : Int) ≤ lenL kp) && room (lenL kp) 1) = true := by
   rw [decide_eq_true (show (0 : Int) ≤ ((posA o.ad kp : Nat) : Int) by omega), decide_eq_true (show ((posA o.ad kp : Nat) : Int) ≤ lenL kp by unfold lenL; omega), room_of (zq55 _) (by omega) (by unfold lenL; omega)]
   rfl
  simp only [Int.natCast_nonneg, decide_true, Bool.true_and] at r3 ⊢
  simp only [r3, req_true]
  have e1 : (ks.set i []).length = ps.length := by simp [hkl]
  simp only [seti, outL, Int.toNat_natCast, padL_of e1, outL, Int.toNat_natCast, set_self hp, List.set_set, insL, okS, noAd, putAt]
theorem own_good {ps : List Pf} {ks : List (List Ad)} {ls : List Ls} {now : Int} (h : StOk ps ks ls now) (p : Pf) : Good p (ownL p ls) := by
 obtain ⟨_, a2, a3, _⟩ := allC_ok h.all
 exact ⟨fun x hx => h.lin x (List.mem_filter.1 hx).1, fun x hx => a2 x (List.mem_filter.1 hx).1, fun x hx => (List.mem_filter.1 hx).2, ((asc_pair h.lin).1 a3).filter _, h.who.filter _⟩
theorem own_ok {ps : List Pf} {ks : List (List Ad)} {ls : List Ls} {now : Int} (h : StOk ps ks ls now) {i : Nat} {p : Pf} (hp : ps[i]? = some p) : chkOf p (ks.getD i []) (ownL p ls) now = 0 :=
 (own_good h p).ok (h.pin p (List.mem_of_getElem? hp)).1 (h.pool i p hp) h.time
section
variable {A R α : Type}
theorem flt2_loop {step : (A → Option R) → A → Option R} (b : List α) (q : α → Bool) (mk : Nat → List α → List α → A) (out : List α → List α → R) (hlen : b.length < 9223372036854775808)
  (h : ∀ (rec : A → Option R) (i : Nat) (x : α) (acc acc2 : List α), b[i]? = some x → i < b.length → acc.length ≤ i → acc2.length ≤ i → step rec (mk i acc acc2) = rec (mk (i + 1) (if q x then acc ++ [x] else acc) (if q x then acc2 else acc2 ++ [x])))
  (hend : ∀ (rec : A → Option R) (acc acc2 : List α), step rec (mk b.length acc acc2) = some (out acc acc2)) : loopN step FUEL (mk 0 [] []) = some (out (b.filter q) (b.filter fun x => !q x)) := by
 have := loop_up (step := step) (fun i => mk i ((b.take i).filter q) ((b.take i).filter fun x => !q x)) b.length (fun _ => some (out (b.filter q) (b.filter fun x => !q x))) (fun rec i hi hr => ?_) (fun rec => ?_) FUEL 0 (Nat.zero_le _) (fuel_gt (by omega))
 ·simpa using this
 ·obtain ⟨e, he⟩ : ∃ e, b[i]? = some e := ⟨_, List.getElem?_eq_getElem hi⟩
  have hle : ∀ q : α → Bool, ((b.take i).filter q).length ≤ i := fun q => Nat.le_trans (List.length_filter_le _ _) (by simp; omega)
  rw [h rec i e _ _ he hi (hle q) (hle _)]
  have ht : b.take (i + 1) = b.take i ++ [e] := by
   rw [List.take_succ_eq_append_getElem hi, (List.getElem?_eq_some_iff.1 he).2]
  rw [ht] at hr
  rw [← hr, List.filter_append, List.filter_append]
  cases hq : q e <;> simp [List.filter, hq]
 ·rw [hend, List.take_length]
end
abbrev DGr := List (List Ad) × List Pf × List Ls × (Int × Unit) × (Oq × Unit) × (Int × Unit) × List (List Ad) × List Pf × List Ls × (Ad × Unit) × List (List Ad) × List Pf × List Ls × (Int × Unit) × (Oq × Unit) × (Ad × Unit) × (Ad × Unit) × (Bool × Int × Int × Int × Int × Unit) × List Ls × List Ls × Unit
theorem grant_split (p : Pf) (cp : chkP p = 0) (ps : List Pf) (ks : List (List Ad)) {ls : List Ls} (hl : lsIn ls) (h20 : ls.length ≤ 20) (now : Int) (o : Oq) :
  loopN zq76 FUEL (((), (o.who, ()), (o.n, ()), (), (), (), (), (), (lenL ls, ()), (0, ()), ()), ((ks, ps, ls, (now, ()), (o, ()), ((0 : Int), ()), ([] : List (List Ad)), ([] : List Pf), ([] : List Ls), ((⟨false, 0, 0⟩ : Ad), ()), ks, ps, ls, (now, ()), (o, ()), ((⟨false, 0, 0⟩ : Ad), ()), ((⟨false, 0, 0⟩ : Ad), ()), (p.ad.v6, p.ad.hi, p.ad.lo, p.bits, o.of_, ()), ([] : List Ls), ([] : List Ls), ()) : DGr)) =
   some (((), (o.who, ()), (o.n, ()), (), (), (), (), ()), ((ks, ps, ls, (now, ()), (o, ()), ((0 : Int), ()), ([] : List (List Ad)), ([] : List Pf), ([] : List Ls), ((⟨false, 0, 0⟩ : Ad), ()), ks, ps, ls, (now, ()), (o, ()), ((⟨false, 0, 0⟩ : Ad), ()), ((⟨false, 0, 0⟩ : Ad), ()), (p.ad.v6, p.ad.hi, p.ad.lo, p.bits, o.of_, ()), ownL p ls, othL p ls, ()) : DGr)) := by
 obtain ⟨b1, b2⟩ := chkP_bits cp
 refine flt2_loop (step := zq76) ls (fun x => holds p x.ad) (fun i a b => (((), (o.who, ()), (o.n, ()), (), (), (), (), (), (lenL ls, ()), ((i : Int), ()), ()), ((ks, ps, ls, (now, ()), (o, ()), ((0 : Int), ()), ([] : List (List Ad)), ([] : List Pf), ([] : List Ls), ((⟨false, 0, 0⟩ : Ad), ()), ks, ps, ls, (now, ()), (o, ()), ((⟨false, 0, 0⟩ : Ad), ()), ((⟨false, 0, 0⟩ : Ad), ()), (p.ad.v6, p.ad.hi, p.ad.lo, p.bits, o.of_, ()), a, b, ()) : DGr)))
  (fun a b => (((), (o.who, ()), (o.n, ()), (), (), (), (), ()), ((ks, ps, ls, (now, ()), (o, ()), ((0 : Int), ()), ([] : List (List Ad)), ([] : List Pf), ([] : List Ls), ((⟨false, 0, 0⟩ : Ad), ()), ks, ps, ls, (now, ()), (o, ()), ((⟨false, 0, 0⟩ : Ad), ()), ((⟨false, 0, 0⟩ : Ad), ()), (p.ad.v6, p.ad.hi, p.ad.lo, p.bits, o.of_, ()), a, b, ()) : DGr))) (by omega) (fun rec i x a b hx hi ha hb => ?_) (fun rec a b => ?_)
 ·simp only [zq76]
  rw [decide_eq_true (show (i : Int) < lenL ls by unfold lenL; omega), br_true, req_of (zq33 (by omega) (by unfold lenL; omega)), geti_at hx, bind_s, prefix_Holds_eq (p := p) b1 b2 (hl x (List.mem_of_getElem? hx)).1, bind_s]
  rw [show ((i : Int) + 1) = ((i + 1 : Nat) : Int) by omega]
  cases holds p x.ad
  ·rw [br_false, req_of (room_of (zq55 _) (zq55 _) (by unfold lenL; simp; omega)), req_of (i64ok_of (by omega) (by omega))]
   simp
  ·rw [br_true, req_of (room_of (zq55 _) (zq55 _) (by unfold lenL; simp; omega)), req_of (i64ok_of (by omega) (by omega))]
   simp
 ·simp only [zq76]
  rw [decide_eq_false (show ¬ (ls.length : Int) < lenL ls by unfold lenL; omega), br_false]
end Go.Ma
namespace Go.Ma
open Go
theorem grantR_given {ps : List Pf} {ks : List (List Ad)} {ls : List Ls} {now : Int} (h : StOk ps ks ls now) {i : Nat} {p : Pf} (hp : ps[i]? = some p) {who : ByteArray} (hs : strIn who) (hw : whoOk who = true) {ttl : Int} (ht : betw ttl 1 500 = true)
  (hr : ¬ (grantR p (ks.getD i []) ls who now ttl).2.2.1 = false) : Given p (ks.getD i []) (ownL p ls) who now (now + ttl) (grantR p (ks.getD i []) ls who now ttl).1 (grantR p (ks.getD i []) ls who now ttl).2.1 := by
 have hg : grantOf p (ks.getD i []) (ownL p ls) who now ttl = ((grantR p (ks.getD i []) ls who now ttl).1, (grantR p (ks.getD i []) ls who now ttl).2.1, 0, ()) := by
  unfold grantOf
  unfold grantR at hr ⊢
  rw [if_neg (fun hh => hh (own_ok h hp)), if_neg (by simp [hw]), if_neg (by simp [ht]), if_neg hr]
 exact (given_of (h.pin p (List.mem_of_getElem? hp)).1 (own_good h p).ins hs hg).2.2
theorem apart_of : ∀ {l : List Ls}, (l.Pairwise fun x y => x.ad ≠ y.ad) → apartL l = true
 | [], _ => rfl
 | x :: r, h => by
  obtain ⟨h1, h2⟩ := List.pairwise_cons.1 h
  simp only [apartL, Bool.and_eq_true, List.all_eq_true, decide_eq_true_eq]
  exact ⟨fun y hy => Ne.symm (h1 y hy), apart_of h2⟩
theorem asc_ne {l : List Ls} (h : l.Pairwise fun x y => rank x.ad < rank y.ad) : l.Pairwise fun x y => x.ad ≠ y.ad := h.imp fun hab e => by rw [e] at hab; omega
theorem merged_apart {p : Pf} {m b : List Ls} (hm : m.Pairwise fun x y => x.ad ≠ y.ad) (hb : b.Pairwise fun x y => x.ad ≠ y.ad) (h1 : ∀ x ∈ m, holds p x.ad = true) (h2 : ∀ x ∈ b, holds p x.ad = false) : (m ++ b).Pairwise fun x y => x.ad ≠ y.ad := by
 rw [List.pairwise_append]
 exact ⟨hm, hb, fun x hx y hy e => by
  have e1 := h1 x hx
  rw [e, h2 y hy] at e1
  cases e1⟩
theorem oth_asc {ps : List Pf} {ks : List (List Ad)} {ls : List Ls} {now : Int} (h : StOk ps ks ls now) (p : Pf) : (othL p ls).Pairwise fun x y => rank x.ad < rank y.ad := ((asc_pair h.lin).1 (allC_ok h.all).2.2.1).filter _
theorem oth_held {p : Pf} {ls : List Ls} : ∀ x ∈ othL p ls, holds p x.ad = false := fun x hx => by simpa using (List.mem_filter.1 hx).2
theorem merge_ok {ps : List Pf} {ks : List (List Ad)} {ls : List Ls} {now : Int} (h : StOk ps ks ls now) {p : Pf} {kp : List Ad} {l : List Ls} {who : ByteArray} {u : Int} {m : List Ls} {a : Ad} (g : Given p kp l who now u m a) (hlen : m.length + (othL p ls).length ≤ 20) : sortOkL (m ++ othL p ls) = true := by
 unfold sortOkL
 have hne : (m ++ othL p ls).isEmpty = false := by
  have := g.mine
  cases m with
  | nil => cases this
  | cons x r => rfl
 rw [hne, room_of (zq55 _) (by omega) (by unfold lenL; simp; omega), apart_of (merged_apart (asc_ne g.good.asc) (asc_ne (oth_asc h p)) g.good.held oth_held)]
 rfl
theorem raw_grant {ps : List Pf} {ks : List (List Ad)} {ls : List Ls} {now : Int} (h : StOk ps ks ls now) {o : Oq} (ho : o.In) (hf : formO o = 0) (hk : o.kind = 3) : state_Raw_t (ps, ks) ls now o = some (doGrant ps ks ls now o.who o.of_ o.n) := by
 obtain ⟨g1, g2⟩ := form_grant hf hk
 have hw := form_who hf (.inl hk)
 obtain ⟨o1, o2⟩ := betw_iff.1 g1
 obtain ⟨n1, n2⟩ := betw_iff.1 g2
 obtain ⟨t1, t2⟩ := betw_iff.1 h.time
 have hpl := h.plen
 have hkl := h.klen
 have hll := h.llen
 obtain ⟨k, hk'⟩ : ∃ k : Nat, o.of_ = (k : Int) := ⟨o.of_.toNat, by omega⟩
 unfold state_Raw_t doGrant
 rw [state_Form_eq ho, bind_s, hf, decide_eq_true rfl, Bool.not_true, br_false, state_Own_eq h, bind_s, decide_eq_false (show ¬ o.kind = 1 by omega), br_false, decide_eq_false (show ¬ o.kind = 2 by omega), br_false, decide_eq_true hk, br_true]
 simp only
 rw [hk', Int.toNat_natCast]
 by_cases hkp : k < ps.length
 rotate_left
 ·rw [decide_eq_true (show (k : Int) ≥ lenL ps by unfold lenL; omega), br_true, List.getElem?_eq_none (by omega)]; rfl
 obtain ⟨p, hp⟩ : ∃ e, ps[k]? = some e := ⟨_, List.getElem?_eq_getElem hkp⟩
 obtain ⟨pin, cp⟩ := h.pin p (List.mem_of_getElem? hp)
 obtain ⟨b1, b2⟩ := chkP_bits cp
 rw [decide_eq_false (show ¬ (k : Int) ≥ lenL ps by unfold lenL; omega), br_false, req_of (zq33 (by omega) (by unfold lenL; omega)), geti_at hp, bind_s, state_find_eq ps ks (by omega) now o.who, bind_s, hp]
 simp only
 have haw : (br (decide (idxI (firstF (whoP o.who) ls) ≥ 0)) (req (inRange (idxI (firstF (whoP o.who) ls)) (lenL ls)) (req (inRange (idxI (firstF (whoP o.who) ls)) (lenL ls)) ((geti ls (idxI (firstF (whoP o.who) ls))).bind fun p5 => (prefix_Holds_t p p5.ad).bind fun y6 => some (!y6.1)))) (some false)) = some (awayB p ls o.who) := by
  unfold awayB
  rw [idxI_nonneg]
  cases hw : firstF (whoP o.who) ls with
  | none => rfl
  | some i =>
   have hil := firstF_lt hw
   obtain ⟨x, hx⟩ : ∃ e, ls[i]? = some e := ⟨_, List.getElem?_eq_getElem hil⟩
   have r1 : inRange (i : Int) (lenL ls) = true := zq33 (by omega) (by unfold lenL; omega)
   simp only [idxI, hx, Option.isSome]
   rw [br_true, req_of r1, req_of r1, geti_at hx, bind_s, prefix_Holds_eq b1 b2 (h.lin x (List.mem_of_getElem? hx)).1, bind_s]
 rw [haw, bind_s]
 cases awayB p ls o.who
 rotate_left
 ·rfl
 simp only [br_false, Bool.false_eq_true, if_false]
 have hsp := grant_split p cp ps ks h.lin hll now o
 rw [hk'] at hsp
 rw [hsp, bind_s, dup_eq]
 simp only [getL_nat]
 have hok := chkOf_ok (own_ok h hp)
 have hrw := lease_Raw_eq (p := p) pin (kp := ks.getD k []) (own_good h p).ins (now := now) (ttl := o.n) hok.1 hok.2.1 (by omega) (by omega) o.who
 rw [show (⟨(⟨p.ad.v6, p.ad.hi, p.ad.lo⟩ : Ad), p.bits⟩ : Pf) = p from rfl, hrw, bind_s]
 show br (!(grantR p (ks.getD k []) ls o.who now o.n).2.2.1) _ _ = _
 cases hr : (grantR p (ks.getD k []) ls o.who now o.n).2.2.1
 ·rfl
 have gv := grantR_given h hp ho.2.2.2.1 hw g2 (by rw [hr]; simp)
 unfold grantR at gv ⊢
 simp only [Bool.not_true, br_false, Bool.true_eq_false, if_false]
 have hml := gv.good.len pin cp (chkPool_ok (h.pool k p hp)).2.1
 have hol : (othL p ls).length ≤ 20 := Nat.le_trans (List.length_filter_le _ _) hll
 generalize hR : rawOf p (ks.getD k []) (live (ownL p ls) now) o.who (now + o.n) = r at *
 rw [req_of (i64ok_of (by unfold lenL; omega) (by unfold lenL; omega))]
 by_cases h20 : r.1.length + (othL p ls).length > 20
 ·rw [decide_eq_true (show lenL r.1 + lenL (othL p ls) > 20 by unfold lenL; omega), br_true, if_pos h20]; rfl
 ·rw [decide_eq_false (show ¬ lenL r.1 + lenL (othL p ls) > 20 by unfold lenL; omega), br_false, if_neg h20, req_of (room_of (zq55 _) (zq55 _) (by unfold lenL; omega)), req_of (merge_ok h gv (by omega))]
  rfl
theorem raw_free {ps : List Pf} {ks : List (List Ad)} {ls : List Ls} {now : Int} (h : StOk ps ks ls now) {o : Oq} (ho : o.In) (hf : formO o = 0) (hk : o.kind = 4) : state_Raw_t (ps, ks) ls now o = some (doFree ps ks ls now o.who) := by
 have hll := h.llen
 unfold state_Raw_t doFree
 rw [state_Form_eq ho, bind_s, hf, decide_eq_true rfl, Bool.not_true, br_false, state_Own_eq h, bind_s, decide_eq_false (show ¬ o.kind = 1 by omega), br_false, decide_eq_false (show ¬ o.kind = 2 by omega), br_false, decide_eq_false (show ¬ o.kind = 3 by omega), br_false, decide_eq_true hk, br_true]
 simp only
 rw [state_find_eq ps ks (by omega) now o.who, bind_s]
 simp only [idxI_neg]
 cases hw : firstF (whoP o.who) ls with
 | none => rfl
 | some i =>
  have hil := firstF_lt hw
  obtain ⟨x, hx⟩ : ∃ e, ls[i]? = some e := ⟨_, List.getElem?_eq_getElem hil⟩
  have r1 : inRange (i : Int) (lenL ls) = true := zq33 (by omega) (by unfold lenL; omega)
  have r2 : (decide ((0 : Int) ≤ (i : Int)) && decide ((i : Int) ≤ (i : Int) + 1) && decide ((i : Int) + 1 ≤ lenL ls)) = true := by
   rw [decide_eq_true (show (0 : Int) ≤ (i : Int) by omega), decide_eq_true (show (i : Int) ≤ (i : Int) + 1 by omega), decide_eq_true (show (i : Int) + 1 ≤ lenL ls by unfold lenL; omega)]
   rfl
  have e1 : ((i : Int) + 1).toNat = i + 1 := by omega
  simp only [Option.isNone, br_false]
  rw [show idxI (some i) = (i : Int) from rfl, req_of r1, req_of r1, geti_at hx, bind_s, req_of (i64ok_of (by omega) (by omega)), req_of r2, hx]
  simp only [okS, delL, e1, Int.toNat_natCast]
theorem raw_tick {ps : List Pf} {ks : List (List Ad)} {ls : List Ls} {now : Int} (h : StOk ps ks ls now) {o : Oq} (ho : o.In) (hf : formO o = 0) (hk : o.kind = 5) : state_Raw_t (ps, ks) ls now o = some (doTick ps ks ls now o.n) := by
 have hll := h.llen
 unfold state_Raw_t doTick
 rw [state_Form_eq ho, bind_s, hf, decide_eq_true rfl, Bool.not_true, br_false, state_Own_eq h, bind_s, decide_eq_false (show ¬ o.kind = 1 by omega), br_false, decide_eq_false (show ¬ o.kind = 2 by omega), br_false, decide_eq_false (show ¬ o.kind = 3 by omega), br_false, decide_eq_false (show ¬ o.kind = 4 by omega), br_false]
 simp only
 by_cases hn : o.n < now
 ·rw [decide_eq_true hn, br_true, if_pos hn]; rfl
 ·rw [decide_eq_false hn, br_false, if_neg hn, lease_Live_eq (by omega), bind_s]; rfl
theorem state_Raw_eq {ps : List Pf} {ks : List (List Ad)} {ls : List Ls} {now : Int} (h : StOk ps ks ls now) {o : Oq} (ho : o.In) : state_Raw_t (ps, ks) ls now o = some (doOf ps ks ls now o) := by
 unfold doOf
 by_cases hf : formO o = 0
 rotate_left
 ·rw [if_pos hf]
  unfold state_Raw_t
  rw [state_Form_eq ho, bind_s, decide_eq_false hf, Bool.not_false, br_true]
  rfl
 rw [if_neg (fun hh => hh hf)]
 have hk := form_kind hf
 by_cases k1 : o.kind = 1
 ·rw [if_pos k1, raw_pool h ho hf k1]
 by_cases k2 : o.kind = 2
 ·rw [if_neg k1, if_pos k2, raw_keep h ho hf k2]
 by_cases k3 : o.kind = 3
 ·rw [if_neg k1, if_neg k2, if_pos k3, raw_grant h ho hf k3]
 by_cases k4 : o.kind = 4
 ·rw [if_neg k1, if_neg k2, if_neg k3, if_pos k4, raw_free h ho hf k4]
 ·rw [if_neg k1, if_neg k2, if_neg k3, if_neg k4, raw_tick h ho hf (by omega)]
end Go.Ma
namespace Go.Ma
open Go
theorem meets_self {p : Pf} (cp : chkP p = 0) : meets p p = true := by unfold meets; rw [over_refl cp]; rfl
theorem ahead_pos {ps : List Pf} (hpw : ps.Pairwise apartP) {p : Pf} {i : Nat} {x : Pf} (hx : ps[i]? = some x) (hne : x ≠ p) : decide (ordP p x < 0) = decide (posP p ps ≤ i) := by
 have h1 := posP_iff hpw p hx
 refine decide_eq_decide.2 ⟨fun h => ?_, fun h => ?_⟩
 ·rcases Nat.lt_or_ge i (posP p ps) with hlt | hge
  ·have := ordP_trans h (h1.2 hlt)
   rw [ordP_self] at this
   omega
  ·exact hge
 ·have h2 : ¬ ordP x p < 0 := fun hh => by have := h1.1 hh; omega
  by_cases h3 : ordP p x < 0
  ·exact h3
  ·exfalso
   apply hne
   rw [ordP_key] at h2 h3
   have hv := kV_inj (v := x.ad.v6) (w := p.ad.v6) (by omega)
   obtain ⟨⟨xv, xh, xl⟩, xb⟩ := x
   obtain ⟨⟨pv, ph, pl⟩, pb⟩ := p
   simp only at hv h2 h3 ⊢
   have e1 : xh = ph := by omega
   have e2 : xl = pl := by omega
   have e3 : xb = pb := by omega
   rw [hv, e1, e2, e3]
theorem ordA_tri {a b : Ad} (h : ¬ ordA a b < 0) (hne : a ≠ b) : ordA b a < 0 := by
 by_cases h2 : ordA b a < 0
 ·exact h2
 ·exfalso
  apply hne
  rw [← ordA_eq0]
  have h1 := (ordA_key a b).1
  have h3 := (ordA_key b a).1
  have := (ordA_key a b).2
  rw [h1] at h
  rw [h3] at h2
  exact this.2 (by omega)
end Go.Ma
namespace Go.Ma
open Go
theorem adLt_ord (a b : Ad) : adLt a b = decide (ordA a b < 0) := by
 rw [Bool.eq_iff_iff, adLt_iff, decide_eq_true_iff, (ordA_key a b).1]
 unfold kV
 cases a.v6 <;> cases b.v6 <;> simp
theorem oth_in {p : Pf} {ls : List Ls} (h : lsIn ls) : lsIn (othL p ls) := fun x hx => h x (List.mem_filter.1 hx).1
end Go.Ma
namespace Go.Ma
open Go
theorem R_SameAddrs_self {l : List Ad} (hl : l.length < 9223372036854775808) : R_SameAddrs_t l l = some (true, ()) := by
 unfold R_SameAddrs_t
 rw [decide_eq_true rfl, Bool.not_true, br_false]
 have := loop_up (step := R_SameAddrs_L4) (fun i => (((), (), ((i : Int), ()), ()), (l, l, ()))) l.length (fun _ => some (Sum.inr ((), (l, l, ())))) (fun rec i hi hr => ?_) (fun rec => ?_) FUEL 0 (Nat.zero_le _) (fuel_gt (by omega))
 ·rw [show ((0 : Nat) : Int) = 0 from rfl] at this
  rw [this]; rfl
 ·obtain ⟨x, hx⟩ : ∃ e, l[i]? = some e := ⟨_, List.getElem?_eq_getElem hi⟩
  have r1 : inRange (i : Int) (lenL l) = true := zq33 (by omega) (by unfold lenL; omega)
  simp only [R_SameAddrs_L4]
  simp only [r1, req_true, geti_at hx, bind_s, eqAd_eq]
  rw [decide_eq_true (show (i : Int) < lenL l by unfold lenL; omega), br_true]
  simp only [decide_true, Bool.not_true, br_false]
  rw [show ((i : Int) + 1) = ((i + 1 : Nat) : Int) by omega, req_of (i64ok_of (by omega) (by omega)), hr]
 ·simp only [R_SameAddrs_L4]
  rw [decide_eq_false (show ¬ (l.length : Int) < lenL l by unfold lenL; omega), br_false]
def fitS (ps : List Pf) (ks : List (List Ad)) (ls : List Ls) : Prop := ps.length < 9223372036854775808 ∧ (∀ i, (ks.getD i []).length < 9223372036854775808) ∧ ls.length < 9223372036854775808
theorem R_SameState_self {ps : List Pf} {ks : List (List Ad)} {ls : List Ls} (h : fitS ps ks ls) (now : Int) : R_SameState_t (ps, ks) ls now (ps, ks) ls now = some (true, ()) := by
 obtain ⟨h1, h2, h3⟩ := h
 unfold R_SameState_t
 rw [R_SameLeases_eq h3]
 simp only [decide_true, Bool.not_true, br_false, bind_s]
 have := loop_up (step := R_SameState_L4) (fun i => (((), (), ((i : Int), ()), ()), (ks, ps, ls, ks, ps, ls, (now, ()), (now, ()), ()))) ps.length (fun _ => some (Sum.inr ((), (ks, ps, ls, ks, ps, ls, ())))) (fun rec i hi hr => ?_) (fun rec => ?_) FUEL 0 (Nat.zero_le _) (fuel_gt (by omega))
 ·rw [show ((0 : Nat) : Int) = 0 from rfl] at this
  rw [this]; rfl
 ·obtain ⟨x, hx⟩ : ∃ e, ps[i]? = some e := ⟨_, List.getElem?_eq_getElem hi⟩
  have r1 : inRange (i : Int) (lenL ps) = true := zq33 (by omega) (by unfold lenL; omega)
  simp only [R_SameState_L4]
  simp only [r1, req_true, geti_at hx, bind_s, eqPf_eq, getL_nat, R_SameAddrs_self (h2 i)]
  rw [decide_eq_true (show (i : Int) < lenL ps by unfold lenL; omega), br_true]
  simp only [decide_true, Bool.not_true, br_false, bind_s]
  rw [show ((i : Int) + 1) = ((i + 1 : Nat) : Int) by omega, req_of (i64ok_of (by omega) (by omega)), hr]
 ·simp only [R_SameState_L4]
  rw [decide_eq_false (show ¬ (ps.length : Int) < lenL ps by unfold lenL; omega), br_false]
theorem strIn_empty : strIn ByteArray.empty := by unfold strIn maxLen; decide
theorem noAd_in : (⟨false, 0, 0⟩ : Ad).In := ⟨⟨by decide, by decide⟩, by decide, by decide⟩
theorem noPf_in : (⟨⟨false, 0, 0⟩, 0⟩ : Pf).In := ⟨noAd_in, by decide, by decide⟩
def sP : List Pf := [⟨⟨false, 0, 8⟩, 30⟩]
def sK : List (List Ad) := [[⟨false, 0, 8⟩]]
def sL : List Ls := [⟨⟨false, 0, 9⟩, ⟨#[120]⟩, 10⟩]
theorem sc0 : chkS [] [] [] 0 = 0 := by decide +kernel
theorem pfs_nil : ∀ p ∈ ([] : List Pf), p.In := fun p hp => by cases hp
theorem kps_nil : kpIn ([] : List (List Ad)) := fun p hp => by cases hp
theorem doOf_err {ps : List Pf} {ks : List (List Ad)} {ls : List Ls} {now : Int} {o : Oq} : (doOf ps ks ls now o).2.2.1 ≠ 0 → doOf ps ks ls now o = errS (doOf ps ks ls now o).2.2.1 := by
 have he : ∀ e : Int, errS e = errS (errS e).2.2.1 := fun _ => rfl
 have ho : ∀ (ps : List Pf) (ks : List (List Ad)) (ls : List Ls) (now : Int) (a : Ad), (okS ps ks ls now a).2.2.1 ≠ 0 → okS ps ks ls now a = errS (okS ps ks ls now a).2.2.1 := fun _ _ _ _ _ h => absurd rfl h
 unfold doOf
 split
 ·exact fun _ => he _
 split
 ·unfold doPool
  split
  ·exact fun _ => he _
  split
  ·exact fun _ => he _
  ·exact ho _ _ _ _ _
 split
 ·unfold doKeep
  split
  ·exact fun _ => he _
  split
  ·exact fun _ => he _
  split
  ·exact fun _ => he _
  ·exact ho _ _ _ _ _
 split
 ·unfold doGrant
  split
  ·exact fun _ => he _
  split
  ·exact fun _ => he _
  split
  ·exact fun _ => he _
  split
  ·exact fun _ => he _
  ·exact ho _ _ _ _ _
 split
 ·unfold doFree
  split
  ·exact fun _ => he _
  split
  ·exact ho _ _ _ _ _
  ·exact fun _ => he _
 ·unfold doTick
  split
  ·exact fun _ => he _
  ·exact ho _ _ _ _ _
end Go.Ma
namespace Go.Ma
open Go
section
variable {α : Type}
theorem mem_putAt {l : List α} {n : Nat} {x y : α} : y ∈ putAt l n x ↔ y ∈ l ∨ y = x := by
 unfold putAt
 conv => rhs; rw [← List.take_append_drop n l]
 simp only [List.mem_append, List.mem_cons]
 constructor
 ·rintro (h | h | h)
  ·exact .inl (.inl h)
  ·exact .inr h
  ·exact .inl (.inr h)
 ·rintro ((h | h) | h)
  ·exact .inl h
  ·exact .inr (.inr h)
  ·exact .inr (.inl h)
theorem putAt_len {l : List α} {n : Nat} {x : α} : (putAt l n x).length = l.length + 1 := by
 unfold putAt
 have := congrArg List.length (List.take_append_drop n l)
 simp only [List.length_append, List.length_cons] at this ⊢
 omega
theorem putAt_get {l : List α} {n : Nat} (hn : n ≤ l.length) (x : α) (i : Nat) : (putAt l n x)[i]? = if i < n then l[i]? else if i = n then some x else l[i - 1]? := ins_get hn x i
theorem putAt_pw {R : α → α → Prop} {l : List α} {n : Nat} {x : α} (h : l.Pairwise R) (h1 : ∀ i y, l[i]? = some y → i < n → R y x) (h2 : ∀ i y, l[i]? = some y → n ≤ i → R x y) : (putAt l n x).Pairwise R := by
 unfold putAt
 have hs : (l.take n ++ l.drop n).Pairwise R := by rw [List.take_append_drop]; exact h
 obtain ⟨a1, a2, a3⟩ := List.pairwise_append.1 hs
 refine List.pairwise_append.2 ⟨a1, List.pairwise_cons.2 ⟨fun y hy => ?_, a2⟩, fun y hy z hz => ?_⟩
 ·obtain ⟨i, hi⟩ := List.mem_iff_getElem?.1 hy
  rw [List.getElem?_drop] at hi
  exact h2 _ y hi (by omega)
 ·rcases List.mem_cons.1 hz with rfl | hz
  ·obtain ⟨i, hi⟩ := List.mem_iff_getElem?.1 hy
   rw [List.getElem?_take] at hi
   split at hi
   ·exact h1 i y hi (by assumption)
   ·cases hi
  ·exact a3 y hy z hz
end
theorem getD_putAt {l : List (List Ad)} {n : Nat} (hn : n ≤ l.length) (x : List Ad) (i : Nat) : (putAt l n x).getD i [] = if i < n then l.getD i [] else if i = n then x else l.getD (i - 1) [] := by
 simp only [List.getD_eq_getElem?_getD, putAt_get hn]
 split
 ·rfl
 split <;> rfl
theorem ok_pool {ps : List Pf} {ks : List (List Ad)} {ls : List Ls} {now : Int} (h : StOk ps ks ls now) {p : Pf} (hp : p.In) (c1 : chkP p = 0) (c2 : ((wid p.ad.v6 : Nat) : Int) - p.bits ≤ 4) (hno : ps.any (fun q => meets q p) = false) (h3 : ps.length ≠ 3) :
  StOk (putAt ps (posP p ps) p) (putAt ks (posP p ps) []) ls now := by
 have hpl := h.plen
 have hkl := h.klen
 have hle := posP_le p ps
 have hno' : ∀ q ∈ ps, meets q p = false := fun q hq => by
  rw [List.any_eq_false] at hno
  simpa using hno q hq
 refine ⟨fun q hq => ?_, fun k hk => ?_, h.lin, by rw [putAt_len, putAt_len, hkl], by rw [putAt_len]; omega, fun i q hq => ?_, ?_, h.time, h.all, fun x hx => ?_, h.upto, h.who⟩
 ·rcases mem_putAt.1 hq with hq | rfl
  ·exact h.pin q hq
  ·exact ⟨hp, c1⟩
 ·rcases mem_putAt.1 hk with hk | rfl
  ·exact h.kin k hk
  ·exact fun a ha => by cases ha
 ·rw [putAt_get hle] at hq
  rw [getD_putAt (by omega)]
  split
  ·rename_i hi; rw [if_pos hi] at hq; exact h.pool i q hq
  ·rename_i hi
   rw [if_neg hi] at hq
   split
   ·rename_i he
    rw [if_pos he] at hq
    injection hq with hq
    subst hq
    exact chkPool_iff.2 ⟨c1, c2, by simp, (fun a ha => by cases ha), List.Pairwise.nil⟩
   ·rename_i he
    rw [if_neg he] at hq
    exact h.pool (i - 1) q hq
 ·refine putAt_pw h.pair (fun i y hy hi => ⟨(posP_iff h.pair p hy).2 hi, hno' y (List.mem_of_getElem? hy)⟩) (fun i y hy hi => ?_)
  have hne : y ≠ p := fun e => by have := hno' y (List.mem_of_getElem? hy); rw [e, meets_self c1] at this; cases this
  have := ahead_pos h.pair hy hne
  rw [decide_eq_true hi] at this
  exact ⟨of_decide_eq_true this, by rw [meets_comm]; exact hno' y (List.mem_of_getElem? hy)⟩
 ·obtain ⟨q, hq, hh⟩ := h.has x hx
  exact ⟨q, mem_putAt.2 (.inl hq), hh⟩
theorem ok_keep {ps : List Pf} {ks : List (List Ad)} {ls : List Ls} {now : Int} (h : StOk ps ks ls now) {a : Ad} (ha : a.In) (ca : chkA a = 0) {i : Nat} (hi : poolIx ps a = some i) (hno : (ks.getD i []).any (fun x => decide (a = x)) = false) (h6 : (ks.getD i []).length ≠ 6) :
  StOk ps (ks.set i (putAt (ks.getD i []) (posA a (ks.getD i [])) a)) ls now := by
 have hkl := h.klen
 obtain ⟨p, hp, hh, _⟩ := firstF_some hi
 have hil := firstF_lt hi
 obtain ⟨k1, k2, k3, k4, k5⟩ := chkPool_iff.1 (h.pool i p hp)
 have hne : ∀ x ∈ ks.getD i [], a ≠ x := fun x hx e => by
  rw [List.any_eq_false] at hno
  exact hno x hx (decide_eq_true e)
 have hkin := kp_at h.kin i
 have hget : ∀ j, (ks.set i (putAt (ks.getD i []) (posA a (ks.getD i [])) a)).getD j [] = if j = i then putAt (ks.getD i []) (posA a (ks.getD i [])) a else ks.getD j [] := fun j => by
  rw [List.getD_eq_getElem?_getD]
  by_cases hj : j = i
  ·subst hj
   rw [List.getElem?_set_self (by omega), if_pos rfl]; rfl
  ·rw [List.getElem?_set_ne (by omega), if_neg hj, List.getD_eq_getElem?_getD]
 refine ⟨h.pin, fun k hk => ?_, h.lin, by rw [List.length_set, hkl], h.plen, fun j q hq => ?_, h.pair, h.time, h.all, h.has, h.upto, h.who⟩
 ·rcases List.mem_or_eq_of_mem_set hk with hk | rfl
  ·exact h.kin k hk
  ·intro b hb
   rcases mem_putAt.1 hb with hb | rfl
   ·exact hkin b hb
   ·exact ha
 ·rw [hget]
  split
  ·rename_i hj
   subst hj
   rw [hp] at hq
   injection hq with hq
   subst hq
   refine chkPool_iff.2 ⟨k1, k2, by rw [putAt_len]; omega, fun b hb => ?_, ?_⟩
   ·rcases mem_putAt.1 hb with hb | rfl
    ·exact k4 b hb
    ·exact ⟨ca, hh⟩
   ·exact putAt_pw k5 (fun n y hy hn => (posA_iff k5 a hy).2 hn) (fun n y hy hn => ordA_tri (fun hlt => by have := (posA_iff k5 a hy).1 hlt; omega) (Ne.symm (hne y (List.mem_of_getElem? hy))))
  ·exact h.pool j q hq
theorem allC_of {l : List Ls} (hin : lsIn l) (h20 : l.length ≤ 20) (hc : ∀ x ∈ l, chkLs x = 0) (ha : l.Pairwise fun x y => rank x.ad < rank y.ad) {now : Int} (ht : betw now 0 9999 = true) : allC l now = 0 := by
 unfold allC
 rw [if_neg (by omega), if_neg (fun hh => hh (chkLsF_of hc)), (asc_pair hin).2 ha, if_neg (by simp), ht]
 simp
theorem ok_free {ps : List Pf} {ks : List (List Ad)} {ls : List Ls} {now : Int} (h : StOk ps ks ls now) {m : List Ls} (hs : m.Sublist ls) {n : Int} (hn : now ≤ n) (ht : betw n 0 9999 = true) (hu : ∀ x ∈ m, n ≤ x.upto) : StOk ps ks m n := by
 have hin : lsIn m := fun x hx => h.lin x (hs.subset hx)
 exact ⟨h.pin, h.kin, hin, h.klen, h.plen, h.pool, h.pair, ht, allC_of hin (Nat.le_trans hs.length_le h.llen) (fun x hx => h.lchk x (hs.subset hx)) (((asc_pair h.lin).1 (allC_ok h.all).2.2.1).sublist hs) ht,
  fun x hx => h.has x (hs.subset hx), hu, h.who.sublist hs⟩
theorem ok_grant {ps : List Pf} {ks : List (List Ad)} {ls : List Ls} {now : Int} (h : StOk ps ks ls now) {k : Nat} {p : Pf} (hp : ps[k]? = some p) {kp : List Ad} {who : ByteArray} {u : Int} {m : List Ls} {a : Ad} (g : Given p kp (ownL p ls) who now u m a)
  (hw : ∀ x ∈ m, ∀ y ∈ othL p ls, x.who ≠ y.who) (h20 : m.length + (othL p ls).length ≤ 20) : StOk ps ks (sortL (m ++ othL p ls)) now := by
 have hmem : ∀ x, x ∈ sortL (m ++ othL p ls) ↔ x ∈ m ∨ x ∈ othL p ls := fun x => by rw [(sortL_perm _).mem_iff, List.mem_append]
 have hpm := List.mem_of_getElem? hp
 have hap := merged_apart (asc_ne g.good.asc) (asc_ne (oth_asc h p)) g.good.held oth_held
 have hin : lsIn (sortL (m ++ othL p ls)) := fun x hx => by
  rcases (hmem x).1 hx with hx | hx
  ·exact g.good.ins x hx
  ·exact oth_in h.lin x hx
 have hasc : (sortL (m ++ othL p ls)).Pairwise fun x y => rank x.ad < rank y.ad := by
  have h1 := sortL_pw (m ++ othL p ls)
  have h2 : (sortL (m ++ othL p ls)).Pairwise fun x y => x.ad ≠ y.ad := ((sortL_perm _).pairwise_iff (fun hxy => Ne.symm hxy)).2 hap
  refine List.Pairwise.imp_of_mem (fun {x y} hx hy hxy => ?_) (h1.and h2)
  obtain ⟨e1, e2⟩ := hxy
  unfold leL at e1
  rw [adLt_ord, decide_eq_false_iff_not] at e1
  exact (ord_rank (hin x hx).1 (hin y hy).1).1.1 (ordA_tri e1 (Ne.symm e2))
 refine ⟨h.pin, h.kin, hin, h.klen, h.plen, h.pool, h.pair, h.time, allC_of hin (by rw [(sortL_perm _).length_eq, List.length_append]; exact h20) (fun x hx => ?_) hasc h.time, fun x hx => ?_, fun x hx => ?_, ?_⟩
 ·rcases (hmem x).1 hx with hx | hx
  ·exact g.good.chk x hx
  ·exact h.lchk x (List.mem_filter.1 hx).1
 ·rcases (hmem x).1 hx with hx | hx
  ·exact ⟨p, hpm, g.good.held x hx⟩
  ·exact h.has x (List.mem_filter.1 hx).1
 ·rcases (hmem x).1 hx with hx | hx
  ·exact g.alive x hx
  ·exact h.upto x (List.mem_filter.1 hx).1
 ·refine ((sortL_perm _).pairwise_iff (fun hxy => Ne.symm hxy)).2 (List.pairwise_append.2 ⟨g.good.whos, h.who.filter _, hw⟩)
theorem given_who {p : Pf} {kp : List Ad} {l : List Ls} {who : ByteArray} {now u : Int} {m : List Ls} (hr : m = (rawOf p kp (live l now) who u).1) : ∀ x ∈ m, x.who = who ∨ x ∈ l := by
 intro x hx
 subst hr
 unfold rawOf at hx
 cases hf : firstF (whoP who) (live l now) with
 | some k =>
  rw [hf] at hx
  obtain ⟨e, he, hq, _⟩ := firstF_some hf
  simp only [keepOn, he] at hx
  rcases mem_setQ hx with hx | rfl
  ·exact .inr (live_mem hx).1
  ·exact .inl (by simpa [whoP] using hq)
 | none =>
  rw [hf] at hx
  cases hfr : freeOf p kp (live l now) with
  | none => rw [hfr] at hx; cases hx
  | some b =>
   rw [hfr] at hx
   rcases mem_ins.1 hx with hx | rfl
   ·exact .inr (live_mem hx).1
   ·exact .inl rfl
theorem away_no {p : Pf} {ls : List Ls} {who : ByteArray} (h : awayB p ls who = false) (hw : ls.Pairwise fun x y => x.who ≠ y.who) : ∀ x ∈ othL p ls, x.who ≠ who := by
 intro x hx he
 obtain ⟨h1, h2⟩ := List.mem_filter.1 hx
 obtain ⟨k, hk, hk2⟩ := who_at hw h1
 unfold awayB at h
 rw [← he, hk] at h
 simp only [hk2] at h
 rw [h] at h2
 cases h2
theorem doOf_ok {ps : List Pf} {ks : List (List Ad)} {ls : List Ls} {now : Int} (h : StOk ps ks ls now) {o : Oq} (ho : o.In) {ps' : List Pf} {ks' : List (List Ad)} {ls' : List Ls} {now' : Int} {a : Ad} (he : doOf ps ks ls now o = okS ps' ks' ls' now' a) : StOk ps' ks' ls' now' ∧ now ≤ now' := by
 have hno : ∀ {e : Int}, e ≠ 0 → errS e = okS ps' ks' ls' now' a → StOk ps' ks' ls' now' ∧ now ≤ now' := fun hn he => absurd (congrArg (fun y => y.2.2.1) he) hn
 have hok : ∀ {p1 : List Pf} {k1 : List (List Ad)} {l1 : List Ls} {n1 : Int} {a1 : Ad}, okS p1 k1 l1 n1 a1 = okS ps' ks' ls' now' a → StOk p1 k1 l1 n1 → now ≤ n1 → StOk ps' ks' ls' now' ∧ now ≤ now' := fun he h1 h2 => by
  unfold okS at he
  simp only [Prod.mk.injEq] at he
  obtain ⟨⟨⟨rfl, rfl⟩, rfl, rfl, _⟩, _⟩ := he
  exact ⟨h1, h2⟩
 unfold doOf at he
 split at he
 ·rename_i hf; exact hno hf he
 rename_i hf
 have hf := Decidable.not_not.1 hf
 split at he
 ·rename_i hk
  obtain ⟨c1, c2⟩ := form_pool hf hk
  unfold doPool at he
  split at he
  ·exact hno (by decide) he
  rename_i ha
  split at he
  ·exact hno (by decide) he
  rename_i h3
  exact hok he (ok_pool h ho.2.1 c1 c2 (by simpa using ha) h3) (Int.le_refl _)
 split at he
 ·rename_i hk
  unfold doKeep at he
  split at he
  ·exact hno (by decide) he
  rename_i i hi
  split at he
  ·exact hno (by decide) he
  rename_i ha
  split at he
  ·exact hno (by decide) he
  rename_i h6
  exact hok he (ok_keep h ho.2.2.1 (form_keep hf hk) hi (Bool.eq_false_iff.2 ha) h6) (Int.le_refl _)
 split at he
 ·rename_i hk
  obtain ⟨g1, g2⟩ := form_grant hf hk
  have hw := form_who hf (.inl hk)
  unfold doGrant at he
  split at he
  ·exact hno (by decide) he
  rename_i p hp
  split at he
  ·exact hno (by decide) he
  rename_i haw
  split at he
  ·exact hno (by decide) he
  rename_i hr
  split at he
  ·exact hno (by decide) he
  rename_i h20
  have gv := grantR_given h hp ho.2.2.2.1 hw g2 hr
  refine hok he (ok_grant h hp gv (fun x hx y hy e => ?_) (by omega)) (Int.le_refl _)
  rcases given_who rfl x hx with hx | hx
  ·exact away_no (by simpa using haw) h.who y hy (by rw [← e, hx])
  ·obtain ⟨x1, x2⟩ := List.mem_filter.1 hx
   obtain ⟨y1, y2⟩ := List.mem_filter.1 hy
   obtain ⟨i, hi, hi2⟩ := who_at h.who x1
   obtain ⟨j, hj, hj2⟩ := who_at h.who y1
   rw [e, hj] at hi
   injection hi with hi
   subst hi
   rw [hj2] at hi2
   injection hi2 with hi2
   rw [hi2, x2] at y2
   cases y2
 split at he
 ·unfold doFree at he
  split at he
  ·exact hno (by decide) he
  rename_i i hi
  split at he
  ·exact hok he (ok_free h (by
    have := List.eraseIdx_sublist ls i
    rwa [List.eraseIdx_eq_take_drop_succ] at this) (Int.le_refl _) h.time (fun x hx => h.upto x (by
    have hs := List.eraseIdx_sublist ls i
    rw [List.eraseIdx_eq_take_drop_succ] at hs
    exact hs.subset hx))) (Int.le_refl _)
  ·exact hno (by decide) he
 ·rename_i k1 k2 k3 k4
  unfold doTick at he
  split at he
  ·exact hno (by decide) he
  rename_i hn
  have hk := form_kind hf
  exact hok he (ok_free h List.filter_sublist (by omega) (form_tick hf (by omega)) (fun x hx => (live_mem hx).2)) (by omega)
end Go.Ma
namespace Go.Ma
open Go
structure StIn (ps : List Pf) (ks : List (List Ad)) (ls : List Ls) : Prop where
 p : rowIn .pfx ps
 len : ks.length = ps.length
 k : ∀ l ∈ ks, rowIn .addr l
 l : rowIn .lease ls
theorem StOk.fit {ps : List Pf} {ks : List (List Ad)} {ls : List Ls} {now : Int} (h : StOk ps ks ls now) : fitS ps ks ls := by
 have h1 := h.plen
 have h2 := h.llen
 refine ⟨by omega, fun i => ?_, by omega⟩
 by_cases hi : i < ps.length
 ·have := h.kept (List.getElem?_eq_getElem hi)
  omega
 ·rw [List.getD_eq_getElem?_getD, List.getElem?_eq_none (by rw [h.klen]; omega)]
  simp
theorem doOf_two (ps : List Pf) (ks : List (List Ad)) (ls : List Ls) (now : Int) (o : Oq) : (∃ e, e ≠ 0 ∧ doOf ps ks ls now o = errS e) ∨ ∃ ps' ks' ls' now' a, doOf ps ks ls now o = okS ps' ks' ls' now' a := by
 by_cases h : (doOf ps ks ls now o).2.2.1 = 0
 ·right
  generalize doOf ps ks ls now o = y at h ⊢
  obtain ⟨⟨⟨p, k⟩, l, n, _⟩, a, e, _⟩ := y
  simp only at h
  subst h
  exact ⟨p, k, l, n, a, rfl⟩
 ·exact .inl ⟨_, h, doOf_err h⟩
end Go.Ma
namespace Go.Ma
open Go
def beginsB (a b : List En) : Bool := decide (a.length ≤ b.length) && decide (a = b.take a.length)
theorem is_loop (a b v3 : List En) (ha : a.length = b.length) (hl : a.length < 9223372036854775808) :
  loopN zq56 FUEL (((), (), (), (lenL a, ()), (0, ()), ()), (a, v3, b, ())) =
   some (if a.drop 0 = b.drop 0 then Sum.inr ((), (a, v3, b, ())) else Sum.inl ((((false : Bool), ()), ()), (a, v3, b, ()))) := by
 refine loop_up (step := zq56) (fun i => (((), (), (), (lenL a, ()), ((i : Int), ()), ()), (a, v3, b, ()))) a.length (fun i => some (if a.drop i = b.drop i then Sum.inr ((), (a, v3, b, ())) else Sum.inl ((((false : Bool), ()), ()), (a, v3, b, ())))) (fun rec i hi hr => ?_) (fun rec => ?_) FUEL 0 (Nat.zero_le _) (fuel_gt (by omega))
 ·obtain ⟨e, he⟩ : ∃ e, a[i]? = some e := ⟨_, List.getElem?_eq_getElem hi⟩
  obtain ⟨e', he'⟩ : ∃ e, b[i]? = some e := ⟨_, List.getElem?_eq_getElem (by omega)⟩
  simp only [zq56, log_Is_1_t]
  rw [decide_eq_true (show (i : Int) < lenL a by unfold lenL; omega), br_true, req_of (zq33 (by omega) (by unfold lenL; omega)), geti_at he, bind_s, req_of (zq33 (by omega) (by unfold lenL; omega)), geti_at he', bind_s, bind_s, eqEn_eq, drop_cons he, drop_cons he']
  by_cases hee : e = e'
  ·rw [decide_eq_true hee, Bool.not_true, br_false, show ((i : Int) + 1) = ((i + 1 : Nat) : Int) by omega, req_of (i64ok_of (by omega) (by omega)), hr]
   subst hee
   simp
  ·rw [decide_eq_false hee, Bool.not_false, br_true]
   simp [hee]
 ·simp only [zq56]
  rw [decide_eq_false (show ¬ (a.length : Int) < lenL a by unfold lenL; omega), br_false, List.drop_of_length_le (Nat.le_refl _), List.drop_of_length_le (show b.length ≤ a.length by omega)]
  rfl
theorem subL_take (l : List En) (n : Nat) : subL l 0 (n : Int) = l.take n := by simp [subL]
theorem log_Is_eq {a b : List En} (hl : a.length < 9223372036854775808) : log_Is_t a b = some (beginsB a b, ()) := by
 unfold log_Is_t beginsB
 by_cases h : a.length ≤ b.length
 rotate_left
 ·rw [decide_eq_false (show ¬ lenL a ≤ lenL b by unfold lenL; omega), br_false, decide_eq_false h, Bool.false_and]
 have e1 : subL b 0 (lenL a) = b.take a.length := subL_take b a.length
 have e2 : (b.take a.length).length = a.length := by rw [List.length_take]; omega
 rw [decide_eq_true (show lenL a ≤ lenL b by unfold lenL; omega), br_true, req_of (by rw [Bool.and_true, decide_eq_true_eq]; exact zq55 a), e1, decide_eq_true (show lenL a = lenL (b.take a.length) by unfold lenL; rw [e2]), Bool.not_true, br_false, is_loop a _ b e2.symm hl, bind_s, List.drop_zero, List.drop_zero, decide_eq_true h, Bool.true_and]
 by_cases he : a = b.take a.length
 ·rw [if_pos he, decide_eq_true he]; rfl
 ·rw [if_neg he, decide_eq_false he]; rfl
def behindOf (a b : List En) (m : Int) : List En := (b.drop a.length).take m.toNat
theorem ship_Behind_eq {a b : List En} {m : Int} (ha : a.length ≤ 30) (hb : b.length ≤ 30) (h : a.length ≤ b.length) (h0 : 0 ≤ m) (h1 : m ≤ 30) : ship_Behind_t a b m = some (behindOf a b m, ()) := by
 unfold ship_Behind_t behindOf
 have e0 : minI (lenL b) (lenL a + m) = ((min b.length (a.length + m.toNat) : Nat) : Int) := by
  unfold minI lenL
  split <;> omega
 have e1 : subL b (lenL a) (minI (lenL b) (lenL a + m)) = (b.drop a.length).take m.toNat := by
  rw [e0]
  unfold subL lenL
  rw [Int.toNat_natCast, Int.toNat_natCast, List.drop_take]
  by_cases hc : b.length ≤ a.length + m.toNat
  ·rw [List.take_of_length_le (by rw [List.length_drop]; omega), List.take_of_length_le (by rw [List.length_drop]; omega)]
  ·congr 1
   omega
 rw [req_of (i64ok_of (by unfold lenL; omega) (by unfold lenL; omega)), req_of (by rw [e0]; unfold lenL; simp; omega), e1, clone_eq (by rw [List.length_take, List.length_drop]; omega), bind_s]
def beginsT (a b : List En) : Bool × Int × Unit := if chkLog a ≠ 0 then (false, chkLog a, ()) else if chkLog b ≠ 0 then (false, chkLog b, ()) else (beginsB a b, 0, ())
theorem log_Begins_eq {a b : List En} (ha : logIn a) (hb : logIn b) : log_Begins_t a b = some (beginsT a b) := by
 unfold log_Begins_t beginsT
 rw [log_Check_eq ha, bind_s]
 by_cases h1 : chkLog a = 0
 ·have hl := chkLog_len h1
  rw [decide_eq_true (show (chkLog a, ()).1 = 0 from h1), Bool.not_true, br_false, if_neg (fun h => h h1), log_Check_eq hb, bind_s]
  by_cases h2 : chkLog b = 0
  ·rw [decide_eq_true (show (chkLog b, ()).1 = 0 from h2), Bool.not_true, br_false, if_neg (fun h => h h2), log_Is_eq (by omega), bind_s]
  ·rw [decide_eq_false (show ¬ (chkLog b, ()).1 = 0 from h2), Bool.not_false, br_true, if_pos h2]
 ·rw [decide_eq_false (show ¬ (chkLog a, ()).1 = 0 from h1), Bool.not_false, br_true, if_pos h1]
theorem begins_len {a b : List En} (h : beginsB a b = true) : a.length ≤ b.length := by
 unfold beginsB at h
 simp only [Bool.and_eq_true, decide_eq_true_eq] at h
 exact h.1
end Go.Ma
namespace Go.Ma
open Go
def stepS (s : StV) (o : Oq) : StV × Ad := (if (doOf s.1.1 s.1.2 s.2.1 s.2.2.1 o).2.2.1 = 0 then (doOf s.1.1 s.1.2 s.2.1 s.2.2.1 o).1 else s, (doOf s.1.1 s.1.2 s.2.1 s.2.2.1 o).2.1)
def replayS : StV → List En → StV
 | s, [] => s
 | s, e :: r => replayS (stepS s e.op).1 r
def replayA : StV → List En → List Ad
 | _, [] => []
 | s, e :: r => (stepS s e.op).2 :: replayA (stepS s e.op).1 r
theorem replayS_snoc : ∀ (l : List En) (s : StV) (e : En), replayS s (l ++ [e]) = (stepS (replayS s l) e.op).1
 | [], _, _ => rfl
 | x :: r, s, e => replayS_snoc r _ e
theorem replayA_snoc : ∀ (l : List En) (s : StV) (e : En), replayA s (l ++ [e]) = replayA s l ++ [(stepS (replayS s l) e.op).2]
 | [], _, _ => rfl
 | x :: r, s, e => by
  show _ :: replayA _ (r ++ [e]) = _
  rw [replayA_snoc r _ e]
  rfl
theorem replayA_len : ∀ (l : List En) (s : StV), (replayA s l).length = l.length
 | [], _ => rfl
 | x :: r, s => by simp [replayA, replayA_len r]
def StOkV (s : StV) : Prop := StOk s.1.1 s.1.2 s.2.1 s.2.2.1
theorem noSt_ok : StOkV noSt := stOk_of pfs_nil kps_nil lsIn_nil rfl sc0
theorem step_ok {s : StV} (h : StOkV s) {o : Oq} (ho : o.In) : StOkV (stepS s o).1 := by
 unfold stepS
 simp only
 rcases doOf_two s.1.1 s.1.2 s.2.1 s.2.2.1 o with ⟨e, he, h1⟩ | ⟨p, k, l, n, a, h1⟩
 ·rw [h1, if_neg (show ¬ (errS e).2.2.1 = 0 from he)]; exact h
 ·rw [h1, if_pos (show (okS p k l n a).2.2.1 = 0 from rfl)]
  exact (doOf_ok h ho h1).1
theorem replay_ok : ∀ {l : List En} {s : StV}, StOkV s → logIn l → StOkV (replayS s l)
 | [], _, h, _ => h
 | e :: r, s, h, hl => by
  show StOkV (replayS (stepS s e.op).1 r)
  exact replay_ok (step_ok h (hl e List.mem_cons_self).2.2) fun x hx => hl x (List.mem_cons_of_mem _ hx)
theorem take_in {l : List En} (h : logIn l) (i : Nat) : logIn (l.take i) := fun e he => h e (List.mem_of_mem_take he)
theorem takeE_at {l : List En} {i : Nat} {x : En} (h : l[i]? = some x) : l.take (i + 1) = l.take i ++ [x] := by
 have hi := (List.getElem?_eq_some_iff.1 h).1
 rw [List.take_succ_eq_append_getElem hi, (List.getElem?_eq_some_iff.1 h).2]
abbrev DRp := List En × (Int × Unit) × (Int × Unit) × List Pf × List Ls × List Pf × List Ls × List Ad × List (List Ad) × List (List Ad) × Unit
theorem log_All_eq {l : List En} (h : logIn l) (hlen : l.length ≤ 30) : log_All_t l = some (replayS noSt l, replayA noSt l, ()) := by
 unfold log_All_t
 have := loop_up (step := log_All_L3) (fun i => (((), (), (), (lenL l, ()), ((i : Int), ()), ()), ((l, (0, ()), ((replayS noSt (l.take i)).2.2.1, ()), ([] : List Pf), ([] : List Ls), (replayS noSt (l.take i)).1.1, (replayS noSt (l.take i)).2.1, replayA noSt (l.take i), ([] : List (List Ad)), (replayS noSt (l.take i)).1.2, ()) : DRp))) l.length
  (fun _ => some (((), (), ()), ((l, (0, ()), ((replayS noSt l).2.2.1, ()), ([] : List Pf), ([] : List Ls), (replayS noSt l).1.1, (replayS noSt l).2.1, replayA noSt l, ([] : List (List Ad)), (replayS noSt l).1.2, ()) : DRp))) (fun rec i hi hr => ?_) (fun rec => ?_) FUEL 0 (Nat.zero_le _) (fuel_gt (by omega))
 ·rw [show ((0 : Nat) : Int) = 0 from rfl, List.take_zero] at this
  have this : loopN log_All_L3 FUEL (((), (), (), (lenL l, ()), (0, ()), ()), (l, (0, ()), (0, ()), ([] : List Pf), ([] : List Ls), ([] : List Pf), ([] : List Ls), ([] : List Ad), ([] : List (List Ad)), ([] : List (List Ad)), ())) = _ := this
  rw [this, bind_s]
 ·obtain ⟨x, hx⟩ : ∃ e, l[i]? = some e := ⟨_, List.getElem?_eq_getElem hi⟩
  have hok : StOkV (replayS noSt (l.take i)) := replay_ok noSt_ok (take_in h i)
  have hrw := state_Raw_eq hok (h x (List.mem_of_getElem? hx)).2.2
  have e1 : replayS noSt (l.take (i + 1)) = (stepS (replayS noSt (l.take i)) x.op).1 := by rw [takeE_at hx, replayS_snoc]
  have e2 : replayA noSt (l.take (i + 1)) = replayA noSt (l.take i) ++ [(stepS (replayS noSt (l.take i)) x.op).2] := by rw [takeE_at hx, replayA_snoc]
  rw [e1, e2] at hr
  have hal := replayA_len (l.take i) noSt
  generalize replayS noSt (l.take i) = s at hrw hr hok ⊢
  generalize replayA noSt (l.take i) = out at hr hal ⊢
  have hol : out.length ≤ i := by rw [hal]; simp; omega
  simp only [log_All_L3]
  rw [decide_eq_true (show (i : Int) < lenL l by unfold lenL; omega), br_true, req_of (zq33 (by omega) (by unfold lenL; omega)), geti_at hx, bind_s]
  simp only [dup_eq, both_self]
  rw [hrw, bind_s, req_of (room_of (zq55 _) (by simp [lenL]) (by unfold lenL; simp; omega)), req_of (room_of (zq55 _) (by simp [lenL]) (by unfold lenL; simp; omega)), req_of (i64ok_of (by omega) (by omega)), req_of (i64ok_of (by omega) (by omega)), show ((i : Int) + 1) = ((i + 1 : Nat) : Int) by omega]
  unfold stepS at hr
  simp only at hr
  by_cases h0 : (doOf s.1.1 s.1.2 s.2.1 s.2.2.1 x.op).2.2.1 = 0
  ·simp only [h0, if_true] at hr
   rw [decide_eq_true h0, br_true, hr]
  ·simp only [h0, if_false] at hr
   rw [decide_eq_false h0, br_false, hr]
 ·simp only [log_All_L3]
  rw [decide_eq_false (show ¬ (l.length : Int) < lenL l by unfold lenL; omega), br_false, List.take_length]
def replayT (l : List En) : StV × List Ad × Int × Unit := if chkLog l ≠ 0 then (noSt, [], chkLog l, ()) else (replayS noSt l, replayA noSt l, 0, ())
theorem log_Replay_eq {l : List En} (h : logIn l) : log_Replay_t l = some (replayT l) := by
 unfold log_Replay_t replayT
 rw [log_Check_eq h, bind_s]
 by_cases hc : chkLog l = 0
 ·rw [decide_eq_true hc, Bool.not_true, br_false, if_neg (fun hh => hh hc), log_All_eq h (chkLog_len hc), bind_s]
 ·rw [decide_eq_false hc, Bool.not_false, br_true, if_pos hc]; rfl
def addT (l : List En) (ep : Int) (o : Oq) : List En × Int × Unit := if chkLog l ≠ 0 then ([], chkLog l, ()) else moreOf l ep o
theorem log_Add_eq {l : List En} (h : logIn l) (ep : Int) {o : Oq} (ho : o.In) : log_Add_t l ep o = some (addT l ep o) := by
 unfold log_Add_t addT
 rw [log_Check_eq h, bind_s]
 by_cases hc : chkLog l = 0
 ·rw [decide_eq_true hc, Bool.not_true, br_false, if_neg (fun hh => hh hc), log_More_eq (chkLog_len hc) ep ho, bind_s]
 ·rw [decide_eq_false hc, Bool.not_false, br_true, if_pos hc]
theorem more_ok {l : List En} {ep : Int} {o : Oq} (h : (moreOf l ep o).2.1 = 0) : betw ep 1 999 = true ∧ prevE l l.length ≤ ep ∧ formO o = 0 ∧ l.length ≠ 30 ∧ (moreOf l ep o).1 = l ++ [⟨lenL l + 1, ep, o⟩] := by
 unfold moreOf at h ⊢
 split at h
 ·cases h
 rename_i h1
 split at h
 ·cases h
 rename_i h2
 split at h
 ·rename_i h3; exact absurd h h3
 rename_i h3
 split at h
 ·cases h
 rename_i h4
 refine ⟨by simpa using h1, by omega, Decidable.not_not.1 h3, h4, ?_⟩
 rw [if_neg h1, if_neg h2, if_neg h3, if_neg h4]
theorem lb_add : addT ents 4 op3 = (ents4, 0, ()) := by decide +kernel
theorem lb_add3 : addT ents 3 op3 = ([], 4, ()) := by decide +kernel
theorem lb_rep : replayT ents4 = (((sP, sK), sL, 0, ()), [⟨false, 0, 0⟩, ⟨false, 0, 0⟩, ⟨false, 0, 9⟩, ⟨false, 0, 9⟩], 0, ()) := by decide +kernel
theorem lb_beg : beginsT ents ents4 = (true, 0, ()) := by decide +kernel
theorem lb_chk : chkLog ents = 0 := by decide +kernel
theorem ents4_in : logIn ents4 := fun e he => by
 rcases List.mem_append.1 he with he | he
 ·exact ents_in e he
 ·simp only [List.mem_singleton] at he
  subst he
  exact ⟨⟨by decide, by decide⟩, ⟨by decide, by decide⟩, op_in.2.2⟩
theorem logBegun_eq : law_logBegun_t = some (true, ()) := by
 unfold law_logBegun_t
 have e1 := log_Add_eq ents_in 4 op_in.2.2
 have e2 := log_Add_eq ents_in 3 op_in.2.2
 have e3 := log_Replay_eq ents4_in
 have e4 := log_Begins_eq ents_in ents4_in
 have e5 := log_Check_eq ents_in
 rw [lb_add] at e1
 rw [lb_add3] at e2
 rw [lb_rep] at e3
 rw [lb_beg] at e4
 rw [lb_chk] at e5
 simp only [entries_eq, some_eq, bind_s]
 rw [req_of in2, get2, bind_s, e1, bind_s]
 simp only
 rw [e3, bind_s, e4, bind_s, req_of in2, bind_s, e2, bind_s, e5, bind_s]
 rfl
theorem beqB_eq (x : Bool) : beqB x x = true := by cases x <;> rfl
def enOk (l : List En) (j : Nat) (e : En) : Prop := e.num = (j : Int) + 1 ∧ betw e.epoch 1 999 = true ∧ prevE l j ≤ e.epoch ∧ formO e.op = 0
theorem chkLogF_iff (l : List En) : ∀ (k i : Nat), l.length - i ≤ k → (chkLogF (l.drop i) (i : Int) (prevE l i) = 0 ↔ ∀ j e, i ≤ j → l[j]? = some e → enOk l j e)
 | 0, i, hk => by
  rw [List.drop_of_length_le (by omega)]
  refine ⟨fun _ j e hij hj => ?_, fun _ => rfl⟩
  have := (List.getElem?_eq_some_iff.1 hj).1
  omega
 | k + 1, i, hk => by
  by_cases hi : i < l.length
  rotate_left
  ·rw [List.drop_of_length_le (by omega)]
   refine ⟨fun _ j e hij hj => ?_, fun _ => rfl⟩
   have := (List.getElem?_eq_some_iff.1 hj).1
   omega
  obtain ⟨x, hx⟩ : ∃ e, l[i]? = some e := ⟨_, List.getElem?_eq_getElem hi⟩
  have ih := chkLogF_iff l k (i + 1) (by omega)
  rw [show prevE l (i + 1) = x.epoch by simp only [prevE, hx]] at ih
  rw [drop_cons hx, chkLogF]
  have key : enOk l i x ∧ (∀ j e, i + 1 ≤ j → l[j]? = some e → enOk l j e) ↔ ∀ j e, i ≤ j → l[j]? = some e → enOk l j e := by
   constructor
   ·rintro ⟨h1, h2⟩ j e hij hj
    by_cases hji : j = i
    ·subst hji; rw [hx] at hj; injection hj with hj; subst hj; exact h1
    ·exact h2 j e (by omega) hj
   ·intro h
    exact ⟨h i x (Nat.le_refl _) hx, fun j e hij hj => h j e (by omega) hj⟩
  rw [← key]
  by_cases h1 : x.num = (i : Int) + 1
  rotate_left
  ·rw [if_pos h1]; exact ⟨fun h => (by cases h), fun h => absurd h.1.1 h1⟩
  rw [if_neg (fun hh => hh h1)]
  by_cases h2 : betw x.epoch 1 999 = true
  rotate_left
  ·rw [if_pos (by simpa using h2)]; exact ⟨fun h => (by cases h), fun h => absurd h.1.2.1 h2⟩
  rw [if_neg (by simp [h2])]
  by_cases h3 : x.epoch < prevE l i
  ·rw [if_pos h3]; exact ⟨fun h => (by cases h), fun h => absurd h.1.2.2.1 (by omega)⟩
  rw [if_neg h3]
  by_cases h4 : formO x.op = 0
  rotate_left
  ·rw [if_pos h4]; exact ⟨fun h => absurd h h4, fun h => absurd h.1.2.2.2 h4⟩
  rw [if_neg (fun hh => hh h4), show ((i : Int) + 1) = ((i + 1 : Nat) : Int) by omega, ih]
  exact ⟨fun h => ⟨⟨by omega, h2, by omega, h4⟩, h⟩, fun h => h.2⟩
theorem chkLog_iff {l : List En} : chkLog l = 0 ↔ l.length ≤ 30 ∧ ∀ j e, l[j]? = some e → enOk l j e := by
 unfold chkLog
 by_cases h : l.length > 30
 ·rw [if_pos h]; exact ⟨fun h => (by cases h), fun h2 => absurd h2.1 (by omega)⟩
 ·rw [if_neg h]
  have := chkLogF_iff l l.length 0 (by omega)
  rw [List.drop_zero] at this
  have this : chkLogF l 0 0 = 0 ↔ _ := this
  rw [this]
  exact ⟨fun g => ⟨by omega, fun j e hj => g j e (Nat.zero_le _) hj⟩, fun g j e _ hj => g.2 j e hj⟩
theorem prevE_take {l : List En} {n j : Nat} (h : j ≤ n) : prevE (l.take n) j = prevE l j := by
 cases j with
 | zero => rfl
 | succ j => simp only [prevE, List.getElem?_take, if_pos (show j < n by omega)]
theorem chkLog_take {l : List En} (h : chkLog l = 0) (n : Nat) : chkLog (l.take n) = 0 := by
 obtain ⟨h1, h2⟩ := chkLog_iff.1 h
 refine chkLog_iff.2 ⟨by rw [List.length_take]; omega, fun j e hj => ?_⟩
 rw [List.getElem?_take] at hj
 split at hj
 ·rename_i hjn
  obtain ⟨g1, g2, g3, g4⟩ := h2 j e hj
  exact ⟨g1, g2, by rw [prevE_take (by omega)]; exact g3, g4⟩
 ·cases hj
theorem beginsB_take {l : List En} {n m : Nat} (h : n ≤ m) (hm : m ≤ l.length) : beginsB (l.take n) (l.take m) = true := by
 unfold beginsB
 rw [List.length_take, List.length_take, Nat.min_eq_left (by omega), Nat.min_eq_left hm, decide_eq_true h, List.take_take, Nat.min_eq_left h]
 simp
end Go.Ma
namespace Go.Ma
open Go
theorem prevE_app {l m : List En} {j : Nat} (h : j ≤ l.length) : prevE (l ++ m) j = prevE l j := by
 cases j with
 | zero => rfl
 | succ j => simp only [prevE]; rw [List.getElem?_append_left (by omega)]
theorem more_right {l : List En} (hc : chkLog l = 0) {ep : Int} {o : Oq} (h : (moreOf l ep o).2.1 = 0) : chkLog (l ++ [⟨lenL l + 1, ep, o⟩]) = 0 := by
 obtain ⟨m1, m2, m3, m4, _⟩ := more_ok h
 obtain ⟨c1, c2⟩ := chkLog_iff.1 hc
 refine chkLog_iff.2 ⟨by simp; omega, fun j e hj => ?_⟩
 by_cases hjl : j < l.length
 ·rw [List.getElem?_append_left hjl] at hj
  obtain ⟨g1, g2, g3, g4⟩ := c2 j e hj
  exact ⟨g1, g2, by rw [prevE_app (by omega)]; exact g3, g4⟩
 ·have hlt := (List.getElem?_eq_some_iff.1 hj).1
  have : j = l.length := by simp at hlt; omega
  subst this
  rw [List.getElem?_append_right (Nat.le_refl _), Nat.sub_self] at hj
  simp only [List.getElem?_cons_zero, Option.some.injEq] at hj
  subst hj
  exact ⟨rfl, m1, by rw [prevE_app (Nat.le_refl _)]; exact m2, m3⟩
theorem beginsB_app (l m : List En) : beginsB l (l ++ m) = true := by
 unfold beginsB
 rw [decide_eq_true (show l.length ≤ (l ++ m).length by simp), List.take_left]
 simp
theorem begins_eq {a b : List En} (h : beginsB a b = true) : a = b.take a.length := by
 unfold beginsB at h
 rw [Bool.and_eq_true] at h
 exact of_decide_eq_true h.2
theorem behind_take (l : List En) (k : Nat) (hk : k ≤ l.length) (m : Nat) : behindOf (l.take k) l (m : Int) = (l.drop k).take m ∧ l.take k ++ (l.drop k).take m = l.take (k + m) := by
 unfold behindOf
 rw [List.length_take, Nat.min_eq_left hk, Int.toNat_natCast]
 refine ⟨rfl, ?_⟩
 rw [List.take_add]
theorem write_disk {ep h u : Int} {l : List En} {o : Oq} (hc : chkDisk ep h u l = 0) (hm : (moreOf l ep o).2.1 = 0) : chkDisk ep h u (l ++ [⟨lenL l + 1, ep, o⟩]) = 0 := by
 obtain ⟨h1, h2, h3, h4, h5, h6⟩ := chkDisk_ok hc
 unfold chkDisk
 rw [if_neg, if_neg, if_neg (fun h => h (more_right h5 hm)), if_neg]
 ·rw [List.any_append, h6]; simp
 ·rintro (⟨g, g2⟩ | ⟨g, g2⟩) <;> omega
 ·simp only [not_or, Bool.not_eq_false, betw_iff]
  omega
theorem app1_in {l : List En} (h : logIn l) {n ep : Int} (hn : i64In n) (he : i64In ep) {o : Oq} (ho : o.In) : logIn (l ++ [⟨n, ep, o⟩]) := fun e hm => by
 rcases List.mem_append.1 hm with hm | hm
 ·exact h e hm
 ·simp only [List.mem_singleton] at hm
  subst hm
  exact ⟨hn, he, ho⟩
end Go.Ma
namespace Go.Ma
open Go
abbrev CluV := Int × Int × Int × Int × List En × (List Int × List (List En)) × Unit
def chkNode (ep : Int) (l : List En) (e : Int) (c : List En) : Int := if betw e 0 ep = false then 3 else if chkLog c ≠ 0 then chkLog c else if beginsB c l = false then 4 else 0
def chkN (ep h : Int) (l : List En) (a b : Int) (x y : List En) : Int :=
 if chkNode ep l a x ≠ 0 then chkNode ep l a x else if chkNode ep l b y ≠ 0 then chkNode ep l b y else if a ≠ 0 ∧ a = b then 4 else if a ≠ 0 ∧ a = ep ∧ h ≠ 1 then 4 else if b ≠ 0 ∧ b = ep ∧ h ≠ 2 then 4 else 0
def chkC (now ep h u : Int) (l : List En) (es : List Int) (cs : List (List En)) : Int :=
 if betw now 0 9999 = false then 3 else if chkDisk ep h u l ≠ 0 then chkDisk ep h u l else
 match es with
 | [a, b] => chkN ep h l a b (cs.getD 0 []) (cs.getD 1 [])
 | _ => 1
theorem cluster_within_eq (x a b : Int) : zq22 x a b = some (betw x a b, ()) := by
 unfold zq22
 rw [br_sb, bind_s, betw_bif]
theorem chkLog_len63 {c : List En} (h : chkLog c = 0) : c.length < 9223372036854775808 := by
 have := chkLog_len h; omega
theorem cluster_node_eq (now ep h u : Int) (l : List En) (ns : List Int × List (List En)) (e : Int) {c : List En} (hc : logIn c) : cluster_node_t now ep h u l ns e c = some (chkNode ep l e c, ()) := by
 unfold cluster_node_t chkNode
 rw [cluster_within_eq, bind_s, log_Check_eq hc, bind_s]
 cases betw e 0 ep
 ·rfl
 simp only [Bool.not_true, br_false, Bool.true_eq_false, if_false]
 by_cases h0 : chkLog c = 0
 rotate_left
 ·rw [decide_eq_false h0, Bool.not_false, br_true, if_pos h0]
 rw [decide_eq_true h0, Bool.not_true, br_false, if_neg (fun hh => hh h0), log_Is_eq (chkLog_len63 h0), bind_s]
 cases beginsB c l <;> rfl
theorem log_at {cs : List (List En)} (h : ∀ c ∈ cs, logIn c) (i : Nat) : logIn (cs.getD i []) := by
 rw [List.getD_eq_getElem?_getD]
 cases hi : cs[i]? with
 | none => exact fun e he => by cases he
 | some c => exact h c (List.mem_of_getElem? hi)
theorem g20 (a b : Int) : geti [a, b] 0 = some a := rfl
theorem g21 (a b : Int) : geti [a, b] 1 = some b := rfl
theorem gl0 (cs : List (List En)) : getL cs 0 = cs.getD 0 [] := rfl
theorem gl1 (cs : List (List En)) : getL cs 1 = cs.getD 1 [] := rfl
theorem dL0 (a b : Int) : decide ((0 : Int) < lenL [a, b]) = true := rfl
theorem dL1 (a b : Int) : decide ((1 : Int) < lenL [a, b]) = true := rfl
theorem dL2 (a b : Int) : decide ((2 : Int) < lenL [a, b]) = false := rfl
theorem iL0 (a b : Int) : inRange 0 (lenL [a, b]) = true := rfl
theorem iL1 (a b : Int) : inRange 1 (lenL [a, b]) = true := rfl
theorem d02 : decide ((0 : Int) < 2) = true := rfl
theorem d12 : decide ((1 : Int) < 2) = true := rfl
theorem d22 : decide ((2 : Int) < 2) = false := rfl
theorem e01 : (0 : Int) + 1 = 1 := rfl
theorem e11 : (1 : Int) + 1 = 2 := rfl
theorem ok1 : i64ok 1 = true := rfl
theorem ok2 : i64ok 2 = true := rfl
theorem fuel3 : ∃ N, FUEL = N + 3 := ⟨FUEL - 3, by unfold FUEL; rfl⟩
section
variable {now ep h u : Int} {l : List En} {cs : List (List En)}
abbrev DC := List En × List (List En) × List Int × (Int × Int × Int × Int × Unit) × Unit
theorem ckc_loop9 (hl : ∀ c ∈ cs, logIn c) (a b : Int) : loopN cluster_Check_L9 FUEL (((), (), (lenL [a, b], ()), (0, ()), ()), ((l, cs, [a, b], (now, ep, h, u, ()), ()) : DC)) =
  some (if chkNode ep l a (cs.getD 0 []) ≠ 0 then Sum.inl (((chkNode ep l a (cs.getD 0 []), ()), ()), (l, cs, [a, b], ())) else if chkNode ep l b (cs.getD 1 []) ≠ 0 then Sum.inl (((chkNode ep l b (cs.getD 1 []), ()), ()), (l, cs, [a, b], ())) else Sum.inr (((), ()), ((l, cs, [a, b], (now, ep, h, u, ()), ()) : DC))) := by
 obtain ⟨N, hN⟩ := fuel3
 have hx : logIn (cs.getD 0 []) := log_at hl 0
 have hy : logIn (cs.getD 1 []) := log_at hl 1
 rw [hN, loopN_succ]
 simp only [cluster_Check_L9, dL0, d02, br_true, iL0, req_true, g20, bind_s, gl0, cluster_node_eq now ep h u l _ a hx, e01, ok1]
 by_cases h1 : chkNode ep l a (cs.getD 0 []) = 0
 rotate_left
 ·rw [decide_eq_false h1, Bool.not_false, br_true, if_pos h1]
 rw [decide_eq_true h1, Bool.not_true, br_false, if_neg (fun hh => hh h1), loopN_succ]
 simp only [cluster_Check_L9, dL1, d12, br_true, iL1, req_true, g21, bind_s, gl1, cluster_node_eq now ep h u l _ b hy, e11, ok2]
 by_cases h2 : chkNode ep l b (cs.getD 1 []) = 0
 rotate_left
 ·rw [decide_eq_false h2, Bool.not_false, br_true, if_pos h2]
 rw [decide_eq_true h2, Bool.not_true, br_false, if_neg (fun hh => hh h2), loopN_succ]
 simp only [cluster_Check_L9, dL2, d22, br_false]
theorem ckc_loop19 (a b : Int) : loopN zq16 FUEL (((), (), (lenL [a, b], ()), (0, ()), ()), ((l, cs, [a, b], (now, ep, h, u, ()), ()) : DC)) =
  some (if a ≠ 0 ∧ a = ep ∧ h ≠ 1 then Sum.inl (((4, ()), ()), (l, cs, [a, b], ())) else if b ≠ 0 ∧ b = ep ∧ h ≠ 2 then Sum.inl (((4, ()), ()), (l, cs, [a, b], ())) else Sum.inr ((), (l, cs, [a, b], ()))) := by
 obtain ⟨N, hN⟩ := fuel3
 have key2 : ∀ {X : Type} (x k : Int) (f : Bool → Option X), (br (!decide (x = 0)) (some (decide (x = ep))) (some false)).bind (fun c2 => (br c2 (some (!decide (h = k))) (some false)).bind f) = f (decide (x ≠ 0 ∧ x = ep ∧ h ≠ k)) := by
  intro X x k f
  have e1 : decide (x ≠ 0 ∧ x = ep ∧ h ≠ k) = (!decide (x = 0) && (decide (x = ep) && !decide (h = k))) := by
   rw [Bool.decide_and, Bool.decide_and, decide_not, decide_not]
  rw [e1]
  cases decide (x = 0) <;> cases decide (x = ep) <;> cases decide (h = k) <;> rfl
 rw [hN, loopN_succ]
 simp only [zq16, dL0, d02, br_true, iL0, req_true, g20, bind_s, e01, ok1, key2]
 by_cases h1 : a ≠ 0 ∧ a = ep ∧ h ≠ 1
 ·rw [decide_eq_true h1, br_true, if_pos h1]
 rw [decide_eq_false h1, br_false, if_neg h1, loopN_succ]
 simp only [zq16, dL1, d12, br_true, iL1, req_true, g21, bind_s, e11, ok2, key2]
 by_cases h2 : b ≠ 0 ∧ b = ep ∧ h ≠ 2
 ·rw [decide_eq_true h2, br_true, if_pos h2]
 rw [decide_eq_false h2, br_false, if_neg h2, loopN_succ]
 simp only [zq16, dL2, d22, br_false]
end
theorem two_of {es : List Int} (h : lenL es = 2) : ∃ a b, es = [a, b] := by
 match es, h with
 | [], h => cases h
 | [_], h => cases h
 | [a, b], _ => exact ⟨a, b, rfl⟩
 | _ :: _ :: _ :: _, h => simp [lenL] at h; omega
theorem chkC_no {now ep h u : Int} {l : List En} {es : List Int} {cs : List (List En)} (h1 : betw now 0 9999 = true) (h2 : chkDisk ep h u l = 0) (h3 : ¬ lenL es = 2) : chkC now ep h u l es cs = 1 := by
 unfold chkC
 rw [h1, if_neg (by simp), if_neg (fun hh => hh h2)]
 split
 ·exact absurd rfl h3
 ·rfl
theorem cluster_Check_eq (now ep h u : Int) {l : List En} (hl : logIn l) (es : List Int) {cs : List (List En)} (hc : ∀ c ∈ cs, logIn c) : zq17 now ep h u l (es, cs) = some (chkC now ep h u l es cs, ()) := by
 unfold zq17
 rw [cluster_within_eq, bind_s, fence_Check_eq ep h u hl, bind_s]
 cases hb : betw now 0 9999
 ·unfold chkC; rw [hb, if_pos rfl]; rfl
 simp only [Bool.not_true, br_false]
 by_cases h2 : chkDisk ep h u l = 0
 rotate_left
 ·rw [decide_eq_false h2, Bool.not_false, br_true]; unfold chkC; rw [hb, if_neg (by simp), if_pos h2]
 rw [decide_eq_true h2, Bool.not_true, br_false]
 by_cases h3 : lenL es = 2
 rotate_left
 ·rw [decide_eq_false h3, Bool.not_false, br_true, chkC_no hb h2 h3]
 obtain ⟨a, b, rfl⟩ := two_of h3
 have e0 : chkC now ep h u l [a, b] cs = chkN ep h l a b (cs.getD 0 []) (cs.getD 1 []) := by unfold chkC; rw [hb, if_neg (by simp), if_neg (fun hh => hh h2)]
 rw [decide_eq_true h3, Bool.not_true, br_false, ckc_loop9 hc, bind_s, e0]
 unfold chkN
 by_cases h4 : chkNode ep l a (cs.getD 0 []) = 0
 rotate_left
 ·rw [if_pos h4, if_pos h4]; rfl
 have n4 : ¬ chkNode ep l a (cs.getD 0 []) ≠ 0 := fun hh => hh h4
 rw [if_neg n4, if_neg n4]
 by_cases h5 : chkNode ep l b (cs.getD 1 []) = 0
 rotate_left
 ·rw [if_pos h5, if_pos h5]; rfl
 have n5 : ¬ chkNode ep l b (cs.getD 1 []) ≠ 0 := fun hh => hh h5
 rw [if_neg n5, if_neg n5]
 simp only [sumC, iL0, iL1, req_true, g20, g21, bind_s]
 have key : ∀ {X : Type} (f : Bool → Option X), (br (!decide (a = 0)) (some (decide (a = b))) (some false)).bind f = f (decide (a ≠ 0 ∧ a = b)) := by
  intro X f
  have e1 : decide (a ≠ 0 ∧ a = b) = (!decide (a = 0) && decide (a = b)) := by rw [Bool.decide_and, decide_not]
  rw [e1]
  cases decide (a = 0) <;> cases decide (a = b) <;> rfl
 rw [key]
 by_cases h6 : a ≠ 0 ∧ a = b
 ·rw [decide_eq_true h6, br_true, if_pos h6]
 rw [decide_eq_false h6, br_false, if_neg h6, ckc_loop19, bind_s]
 by_cases h7 : a ≠ 0 ∧ a = ep ∧ h ≠ 1
 ·rw [if_pos h7, if_pos h7]
 rw [if_neg h7, if_neg h7]
 by_cases h8 : b ≠ 0 ∧ b = ep ∧ h ≠ 2
 ·rw [if_pos h8, if_pos h8]
 rw [if_neg h8, if_neg h8]
def evF (k k1 k3 k4 w0 n0 o0 w n30 nt : Bool) : Int :=
 bif !k then 7 else bif (k1 && !w0) || (!k1 && !k4 && !n0) || (!k3 && !o0) then 1 else bif (!k1 && !w) || (k4 && !n30) || (k1 && !nt) then 3 else 0
def noOq : Oq := ⟨0, ⟨⟨false, 0, 0⟩, 0⟩, ⟨false, 0, 0⟩, ByteArray.empty, 0, 0⟩
def formE (now : Int) (x : Ev) : Int := evF (betw x.kind 1 5) (decide (x.kind = 1)) (decide (x.kind = 3)) (decide (x.kind = 4)) (decide (x.who = 0)) (decide (x.n = 0)) (eqOq x.op noOq) (betw x.who 1 2) (betw x.n 0 30) (betw x.n 0 (9999 - now))
theorem cluster_form_eq {now : Int} (h0 : 0 ≤ now) (h1 : now ≤ 9999) (x : Ev) : cluster_form_t now x = some (formE now x, ()) := by
 have hr : i64ok (9999 - now) = true := i64ok_of (by omega) (by omega)
 unfold cluster_form_t formE
 simp only [cluster_within_eq, bind_s, hr, req_true]
 rw [show (⟨0, ⟨⟨false, 0, 0⟩, 0⟩, ⟨false, 0, 0⟩, ByteArray.empty, 0, 0⟩ : Oq) = noOq from rfl]
 generalize betw x.kind 1 5 = k
 generalize decide (x.kind = 1) = k1
 generalize decide (x.kind = 3) = k3
 generalize decide (x.kind = 4) = k4
 generalize decide (x.who = 0) = w0
 generalize decide (x.n = 0) = n0
 generalize eqOq x.op noOq = o0
 generalize betw x.who 1 2 = w
 generalize betw x.n 0 30 = n30
 generalize betw x.n 0 (9999 - now) = nt
 clear hr
 revert k k1 k3 k4 w0 n0 o0 w n30 nt
 decide +kernel
end Go.Ma
namespace Go.Ma
open Go
structure COk (now ep h u : Int) (l : List En) (a b : Int) (x y : List En) : Prop where
 time : 0 ≤ now ∧ now ≤ 9999
 disk : chkDisk ep h u l = 0
 n1 : chkNode ep l a x = 0
 n2 : chkNode ep l b y = 0
 ne : ¬ (a ≠ 0 ∧ a = b)
 o1 : ¬ (a ≠ 0 ∧ a = ep ∧ h ≠ 1)
 o2 : ¬ (b ≠ 0 ∧ b = ep ∧ h ≠ 2)
theorem chkC_iff {now ep h u : Int} {l : List En} {a b : Int} {x y : List En} : chkC now ep h u l [a, b] [x, y] = 0 ↔ COk now ep h u l a b x y := by
 have e0 : ([x, y] : List (List En)).getD 0 [] = x := rfl
 have e1 : ([x, y] : List (List En)).getD 1 [] = y := rfl
 unfold chkC chkN
 simp only [e0, e1]
 cases hb : betw now 0 9999
 ·rw [if_pos rfl]
  exact ⟨(fun hh => by cases hh), fun hh => by rw [betw_iff.2 hh.time] at hb; cases hb⟩
 rw [if_neg (by simp)]
 by_cases h2 : chkDisk ep h u l = 0
 rotate_left
 ·rw [if_pos h2]; exact ⟨fun hh => absurd hh h2, fun hh => absurd hh.disk h2⟩
 rw [if_neg (fun hh => hh h2)]
 by_cases h3 : chkNode ep l a x = 0
 rotate_left
 ·rw [if_pos h3]; exact ⟨fun hh => absurd hh h3, fun hh => absurd hh.n1 h3⟩
 rw [if_neg (fun hh => hh h3)]
 by_cases h4 : chkNode ep l b y = 0
 rotate_left
 ·rw [if_pos h4]; exact ⟨fun hh => absurd hh h4, fun hh => absurd hh.n2 h4⟩
 rw [if_neg (fun hh => hh h4)]
 by_cases h5 : a ≠ 0 ∧ a = b
 ·rw [if_pos h5]; exact ⟨(fun hh => by cases hh), fun hh => absurd h5 hh.ne⟩
 rw [if_neg h5]
 by_cases h6 : a ≠ 0 ∧ a = ep ∧ h ≠ 1
 ·rw [if_pos h6]; exact ⟨(fun hh => by cases hh), fun hh => absurd h6 hh.o1⟩
 rw [if_neg h6]
 by_cases h7 : b ≠ 0 ∧ b = ep ∧ h ≠ 2
 ·rw [if_pos h7]; exact ⟨(fun hh => by cases hh), fun hh => absurd h7 hh.o2⟩
 rw [if_neg h7]
 exact ⟨fun _ => ⟨betw_iff.1 hb, h2, h3, h4, h5, h6, h7⟩, fun _ => rfl⟩
theorem chkC_two {now ep h u : Int} {l : List En} {es : List Int} {cs : List (List En)} (hlen : cs.length = es.length) (hc : chkC now ep h u l es cs = 0) : ∃ a b x y, es = [a, b] ∧ cs = [x, y] ∧ COk now ep h u l a b x y := by
 have h2 : lenL es = 2 := by
  by_cases hb : betw now 0 9999 = true
  ·by_cases hd : chkDisk ep h u l = 0
   ·by_cases h3 : lenL es = 2
    ·exact h3
    ·rw [chkC_no hb hd h3] at hc; cases hc
   ·unfold chkC at hc; rw [if_neg (by simp [hb]), if_pos hd] at hc; exact absurd hc hd
  ·unfold chkC at hc; rw [if_pos (by simpa using hb)] at hc; cases hc
 obtain ⟨a, b, rfl⟩ := two_of h2
 match cs, hlen with
 | [x, y], _ => exact ⟨a, b, x, y, rfl, rfl, chkC_iff.1 hc⟩
theorem node_ok {ep : Int} {l : List En} {e : Int} {c : List En} (h : chkNode ep l e c = 0) : 0 ≤ e ∧ e ≤ ep ∧ chkLog c = 0 ∧ beginsB c l = true := by
 unfold chkNode at h
 cases hb : betw e 0 ep
 ·rw [hb, if_pos rfl] at h; cases h
 rw [hb, if_neg (by simp)] at h
 by_cases h1 : chkLog c = 0
 rotate_left
 ·rw [if_pos h1] at h; exact absurd h h1
 rw [if_neg (fun hh => hh h1)] at h
 cases hg : beginsB c l
 ·rw [hg, if_pos rfl] at h; cases h
 obtain ⟨g1, g2⟩ := betw_iff.1 hb
 exact ⟨g1, g2, h1, rfl⟩
theorem formE_ok {now : Int} {x : Ev} (h : formE now x = 0) : betw x.kind 1 5 = true ∧ (x.kind = 1 → x.who = 0 ∧ 0 ≤ x.n ∧ x.n ≤ 9999 - now) ∧ (x.kind ≠ 1 → x.who = 1 ∨ x.who = 2) ∧ (x.kind = 4 → 0 ≤ x.n ∧ x.n ≤ 30) ∧ (x.kind ≠ 1 → x.kind ≠ 4 → x.n = 0) := by
 unfold formE evF at h
 cases hk : betw x.kind 1 5
 ·rw [hk] at h; cases h
 rw [hk] at h
 simp only [Bool.not_true, cond_false] at h
 cases h1 : ((decide (x.kind = 1) && !decide (x.who = 0)) || (!decide (x.kind = 1) && !decide (x.kind = 4) && !decide (x.n = 0)) || (!decide (x.kind = 3) && !eqOq x.op noOq))
 rotate_left
 ·rw [h1] at h; cases h
 rw [h1, cond_false] at h
 cases h2 : ((!decide (x.kind = 1) && !betw x.who 1 2) || (decide (x.kind = 4) && !betw x.n 0 30) || (decide (x.kind = 1) && !betw x.n 0 (9999 - now)))
 rotate_left
 ·rw [h2] at h; cases h
 simp only [Bool.or_eq_false_iff, Bool.and_eq_false_iff, Bool.not_eq_false', decide_eq_false_iff_not, decide_eq_true_eq] at h1 h2
 obtain ⟨⟨a1, a2⟩, _⟩ := h1
 obtain ⟨⟨b1, b2⟩, b3⟩ := h2
 refine ⟨rfl, fun k => ?_, fun k => ?_, fun k => ?_, fun k k4 => ?_⟩
 ·have c1 := a1.resolve_left (fun hh => hh k)
  have c2 := betw_iff.1 (b3.resolve_left (fun hh => hh k))
  exact ⟨c1, c2⟩
 ·have c1 := betw_iff.1 (b1.resolve_left k)
  omega
 ·exact betw_iff.1 (b2.resolve_left (fun hh => hh k))
 ·rcases a2 with (a2 | a2) | a2
  ·exact absurd a2 k
  ·exact absurd a2 k4
  ·exact a2
def noCl : CluV := (0, 0, 0, 0, [], ([], []), ())
def mkCl (now : Int) (d : Dk) (a b : Int) (x y : List En) : CluV := (now, d.1, d.2.1, d.2.2.1, d.2.2.2.1, ([a, b], [x, y]), ())
def evDo (now ep h u : Int) (l : List En) (a b : Int) (x y : List En) (e : Ev) : CluV × Bool :=
 if e.kind = 1 then (mkCl (now + e.n) (ep, h, u, l, ()) a b x y, true)
 else if e.kind = 2 then
  if (acqOf ep h u l e.who now).2.1 = 0 then (mkCl now (acqOf ep h u l e.who now).1 (if e.who = 1 then (acqOf ep h u l e.who now).1.1 else a) (if e.who = 1 then b else (acqOf ep h u l e.who now).1.1) x y, true)
  else (mkCl now (ep, h, u, l, ()) a b x y, false)
 else if e.kind = 3 then
  if (putOf ep h u l (if e.who = 1 then a else b) e.op).2.1 = 0 then (mkCl now (putOf ep h u l (if e.who = 1 then a else b) e.op).1 a b x y, true)
  else (mkCl now (ep, h, u, l, ()) a b x y, false)
 else if e.kind = 4 then (mkCl now (ep, h, u, l, ()) a b (if e.who = 1 then x ++ behindOf x l e.n else x) (if e.who = 1 then y else y ++ behindOf y l e.n), true)
 else (mkCl now (ep, h, u, l, ()) (if e.who = 1 then 0 else a) (if e.who = 1 then b else 0) (if e.who = 1 then [] else x) (if e.who = 1 then y else []), true)
abbrev DoC := CluV × Bool × Int × Unit
def errC (e : Int) : DoC := (noCl, false, e, ())
def doC (now ep h u : Int) (l : List En) (es : List Int) (cs : List (List En)) (e : Ev) : DoC :=
 if chkC now ep h u l es cs ≠ 0 then errC (chkC now ep h u l es cs) else if formE now e ≠ 0 then errC (formE now e) else
 match es, cs with
 | [a, b], [x, y] => ((evDo now ep h u l a b x y e).1, (evDo now ep h u l a b x y e).2, 0, ())
 | _, _ => errC 1
theorem rm0 (a : Int) : room (lenL ([] : List Int)) (lenL [a]) = true := rfl
theorem rm1 (a b : Int) : room (lenL [a]) (lenL [b]) = true := rfl
theorem pd0 : padL ([] : List Int).length ([] : List (List En)) = [] := rfl
theorem pd1 (a : Int) (x : List En) : padL [a].length [x] = [x] := rfl
theorem pd2 (a b : Int) (x y : List En) : padL [a, b].length [x, y] = [x, y] := rfl
theorem ap1 (a b : Int) : [a] ++ [b] = [a, b] := rfl
theorem ap2 (x y : List En) : [x] ++ [y] = [x, y] := rfl
theorem gx0 (x y : List En) : getL [x, y] 0 = x := rfl
theorem gx1 (x y : List En) : getL [x, y] 1 = y := rfl
theorem st0 (a b v : Int) : seti [a, b] 0 v = [v, b] := rfl
theorem st1 (a b v : Int) : seti [a, b] 1 v = [a, v] := rfl
theorem sx0 (x y z : List En) : seti [x, y] 0 z = [z, y] := rfl
theorem sx1 (x y z : List En) : seti [x, y] 1 z = [x, z] := rfl
theorem ox0 (x y : List En) : outL [x, y] 0 = [[], y] := rfl
theorem ox1 (x y : List En) : outL [x, y] 1 = [x, []] := rfl
abbrev DOwn := List En × List (List En) × List Int × (Int × Int × Int × Int × Unit) × (Ev × Unit) × (Int × Int × Int × Int × Unit) × List En × List (List En) × List Int × (Int × Int × Int × Int × Unit) × List En × List Int × List (List En) × Unit
theorem own_loop {now ep h u n1 e1 h1 u1 : Int} {l l1 : List En} {a b : Int} {x y : List En} (hx : x.length ≤ 30) (hy : y.length ≤ 30) (e : Ev) :
  loopN zq19 FUEL (((), (), (lenL [a, b], ()), (0, ()), ()), ((l, [x, y], [a, b], (now, ep, h, u, ()), (e, ()), (0, 0, 0, 0, ()), [], [], [], (n1, e1, h1, u1, ()), l1, [], [], ()) : DOwn)) =
   some (((), ()), ((l, [x, y], [a, b], (now, ep, h, u, ()), (e, ()), (0, 0, 0, 0, ()), [], [], [], (n1, e1, h1, u1, ()), l1, [a, b], [x, y], ()) : DOwn)) := by
 obtain ⟨N, hN⟩ := fuel3
 have cx : zq68 x = some (x, ()) := clone_eq (by omega)
 have cy : zq68 y = some (y, ()) := clone_eq (by omega)
 rw [hN, loopN_succ]
 simp only [zq19, dL0, d02, br_true, iL0, req_true, g20, bind_s, gx0, cx, dup_eq, both_self, e01, ok1, rm0, List.nil_append, pd0]
 rw [loopN_succ]
 simp only [zq19, dL1, d12, br_true, iL1, req_true, g21, bind_s, gx1, cy, dup_eq, both_self, e11, ok2, rm1, pd1, ap1, ap2]
 rw [loopN_succ]
 simp only [zq19, dL2, d22, br_false]
theorem begins_le {a b : List En} (h : beginsB a b = true) : a.length ≤ b.length := begins_len h
theorem cluster_Do_eq (now ep h u : Int) {l : List En} (hl : logIn l) (es : List Int) {cs : List (List En)} (hc : ∀ c ∈ cs, logIn c) (hlen : cs.length = es.length) {e : Ev} (he : e.In) : zq20 now ep h u l (es, cs) e = some (doC now ep h u l es cs e) := by
 unfold zq20
 rw [cluster_Check_eq now ep h u hl es hc, bind_s]
 unfold doC
 by_cases h0 : chkC now ep h u l es cs = 0
 rotate_left
 ·rw [decide_eq_false h0, br_false, Bool.not_false, br_true, if_pos h0]; rfl
 obtain ⟨a, b, x, y, rfl, rfl, ok⟩ := chkC_two hlen h0
 rw [decide_eq_true h0, br_true, if_neg (fun hh => hh h0), cluster_form_eq ok.time.1 ok.time.2, bind_s]
 by_cases hf : formE now e = 0
 rotate_left
 ·rw [decide_eq_false hf, Bool.not_false, br_true, if_pos hf]; rfl
 obtain ⟨d1, _, _, _, d5, _⟩ := chkDisk_ok ok.disk
 have hll := chkLog_len d5
 obtain ⟨_, _, x1, x2⟩ := node_ok ok.n1
 obtain ⟨_, _, y1, y2⟩ := node_ok ok.n2
 have hxl := chkLog_len x1
 have hyl := chkLog_len y1
 have hxb := begins_le x2
 have hyb := begins_le y2
 obtain ⟨f1, f2, f3, f4, _⟩ := formE_ok hf
 obtain ⟨t1, t2⟩ := ok.time
 rw [decide_eq_true hf, Bool.not_true, br_false, if_neg (fun hh => hh hf), fence_Own_eq ep h u (by omega), bind_s, own_loop hxl hyl, bind_s]
 simp only
 unfold evDo
 by_cases k1 : e.kind = 1
 ·obtain ⟨_, n1, n2⟩ := f2 k1
  rw [decide_eq_true k1, br_true, if_pos k1, req_of (i64ok_of (by omega) (by omega))]
  rfl
 rw [decide_eq_false k1, br_false, if_neg k1]
 have hw := f3 k1
 rw [req_of (i64ok_of (by omega) (by omega))]
 have hz : ∀ z : Int, decide (z = z) = true := fun z => decide_eq_true rfl
 have z0 : decide ((0 : Int) ≤ 0) = true := rfl
 have z1 : decide ((0 : Int) ≤ 1) = true := rfl
 rcases hw with hw | hw
 ·have hi : e.who - 1 = 0 := by omega
  simp only [hi, iL0, req_true, g20, bind_s, gx0, st0, sx0, ox0, pd2, dup_eq, hz, z0]
  simp only [if_pos hw]
  by_cases k2 : e.kind = 2
  ·rw [decide_eq_true k2, br_true, if_pos k2, fence_Get_eq ep h u (by omega) _ _ d1.1 d1.2 t1 t2, bind_s]
   by_cases h4 : (acqOf ep h u l e.who now).2.1 = 0
   ·rw [decide_eq_true h4, br_true, br_true, if_pos h4]; rfl
   ·rw [decide_eq_false h4, br_false, br_false, if_neg h4]; rfl
  rw [decide_eq_false k2, br_false, if_neg k2]
  by_cases k3 : e.kind = 3
  ·rw [decide_eq_true k3, br_true, if_pos k3, fence_Put_eq ep h u hll _ he.2.2.2, bind_s]
   by_cases h4 : (putOf ep h u l a e.op).2.1 = 0
   ·rw [decide_eq_true h4, br_true, if_pos h4]; rfl
   ·rw [decide_eq_false h4, br_false, if_neg h4]; rfl
  rw [decide_eq_false k3, br_false, if_neg k3]
  by_cases k4 : e.kind = 4
  ·obtain ⟨n1, n2⟩ := f4 k4
   rw [decide_eq_true k4, br_true, if_pos k4, ship_Behind_eq hxl hll hxb n1 n2, bind_s]
   have hbl : (behindOf x l e.n).length ≤ 30 := by unfold behindOf; rw [List.length_take]; omega
   rw [req_of (room_of (zq55 _) (zq55 _) (by unfold lenL; simp only; omega))]
   rfl
  rw [decide_eq_false k4, br_false, if_neg k4, decide_eq_true (show e.kind = 5 by have := betw_iff.1 f1; omega), br_true]
  rfl
 ·have hi : e.who - 1 = 1 := by omega
  have hw1 : ¬ e.who = 1 := by omega
  simp only [hi, iL1, req_true, g21, bind_s, gx1, st1, sx1, ox1, pd2, dup_eq, hz, z1]
  simp only [if_neg hw1]
  by_cases k2 : e.kind = 2
  ·rw [decide_eq_true k2, br_true, if_pos k2, fence_Get_eq ep h u (by omega) _ _ d1.1 d1.2 t1 t2, bind_s]
   by_cases h4 : (acqOf ep h u l e.who now).2.1 = 0
   ·rw [decide_eq_true h4, br_true, br_true, if_pos h4]; rfl
   ·rw [decide_eq_false h4, br_false, br_false, if_neg h4]; rfl
  rw [decide_eq_false k2, br_false, if_neg k2]
  by_cases k3 : e.kind = 3
  ·rw [decide_eq_true k3, br_true, if_pos k3, fence_Put_eq ep h u hll _ he.2.2.2, bind_s]
   by_cases h4 : (putOf ep h u l b e.op).2.1 = 0
   ·rw [decide_eq_true h4, br_true, if_pos h4]; rfl
   ·rw [decide_eq_false h4, br_false, if_neg h4]; rfl
  rw [decide_eq_false k3, br_false, if_neg k3]
  by_cases k4 : e.kind = 4
  ·obtain ⟨n1, n2⟩ := f4 k4
   rw [decide_eq_true k4, br_true, if_pos k4, ship_Behind_eq hyl hll hyb n1 n2, bind_s]
   have hbl : (behindOf y l e.n).length ≤ 30 := by unfold behindOf; rw [List.length_take]; omega
   rw [req_of (room_of (zq55 _) (zq55 _) (by unfold lenL; simp only; omega))]
   rfl
  rw [decide_eq_false k4, br_false, if_neg k4, decide_eq_true (show e.kind = 5 by have := betw_iff.1 f1; omega), br_true]
  rfl
end Go.Ma
namespace Go.Ma
open Go
abbrev CS := Int × Dk × Int × Int × List En × List En
def clOf (s : CS) : CluV := mkCl s.1 s.2.1 s.2.2.1 s.2.2.2.1 s.2.2.2.2.1 s.2.2.2.2.2
def evS (s : CS) (e : Ev) : CS × Bool :=
 if e.kind = 1 then ((s.1 + e.n, s.2), true)
 else if e.kind = 2 then
  if (acqOf s.2.1.1 s.2.1.2.1 s.2.1.2.2.1 s.2.1.2.2.2.1 e.who s.1).2.1 = 0 then
   ((s.1, (acqOf s.2.1.1 s.2.1.2.1 s.2.1.2.2.1 s.2.1.2.2.2.1 e.who s.1).1, if e.who = 1 then (acqOf s.2.1.1 s.2.1.2.1 s.2.1.2.2.1 s.2.1.2.2.2.1 e.who s.1).1.1 else s.2.2.1, if e.who = 1 then s.2.2.2.1 else (acqOf s.2.1.1 s.2.1.2.1 s.2.1.2.2.1 s.2.1.2.2.2.1 e.who s.1).1.1, s.2.2.2.2), true)
  else (s, false)
 else if e.kind = 3 then
  if (putOf s.2.1.1 s.2.1.2.1 s.2.1.2.2.1 s.2.1.2.2.2.1 (if e.who = 1 then s.2.2.1 else s.2.2.2.1) e.op).2.1 = 0 then ((s.1, (putOf s.2.1.1 s.2.1.2.1 s.2.1.2.2.1 s.2.1.2.2.2.1 (if e.who = 1 then s.2.2.1 else s.2.2.2.1) e.op).1, s.2.2), true)
  else (s, false)
 else if e.kind = 4 then ((s.1, s.2.1, s.2.2.1, s.2.2.2.1, if e.who = 1 then s.2.2.2.2.1 ++ behindOf s.2.2.2.2.1 s.2.1.2.2.2.1 e.n else s.2.2.2.2.1, if e.who = 1 then s.2.2.2.2.2 else s.2.2.2.2.2 ++ behindOf s.2.2.2.2.2 s.2.1.2.2.2.1 e.n), true)
 else ((s.1, s.2.1, if e.who = 1 then 0 else s.2.2.1, if e.who = 1 then s.2.2.2.1 else 0, if e.who = 1 then [] else s.2.2.2.2.1, if e.who = 1 then s.2.2.2.2.2 else []), true)
theorem evDo_eq (now ep h u : Int) (l : List En) (a b : Int) (x y : List En) (e : Ev) : evDo now ep h u l a b x y e = (clOf (evS (now, (ep, h, u, l, ()), a, b, x, y) e).1, (evS (now, (ep, h, u, l, ()), a, b, x, y) e).2) := by
 unfold evDo evS
 by_cases k1 : e.kind = 1
 ·simp only [if_pos k1]; rfl
 by_cases k2 : e.kind = 2
 ·by_cases h0 : (acqOf ep h u l e.who now).2.1 = 0
  ·simp only [if_neg k1, if_pos k2, if_pos h0]; rfl
  ·simp only [if_neg k1, if_pos k2, if_neg h0]; rfl
 by_cases k3 : e.kind = 3
 ·by_cases h0 : (putOf ep h u l (if e.who = 1 then a else b) e.op).2.1 = 0
  ·simp only [if_neg k1, if_neg k2, if_pos k3, if_pos h0]; rfl
  ·simp only [if_neg k1, if_neg k2, if_pos k3, if_neg h0]; rfl
 by_cases k4 : e.kind = 4
 ·simp only [if_neg k1, if_neg k2, if_neg k3, if_pos k4]; rfl
 ·simp only [if_neg k1, if_neg k2, if_neg k3, if_neg k4]; rfl
def COkS (s : CS) : Prop := COk s.1 s.2.1.1 s.2.1.2.1 s.2.1.2.2.1 s.2.1.2.2.2.1 s.2.2.1 s.2.2.2.1 s.2.2.2.2.1 s.2.2.2.2.2 ∧ logIn s.2.1.2.2.2.1
theorem node_of {ep : Int} {l : List En} {e : Int} {c : List En} (h0 : 0 ≤ e) (h1 : e ≤ ep) (h2 : chkLog c = 0) (h3 : beginsB c l = true) : chkNode ep l e c = 0 := by
 unfold chkNode
 rw [betw_iff.2 ⟨h0, h1⟩, if_neg (by simp), if_neg (fun hh => hh h2), h3, if_neg (by simp)]
theorem begins_more {c l m : List En} (h : beginsB c l = true) : beginsB c (l ++ m) = true := by
 have h1 := begins_len h
 have h2 := begins_eq h
 unfold beginsB
 rw [decide_eq_true (show c.length ≤ (l ++ m).length by simp; omega), List.take_append_of_le_length h1, ← h2]
 simp
theorem begins_nil (l : List En) : beginsB [] l = true := by unfold beginsB; simp
theorem begins_in {c l : List En} (h : beginsB c l = true) (hl : logIn l) : logIn c := by
 rw [begins_eq h]; exact take_in hl _
theorem ship_on {x l : List En} (hb : beginsB x l = true) {n : Int} (n0 : 0 ≤ n) : x ++ behindOf x l n = l.take (x.length + n.toNat) := by
 have hk := begins_len hb
 have h1 := (behind_take l x.length hk n.toNat).2
 have e := begins_eq hb
 unfold behindOf
 rw [← e] at h1
 exact h1
theorem beginsB_takes (l : List En) (k : Nat) : beginsB (l.take k) l = true := by
 by_cases hk : k ≤ l.length
 ·have := beginsB_take (l := l) hk (Nat.le_refl _)
  rwa [List.take_length] at this
 ·rw [List.take_of_length_le (by omega)]
  have := beginsB_app l []
  rwa [List.append_nil] at this
theorem put_ok {ep h u : Int} {l : List En} {e : Int} {o : Oq} (h0 : (putOf ep h u l e o).2.1 = 0) : e ≠ 0 ∧ e = ep ∧ (moreOf l e o).2.1 = 0 ∧ (putOf ep h u l e o).1 = (ep, h, u, l ++ [⟨lenL l + 1, e, o⟩], ()) := by
 unfold putOf at h0 ⊢
 split at h0
 ·cases h0
 rename_i h2
 split at h0
 ·rename_i h3; exact absurd h0 h3
 rename_i h3
 have h3' := Decidable.not_not.1 h3
 refine ⟨by omega, by omega, h3', ?_⟩
 rw [if_neg h2, if_neg h3, (more_ok h3').2.2.2.2]
theorem acq_done {ep h u : Int} {l : List En} {who now : Int} (h0 : (acqOf ep h u l who now).2.1 = 0) : (overL h u now = true ∨ h = who) ∧ (overL h u now = true → ep ≠ 999) ∧ (acqOf ep h u l who now).1 = (if overL h u now = true then ep + 1 else ep, who, now + 10, l, ()) := by
 unfold acqOf at h0 ⊢
 split at h0
 ·cases h0
 rename_i h1
 split at h0
 ·cases h0
 rename_i h2
 refine ⟨?_, fun ho he => h2 ⟨ho, he⟩, by rw [if_neg h1, if_neg h2]⟩
 cases hov : overL h u now
 ·right
  by_cases hw : h = who
  ·exact hw
  ·exact absurd ⟨hov, hw⟩ h1
 ·exact .inl rfl
structure Step (s s' : CS) (e : Ev) : Prop where
 ok : COkS s'
 time : s.1 ≤ s'.1
 epoch : s.2.1.1 ≤ s'.2.1.1
 log : beginsB s.2.1.2.2.2.1 s'.2.1.2.2.2.1 = true
 same : e.kind ≠ 3 → s'.2.1.2.2.2.1 = s.2.1.2.2.2.1
theorem beginsB_self (l : List En) : beginsB l l = true := by
 have := beginsB_app l []
 rwa [List.append_nil] at this
theorem step_ev {s : CS} (hs : COkS s) {e : Ev} (he : e.In) (hf : formE s.1 e = 0) : Step s (evS s e).1 e := by
 obtain ⟨now, ⟨ep, h, u, l, _⟩, a, b, x, y⟩ := s
 obtain ⟨ok, hl⟩ := hs
 simp only at ok hl hf
 obtain ⟨d1, d2, d3, d4, d5, d6⟩ := chkDisk_ok ok.disk
 obtain ⟨a0, a1, x1, x2⟩ := node_ok ok.n1
 obtain ⟨b0, b1, y1, y2⟩ := node_ok ok.n2
 obtain ⟨f1, f2, f3, f4, _⟩ := formE_ok hf
 obtain ⟨t1, t2⟩ := ok.time
 have o1 := ok.o1
 have o2 := ok.o2
 have one := ok.ne
 have self : Step (now, (ep, h, u, l, ()), a, b, x, y) (now, (ep, h, u, l, ()), a, b, x, y) e := ⟨⟨ok, hl⟩, Int.le_refl _, Int.le_refl _, beginsB_self l, fun _ => rfl⟩
 unfold evS
 by_cases k1 : e.kind = 1
 ·obtain ⟨_, n1, n2⟩ := f2 k1
  rw [if_pos k1]
  exact ⟨⟨⟨by simp only; omega, ok.disk, ok.n1, ok.n2, ok.ne, ok.o1, ok.o2⟩, hl⟩, by simp only; omega, Int.le_refl _, beginsB_self l, fun _ => rfl⟩
 rw [if_neg k1]
 have hw := f3 k1
 by_cases k2 : e.kind = 2
 ·rw [if_pos k2]
  by_cases h0 : (acqOf ep h u l e.who now).2.1 = 0
  rotate_left
  ·simp only [if_neg h0]; exact self
  simp only [if_pos h0]
  obtain ⟨g1, g2, g3⟩ := acq_done h0
  rw [g3]
  have hd := acq_disk ok.disk (show 1 ≤ e.who ∧ e.who ≤ 2 by omega) ok.time g1 g2
  have hep : (overL h u now = true ∧ (if overL h u now = true then ep + 1 else ep) = ep + 1) ∨ (h = e.who ∧ (if overL h u now = true then ep + 1 else ep) = ep) := by
   cases hov : overL h u now
   ·right
    rw [hov] at g1
    exact ⟨g1.resolve_left (by simp), by simp⟩
   ·left; simp
  generalize hE : (if overL h u now = true then ep + 1 else ep) = E at hd hep
  have hle : ep ≤ E := by omega
  refine ⟨⟨?_, hl⟩, Int.le_refl _, hle, beginsB_self l, fun _ => rfl⟩
  simp only
  rcases hw with hw | hw
  ·rw [if_pos hw, if_pos hw]
   exact ⟨ok.time, hd, node_of (by omega) (Int.le_refl _) x1 x2, node_of b0 (by omega) y1 y2, by omega, by omega, by omega⟩
  ·have hw1 : ¬ e.who = 1 := by omega
   rw [if_neg hw1, if_neg hw1]
   exact ⟨ok.time, hd, node_of a0 (by omega) x1 x2, node_of (by omega) (Int.le_refl _) y1 y2, by omega, by omega, by omega⟩
 rw [if_neg k2]
 by_cases k3 : e.kind = 3
 ·rw [if_pos k3]
  by_cases h0 : (putOf ep h u l (if e.who = 1 then a else b) e.op).2.1 = 0
  rotate_left
  ·simp only [if_neg h0]; exact self
  simp only [if_pos h0]
  obtain ⟨g1, g2, g3, g4⟩ := put_ok h0
  rw [g4]
  have hm : (moreOf l ep e.op).2.1 = 0 := by rw [← g2]; exact g3
  rw [g2]
  refine ⟨⟨⟨ok.time, write_disk ok.disk hm, node_of a0 a1 x1 (begins_more x2), node_of b0 b1 y1 (begins_more y2), ok.ne, ok.o1, ok.o2⟩, ?_⟩, Int.le_refl _, Int.le_refl _, beginsB_app _ _, fun hh => absurd k3 hh⟩
  exact app1_in hl (by have := chkLog_len d5; unfold lenL; constructor <;> omega) (by constructor <;> omega) he.2.2.2
 rw [if_neg k3]
 by_cases k4 : e.kind = 4
 ·obtain ⟨n1, n2⟩ := f4 k4
  rw [if_pos k4]
  refine ⟨⟨?_, hl⟩, Int.le_refl _, Int.le_refl _, beginsB_self l, fun _ => rfl⟩
  simp only
  rcases hw with hw | hw
  ·rw [if_pos hw, if_pos hw, ship_on x2 n1]
   exact ⟨ok.time, ok.disk, node_of a0 a1 (chkLog_take d5 _) (beginsB_takes l _), ok.n2, ok.ne, ok.o1, ok.o2⟩
  ·have hw1 : ¬ e.who = 1 := by omega
   rw [if_neg hw1, if_neg hw1, ship_on y2 n1]
   exact ⟨ok.time, ok.disk, ok.n1, node_of b0 b1 (chkLog_take d5 _) (beginsB_takes l _), ok.ne, ok.o1, ok.o2⟩
 rw [if_neg k4]
 have hnil : chkNode ep l 0 [] = 0 := node_of (Int.le_refl _) d1.1 rfl (begins_nil l)
 refine ⟨⟨?_, hl⟩, Int.le_refl _, Int.le_refl _, beginsB_self l, fun _ => rfl⟩
 simp only
 rcases hw with hw | hw
 ·simp only [if_pos hw]
  exact ⟨ok.time, ok.disk, hnil, ok.n2, by omega, by omega, ok.o2⟩
 ·have hw1 : ¬ e.who = 1 := by omega
  simp only [if_neg hw1]
  exact ⟨ok.time, ok.disk, ok.n1, hnil, by omega, ok.o1, by omega⟩
end Go.Ma
namespace Go.Ma
open Go
end Go.Ma
namespace Go.Ma
open Go
theorem COkS.len {s : CS} (hs : COkS s) : s.2.1.2.2.2.1.length ≤ 30 ∧ s.2.2.2.2.1.length ≤ 30 ∧ s.2.2.2.2.2.length ≤ 30 := by
 obtain ⟨_, _, _, _, d5, _⟩ := chkDisk_ok hs.1.disk
 exact ⟨chkLog_len d5, chkLog_len (node_ok hs.1.n1).2.2.1, chkLog_len (node_ok hs.1.n2).2.2.1⟩
theorem COkS.logs {s : CS} (hs : COkS s) : logIn s.2.2.2.2.1 ∧ logIn s.2.2.2.2.2 := ⟨begins_in (node_ok hs.1.n1).2.2.2 hs.2, begins_in (node_ok hs.1.n2).2.2.2 hs.2⟩
theorem COkS.chk {s : CS} (hs : COkS s) : chkC s.1 s.2.1.1 s.2.1.2.1 s.2.1.2.2.1 s.2.1.2.2.2.1 [s.2.2.1, s.2.2.2.1] [s.2.2.2.2.1, s.2.2.2.2.2] = 0 := chkC_iff.2 hs.1
theorem COkS.cs {s : CS} (hs : COkS s) : ∀ c ∈ [s.2.2.2.2.1, s.2.2.2.2.2], logIn c := fun c hc => by
 simp only [List.mem_cons, List.not_mem_nil, or_false] at hc
 rcases hc with rfl | rfl
 ·exact hs.logs.1
 ·exact hs.logs.2
theorem check_cl {s : CS} (hs : COkS s) : zq17 s.1 s.2.1.1 s.2.1.2.1 s.2.1.2.2.1 s.2.1.2.2.2.1 ([s.2.2.1, s.2.2.2.1], [s.2.2.2.2.1, s.2.2.2.2.2]) = some (0, ()) := by
 rw [cluster_Check_eq _ _ _ _ hs.2 _ hs.cs, hs.chk]
theorem do_cl {s : CS} (hs : COkS s) {e : Ev} (he : e.In) : zq20 s.1 s.2.1.1 s.2.1.2.1 s.2.1.2.2.1 s.2.1.2.2.2.1 ([s.2.2.1, s.2.2.2.1], [s.2.2.2.2.1, s.2.2.2.2.2]) e = some (if formE s.1 e ≠ 0 then errC (formE s.1 e) else (clOf (evS s e).1, (evS s e).2, 0, ())) := by
 rw [cluster_Do_eq _ _ _ _ hs.2 _ hs.cs rfl he]
 unfold doC
 rw [if_neg (fun hh => hh hs.chk)]
 simp only [evDo_eq]
def seenC (now ep h u : Int) (l : List En) (es : List Int) (cs : List (List En)) (who : Int) : StV × Int × Unit :=
 if chkC now ep h u l es cs ≠ 0 then (noSt, chkC now ep h u l es cs, ()) else if betw who 1 2 = false then (noSt, 3, ()) else (replayS noSt (getL cs (who - 1)), 0, ())
theorem cluster_Seen_eq (now ep h u : Int) {l : List En} (hl : logIn l) (es : List Int) {cs : List (List En)} (hc : ∀ c ∈ cs, logIn c) (hlen : cs.length = es.length) (who : Int) : zq21 now ep h u l (es, cs) who = some (seenC now ep h u l es cs who) := by
 unfold zq21 seenC
 rw [cluster_Check_eq now ep h u hl es hc, bind_s]
 by_cases h0 : chkC now ep h u l es cs = 0
 rotate_left
 ·rw [decide_eq_false h0, br_false, bind_s, br_false, Bool.not_false, br_true, if_pos h0]; rfl
 obtain ⟨a, b, x, y, rfl, rfl, ok⟩ := chkC_two hlen h0
 rw [decide_eq_true h0, br_true, cluster_within_eq, bind_s, bind_s, Bool.not_true, if_neg (fun hh => hh h0)]
 cases hb : betw who 1 2
 ·rfl
 obtain ⟨w1, w2⟩ := betw_iff.1 hb
 have hw : who = 1 ∨ who = 2 := by omega
 have hx := chkLog_len (node_ok ok.n1).2.2.1
 have hy := chkLog_len (node_ok ok.n2).2.2.1
 have ix : logIn x := hc x (by simp)
 have iy : logIn y := hc y (by simp)
 simp only [Bool.not_true, br_false]
 rw [if_neg (by simp), req_of (i64ok_of (by omega) (by omega))]
 rcases hw with rfl | rfl
 ·rw [show (1 : Int) - 1 = 0 from rfl]
  simp only [iL0, req_true, g20, bind_s, gx0, log_All_eq ix hx]
 ·rw [show (2 : Int) - 1 = 1 from rfl]
  simp only [iL1, req_true, g21, bind_s, gx1, log_All_eq iy hy]
def runC : CS → List Bool → List Ev → Int × CS × List Bool
 | s, out, [] => (0, s, out)
 | s, out, e :: r => if formE s.1 e ≠ 0 then (formE s.1 e, s, out) else runC (evS s e).1 (out ++ [(evS s e).2]) r
def cs0 : CS := (0, (0, 0, 0, [], ()), 0, 0, [], [])
theorem cs0_ok : COkS cs0 := ⟨chkC_iff.1 (by decide +kernel), fun e he => by cases he⟩
theorem runC_ok : ∀ (r : List Ev) (s : CS) (out : List Bool), COkS s → (∀ e ∈ r, e.In) → COkS (runC s out r).2.1 ∧ ((runC s out r).1 = 0 → (runC s out r).2.2.length = out.length + r.length)
 | [], s, out, hs, _ => ⟨hs, fun _ => rfl⟩
 | e :: r, s, out, hs, hr => by
  unfold runC
  by_cases hf : formE s.1 e = 0
  ·rw [if_neg (fun hh => hh hf)]
   obtain ⟨h1, h2⟩ := runC_ok r (evS s e).1 (out ++ [(evS s e).2]) (step_ev hs (hr e List.mem_cons_self) hf).ok fun x hx => hr x (List.mem_cons_of_mem _ hx)
   exact ⟨h1, fun h => by rw [h2 h]; simp; omega⟩
  ·rw [if_pos hf]
   exact ⟨hs, fun h => absurd h hf⟩
abbrev RunA := List Ev × (Int × Int × Int × Int × Unit) × (Int × Int × Int × Int × Unit) × List Bool × List En × List Int × List En × List Int × List (List En) × List (List En) × Unit
def runOutA (l : List Ev) (z : Int × CS × List Bool) : (((Unit) × (Unit) × (Int × Unit) × Unit) × (List Ev × (Int × Int × Int × Int × Unit) × List Bool × List En × List Int × List (List En) × Unit)) ⊕ (((Unit) × (Unit) × (Unit) × Unit) × RunA) :=
 if z.1 ≠ 0 then Sum.inl (((), (), (z.1, ()), ()), (l, (0, 0, 0, 0, ()), [], [], [], [], ()))
 else Sum.inr (((), (), (), ()), (l, (0, 0, 0, 0, ()), (z.2.1.1, z.2.1.2.1.1, z.2.1.2.1.2.1, z.2.1.2.1.2.2.1, ()), z.2.2, [], [], z.2.1.2.1.2.2.2.1, [z.2.1.2.2.1, z.2.1.2.2.2.1], [], [z.2.1.2.2.2.2.1, z.2.1.2.2.2.2.2], ()))
theorem run_loop {l : List Ev} (hl : l.length ≤ 40) (hin : ∀ e ∈ l, e.In) : ∀ (N i : Nat) (s : CS) (out : List Bool), COkS s → i ≤ l.length → l.length - i < N → out.length ≤ i →
  loopN cluster_Run_L6 N (((), (), (), (), (lenL l, ()), ((i : Int), ()), ()), ((l, (0, 0, 0, 0, ()), (s.1, s.2.1.1, s.2.1.2.1, s.2.1.2.2.1, ()), out, [], [], s.2.1.2.2.2.1, [s.2.2.1, s.2.2.2.1], [], [s.2.2.2.2.1, s.2.2.2.2.2], ()) : RunA)) = some (runOutA l (runC s out (l.drop i)))
 | 0, _, _, _, _, _, hN, _ => by omega
 | N + 1, i, s, out, hs, hi, hN, ho => by
  rw [loopN_succ]
  by_cases h : i < l.length
  rotate_left
  ·simp only [cluster_Run_L6]
   rw [decide_eq_false (show ¬ (i : Int) < lenL l by unfold lenL; omega), br_false, List.drop_of_length_le (by omega)]
   rfl
  obtain ⟨e, he⟩ : ∃ e, l[i]? = some e := ⟨_, List.getElem?_eq_getElem h⟩
  have hei := hin e (List.mem_of_getElem? he)
  rw [drop_cons he]
  simp only [cluster_Run_L6]
  rw [decide_eq_true (show (i : Int) < lenL l by unfold lenL; omega), br_true, req_of (zq33 (by omega) (by unfold lenL; omega)), geti_at he, bind_s, do_cl hs hei, bind_s]
  unfold runC
  by_cases hf : formE s.1 e = 0
  rotate_left
  ·rw [if_pos hf, if_pos hf]
   have h1 : ¬ (errC (formE s.1 e)).2.2.1 = 0 := hf
   rw [decide_eq_false h1, Bool.not_false, br_true]
   unfold runOutA
   rw [if_pos hf]
   rfl
  rw [if_neg (fun hh => hh hf), if_neg (fun hh => hh hf)]
  simp only [decide_true, Bool.not_true, br_false]
  rw [req_of (room_of (zq55 _) (zq55 _) (by unfold lenL; simp; omega)), req_of (i64ok_of (by omega) (by omega)), show ((i : Int) + 1) = ((i + 1 : Nat) : Int) by omega]
  exact run_loop hl hin N (i + 1) (evS s e).1 (out ++ [(evS s e).2]) (step_ev hs hei hf).ok (by omega) (by omega) (by simp; omega)
def runT (l : List Ev) : CluV × List Bool × Int × Unit :=
 if l.length > 40 then (noCl, [], 2, ()) else if (runC cs0 [] l).1 ≠ 0 then (noCl, [], (runC cs0 [] l).1, ()) else (clOf (runC cs0 [] l).2.1, (runC cs0 [] l).2.2, 0, ())
theorem cluster_Run_eq {l : List Ev} (hin : ∀ e ∈ l, e.In) : cluster_Run_t l = some (runT l) := by
 unfold cluster_Run_t runT
 by_cases h : l.length > 40
 ·rw [decide_eq_true (show lenL l > 40 by unfold lenL; omega), br_true, if_pos h]; rfl
 rw [decide_eq_false (show ¬ lenL l > 40 by unfold lenL; omega), br_false, if_neg h]
 have := run_loop (l := l) (by omega) hin FUEL 0 cs0 [] cs0_ok (Nat.zero_le _) (by unfold FUEL; omega) (Nat.le_refl _)
 rw [List.drop_zero] at this
 have this : loopN cluster_Run_L6 FUEL (((), (), (), (), (lenL l, ()), (0, ()), ()), ((l, (0, 0, 0, 0, ()), (0, 0, 0, 0, ()), [], [], [], [], [0, 0], [], [[], []], ()) : RunA)) = _ := this
 unfold cluster_New_t
 rw [bind_s, this, bind_s]
 unfold runOutA
 by_cases h0 : (runC cs0 [] l).1 = 0
 ·rw [if_neg (fun hh => hh h0), if_neg (fun hh => hh h0)]; rfl
 ·rw [if_pos h0, if_pos h0]; rfl
def evs : List Ev := [⟨2, 1, 0, noOq⟩, ⟨3, 1, 0, op1⟩, ⟨1, 0, 11, noOq⟩, ⟨2, 2, 0, noOq⟩, ⟨3, 1, 0, op2⟩, ⟨4, 2, 5, noOq⟩, ⟨3, 2, 0, op3⟩]
theorem events_eq : law_events_t = some (evs, ()) := rfl
theorem noOq_in : noOq.In := ⟨⟨by decide, by decide⟩, noPf_in, noAd_in, strIn_empty, ⟨by decide, by decide⟩, ⟨by decide, by decide⟩⟩
theorem evs_in : ∀ e ∈ evs, e.In := fun e he => by
 simp only [evs, List.mem_cons, List.not_mem_nil, or_false] at he
 rcases he with rfl | rfl | rfl | rfl | rfl | rfl | rfl
 all_goals refine ⟨⟨by decide, by decide⟩, ⟨by decide, by decide⟩, ⟨by decide, by decide⟩, ?_⟩
 ·exact noOq_in
 ·exact op_in.1
 ·exact noOq_in
 ·exact noOq_in
 ·exact op_in.2.1
 ·exact noOq_in
 ·exact op_in.2.2
def csE : CS := (runC cs0 [] evs).2.1
theorem run_evs : (runC cs0 [] evs).1 = 0 := by decide +kernel
theorem run_done : (runC cs0 [] evs).2.2 = [true, true, true, true, false, true, true] := by decide +kernel
theorem csE_ok : COkS csE := (runC_ok evs cs0 [] cs0_ok evs_in).1
theorem csE_log : lenL csE.2.1.2.2.2.1 = 2 := by decide +kernel
theorem csE_ep : csE.2.1.1 = 2 := by decide +kernel
theorem csE_seen : lenL (replayS noSt csE.2.2.2.2.2).1.1 = 1 := by decide +kernel
theorem new_chk : zq17 0 0 0 0 [] ([0, 0], [[], []]) = some (0, ()) := check_cl cs0_ok
theorem clusterBegun_eq : law_clusterBegun_t = some (true, ()) := by
 have e1 : cluster_Run_t evs = some (clOf csE, [true, true, true, true, false, true, true], 0, ()) := by
  rw [cluster_Run_eq evs_in]
  unfold runT
  rw [if_neg (by decide), if_neg (fun hh => hh run_evs), run_done]
  rfl
 have e2 : zq21 csE.1 csE.2.1.1 csE.2.1.2.1 csE.2.1.2.2.1 csE.2.1.2.2.2.1 ([csE.2.2.1, csE.2.2.2.1], [csE.2.2.2.2.1, csE.2.2.2.2.2]) 2 = some (replayS noSt csE.2.2.2.2.2, 0, ()) := by
  rw [cluster_Seen_eq _ _ _ _ csE_ok.2 _ csE_ok.cs rfl]
  unfold seenC
  rw [if_neg (fun hh => hh csE_ok.chk), if_neg (by decide)]
  rfl
 have e3 := check_cl csE_ok
 unfold law_clusterBegun_t
 rw [events_eq, bind_s, e1, bind_s]
 show (zq21 csE.1 csE.2.1.1 csE.2.1.2.1 csE.2.1.2.2.1 csE.2.1.2.2.2.1 ([csE.2.2.1, csE.2.2.2.1], [csE.2.2.2.2.1, csE.2.2.2.2.2]) 2).bind _ = _
 rw [e2, bind_s]
 unfold cluster_New_t
 simp only [bind_s, decide_true, Bool.not_true, br_false]
 rw [new_chk, bind_s]
 simp only [decide_true, Bool.not_true, br_false]
 rw [show lenL [true, true, true, true, false, true, true] = 7 from rfl, decide_eq_true rfl, Bool.not_true, br_false]
 show (zq17 csE.1 csE.2.1.1 csE.2.1.2.1 csE.2.1.2.2.1 csE.2.1.2.2.2.1 ([csE.2.2.1, csE.2.2.2.1], [csE.2.2.2.2.1, csE.2.2.2.2.2])).bind _ = _
 rw [e3, bind_s]
 simp only [decide_true, Bool.not_true, br_false]
 show (req true <| (some true).bind fun p9 => (br p9 (req true <| (some false).bind fun p10 => some (!p10)) (some false)).bind fun c10 => (br c10 (req true <| (some true).bind fun p11 => some p11) (some false)).bind fun c11 => (br c11 (some (decide (lenL csE.2.1.2.2.2.1 = 2))) (some false)).bind fun c12 => (br c12 (some (decide (csE.2.1.1 = 2))) (some false)).bind fun c13 => (br c13 (some (decide (lenL (replayS noSt csE.2.2.2.2.2).1.1 = 1))) (some false)).bind fun c14 => some (c14, ())) = _
 rw [csE_log, csE_ep, csE_seen]
 rfl
end Go.Ma
namespace Go.Ma
open Go
theorem over_who (n : Int) : (br (decide (n < 1)) (some true) (some (decide (n > 2)))) = some (!betw n 1 2) := by
 unfold betw
 by_cases h1 : n < 1
 ·rw [decide_eq_true h1, br_true, decide_eq_false (show ¬ 1 ≤ n by omega)]; rfl
 ·rw [decide_eq_false h1, br_false, decide_eq_true (show 1 ≤ n by omega), Bool.true_and]
  by_cases h2 : n > 2
  ·rw [decide_eq_true h2, decide_eq_false (show ¬ n ≤ 2 by omega)]; rfl
  ·rw [decide_eq_false h2, decide_eq_true (show n ≤ 2 by omega)]; rfl
end Go.Ma
namespace Go.Ma
open Go
end Go.Ma
namespace Go.Ma
open Go
theorem do_ok {s : CS} (hs : COkS s) {e : Ev} (he : e.In) (hf : formE s.1 e = 0) : zq20 (clOf s).1 (clOf s).2.1 (clOf s).2.2.1 (clOf s).2.2.2.1 (clOf s).2.2.2.2.1 (clOf s).2.2.2.2.2.1 e = some (clOf (evS s e).1, (evS s e).2, 0, ()) := by
 have := do_cl hs he
 rw [if_neg (fun hh => hh hf)] at this
 exact this
theorem noOq_eq : eqOq noOq noOq = true := by decide +kernel
section
variable {now who : Int} (hw : who = 1 ∨ who = 2)
include hw
theorem who_betw : betw who 1 2 = true := betw_iff.2 (by omega)
theorem form_lock : formE now ⟨2, who, 0, noOq⟩ = 0 := by
 unfold formE
 simp only [who_betw hw, noOq_eq]
 generalize decide (who = 0) = p
 generalize betw 0 0 (9999 - now) = q
 cases p <;> cases q <;> rfl
theorem form_write (o : Oq) : formE now ⟨3, who, 0, o⟩ = 0 := by
 unfold formE
 simp only [who_betw hw]
 generalize decide (who = 0) = p
 generalize betw 0 0 (9999 - now) = q
 generalize eqOq o noOq = r
 cases p <;> cases q <;> cases r <;> rfl
theorem form_reset : formE now ⟨5, who, 0, noOq⟩ = 0 := by
 unfold formE
 simp only [who_betw hw, noOq_eq]
 generalize decide (who = 0) = p
 generalize betw 0 0 (9999 - now) = q
 cases p <;> cases q <;> rfl
theorem form_ship : formE now ⟨4, who, 30, noOq⟩ = 0 := by
 unfold formE
 simp only [who_betw hw, noOq_eq]
 generalize decide (who = 0) = p
 generalize betw 30 0 (9999 - now) = q
 cases p <;> cases q <;> rfl
theorem ev_in {k n : Int} {o : Oq} (hk : i64In k) (hn : i64In n) (ho : o.In) : (⟨k, who, n, o⟩ : Ev).In := ⟨hk, by constructor <;> (simp only; omega), hn, ho⟩
end
def copyOf (s : CS) (who : Int) : List En := if who = 1 then s.2.2.2.2.1 else s.2.2.2.2.2
def epOf (s : CS) (who : Int) : Int := if who = 1 then s.2.2.1 else s.2.2.2.1
theorem seen_cl {s : CS} (hs : COkS s) {who : Int} (hw : who = 1 ∨ who = 2) : zq21 (clOf s).1 (clOf s).2.1 (clOf s).2.2.1 (clOf s).2.2.2.1 (clOf s).2.2.2.2.1 (clOf s).2.2.2.2.2.1 who = some (replayS noSt (copyOf s who), 0, ()) := by
 have := cluster_Seen_eq s.1 s.2.1.1 s.2.1.2.1 s.2.1.2.2.1 hs.2 [s.2.2.1, s.2.2.2.1] hs.cs rfl who
 unfold seenC at this
 rw [if_neg (fun hh => hh hs.chk), if_neg (by rw [who_betw hw]; simp)] at this
 have e : getL [s.2.2.2.2.1, s.2.2.2.2.2] (who - 1) = copyOf s who := by
  rcases hw with rfl | rfl <;> rfl
 rw [e] at this
 exact this
theorem take_all (l : List En) (hl : l.length ≤ 30) (k : Nat) : l.take (k + (30 : Int).toNat) = l := List.take_of_length_le (by have : (30 : Int).toNat = 30 := rfl; omega)
theorem ship_all {s : CS} (hs : COkS s) {who : Int} (hw : who = 1 ∨ who = 2) : (evS s ⟨4, who, 30, noOq⟩).2 = true ∧ copyOf (evS s ⟨4, who, 30, noOq⟩).1 who = s.2.1.2.2.2.1 := by
 obtain ⟨h1, _, _⟩ := hs.len
 rcases hw with rfl | rfl
 ·refine ⟨rfl, ?_⟩
  show s.2.2.2.2.1 ++ behindOf s.2.2.2.2.1 s.2.1.2.2.2.1 30 = _
  rw [ship_on (node_ok hs.1.n1).2.2.2 (by decide), take_all _ h1]
 ·refine ⟨rfl, ?_⟩
  show s.2.2.2.2.2 ++ behindOf s.2.2.2.2.2 s.2.1.2.2.2.1 30 = _
  rw [ship_on (node_ok hs.1.n2).2.2.2 (by decide), take_all _ h1]
theorem reset_all (s : CS) {who : Int} (hw : who = 1 ∨ who = 2) : (evS s ⟨5, who, 0, noOq⟩).2 = true ∧ copyOf (evS s ⟨5, who, 0, noOq⟩).1 who = [] := by
 rcases hw with rfl | rfl <;> exact ⟨rfl, rfl⟩
theorem prev_le {l : List En} {ep : Int} (h : l.any (fun e => decide (ep < e.epoch)) = false) (h0 : 0 ≤ ep) (j : Nat) : prevE l j ≤ ep := by
 cases j with
 | zero => exact h0
 | succ j =>
  simp only [prevE]
  cases hj : l[j]? with
  | none => exact h0
  | some e =>
   rw [List.any_eq_false] at h
   have := h e (List.mem_of_getElem? hj)
   simp only [decide_eq_true_eq] at this
   simp only
   omega
theorem write_all {s : CS} (hs : COkS s) {who : Int} (hw : who = 1 ∨ who = 2) {o : Oq} (hf : formO o = 0) (he : epOf s who = s.2.1.1) (h0 : s.2.1.1 ≠ 0) :
  (evS s ⟨3, who, 0, o⟩).2 = decide (lenL s.2.1.2.2.2.1 < 30) ∧ ((evS s ⟨3, who, 0, o⟩).2 = true → (evS s ⟨3, who, 0, o⟩).1.2.1.2.2.2.1 = s.2.1.2.2.2.1 ++ [⟨lenL s.2.1.2.2.2.1 + 1, s.2.1.1, o⟩]) := by
 obtain ⟨d1, d2, d3, d4, d5, d6⟩ := chkDisk_ok hs.1.disk
 have hll := chkLog_len d5
 have hp : putOf s.2.1.1 s.2.1.2.1 s.2.1.2.2.1 s.2.1.2.2.2.1 (epOf s who) o = if s.2.1.2.2.2.1.length = 30 then (noDk, 2, ()) else ((s.2.1.1, s.2.1.2.1, s.2.1.2.2.1, s.2.1.2.2.2.1 ++ [⟨lenL s.2.1.2.2.2.1 + 1, s.2.1.1, o⟩], ()), 0, ()) := by
  have hm : moreOf s.2.1.2.2.2.1 s.2.1.1 o = if s.2.1.2.2.2.1.length = 30 then ([], 2, ()) else (s.2.1.2.2.2.1 ++ [⟨lenL s.2.1.2.2.2.1 + 1, s.2.1.1, o⟩], 0, ()) := by
   have hp := prev_le d6 d1.1 s.2.1.2.2.2.1.length
   unfold moreOf
   rw [betw_iff.2 (show 1 ≤ s.2.1.1 ∧ s.2.1.1 ≤ 999 by omega), if_neg (by simp), if_neg (show ¬ s.2.1.1 < prevE s.2.1.2.2.2.1 s.2.1.2.2.2.1.length by omega), if_neg (fun hh => hh hf)]
  rw [he]
  unfold putOf
  rw [if_neg (show ¬ (s.2.1.1 = 0 ∨ s.2.1.1 ≠ s.2.1.1) by omega), hm]
  by_cases h30 : s.2.1.2.2.2.1.length = 30
  ·simp only [if_pos h30]; rfl
  ·simp only [if_neg h30]; rfl
 have e1 : evS s ⟨3, who, 0, o⟩ = if (putOf s.2.1.1 s.2.1.2.1 s.2.1.2.2.1 s.2.1.2.2.2.1 (epOf s who) o).2.1 = 0 then ((s.1, (putOf s.2.1.1 s.2.1.2.1 s.2.1.2.2.1 s.2.1.2.2.2.1 (epOf s who) o).1, s.2.2), true) else (s, false) := by
  rcases hw with rfl | rfl <;> rfl
 rw [e1, hp]
 by_cases h30 : s.2.1.2.2.2.1.length = 30
 ·simp only [if_pos h30]
  rw [if_neg (by decide), decide_eq_false (by unfold lenL; omega)]
  exact ⟨rfl, fun h => by cases h⟩
 ·rw [if_neg h30, decide_eq_true (show lenL s.2.1.2.2.2.1 < 30 by unfold lenL; omega)]
  exact ⟨rfl, fun _ => rfl⟩
theorem lock_ep {s : CS} (hs : COkS s) {who : Int} (hw : who = 1 ∨ who = 2) (h : (evS s ⟨2, who, 0, noOq⟩).2 = true) : epOf (evS s ⟨2, who, 0, noOq⟩).1 who = (evS s ⟨2, who, 0, noOq⟩).1.2.1.1 ∧ (evS s ⟨2, who, 0, noOq⟩).1.2.1.1 ≠ 0 := by
 obtain ⟨now, ⟨ep, hd, u, l, _⟩, a, b, x, y⟩ := s
 obtain ⟨d1, d2, d3, d4, _⟩ := chkDisk_ok hs.1.disk
 simp only at d1 d2 d3 d4
 have e1 : evS (now, (ep, hd, u, l, ()), a, b, x, y) ⟨2, who, 0, noOq⟩ = if (acqOf ep hd u l who now).2.1 = 0 then ((now, (acqOf ep hd u l who now).1, if who = 1 then (acqOf ep hd u l who now).1.1 else a, if who = 1 then b else (acqOf ep hd u l who now).1.1, x, y), true) else ((now, (ep, hd, u, l, ()), a, b, x, y), false) := rfl
 rw [e1] at h ⊢
 by_cases h0 : (acqOf ep hd u l who now).2.1 = 0
 rotate_left
 ·rw [if_neg h0] at h; cases h
 rw [if_pos h0]
 obtain ⟨g1, g2, g3⟩ := acq_done h0
 constructor
 ·unfold epOf
  rcases hw with rfl | rfl <;> rfl
 ·simp only [g3]
  cases hov : overL hd u now
  ·rw [hov] at g1
   have := g1.resolve_left (by simp)
   simp only [Bool.false_eq_true, if_false]
   omega
  ·simp only [if_true]
   omega
noncomputable def turnsEnd (a0 a1 a2 a3 : Int) (a4 : List En) (a5 : List Int × List (List En)) (a6 : Int) : Option (Bool × Unit) :=
     ((zq20 a0 a1 a2 a3 a4 a5 (⟨5, a6, 0, noOq⟩ : Ev)).bind fun y8 =>
     (zq21 y8.1.1 y8.1.2.1 y8.1.2.2.1 y8.1.2.2.2.1 y8.1.2.2.2.2.1 y8.1.2.2.2.2.2.1 a6).bind fun y9 =>
     (br (!decide (y8.2.2.1 = 0))
       (some true)
       (some (!y8.2.1))).bind fun c10 =>
     (br c10
       (some true)
       (some (!decide (y9.2.1 = 0)))).bind fun c11 =>
     (br c11
       (some true)
       (req (i64ok ((lenL y9.1.1.1) + (lenL y9.1.2.1))) <|
       some (decide ((lenL y9.1.1.1) + (lenL y9.1.2.1) > 0)))).bind fun c12 =>
     br c12
      (some (false, ()))
      ((zq20 y8.1.1 y8.1.2.1 y8.1.2.2.1 y8.1.2.2.2.1 y8.1.2.2.2.2.1 y8.1.2.2.2.2.2.1 (⟨4, a6, 30, noOq⟩ : Ev)).bind fun y13 =>
      (zq20 a0 a1 a2 a3 a4 a5 (⟨4, a6, 30, noOq⟩ : Ev)).bind fun y14 =>
      (zq21 y13.1.1 y13.1.2.1 y13.1.2.2.1 y13.1.2.2.2.1 y13.1.2.2.2.2.1 y13.1.2.2.2.2.2.1 a6).bind fun y15 =>
      (zq21 y14.1.1 y14.1.2.1 y14.1.2.2.1 y14.1.2.2.2.1 y14.1.2.2.2.2.1 y14.1.2.2.2.2.2.1 a6).bind fun y16 =>
      (br (decide (y13.2.2.1 = 0))
        (some (decide (y14.2.2.1 = 0)))
        (some false)).bind fun c17 =>
      (br c17
        (some (decide (y15.2.1 = 0)))
        (some false)).bind fun c18 =>
      (br c18
        (some (decide (y16.2.1 = 0)))
        (some false)).bind fun c19 =>
      (br c19
        (some y13.2.1)
        (some false)).bind fun c20 =>
      (br c20
        (some y14.2.1)
        (some false)).bind fun c21 =>
      (br c21
        ((R_SameState_t y15.1.1 y15.1.2.1 y15.1.2.2.1 y16.1.1 y16.1.2.1 y16.1.2.2.1).bind fun y22 =>
        some y22.1)
        (some false)).bind fun c22 =>
      some (c22, ())))
theorem replay_same {l : List En} (hl : logIn l) : R_SameState_t (replayS noSt l).1 (replayS noSt l).2.1 (replayS noSt l).2.2.1 (replayS noSt l).1 (replayS noSt l).2.1 (replayS noSt l).2.2.1 = some (true, ()) :=
 R_SameState_self (StOk.fit (replay_ok noSt_ok hl)) _
theorem turns_end {s : CS} (hs : COkS s) {who : Int} (hw : who = 1 ∨ who = 2) : turnsEnd (clOf s).1 (clOf s).2.1 (clOf s).2.2.1 (clOf s).2.2.2.1 (clOf s).2.2.2.2.1 (clOf s).2.2.2.2.2.1 who = some (true, ()) := by
 have i4 : i64In 4 := ⟨by decide, by decide⟩
 have i5 : i64In 5 := ⟨by decide, by decide⟩
 have i0 : i64In 0 := ⟨by decide, by decide⟩
 have i30 : i64In 30 := ⟨by decide, by decide⟩
 have r1 := ev_in hw i5 i0 noOq_in
 have r4 := ev_in hw i4 i30 noOq_in
 have st := step_ev hs r1 (form_reset hw)
 obtain ⟨q1, q2⟩ := reset_all s hw
 have hsame := st.same (show (5 : Int) ≠ 3 by decide)
 have e1 := do_ok hs r1 (form_reset hw)
 have e2 := do_ok hs r4 (form_ship hw)
 have hs4 := (step_ev hs r4 (form_ship hw)).ok
 obtain ⟨p1, p2⟩ := ship_all hs hw
 rw [q1] at e1
 rw [p1] at e2
 have hsr := st.ok
 generalize (evS s ⟨5, who, 0, noOq⟩).1 = r at e1 hsame q2 hsr
 generalize (evS s ⟨4, who, 30, noOq⟩).1 = y at e2 hs4 p2
 have e3 := do_ok hsr r4 (form_ship hw)
 have hsx := (step_ev hsr r4 (form_ship hw)).ok
 obtain ⟨o1, o2⟩ := ship_all hsr hw
 rw [o1] at e3
 generalize (evS r ⟨4, who, 30, noOq⟩).1 = x at e3 hsx o2
 have s1 := seen_cl hsr hw
 have s2 := seen_cl hsx hw
 have s3 := seen_cl hs4 hw
 rw [q2] at s1
 rw [o2, hsame] at s2
 rw [p2] at s3
 unfold turnsEnd
 rw [e1, bind_s, s1, bind_s]
 simp only [decide_true, Bool.not_true, br_false, bind_s]
 rw [e3, bind_s, e2, bind_s, s2, bind_s, s3, bind_s]
 have hreq : i64ok (lenL (replayS noSt ([] : List En)).1.1 + lenL (replayS noSt ([] : List En)).2.1) = true := rfl
 have hz : decide (lenL (replayS noSt ([] : List En)).1.1 + lenL (replayS noSt ([] : List En)).2.1 > 0) = false := rfl
 rw [hreq, hz]
 simp only [req_true, bind_s, br_false, decide_true, br_true, replay_same hs.2]
theorem ClusterTurns_eq (now ep h u : Int) {l : List En} (hl : logIn l) (es : List Int) {cs : List (List En)} (hc : ∀ c ∈ cs, logIn c) (hn : cs.length = es.length) (who : Int) {o : Oq} (ho : o.In) : law_ClusterTurns_t now ep h u l (es, cs) who o = some (true, ()) := by
 unfold law_ClusterTurns_t
 rw [clusterBegun_eq, bind_s, logBegun_eq, bind_s]
 simp only [Bool.not_true, br_false, bind_s]
 rw [cluster_Check_eq now ep h u hl es hc, bind_s]
 by_cases h0 : chkC now ep h u l es cs = 0
 rotate_left
 ·simp only [h0, decide_false, Bool.not_false, br_true, bind_s]
 obtain ⟨a, b, x, y, rfl, rfl, ok⟩ := chkC_two hn h0
 have hs : COkS (now, (ep, h, u, l, ()), a, b, x, y) := ⟨ok, hl⟩
 simp only [h0, decide_true, Bool.not_true, br_false, bind_s]
 rw [over_who, bind_s]
 cases hb : betw who 1 2
 ·rfl
 simp only [Bool.not_true, br_false]
 rw [R_CheckOp_eq ho, bind_s, bind_s]
 by_cases hf : formO o = 0
 rotate_left
 ·rw [decide_eq_false hf]; rfl
 rw [decide_eq_true hf, Bool.not_true, br_false]
 have hw : who = 1 ∨ who = 2 := by have := betw_iff.1 hb; omega
 rw [show (⟨0, ⟨⟨false, 0, 0⟩, 0⟩, ⟨false, 0, 0⟩, ByteArray.empty, 0, 0⟩ : Oq) = noOq from rfl]
 have hend := turns_end hs hw
 have i0 : i64In 0 := ⟨by decide, by decide⟩
 have i2 : i64In 2 := ⟨by decide, by decide⟩
 have i3 : i64In 3 := ⟨by decide, by decide⟩
 have r2 := ev_in hw i2 i0 noOq_in
 have r3 := ev_in hw i3 i0 ho
 have e1 : zq20 now ep h u l ([a, b], [x, y]) ⟨2, who, 0, noOq⟩ = _ := do_ok hs r2 (form_lock hw)
 rw [e1, bind_s]
 simp only [decide_true, Bool.not_true, br_false]
 have hle := lock_ep hs hw
 have st := step_ev hs r2 (form_lock hw)
 cases hz : (evS (now, (ep, h, u, l, ()), a, b, x, y) ⟨2, who, 0, noOq⟩).2
 ·rw [br_false]; exact hend
 obtain ⟨q1, q2⟩ := hle hz
 have hsame := st.same (show (2 : Int) ≠ 3 by decide)
 have hs1 := st.ok
 generalize (evS (now, (ep, h, u, l, ()), a, b, x, y) ⟨2, who, 0, noOq⟩).1 = s1 at q1 q2 hsame hs1 ⊢
 simp only at hsame
 have st3 := step_ev hs1 r3 (form_write hw o)
 have e2 := do_ok hs1 r3 (form_write hw o)
 obtain ⟨w1, w2⟩ := write_all hs1 hw hf q1 q2
 rw [br_true, e2, bind_s]
 rw [hsame] at w1 w2
 generalize evS s1 ⟨3, who, 0, o⟩ = z at w1 w2 ⊢
 simp only [decide_true, Bool.not_true, br_false, bind_s]
 rw [w1, beqB_eq, Bool.not_true, br_false]
 have hll := hs.len.1
 simp only at hll
 cases hd : decide (lenL l < 30)
 ·simp only [br_false, bind_s]
  exact hend
 ·rw [w1] at w2
  have hlog : (clOf z.1).2.2.2.2.1 = l ++ [⟨lenL l + 1, s1.2.1.1, o⟩] := w2 hd
  have hlast : ∀ en : En, en.op = o → (!eqOq en.op o) = false := fun en hen => by
   rw [hen]
   have : eqOq o o = true := by
    have := eqEn_eq (⟨0, 0, o⟩ : En) ⟨0, 0, o⟩
    rw [decide_eq_true rfl] at this
    exact (by simpa [eqEn] using this : _ ∧ _).2
   rw [this]; rfl
  rw [hlog]
  have hlen : lenL (l ++ [(⟨lenL l + 1, s1.2.1.1, o⟩ : En)]) = lenL l + 1 := by simp [lenL]
  have hl0 := zq55 l
  have hl30 : lenL l ≤ 30 := by unfold lenL; omega
  have hg : geti (l ++ [(⟨lenL l + 1, s1.2.1.1, o⟩ : En)]) (lenL l) = some ⟨lenL l + 1, s1.2.1.1, o⟩ := geti_at (by simp)
  rw [hlen, br_true, decide_eq_false (show ¬ lenL l + 1 = 0 by omega), br_false, req_of (i64ok_of (by omega) (by omega)), show lenL l + 1 - 1 = lenL l by omega, req_of (zq33 hl0 (by omega)), req_of (zq33 hl0 (by omega)), hg, bind_s, hlast _ rfl]
  simp only [br_false, bind_s]
  exact hend
end Go.Ma
