/-
  TableTree: the tables' tree is whole.
-/
import Derived.Test.YtaicmdnpjgijjaaGreatDoorPk
import Derived.Test.YtaicmdnpjgijjaaGreatDoorCa
namespace Go.Ma
open Go

theorem cutN_cutN (n : Nat) {k j : Nat} (h : k ≤ j) : cutN (cutN n k) j = cutN n j := by
  unfold cutN
  have e : (2 : Nat) ^ j = 2 ^ k * 2 ^ (j - k) := by rw [← Nat.pow_add]; congr 1; omega
  have hp := Nat.two_pow_pos k
  rw [e, ← Nat.div_div_eq_div_mul, Nat.mul_div_cancel _ hp, Nat.div_div_eq_div_mul]
theorem cutA_cutA (a : Ad) {b c : Int} (h : c ≤ b) : cutA (cutA a b) c = cutA a c := by
  have e : ∀ (v : Bool) (n : Nat) (x : Int), cutA (ofNum v n) x = ofNum v (cutN n (wid v - x.toNat)) := fun v n x => by
    unfold cutA
    rw [num_ofNum]
    rfl
  rw [show cutA a b = ofNum a.v6 (cutN a.num (wid a.v6 - b.toNat)) from rfl, e, cutN_cutN _ (by omega)]
  rfl
theorem holds_iff {p : Pf} {a : Ad} : holds p a = true ↔ p.ad.v6 = a.v6 ∧ cutA a p.bits = p.ad := by simp [holds]
theorem over_iff {p q : Pf} : over p q = true ↔ p.bits ≤ q.bits ∧ holds p q.ad = true := by simp [over]
theorem over_holds {p q : Pf} {a : Ad} (h : over p q = true) (hq : holds q a = true) : holds p a = true := by
  obtain ⟨h1, h2⟩ := over_iff.1 h
  rw [holds_iff] at h2 hq ⊢
  refine ⟨h2.1.trans hq.1, ?_⟩
  rw [← h2.2, ← hq.2, cutA_cutA _ h1]
theorem holds_over {p q : Pf} {a : Ad} (hp : holds p a = true) (hq : holds q a = true) (h : p.bits ≤ q.bits) : over p q = true := by
  rw [holds_iff] at hp hq
  rw [over_iff, holds_iff]
  refine ⟨h, hp.1.trans hq.1.symm, ?_⟩
  rw [← hq.2, cutA_cutA _ h, hp.2]
theorem holds_eq {p q : Pf} {a : Ad} (hp : holds p a = true) (hq : holds q a = true) (h : p.bits = q.bits) : p = q := by
  rw [holds_iff] at hp hq
  cases p; cases q
  simp only at hp hq h
  subst h
  rw [← hp.2, ← hq.2]
theorem holds_self {p : Pf} (cp : chkP p = 0) : holds p p.ad = true := by
  rw [holds_iff]
  exact ⟨rfl, chkP_cut cp⟩
theorem over_host {p : Pf} {a : Ad} (cp : chkP p = 0) : over p ⟨a, (wid a.v6 : Nat)⟩ = holds p a := by
  obtain ⟨_, h2⟩ := chkP_bits cp
  unfold over
  cases hh : holds p a
  · simp [hh]
  · have hv := (holds_iff.1 hh).1
    rw [hv] at h2
    simp [hh, h2]
theorem host_right {a : Ad} (ha : a.In) (ca : chkA a = 0) : chkP ⟨a, (wid a.v6 : Nat)⟩ = 0 := by
  have hw : cutA a ((wid a.v6 : Nat) : Int) = a := by
    rw [cutA_iff ha.wf]
    simp [cutN]
  unfold chkP
  simp only [ca, hw]
  simp
theorem host_in {a : Ad} (ha : a.In) : (⟨a, (wid a.v6 : Nat)⟩ : Pf).In := by
  have hw := wid_le a.v6
  exact ⟨ha, ⟨by show (-9223372036854775808 : Int) ≤ ((wid a.v6 : Nat) : Int); omega, by show ((wid a.v6 : Nat) : Int) < 9223372036854775808; omega⟩⟩

theorem prefix_two_eq {p q : Pf} (hp : p.In) (hq : q.In) : prefix_two_t [p, q] = some (if chkP p ≠ 0 then chkP p else chkP q, ()) := by
  unfold prefix_two_t
  have hl : loopN prefix_two_L2 FUEL (((), (lenL [p, q], ()), (0, ()), ()), ([p, q], ())) = some (if (if chkP p ≠ 0 then chkP p else chkP q) ≠ 0 then Sum.inl ((((if chkP p ≠ 0 then chkP p else chkP q), ()), ()), ([p, q], ())) else Sum.inr ((), ([p, q], ()))) := by
    rw [show FUEL = (FUEL - 3) + 1 + 1 + 1 from rfl]
    generalize FUEL - 3 = n
    rw [loopN_succ]
    simp only [prefix_two_L2]
    rw [decide_eq_true (show (0 : Int) < lenL [p, q] by simp [lenL]), br_true, req_of (inRange_of (by omega) (by simp [lenL])), show geti [p, q] 0 = some p from rfl, bind_s, prefix_Check_eq hp, bind_s]
    by_cases h1 : chkP p = 0
    · rw [decide_eq_true (show (chkP p, ()).1 = 0 from h1), Bool.not_true, br_false, req_of (i64ok_of (by omega) (by omega)), loopN_succ]
      simp only [prefix_two_L2]
      rw [decide_eq_true (show (0 : Int) + 1 < lenL [p, q] by simp [lenL]), br_true, req_of (inRange_of (by omega) (by simp [lenL])), show geti [p, q] (0 + 1) = some q from rfl, bind_s, prefix_Check_eq hq, bind_s]
      simp only [h1, ne_eq, not_true, if_false]
      by_cases h2 : chkP q = 0
      · rw [decide_eq_true (show (chkP q, ()).1 = 0 from h2), Bool.not_true, br_false, req_of (i64ok_of (by omega) (by omega)), loopN_succ]
        simp only [prefix_two_L2]
        rw [decide_eq_false (show ¬ (0 : Int) + 1 + 1 < lenL [p, q] by simp [lenL]), br_false]
        simp [h2]
      · rw [decide_eq_false (show ¬ (chkP q, ()).1 = 0 from h2), Bool.not_false, br_true]
        simp [h2]
    · rw [decide_eq_false (show ¬ (chkP p, ()).1 = 0 from h1), Bool.not_false, br_true]
      simp [h1]
  rw [hl, bind_s]
  by_cases h : (if chkP p ≠ 0 then chkP p else chkP q) = 0
  · rw [if_neg (fun h' => h' h), h]; rfl
  · rw [if_pos h]; rfl
def hasT (p q : Pf) : Bool × Int × Unit := if chkP p ≠ 0 then (false, chkP p, ()) else if chkP q ≠ 0 then (false, chkP q, ()) else (over p q, 0, ())
theorem prefix_Has_eq {p q : Pf} (hp : p.In) (hq : q.In) : prefix_Has_t p q = some (hasT p q) := by
  unfold prefix_Has_t hasT
  rw [prefix_two_eq hp hq, bind_s]
  by_cases h1 : chkP p = 0
  · by_cases h2 : chkP q = 0
    · simp only [h1, h2, ne_eq, not_true, if_false, decide_true, Bool.not_true, br_false, prefix_Over_eq h1 hq, bind_s]
    · simp only [h1, h2, ne_eq, not_true, not_false_eq_true, if_false, if_true, decide_false, Bool.not_false, br_true]
  · simp only [h1, ne_eq, not_false_eq_true, if_true, decide_false, Bool.not_false, br_true]
theorem has_right {p q : Pf} (cp : chkP p = 0) (cq : chkP q = 0) : hasT p q = (over p q, 0, ()) := by simp [hasT, cp, cq]

/-! Sums. -/
def sumN (f : Nat → Nat) : Nat → Nat
  | 0 => 0
  | n + 1 => sumN f n + f n
theorem sumN_add (f g : Nat → Nat) : ∀ n, sumN (fun m => f m + g m) n = sumN f n + sumN g n
  | 0 => rfl
  | n + 1 => by simp only [sumN, sumN_add f g n]; omega
theorem sumN_zero : ∀ n, sumN (fun _ => 0) n = 0
  | 0 => rfl
  | n + 1 => by simp only [sumN, sumN_zero n]
theorem sumN_congr {f g : Nat → Nat} : ∀ n, (∀ m, m < n → f m = g m) → sumN f n = sumN g n
  | 0, _ => rfl
  | n + 1, h => by simp only [sumN, sumN_congr n (fun m hm => h m (by omega)), h n (by omega)]
theorem sumN_one (x : Int) : ∀ n : Nat, sumN (fun m => if x = (m : Int) then 1 else 0) n = if 0 ≤ x ∧ x < (n : Int) then 1 else 0
  | 0 => by simp only [sumN]; rw [if_neg (by omega)]
  | n + 1 => by
    simp only [sumN, sumN_one x n]
    by_cases h : x = (n : Int)
    · rw [if_pos h, if_neg (by omega), if_pos (by omega)]
    · rw [if_neg h]
      by_cases h2 : 0 ≤ x ∧ x < (n : Int)
      · rw [if_pos h2, if_pos (by omega)]
      · rw [if_neg h2, if_neg (by omega)]
theorem stands_sum (l : List Pf) (N : Nat) : ∀ K : Nat, (∀ k, k < K → aboveOf l (k : Int) < (N : Int)) → sumN (fun m => (stands l (m : Int) K).length) N + sumN (fun k => if aboveOf l (k : Int) < 0 then 1 else 0) K = K
  | 0, _ => by
    have : sumN (fun m => (stands l (m : Int) 0).length) N = 0 := (sumN_congr (g := fun _ => 0) N (fun m _ => rfl)).trans (sumN_zero N)
    rw [this]
    rfl
  | K + 1, h => by
    have ih := stands_sum l N K (fun k hk => h k (by omega))
    have hK := h K (by omega)
    have e : sumN (fun m => (stands l (m : Int) (K + 1)).length) N = sumN (fun m => (stands l (m : Int) K).length) N + if 0 ≤ aboveOf l (K : Int) ∧ aboveOf l (K : Int) < (N : Int) then 1 else 0 := by
      rw [← sumN_one, ← sumN_add]
      refine sumN_congr N fun m _ => ?_
      rw [stands]
      by_cases hh : aboveOf l (K : Int) = (m : Int)
      · rw [if_pos hh, if_pos hh, List.length_append]; rfl
      · rw [if_neg hh, if_neg hh]; rfl
    rw [e, sumN]
    by_cases h0 : aboveOf l (K : Int) < 0
    · rw [if_neg (by omega), if_pos h0]; omega
    · rw [if_pos (by omega), if_neg h0]; omega
theorem aboveOf_lt (l : List Pf) (n : Int) : aboveOf l n < (l.length : Int) := by
  unfold aboveOf
  split
  · rename_i q _
    rcases best_bound (okOver l q n) l l.length with h | ⟨j, hj, h⟩ <;> rw [h] <;> omega
  · omega
theorem stands_mem {l : List Pf} {n : Int} : ∀ {K : Nat} {x : Int}, x ∈ stands l n K → ∃ k : Nat, k < K ∧ x = (k : Int) ∧ aboveOf l (k : Int) = n
  | 0, x, h => by cases h
  | K + 1, x, h => by
    unfold stands at h
    split at h
    · rename_i he
      rcases List.mem_append.1 h with h | h
      · obtain ⟨k, hk, h1, h2⟩ := stands_mem h
        exact ⟨k, by omega, h1, h2⟩
      · exact ⟨K, by omega, by simpa using h, he⟩
    · obtain ⟨k, hk, h1, h2⟩ := stands_mem h
      exact ⟨k, by omega, h1, h2⟩
theorem rdy_zero {l : List Pf} (hc : chkTab l = 0) {k : Nat} (hk : k < l.length) : rdy l (k : Int) = 0 := by
  unfold rdy
  rw [if_neg (fun h => h hc), if_neg (by unfold lenL; omega)]
theorem aboveT_at {l : List Pf} (hc : chkTab l = 0) {k : Nat} (hk : k < l.length) : aboveT l (k : Int) = if aboveOf l (k : Int) < 0 then (0, 5, ()) else (aboveOf l (k : Int), 0, ()) := by
  unfold aboveT
  rw [rdy_zero hc hk, if_neg (by decide)]
theorem above_over {l : List Pf} {k n : Nat} {p q : Pf} (hk : l[k]? = some q) (hn : l[n]? = some p) (h : aboveOf l (k : Int) = (n : Int)) : over p q = true := by
  unfold aboveOf at h
  rw [geti_at hk] at h
  simp only at h
  rcases bestTo_best (okOver l q (k : Int)) l l.length with ⟨h1, _⟩ | ⟨j, hj, h1, h2, _⟩
  · rw [h1] at h; omega
  · have : j = n := by omega
    subst this
    unfold okOver at h2
    rw [hn] at h2
    simp only [Bool.and_eq_true] at h2
    exact h2.2

/-! The loops. -/
theorem tree_loop14 {l : List Pf} (h : tabIn l) (hc : chkTab l = 0) {n : Nat} (hn : n < l.length) (v0 : Int) (a : Ad) :
    loopN law_TableTree_L14 FUEL (((()), (()), (v0, ()), ((n : Int), ()), (()), (0, ()), ()), (l, (a, ()), stands l (n : Int) l.length, ())) = some (Sum.inr ((((()), (()), (v0, ()), ((n : Int), ()), ()), (l, (a, ()), ())))) := by
  obtain ⟨hl, hall⟩ := chkTab_ok hc
  have hsl := stands_len l (n : Int) l.length
  generalize hb : stands l (n : Int) l.length = b at hsl ⊢
  refine loop_up (step := law_TableTree_L14) (fun i => (((()), (()), (v0, ()), ((n : Int), ()), (()), ((i : Int), ()), ()), (l, (a, ()), b, ()))) b.length (fun _ => some (Sum.inr ((((()), (()), (v0, ()), ((n : Int), ()), ()), (l, (a, ()), ()))))) (fun rec i hi hr => ?_) (fun rec => ?_) FUEL 0 (Nat.zero_le _) (fuel_gt (by omega))
  · obtain ⟨x, hx⟩ : ∃ e, b[i]? = some e := ⟨_, List.getElem?_eq_getElem hi⟩
    have hm := List.mem_of_getElem? hx
    rw [← hb] at hm
    obtain ⟨k, hk, rfl, hab⟩ := stands_mem hm
    obtain ⟨q, hq⟩ : ∃ e, l[k]? = some e := ⟨_, List.getElem?_eq_getElem hk⟩
    obtain ⟨p, hp⟩ : ∃ e, l[n]? = some e := ⟨_, List.getElem?_eq_getElem hn⟩
    have hpm := List.mem_of_getElem? hp
    have hqm := List.mem_of_getElem? hq
    have hT : aboveT l (k : Int) = ((n : Int), 0, ()) := by rw [aboveT_at hc hk, hab, if_neg (by omega)]
    simp only [law_TableTree_L14]
    have r1 : inRange (i : Int) (lenL b) = true := inRange_of (by omega) (by unfold lenL; omega)
    have r2 : inRange (n : Int) (lenL l) = true := inRange_of (by omega) (by unfold lenL; omega)
    have r3 : inRange (k : Int) (lenL l) = true := inRange_of (by omega) (by unfold lenL; omega)
    rw [decide_eq_true (show (i : Int) < lenL b by unfold lenL; omega), br_true, req_of r1, geti_at hx, bind_s, table_Above_eq h, bind_s, hT, req_of r2, geti_at hp, bind_s, req_of r1, bind_s, req_of r3, geti_at hq, bind_s, prefix_Has_eq (h p hpm) (h q hqm), bind_s, has_right (hall p hpm) (hall q hqm), above_over hq hp hab]
    have i1 : i64ok ((i : Int) + 1) = true := i64ok_of (by omega) (by omega)
    simp only [decide_true, Bool.not_true, br_false, bind_s, i1, req_true]
    rw [show ((i : Int) + 1) = ((i + 1 : Nat) : Int) by omega]
    exact hr
  · simp only [law_TableTree_L14]
    rw [decide_eq_false (show ¬ (b.length : Int) < lenL b by unfold lenL; omega), br_false]
def treeN (l : List Pf) (n : Nat) : Nat := sumN (fun m => (stands l (m : Int) l.length).length + if aboveOf l (m : Int) < 0 then 1 else 0) n
theorem treeN_le (l : List Pf) (hl : l.length ≤ 12) : ∀ n, n ≤ l.length → treeN l n ≤ n * 13
  | 0, _ => Nat.le_refl _
  | n + 1, h => by
    have ih := treeN_le l hl n (by omega)
    have hs := stands_len l (n : Int) l.length
    unfold treeN at ih ⊢
    rw [sumN]
    split <;> omega
theorem treeN_all (l : List Pf) : treeN l l.length = l.length := by
  unfold treeN
  rw [sumN_add]
  exact stands_sum l l.length l.length (fun k _ => aboveOf_lt l k)
theorem tree_loop7 {l : List Pf} (h : tabIn l) (hc : chkTab l = 0) (a : Ad) :
    loopN law_TableTree_L7 FUEL (((()), (()), (0, ()), (0, ()), ()), (l, (a, ()), ())) = some (Sum.inr ((((()), (()), ((l.length : Int), ()), ()), (l, (a, ()), ())))) := by
  obtain ⟨hl, hall⟩ := chkTab_ok hc
  refine loop_up (step := law_TableTree_L7) (fun i => (((()), (()), ((treeN l i : Int), ()), ((i : Int), ()), ()), (l, (a, ()), ()))) l.length (fun _ => some (Sum.inr ((((()), (()), ((l.length : Int), ()), ()), (l, (a, ()), ()))))) (fun rec i hi hr => ?_) (fun rec => ?_) FUEL 0 (Nat.zero_le _) (fuel_gt (by omega))
  · have hT := aboveT_at hc hi
    have e3 : belowT l (i : Int) = (stands l (i : Int) l.length, 0, ()) := by unfold belowT; rw [rdy_zero hc hi, if_neg (by decide)]
    have hs := stands_len l (i : Int) l.length
    have ht := treeN_le l hl i (by omega)
    have i1 : i64ok ((i : Int) + 1) = true := i64ok_of (by omega) (by omega)
    have i2 : i64ok ((treeN l i : Int) + lenL (stands l (i : Int) l.length)) = true := i64ok_of (by unfold lenL; omega) (by unfold lenL; omega)
    have i3 : i64ok ((treeN l i : Int) + lenL (stands l (i : Int) l.length) + 1) = true := i64ok_of (by unfold lenL; omega) (by unfold lenL; omega)
    simp only [law_TableTree_L7]
    rw [decide_eq_true (show (i : Int) < lenL l by unfold lenL; omega), br_true, table_Below_eq h, bind_s, e3]
    simp only [decide_true, Bool.not_true, br_false, i1, i2, i3, req_true]
    rw [tree_loop14 h hc hi, bind_s]
    simp only [sumC]
    rw [table_Above_eq h, bind_s, hT, ← hr]
    have ex : treeN l (i + 1) = treeN l i + ((stands l (i : Int) l.length).length + if aboveOf l (i : Int) < 0 then 1 else 0) := rfl
    by_cases h0 : aboveOf l (i : Int) < 0
    · rw [if_pos h0] at ex
      rw [if_pos h0]
      simp only [decide_true, br_true, i1, i3, req_true]
      rw [ex, show ((treeN l i : Int) + lenL (stands l (i : Int) l.length) + 1) = ((treeN l i + ((stands l (i : Int) l.length).length + 1) : Nat) : Int) by unfold lenL; omega, show ((i : Int) + 1) = ((i + 1 : Nat) : Int) by omega]
    · rw [if_neg h0] at ex
      rw [if_neg h0]
      simp only [show decide ((0 : Int) = 5) = false from rfl, br_false, i1, req_true]
      rw [ex, show ((treeN l i : Int) + lenL (stands l (i : Int) l.length)) = ((treeN l i + ((stands l (i : Int) l.length).length + 0) : Nat) : Int) by unfold lenL; omega, show ((i : Int) + 1) = ((i + 1 : Nat) : Int) by omega]
  · simp only [law_TableTree_L7]
    rw [decide_eq_false (show ¬ (l.length : Int) < lenL l by unfold lenL; omega), br_false, treeN_all]
theorem tree_loop29 {l : List Pf} {a : Ad} (h : tabIn l) (ha : a.In) (hc : chkTab l = 0) (ca : chkA a = 0) {f : Nat} {q : Pf} (hf : l[f]? = some q) (hq : ∀ p ∈ l, holds p a = true → over p q = true) :
    loopN law_TableTree_L29 FUEL (((()), (()), ((f : Int), ()), (0, ()), ()), (l, (a, ()), ())) = some (Sum.inr (((()), (l, ())))) := by
  obtain ⟨hl, hall⟩ := chkTab_ok hc
  have hfl := (List.getElem?_eq_some_iff.1 hf).1
  have hqm := List.mem_of_getElem? hf
  refine loop_up (step := law_TableTree_L29) (fun i => (((()), (()), ((f : Int), ()), ((i : Int), ()), ()), (l, (a, ()), ()))) l.length (fun _ => some (Sum.inr (((()), (l, ()))))) (fun rec i hi hr => ?_) (fun rec => ?_) FUEL 0 (Nat.zero_le _) (fuel_gt (by omega))
  · obtain ⟨p, hp⟩ : ∃ e, l[i]? = some e := ⟨_, List.getElem?_eq_getElem hi⟩
    have hpm := List.mem_of_getElem? hp
    have r1 : inRange (i : Int) (lenL l) = true := inRange_of (by omega) (by unfold lenL; omega)
    have r2 : inRange (f : Int) (lenL l) = true := inRange_of (by omega) (by unfold lenL; omega)
    have i1 : i64ok ((i : Int) + 1) = true := i64ok_of (by omega) (by omega)
    simp only [law_TableTree_L29]
    rw [decide_eq_true (show (i : Int) < lenL l by unfold lenL; omega), br_true, req_of r1, geti_at hp, bind_s, R_Host_eq, bind_s, prefix_Has_eq (h p hpm) (host_in ha), bind_s, has_right (hall p hpm) (host_right ha ca), over_host (hall p hpm), req_of r1, bind_s, req_of r2, geti_at hf, bind_s, prefix_Has_eq (h p hpm) (h q hqm), bind_s, has_right (hall p hpm) (hall q hqm)]
    simp only [decide_true, Bool.not_true, br_false, bind_s, i1, req_true]
    rw [show ((i : Int) + 1) = ((i + 1 : Nat) : Int) by omega]
    cases hh : holds p a
    · rw [br_false, bind_s, br_false]; exact hr
    · rw [hq p hpm hh, br_true, Bool.not_true, bind_s, br_false]; exact hr
  · simp only [law_TableTree_L29]
    rw [decide_eq_false (show ¬ (l.length : Int) < lenL l by unfold lenL; omega), br_false]
/-- The one found stands below all that hold the address. -/
theorem found_best {l : List Pf} {a : Ad} {f : Nat} {q : Pf} (hf : l[f]? = some q) (hb : bestTo (okFind l a) l l.length = (f : Int)) : holds q a = true ∧ ∀ p ∈ l, holds p a = true → over p q = true := by
  rcases bestTo_best (okFind l a) l l.length with ⟨h1, _⟩ | ⟨j, hj, h1, h2, h3, _⟩
  · rw [h1] at hb; omega
  · have : j = f := by omega
    subst this
    have hqa : holds q a = true := by unfold okFind at h2; rw [hf] at h2; exact h2
    refine ⟨hqa, fun p hp ho => ?_⟩
    obtain ⟨i, hi⟩ := List.mem_iff_getElem?.1 hp
    have := h3 i (List.getElem?_eq_some_iff.1 hi).1 (by unfold okFind; rw [hi]; exact ho)
    unfold bitsAt at this
    rw [hi, hf] at this
    exact holds_over ho hqa this
/-- **TableTree**. -/
theorem TableTree_eq {l : List Pf} {a : Ad} (h : tabIn l) (ha : a.In) : law_TableTree_t l a = some (true, ()) := by
  unfold law_TableTree_t
  rw [tableBegun_eq, bind_s, Bool.not_true, br_false, prefixBegun_eq, bind_s, bind_s, Bool.not_true, br_false, table_Check_eq h, bind_s]
  by_cases hc : chkTab l = 0
  rotate_left
  · rw [decide_eq_false (show ¬ (chkTab l, ()).1 = 0 from hc), Bool.not_false, br_true]
  rw [decide_eq_true (show (chkTab l, ()).1 = 0 from hc), Bool.not_true, br_false, tree_loop7 h hc, bind_s]
  simp only [sumC]
  rw [decide_eq_true (show (l.length : Int) = lenL l from rfl), Bool.not_true, br_false, table_Find_eq h ha, bind_s]
  have hf : findOf l a = if chkA a ≠ 0 then (0, chkA a, ()) else if bestTo (okFind l a) l l.length < 0 then (0, 5, ()) else (bestTo (okFind l a) l l.length, 0, ()) := by unfold findOf; rw [if_neg (fun h => h hc)]
  rw [hf]
  by_cases hca : chkA a = 0
  · rw [if_neg (fun h => h hca)]
    by_cases hb : bestTo (okFind l a) l l.length < 0
    · rw [if_pos hb]; rfl
    · rw [if_neg hb]
      rcases best_bound (okFind l a) l l.length with h1 | ⟨f, hfl, h1⟩
      · rw [h1] at hb; omega
      · obtain ⟨q, hq⟩ : ∃ e, l[f]? = some e := ⟨_, List.getElem?_eq_getElem hfl⟩
        rw [h1]
        simp only [decide_true, Bool.not_true, br_false]
        rw [tree_loop29 h ha hc hca hq (found_best hq h1).2, bind_s]
  · rw [if_pos hca]
    simp only [decide_eq_false hca, Bool.not_false, br_true, decide_true]
end Go.Ma
