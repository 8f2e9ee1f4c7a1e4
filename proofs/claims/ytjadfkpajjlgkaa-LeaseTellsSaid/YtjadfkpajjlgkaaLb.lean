/-
  Leases: those that are not over; whose they are; Drop.
-/
import Derived.Test.YtjadfkpajjlgkaaLa
import Derived.Test.YtjadfkpajjlgkaaPv
namespace Go.Ma
open Go

theorem eqLs_eq (a b : Ls) : eqLs a b = decide (a = b) := by
  have e : (a = b) ↔ (a.ad.v6 = b.ad.v6 ∧ a.ad.hi = b.ad.hi ∧ a.ad.lo = b.ad.lo ∧ a.who = b.who ∧ a.upto = b.upto) := by
    cases a with | mk a1 w1 u1 => cases b with | mk a2 w2 u2 =>
    cases a1; cases a2
    simp only [Ls.mk.injEq, Ad.mk.injEq, and_assoc]
  rw [Bool.eq_iff_iff, decide_eq_true_iff, e]
  unfold eqLs
  simp [beqB, acmp, strcmp_eql]

/-! The first that is so. -/
def firstF {α : Type} (q : α → Bool) : List α → Option Nat
  | [] => none
  | x :: r => if q x then some 0 else (firstF q r).map (· + 1)
theorem firstF_at {α : Type} {q : α → Bool} {l : List α} {i : Nat} {x : α} (h : l[i]? = some x) : (firstF q (l.drop i)).map (· + i) = if q x then some i else (firstF q (l.drop (i + 1))).map (· + (i + 1)) := by
  rw [drop_cons h, firstF]
  cases q x
  · simp only [Bool.false_eq_true, if_false, Option.map_map]
    congr 1
    funext k
    simp only [Function.comp]
    omega
  · simp
theorem firstF_none {α : Type} {q : α → Bool} : ∀ {l : List α}, firstF q l = none → ∀ x ∈ l, q x = false
  | [], _, x, hx => by cases hx
  | y :: r, h, x, hx => by
    unfold firstF at h
    split at h
    · cases h
    · rename_i hq
      rw [Option.map_eq_none_iff] at h
      rcases List.mem_cons.1 hx with rfl | hx
      · simpa using hq
      · exact firstF_none h x hx
theorem firstF_some {α : Type} {q : α → Bool} : ∀ {l : List α} {k : Nat}, firstF q l = some k → ∃ x, l[k]? = some x ∧ q x = true ∧ ∀ y ∈ l.take k, q y = false
  | [], _, h => by cases h
  | y :: r, k, h => by
    unfold firstF at h
    split at h
    · rename_i hq
      cases h
      exact ⟨y, rfl, hq, fun z hz => by simp at hz⟩
    · rename_i hq
      obtain ⟨k', hk, rfl⟩ := Option.map_eq_some_iff.1 h
      obtain ⟨x, h1, h2, h3⟩ := firstF_some hk
      refine ⟨x, by simpa using h1, h2, fun z hz => ?_⟩
      rw [List.take_succ_cons] at hz
      rcases List.mem_cons.1 hz with rfl | hz
      · simpa using hq
      · exact h3 z hz
theorem firstF_lt {α : Type} {q : α → Bool} {l : List α} {k : Nat} (h : firstF q l = some k) : k < l.length := by
  obtain ⟨x, h1, _⟩ := firstF_some h
  exact (List.getElem?_eq_some_iff.1 h1).1
theorem firstF_any {α : Type} {q : α → Bool} : ∀ l : List α, (firstF q l).isSome = l.any q
  | [] => rfl
  | x :: r => by
    unfold firstF
    cases h : q x
    · simp [h, firstF_any r]
    · simp [h]
def idxI : Option Nat → Int
  | some k => (k : Int)
  | none => -1

/-! Those that are not over. -/
def liveP (now : Int) (x : Ls) : Bool := decide (now ≤ x.upto)
def live (l : List Ls) (now : Int) : List Ls := l.filter (liveP now)
def overP (now : Int) (x : Ls) : Bool := decide (x.upto < now)
theorem over_not (now : Int) (x : Ls) : overP now x = !liveP now x := by
  unfold overP liveP
  by_cases h : x.upto < now
  · have : ¬ now ≤ x.upto := by omega
    simp [h, this]
  · have : now ≤ x.upto := by omega
    simp [h, this]
abbrev DL := List Ls × (Int × Unit) × List Ls × List Ls × List Ls × Unit
def overOut (l : List Ls) (now : Int) : Option Nat → (((Int × Unit) × Unit) × DL) ⊕ ((Unit) × DL)
  | some k => Sum.inl ((((k : Int), ()), ()), (l, (now, ()), [], l, [], ()))
  | none => Sum.inr ((), (l, (now, ()), [], l, [], ()))
theorem live_loop1 {l : List Ls} (hlen : l.length ≤ 1048576) (now : Int) : loopN lease_Live_slices_DeleteFunc___api_Lease_api_Lease__slices_IndexFunc___api_Lease_api_Lease__L2 FUEL (((), (), (lenL l, ()), (0, ()), ()), (l, (now, ()), [], l, [], ())) = some (overOut l now (firstF (overP now) l)) := by
  have := loop_up (step := lease_Live_slices_DeleteFunc___api_Lease_api_Lease__slices_IndexFunc___api_Lease_api_Lease__L2) (fun i => (((), (), (lenL l, ()), ((i : Int), ()), ()), (l, (now, ()), [], l, [], ()))) l.length (fun i => some (overOut l now ((firstF (overP now) (l.drop i)).map (· + i)))) (fun rec i hi hr => ?_) (fun rec => ?_) FUEL 0 (Nat.zero_le _) (fuel_gt (by omega))
  · simpa using this
  · obtain ⟨e, he⟩ : ∃ e, l[i]? = some e := ⟨_, List.getElem?_eq_getElem hi⟩
    simp only [lease_Live_slices_DeleteFunc___api_Lease_api_Lease__slices_IndexFunc___api_Lease_api_Lease__L2]
    rw [decide_eq_true (show (i : Int) < lenL l by unfold lenL; omega), br_true, req_of (inRange_of (by omega) (by unfold lenL; omega)), geti_at he, bind_s, lease_Live_1_t, bind_s, firstF_at he]
    unfold overP
    by_cases hc : e.upto < now
    · simp only [hc, decide_true, br_true, if_true]
      rfl
    · simp only [hc, decide_false, br_false]
      rw [show ((i : Int) + 1) = ((i + 1 : Nat) : Int) by omega, req_of (i64ok_of (by omega) (by omega)), hr]
      rfl
  · simp only [lease_Live_slices_DeleteFunc___api_Lease_api_Lease__slices_IndexFunc___api_Lease_api_Lease__L2]
    rw [decide_eq_false (show ¬ (l.length : Int) < lenL l by unfold lenL; omega), br_false, List.drop_of_length_le (Nat.le_refl _)]
    rfl
theorem live_loop2 {l : List Ls} (hlen : l.length ≤ 1048576) (now : Int) : ∀ (N j w : Nat) (r : List Ls), l.length - j < N → j ≤ l.length → w < j → r.length = l.length → r.take w = live (l.take j) now → r.drop j = l.drop j →
    ∃ (w' : Nat) (r' : List Ls), loopN lease_Live_slices_DeleteFunc___api_Lease_api_Lease__L5 N (((), (), ((w : Int), ()), ((j : Int), ()), ()), (l, (now, ()), [], r, ())) = some (((), ((w' : Int), ()), ()), (l, (now, ()), [], r', ())) ∧ r'.take w' = live l now ∧ w' ≤ r'.length
  | 0, _, _, _, h, _, _, _, _, _ => by omega
  | N + 1, j, w, r, hN, hj, hw, hr, ht, hd => by
    rw [loopN_succ]
    simp only [lease_Live_slices_DeleteFunc___api_Lease_api_Lease__L5]
    by_cases hjl : j < l.length
    · obtain ⟨e, he⟩ : ∃ e, l[j]? = some e := ⟨_, List.getElem?_eq_getElem hjl⟩
      have her : r[j]? = some e := by
        have := congrArg (fun x : List Ls => x[0]?) hd
        simp only [List.getElem?_drop, Nat.add_zero] at this
        rw [this, he]
      have hlt : live (l.take (j + 1)) now = live (l.take j) now ++ (if liveP now e then [e] else []) := by
        unfold live
        have hx := (List.getElem?_eq_some_iff.1 he).2
        rw [List.take_succ_eq_append_getElem hjl, List.filter_append, hx]
        congr 1
        simp only [List.filter_cons, List.filter_nil]
      have hd1 : r.drop (j + 1) = l.drop (j + 1) := by
        have := congrArg (List.drop 1) hd
        simpa using this
      rw [decide_eq_true (show (j : Int) < lenL r by unfold lenL; omega), br_true, req_of (inRange_of (by omega) (by unfold lenL; omega)), geti_at her, bind_s, lease_Live_1_t, bind_s]
      have ho := over_not now e
      unfold overP at ho
      cases hp : liveP now e
      · rw [hp] at ho hlt
        simp only [ho, Bool.not_false, Bool.not_true, br_false]
        rw [show ((j : Int) + 1) = ((j + 1 : Nat) : Int) by omega, req_of (i64ok_of (by omega) (by omega))]
        exact live_loop2 hlen now N (j + 1) w r (by omega) (by omega) (by omega) hr (by rw [ht, hlt]; simp) hd1
      · rw [hp] at ho hlt
        obtain ⟨e2, he2⟩ : ∃ e, r[w]? = some e := ⟨_, List.getElem?_eq_getElem (by omega)⟩
        simp only [ho, Bool.not_false, Bool.not_true, br_true]
        rw [req_of (inRange_of (by omega) (by unfold lenL; omega)), geti_at he2, bind_s, show ((j : Int) + 1) = ((j + 1 : Nat) : Int) by omega, show ((w : Int) + 1) = ((w + 1 : Nat) : Int) by omega, req_of (i64ok_of (by omega) (by omega)), req_of (i64ok_of (by omega) (by omega))]
        have hs : seti r (w : Int) e = r.set w e := by simp [seti]
        rw [hs]
        refine live_loop2 hlen now N (j + 1) (w + 1) (r.set w e) (by omega) (by omega) (by omega) (by simp [hr]) ?_ ?_
        · rw [hlt, ← ht]
          have hwl : w < (r.set w e).length := by simp; omega
          rw [List.take_succ_eq_append_getElem hwl, List.take_set_of_le (Nat.le_refl _)]
          simp
        · rw [List.drop_set_of_lt (by omega), hd1]
    · have : j = l.length := by omega
      subst this
      rw [decide_eq_false (show ¬ (l.length : Int) < lenL r by unfold lenL; omega), br_false]
      rw [List.take_of_length_le (Nat.le_refl _)] at ht
      exact ⟨w, r, rfl, ht, by omega⟩
theorem clone_ls {l : List Ls} (h : l.length ≤ 1048576) : slices_Clone___api_Lease_api_Lease__t l = some (l, ()) := by
  unfold slices_Clone___api_Lease_api_Lease__t
  rw [req_of (room_of (by simp [lenL]) (lenL_nonneg l) (by unfold lenL; simp; omega)), List.nil_append]
  cases l with
  | nil => exact both_self _
  | cons a r => rfl
theorem lease_Live_eq {l : List Ls} (h : l.length ≤ 1048576) (now : Int) : lease_Live_t l now = some (live l now, ()) := by
  unfold lease_Live_t
  rw [clone_ls h, bind_s, live_loop1 h now, bind_s]
  cases hf : firstF (overP now) l with
  | none =>
    simp only [overOut, sumC]
    have : live l now = l := by
      unfold live
      rw [List.filter_eq_self]
      intro x hx
      have := firstF_none hf x hx
      rw [over_not] at this
      simpa using this
    rw [this]
  | some k =>
    obtain ⟨x, hx, hq, hb⟩ := firstF_some hf
    have hk := firstF_lt hf
    simp only [overOut, sumC]
    rw [decide_eq_false (show ¬ (k : Int) = -1 by omega), br_false, req_of (i64ok_of (by omega) (by omega)), show ((k : Int) + 1) = ((k + 1 : Nat) : Int) by omega]
    have hlk : live (l.take (k + 1)) now = l.take k := by
      unfold live
      have hxe := (List.getElem?_eq_some_iff.1 hx).2
      rw [List.take_succ_eq_append_getElem hk, List.filter_append, hxe]
      have h1 : (l.take k).filter (liveP now) = l.take k := by
        rw [List.filter_eq_self]
        intro y hy
        have := hb y hy
        rw [over_not] at this
        simpa using this
      have h2 : liveP now x = false := by
        rw [over_not] at hq
        simpa using hq
      rw [h1, List.filter_cons, h2]
      simp
    obtain ⟨w', r', hl, ht, hw⟩ := live_loop2 h now FUEL (k + 1) k l (by have : FUEL = 18446744073709551616 := rfl; omega) (by omega) (by omega) rfl (by rw [hlk]) rfl
    rw [hl, bind_s]
    have hc : (clrL r' (w' : Int) (⟨(⟨false, 0, 0⟩ : Ad), (ByteArray.empty), 0⟩ : Ls)).length = r'.length := by simp [clrL]; omega
    have hz : (decide ((0 : Int) ≤ (w' : Int)) && decide ((w' : Int) ≤ lenL r')) = true := by simp [lenL]; omega
    have hz2 : (decide ((0 : Int) ≤ (w' : Int)) && decide ((w' : Int) ≤ lenL (clrL r' (w' : Int) (⟨(⟨false, 0, 0⟩ : Ad), (ByteArray.empty), 0⟩ : Ls)))) = true := by
      unfold lenL
      rw [hc]
      exact hz
    rw [req_of hz, req_of hz2]
    have : subL (clrL r' (w' : Int) (⟨(⟨false, 0, 0⟩ : Ad), (ByteArray.empty), 0⟩ : Ls)) 0 (w' : Int) = r'.take w' := by
      simp [subL, clrL, List.take_append_of_le_length, hw]
    rw [this, ht]
theorem live_len (l : List Ls) (now : Int) : (live l now).length ≤ l.length := List.length_filter_le _ _
/-- What lease.Drop answers. -/
def dropOf (l : List Ls) (now : Int) : List Ls × Int × Int × Unit := if allC l now ≠ 0 then ([], 0, allC l now, ()) else (live l now, lenL l - lenL (live l now), 0, ())
theorem allC_len {l : List Ls} {now : Int} (h : allC l now = 0) : l.length ≤ 20 := by
  unfold allC at h
  split at h
  · cases h
  · omega
theorem lease_Drop_eq {l : List Ls} (h : lsIn l) (now : Int) : lease_Drop_t l now = some (dropOf l now) := by
  unfold lease_Drop_t dropOf
  rw [lease_All_eq h, bind_s]
  by_cases hc : allC l now = 0
  · have hl := allC_len hc
    have h2 := live_len l now
    simp only [hc, decide_true, Bool.not_true, br_false, ne_eq, not_true, if_false]
    rw [lease_Live_eq (by omega), bind_s, req_of (i64ok_of (by unfold lenL; simp only; omega) (by unfold lenL; simp only; omega))]
  · simp only [hc, decide_false, Bool.not_false, br_true, ne_eq, not_false_eq_true, if_true]

/-! The document's. -/
theorem R_LiveOf_eq {l : List Ls} (hlen : l.length ≤ 1048576) (now : Int) : R_LiveOf_t l now = some (live l now, ()) := by
  unfold R_LiveOf_t
  have := loop_up (step := R_LiveOf_L3) (fun i => (((), (now, ()), (), ((i : Int), ()), ()), (l, live (l.take i) now, ()))) l.length (fun i => some (((), ()), (l, live l now, ()))) (fun rec i hi hr => ?_) (fun rec => ?_) FUEL 0 (Nat.zero_le _) (fuel_gt (by omega))
  · rw [show live (l.take 0) now = [] from rfl] at this
    rw [show ((0 : Nat) : Int) = 0 from rfl] at this
    rw [this, bind_s]
  · obtain ⟨e, he⟩ : ∃ e, l[i]? = some e := ⟨_, List.getElem?_eq_getElem hi⟩
    have hx := (List.getElem?_eq_some_iff.1 he).2
    have hlt : live (l.take (i + 1)) now = live (l.take i) now ++ (if liveP now e then [e] else []) := by
      unfold live
      rw [List.take_succ_eq_append_getElem hi, List.filter_append, hx]
      congr 1
      simp only [List.filter_cons, List.filter_nil]
    have r1 : inRange (i : Int) (lenL l) = true := inRange_of (by omega) (by unfold lenL; omega)
    have hl2 := live_len (l.take i) now
    simp only [List.length_take] at hl2
    simp only [R_LiveOf_L3]
    rw [decide_eq_true (show (i : Int) < lenL l by unfold lenL; omega), br_true]
    simp only [r1, req_true, geti_at he, bind_s]
    rw [show ((i : Int) + 1) = ((i + 1 : Nat) : Int) by omega, req_of (i64ok_of (by omega) (by omega))]
    unfold liveP at hlt
    by_cases hp : now ≤ e.upto
    · have hp' : e.upto ≥ now := hp
      rw [decide_eq_true hp', br_true, req_of (room_of (lenL_nonneg _) (lenL_nonneg _) (by unfold lenL; simp only [List.length_cons, List.length_nil]; omega))]
      rw [decide_eq_true hp, if_pos rfl] at hlt
      rw [← hlt, hr]
    · have hp' : ¬ e.upto ≥ now := hp
      rw [decide_eq_false hp', br_false, req_of (i64ok_of (by omega) (by omega))]
      rw [decide_eq_false hp] at hlt
      simp only [Bool.false_eq_true, if_false, List.append_nil] at hlt
      rw [← hlt, hr]
  · simp only [R_LiveOf_L3]
    rw [decide_eq_false (show ¬ (l.length : Int) < lenL l by unfold lenL; omega), br_false, List.take_of_length_le (Nat.le_refl _)]
def whoP (who : ByteArray) (x : Ls) : Bool := decide (x.who = who)
def whoOut (l : List Ls) : Option Nat → (((Int × Unit) × Unit) × (List Ls × Unit)) ⊕ ((Unit) × (List Ls × Unit))
  | some k => Sum.inl ((((k : Int), ()), ()), (l, ()))
  | none => Sum.inr ((), (l, ()))
theorem R_WhoAt_eq {l : List Ls} (hlen : l.length ≤ 9223372036854775807) (who : ByteArray) : R_WhoAt_t l who = some (idxI (firstF (whoP who) l), ()) := by
  have : loopN R_WhoAt_L2 FUEL (((), (who, ()), (0, ()), ()), (l, ())) = some (whoOut l (firstF (whoP who) l)) := by
    have := loop_up (step := R_WhoAt_L2) (fun i => (((), (who, ()), ((i : Int), ()), ()), (l, ()))) l.length (fun i => some (whoOut l ((firstF (whoP who) (l.drop i)).map (· + i)))) (fun rec i hi hr => ?_) (fun rec => ?_) FUEL 0 (Nat.zero_le _) (fuel_gt (by omega))
    · simpa using this
    · obtain ⟨e, he⟩ : ∃ e, l[i]? = some e := ⟨_, List.getElem?_eq_getElem hi⟩
      have r1 : inRange (i : Int) (lenL l) = true := inRange_of (by omega) (by unfold lenL; omega)
      simp only [R_WhoAt_L2]
      rw [decide_eq_true (show (i : Int) < lenL l by unfold lenL; omega), br_true]
      simp only [r1, req_true, geti_at he, bind_s]
      rw [firstF_at he, strcmp_eql]
      unfold whoP
      by_cases hc : e.who = who
      · simp only [hc, decide_true, br_true, if_true]
        rfl
      · simp only [hc, decide_false, br_false]
        rw [show ((i : Int) + 1) = ((i + 1 : Nat) : Int) by omega, req_of (i64ok_of (by omega) (by omega)), hr]
        rfl
    · simp only [R_WhoAt_L2]
      rw [decide_eq_false (show ¬ (l.length : Int) < lenL l by unfold lenL; omega), br_false, List.drop_of_length_le (Nat.le_refl _)]
      rfl
  unfold R_WhoAt_t
  rw [this, bind_s]
  cases firstF (whoP who) l <;> rfl
theorem R_SameLeases_eq {l l' : List Ls} (hl : l.length < 9223372036854775808) : R_SameLeases_t l l' = some (decide (l = l'), ()) := by
  unfold R_SameLeases_t
  by_cases hn : l.length = l'.length
  rotate_left
  · rw [decide_eq_false (show ¬ lenL l = lenL l' by unfold lenL; omega), Bool.not_false, br_true, decide_eq_false (fun h => hn (by rw [h]))]
  rw [decide_eq_true (show lenL l = lenL l' by unfold lenL; omega), Bool.not_true, br_false]
  have hlp : loopN R_SameLeases_L4 FUEL (((), (), (0, ()), ()), (l, l', ())) = some (if l.drop 0 = l'.drop 0 then Sum.inr ((), (l, l', ())) else Sum.inl ((((false : Bool), ()), ()), (l, l', ()))) := by
    refine loop_up (step := R_SameLeases_L4) (fun i => (((), (), ((i : Int), ()), ()), (l, l', ()))) l.length (fun i => some (if l.drop i = l'.drop i then Sum.inr ((), (l, l', ())) else Sum.inl ((((false : Bool), ()), ()), (l, l', ())))) (fun rec i hi hr => ?_) (fun rec => ?_) FUEL 0 (Nat.zero_le _) (fuel_gt (by omega))
    · obtain ⟨e, he⟩ : ∃ e, l[i]? = some e := ⟨_, List.getElem?_eq_getElem hi⟩
      obtain ⟨e', he'⟩ : ∃ e, l'[i]? = some e := ⟨_, List.getElem?_eq_getElem (by omega)⟩
      simp only [R_SameLeases_L4]
      rw [decide_eq_true (show (i : Int) < lenL l by unfold lenL; omega), br_true, req_of (inRange_of (by omega) (by unfold lenL; omega)), geti_at he, bind_s, req_of (inRange_of (by omega) (by unfold lenL; omega)), geti_at he', bind_s, eqLs_eq, drop_cons he, drop_cons he']
      by_cases hee : e = e'
      · rw [decide_eq_true hee, Bool.not_true, br_false, show ((i : Int) + 1) = ((i + 1 : Nat) : Int) by omega, req_of (i64ok_of (by omega) (by omega)), hr]
        simp [hee]
      · rw [decide_eq_false hee, Bool.not_false, br_true]
        simp [hee]
    · simp only [R_SameLeases_L4]
      rw [decide_eq_false (show ¬ (l.length : Int) < lenL l by unfold lenL; omega), br_false, List.drop_of_length_le (Nat.le_refl _), List.drop_of_length_le (by omega)]
      rfl
  rw [hlp, bind_s, List.drop_zero, List.drop_zero]
  by_cases h : l = l'
  · rw [if_pos h, decide_eq_true h]; rfl
  · rw [if_neg h, decide_eq_false h]; rfl
end Go.Ma
