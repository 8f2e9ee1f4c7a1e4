/-
  Tables: Check, and the nearest one.
-/
import Derived.Test.YtaicmdnpjgijjaaGreatDoorPh
namespace Go.Ma
open Go

def tabIn (l : List Pf) : Prop := ∀ p ∈ l, p.In
def chkTabF : List Pf → Option Pf → Int
  | [], _ => 0
  | p :: r, prev => if chkP p ≠ 0 then chkP p else
    match prev with
    | some q => if q = p then 6 else if ordP q p > 0 then 4 else chkTabF r (some p)
    | none => chkTabF r (some p)
theorem chkTabF_cons (p : Pf) (r : List Pf) (prev : Option Pf) : chkTabF (p :: r) prev = if chkP p ≠ 0 then chkP p else
    match prev with
    | some q => if q = p then 6 else if ordP q p > 0 then 4 else chkTabF r (some p)
    | none => chkTabF r (some p) := by cases prev <;> rfl
/-- What table.Check answers. -/
def chkTab (l : List Pf) : Int := if l.length > 12 then 2 else chkTabF l none
def prevP (l : List Pf) : Nat → Option Pf
  | 0 => none
  | i + 1 => l[i]?
def tabOut (l : List Pf) (r : Int) : ((((Int × Unit) × Unit) × (List Pf × Unit)) ⊕ ((Unit) × (List Pf × Unit))) := if r = 0 then Sum.inr ((), l, ()) else Sum.inl (((r, ()), ()), l, ())
theorem tabOut_ne {l : List Pf} {r : Int} (h : r ≠ 0) : some (tabOut l r) = some (Sum.inl (((r, ()), ()), l, ())) := by rw [tabOut, if_neg h]
def prevOk (l : List Pf) (i : Nat) : Prop := ∀ q, prevP l i = some q → chkP q = 0
theorem table_Check_eq {l : List Pf} (h : tabIn l) : table_Check_t l = some (chkTab l, ()) := by
  unfold table_Check_t chkTab
  by_cases hlen : l.length > 12
  · rw [if_pos hlen, decide_eq_true (show lenL l > 12 by unfold lenL; omega), br_true]
  rw [if_neg hlen, decide_eq_false (show ¬ lenL l > 12 by unfold lenL; omega), br_false]
  have hl : loopN table_Check_L4 FUEL (((), (), (lenL l, ()), ((((0 : Nat) : Int)), ()), ()), l, ()) = some (tabOut l (chkTabF (l.drop 0) (prevP l 0))) := by
    refine loop_upI (step := table_Check_L4) (fun i => (((), (), (lenL l, ()), ((i : Int), ()), ()), l, ())) l.length (fun i => some (tabOut l (chkTabF (l.drop i) (prevP l i)))) (prevOk l) (fun rec i hi hI hr => ?_) (fun rec _ => ?_) FUEL 0 (Nat.zero_le _) (fun q hq => by cases hq) (fuel_gt (by omega))
    · obtain ⟨p, hp⟩ : ∃ e, l[i]? = some e := ⟨_, List.getElem?_eq_getElem hi⟩
      have hpi := h p (List.mem_of_getElem? hp)
      simp only [table_Check_L4]
      rw [decide_eq_true (show (i : Int) < lenL l by unfold lenL; omega), br_true, req_of (inRange_of (by omega) (by unfold lenL; omega)), geti_at hp, bind_s, prefix_Check_eq hpi, bind_s, drop_cons hp, chkTabF_cons]
      by_cases hc : chkP p = 0
      rotate_left
      · rw [if_pos hc, decide_eq_false (show ¬ (chkP p, ()).1 = 0 from hc), Bool.not_false, br_true, tabOut_ne hc]
      rw [if_neg (fun h0 => h0 hc), decide_eq_true (show (chkP p, ()).1 = 0 from hc), Bool.not_true, br_false]
      have hr' := hr (fun q hq => by simp only [prevP, hp] at hq; cases hq; exact hc)
      rw [show prevP l (i + 1) = some p by simp only [prevP, hp]] at hr'
      have hi1 : i64ok ((i : Int) + 1) = true := i64ok_of (by omega) (by omega)
      cases i with
      | zero =>
        rw [decide_eq_false (by omega), br_false, bind_s, br_false, br_false, bind_s, br_false, hi1, req_true]
        exact hr'
      | succ k =>
        obtain ⟨q, hq⟩ : ∃ e, l[k]? = some e := ⟨_, List.getElem?_eq_getElem (by omega)⟩
        have hcq := hI q hq
        have e1 : (((k + 1 : Nat) : Int) - 1) = (k : Int) := by omega
        have i1 : i64ok (k : Int) = true := i64ok_of (by omega) (by omega)
        have i2 : inRange (k : Int) (lenL l) = true := inRange_of (by omega) (by unfold lenL; omega)
        rw [decide_eq_true (show ((k + 1 : Nat) : Int) > 0 by omega), br_true, br_true]
        simp only [e1, i1, i2, req_true, geti_at hq, bind_s, eqPf_eq, prefix_Order_eq hcq hc]
        simp only [prevP, hq]
        by_cases h1 : q = p
        · rw [if_pos h1, decide_eq_true h1, br_true]; rfl
        rw [if_neg h1, decide_eq_false h1, br_false]
        by_cases h2 : ordP q p > 0
        · rw [if_pos h2, decide_eq_true h2, br_true]; rfl
        rw [if_neg h2, decide_eq_false h2, br_false, hi1, req_true]
        exact hr'
    · simp only [table_Check_L4]
      rw [decide_eq_false (show ¬ (l.length : Int) < lenL l by unfold lenL; omega), br_false, List.drop_of_length_le (Nat.le_refl _)]
      rfl
  rw [show (((0 : Nat) : Int)) = 0 from rfl, List.drop_zero] at hl
  rw [hl, bind_s]
  show sumC (tabOut l (chkTabF l none)) _ _ = _
  unfold tabOut
  by_cases h0 : chkTabF l none = 0
  · rw [if_pos h0, h0]; rfl
  · rw [if_neg h0]; rfl
theorem chkTabF_all : ∀ (l : List Pf) (o : Option Pf), chkTabF l o = 0 → ∀ p ∈ l, chkP p = 0
  | [], _, _, p, h => by cases h
  | q :: r, o, h, p, hp => by
    rw [chkTabF_cons] at h
    split at h
    · rename_i h1; exact absurd h h1
    rename_i h1
    have hr : chkTabF r (some q) = 0 := by
      split at h
      · split at h
        · cases h
        split at h
        · cases h
        · exact h
      · exact h
    rcases List.mem_cons.1 hp with rfl | hp
    · exact Decidable.not_not.1 h1
    · exact chkTabF_all r _ hr p hp
theorem chkTab_ok {l : List Pf} (h : chkTab l = 0) : l.length ≤ 12 ∧ ∀ p ∈ l, chkP p = 0 := by
  unfold chkTab at h
  split at h
  · cases h
  · exact ⟨by omega, chkTabF_all l none h⟩

/-! The nearest one. -/
def bitsAt (l : List Pf) (i : Nat) : Int := match l[i]? with | some p => p.bits | none => 0
/-- The best one among the first i. -/
def bestTo (ok : Nat → Bool) (l : List Pf) : Nat → Int
  | 0 => -1
  | i + 1 => if ok i = true ∧ (bestTo ok l i < 0 ∨ bitsAt l (bestTo ok l i).toNat < bitsAt l i) then (i : Int) else bestTo ok l i
def IsBest (ok : Nat → Bool) (l : List Pf) (n : Nat) (r : Int) : Prop :=
  (r = -1 ∧ ∀ i, i < n → ok i = false) ∨ ∃ j : Nat, j < n ∧ r = (j : Int) ∧ ok j = true ∧ (∀ i, i < n → ok i = true → bitsAt l i ≤ bitsAt l j) ∧ (∀ i, i < j → ok i = true → bitsAt l i < bitsAt l j)
theorem bestTo_best (ok : Nat → Bool) (l : List Pf) : ∀ n, IsBest ok l n (bestTo ok l n)
  | 0 => .inl ⟨rfl, fun i h => by omega⟩
  | n + 1 => by
    unfold bestTo
    rcases bestTo_best ok l n with ⟨h1, h2⟩ | ⟨j, hj, h1, h2, h3, h4⟩
    · rw [h1]
      cases hok : ok n
      · rw [if_neg (by simp)]
        refine .inl ⟨rfl, fun i hi => ?_⟩
        by_cases hin : i = n
        · rw [hin]; exact hok
        · exact h2 i (by omega)
      · rw [if_pos ⟨rfl, .inl (by decide)⟩]
        refine .inr ⟨n, by omega, rfl, hok, fun i hi ho => ?_, fun i hi ho => ?_⟩
        · by_cases hin : i = n
          · rw [hin]; exact Int.le_refl _
          · rw [h2 i (by omega)] at ho; cases ho
        · rw [h2 i hi] at ho; cases ho
    · rw [h1, Int.toNat_natCast]
      by_cases hc : ok n = true ∧ ((j : Int) < 0 ∨ bitsAt l j < bitsAt l n)
      · rw [if_pos hc]
        have hlt : bitsAt l j < bitsAt l n := hc.2.resolve_left (by omega)
        refine .inr ⟨n, by omega, rfl, hc.1, fun i hi ho => ?_, fun i hi ho => ?_⟩
        · by_cases hin : i = n
          · rw [hin]; exact Int.le_refl _
          · have := h3 i (by omega) ho; omega
        · have := h3 i hi ho; omega
      · rw [if_neg hc]
        refine .inr ⟨j, by omega, rfl, h2, fun i hi ho => ?_, h4⟩
        by_cases hin : i = n
        · subst hin
          have : ¬ bitsAt l j < bitsAt l i := fun h => hc ⟨ho, .inr h⟩
          omega
        · exact h3 i (by omega) ho
theorem best_unique {ok : Nat → Bool} {l : List Pf} {n : Nat} {r s : Int} (h : IsBest ok l n r) (h' : IsBest ok l n s) : r = s := by
  rcases h with ⟨h1, h2⟩ | ⟨j, hj, h1, h2, h3, h4⟩ <;> rcases h' with ⟨g1, g2⟩ | ⟨k, hk, g1, g2, g3, g4⟩
  · rw [h1, g1]
  · rw [h2 k hk] at g2; cases g2
  · rw [g2 j hj] at h2; cases h2
  · rw [h1, g1]
    have a := h3 k hk g2
    have b := g3 j hj h2
    have : j = k := by
      rcases Nat.lt_trichotomy j k with hlt | he | hlt
      · have := g4 j hlt h2; omega
      · exact he
      · have := h4 k hlt g2; omega
    rw [this]
theorem best_bound (ok : Nat → Bool) (l : List Pf) (n : Nat) : bestTo ok l n = -1 ∨ ∃ j : Nat, j < n ∧ bestTo ok l n = (j : Int) := by
  rcases bestTo_best ok l n with ⟨h, _⟩ | ⟨j, hj, h, _⟩
  · exact .inl h
  · exact .inr ⟨j, hj, h⟩
theorem bestTo_congr {ok ok' : Nat → Bool} {l : List Pf} : ∀ n, (∀ i, i < n → ok i = ok' i) → bestTo ok l n = bestTo ok' l n
  | 0, _ => rfl
  | n + 1, h => by
    unfold bestTo
    rw [bestTo_congr n (fun i hi => h i (by omega)), h n (by omega)]
/-- The choice at an element. -/
theorem best_step {ok : Nat → Bool} {l : List Pf} {i : Nat} {p : Pf} (hp : l[i]? = some p) (c : Bool) (hc : c = ok i) :
    (br c (br (decide (bestTo ok l i < 0)) (some true) (req (inRange (bestTo ok l i) (lenL l)) <| req (inRange (bestTo ok l i) (lenL l)) <| (geti l (bestTo ok l i)).bind fun p3 => some (decide (p.bits > p3.bits)))) (some false)) =
      some (decide (ok i = true ∧ (bestTo ok l i < 0 ∨ bitsAt l (bestTo ok l i).toNat < bitsAt l i))) := by
  have hil := (List.getElem?_eq_some_iff.1 hp).1
  have hb : bitsAt l i = p.bits := by unfold bitsAt; rw [hp]
  subst hc
  cases hok : ok i
  · simp [br_false]
  · rw [br_true]
    rcases best_bound ok l i with h | ⟨j, hj, h⟩
    · rw [h]; simp [br_true]
    · rw [h]
      obtain ⟨q, hq⟩ : ∃ e, l[j]? = some e := ⟨_, List.getElem?_eq_getElem (by omega)⟩
      have hbq : bitsAt l j = q.bits := by unfold bitsAt; rw [hq]
      rw [decide_eq_false (by omega), br_false, req_of (inRange_of (by omega) (by unfold lenL; omega)), req_of (inRange_of (by omega) (by unfold lenL; omega)), geti_at hq, bind_s, Int.toNat_natCast, hb, hbq]
      congr 1
      refine decide_eq_decide.2 ⟨fun h => ⟨rfl, .inr h⟩, fun h => h.2.resolve_left (by omega)⟩
end Go.Ma
