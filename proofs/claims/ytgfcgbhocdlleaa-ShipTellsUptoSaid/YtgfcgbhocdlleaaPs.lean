/-
  ShipTells: Next and Take answer what the document says.
-/
import Derived.Test.YtgfcgbhocdlleaaPg
import Derived.Test.YtgfcgbhocdlleaaPm
namespace Go.Ma
open Go

def beginsB (a b : List En) : Bool := decide (a.length ≤ b.length) && decide (a = b.take a.length)
theorem is_loop (a b v3 : List En) (ha : a.length = b.length) (hl : a.length < 9223372036854775808) :
    loopN log_Is_slices_EqualFunc___api_Entry___api_Entry_api_Entry_api_Entry__L4 FUEL (((), (), (), (lenL a, ()), (0, ()), ()), (a, v3, b, ())) =
      some (if a.drop 0 = b.drop 0 then Sum.inr ((), (a, v3, b, ())) else Sum.inl ((((false : Bool), ()), ()), (a, v3, b, ()))) := by
  refine loop_up (step := log_Is_slices_EqualFunc___api_Entry___api_Entry_api_Entry_api_Entry__L4) (fun i => (((), (), (), (lenL a, ()), ((i : Int), ()), ()), (a, v3, b, ()))) a.length (fun i => some (if a.drop i = b.drop i then Sum.inr ((), (a, v3, b, ())) else Sum.inl ((((false : Bool), ()), ()), (a, v3, b, ())))) (fun rec i hi hr => ?_) (fun rec => ?_) FUEL 0 (Nat.zero_le _) (fuel_gt (by omega))
  · obtain ⟨e, he⟩ : ∃ e, a[i]? = some e := ⟨_, List.getElem?_eq_getElem hi⟩
    obtain ⟨e', he'⟩ : ∃ e, b[i]? = some e := ⟨_, List.getElem?_eq_getElem (by omega)⟩
    simp only [log_Is_slices_EqualFunc___api_Entry___api_Entry_api_Entry_api_Entry__L4, log_Is_1_t]
    rw [decide_eq_true (show (i : Int) < lenL a by unfold lenL; omega), br_true, req_of (inRange_of (by omega) (by unfold lenL; omega)), geti_at he, bind_s, req_of (inRange_of (by omega) (by unfold lenL; omega)), geti_at he', bind_s, bind_s, eqEn_eq, drop_cons he, drop_cons he']
    by_cases hee : e = e'
    · rw [decide_eq_true hee, Bool.not_true, br_false, show ((i : Int) + 1) = ((i + 1 : Nat) : Int) by omega, req_of (i64ok_of (by omega) (by omega)), hr]
      subst hee
      simp
    · rw [decide_eq_false hee, Bool.not_false, br_true]
      simp [hee]
  · simp only [log_Is_slices_EqualFunc___api_Entry___api_Entry_api_Entry_api_Entry__L4]
    rw [decide_eq_false (show ¬ (a.length : Int) < lenL a by unfold lenL; omega), br_false, List.drop_of_length_le (Nat.le_refl _), List.drop_of_length_le (show b.length ≤ a.length by omega)]
    rfl
theorem subL_take (l : List En) (n : Nat) : subL l 0 (n : Int) = l.take n := by simp [subL]
theorem log_Is_eq {a b : List En} (hl : a.length < 9223372036854775808) : log_Is_t a b = some (beginsB a b, ()) := by
  unfold log_Is_t beginsB
  by_cases h : a.length ≤ b.length
  rotate_left
  · rw [decide_eq_false (show ¬ lenL a ≤ lenL b by unfold lenL; omega), br_false, decide_eq_false h, Bool.false_and]
  have e1 : subL b 0 (lenL a) = b.take a.length := subL_take b a.length
  have e2 : (b.take a.length).length = a.length := by rw [List.length_take]; omega
  rw [decide_eq_true (show lenL a ≤ lenL b by unfold lenL; omega), br_true, req_of (by rw [Bool.and_true, decide_eq_true_eq]; exact lenL_nonneg a), e1, decide_eq_true (show lenL a = lenL (b.take a.length) by unfold lenL; rw [e2]), Bool.not_true, br_false, is_loop a _ b e2.symm hl, bind_s, List.drop_zero, List.drop_zero, decide_eq_true h, Bool.true_and]
  by_cases he : a = b.take a.length
  · rw [if_pos he, decide_eq_true he]; rfl
  · rw [if_neg he, decide_eq_false he]; rfl
theorem R_DoesBegin_eq {a b : List En} (hl : a.length < 9223372036854775808) : R_DoesBegin_t a b = some (beginsB a b, ()) := by
  unfold R_DoesBegin_t beginsB
  by_cases h : a.length ≤ b.length
  rotate_left
  · rw [decide_eq_true (show lenL a > lenL b by unfold lenL; omega), br_true, decide_eq_false h, Bool.false_and]
  have e1 : subL b 0 (lenL a) = b.take a.length := subL_take b a.length
  rw [decide_eq_false (show ¬ lenL a > lenL b by unfold lenL; omega), br_false, req_of (by unfold lenL; simp; omega), e1, R_SameLog_eq hl, bind_s, decide_eq_true h, Bool.true_and]
/-- What comes behind a copy. -/
def behindOf (a b : List En) (m : Int) : List En := (b.drop a.length).take m.toNat
theorem ship_Behind_eq {a b : List En} {m : Int} (ha : a.length ≤ 30) (hb : b.length ≤ 30) (h : a.length ≤ b.length) (h0 : 0 ≤ m) (h1 : m ≤ 30) : ship_Behind_t a b m = some (behindOf a b m, ()) := by
  unfold ship_Behind_t behindOf
  have e0 : minI (lenL b) (lenL a + m) = ((min b.length (a.length + m.toNat) : Nat) : Int) := by
    unfold minI lenL
    split <;> omega
  have e1 : subL b (lenL a) (minI (lenL b) (lenL a + m)) = (b.drop a.length).take m.toNat := by
    rw [e0]
    unfold subL lenL
    rw [Int.toNat_natCast, Int.toNat_natCast, List.drop_take]
    by_cases hc : b.length ≤ a.length + m.toNat
    · rw [List.take_of_length_le (by rw [List.length_drop]; omega), List.take_of_length_le (by rw [List.length_drop]; omega)]
    · congr 1
      omega
  rw [req_of (i64ok_of (by unfold lenL; omega) (by unfold lenL; omega)), req_of (by rw [e0]; unfold lenL; simp; omega), e1, clone_eq (by rw [List.length_take, List.length_drop]; omega), bind_s]
def beginsT (a b : List En) : Bool × Int × Unit := if chkLog a ≠ 0 then (false, chkLog a, ()) else if chkLog b ≠ 0 then (false, chkLog b, ()) else (beginsB a b, 0, ())
theorem log_Begins_eq {a b : List En} (ha : logIn a) (hb : logIn b) : log_Begins_t a b = some (beginsT a b) := by
  unfold log_Begins_t beginsT
  rw [log_Check_eq ha, bind_s]
  by_cases h1 : chkLog a = 0
  · have hl := chkLog_len h1
    rw [decide_eq_true (show (chkLog a, ()).1 = 0 from h1), Bool.not_true, br_false, if_neg (fun h => h h1), log_Check_eq hb, bind_s]
    by_cases h2 : chkLog b = 0
    · rw [decide_eq_true (show (chkLog b, ()).1 = 0 from h2), Bool.not_true, br_false, if_neg (fun h => h h2), log_Is_eq (by omega), bind_s]
    · rw [decide_eq_false (show ¬ (chkLog b, ()).1 = 0 from h2), Bool.not_false, br_true, if_pos h2]
  · rw [decide_eq_false (show ¬ (chkLog a, ()).1 = 0 from h1), Bool.not_false, br_true, if_pos h1]
/-- What is wrong with what Next is handed. -/
def nextE (a b : List En) (m : Int) : Int := if chkLog a ≠ 0 then chkLog a else if chkLog b ≠ 0 then chkLog b else if beginsB a b = false then 4 else if m < 0 ∨ m > 30 then 3 else 0
def nextT (a b : List En) (m : Int) : List En × Int × Unit := if nextE a b m ≠ 0 then ([], nextE a b m, ()) else (behindOf a b m, 0, ())
theorem begins_len {a b : List En} (h : beginsB a b = true) : a.length ≤ b.length := by
  unfold beginsB at h
  simp only [Bool.and_eq_true, decide_eq_true_eq] at h
  exact h.1
theorem ship_Next_eq {a b : List En} (ha : logIn a) (hb : logIn b) (m : Int) : ship_Next_t a b m = some (nextT a b m) := by
  unfold ship_Next_t nextT nextE
  rw [log_Begins_eq ha hb, bind_s]
  unfold beginsT
  by_cases h1 : chkLog a = 0
  rotate_left
  · simp [h1, br_true]
  by_cases h2 : chkLog b = 0
  rotate_left
  · simp [h1, h2, br_true]
  have l1 := chkLog_len h1
  have l2 := chkLog_len h2
  cases h3 : beginsB a b
  · simp [h1, h2, br_true, br_false]
  · have hle := begins_len h3
    simp only [h1, h2, ne_eq, not_true, if_false, decide_true, Bool.not_true, br_false, br_sb, bind_s, Bool.true_eq_false]
    by_cases h4 : m < 0 ∨ m > 30
    · have : (bif decide (m < 0) then true else decide (m > 30)) = true := by rcases h4 with h | h <;> simp [h]
      rw [this, br_true]
      simp [h4]
    · have : (bif decide (m < 0) then true else decide (m > 30)) = false := by
        have g5 : ¬ m < 0 := fun h => h4 (.inl h)
        have g6 : ¬ m > 30 := fun h => h4 (.inr h)
        simp [g5, g6]
      rw [this, br_false, if_neg h4, ship_Behind_eq l1 l2 hle (by omega) (by omega), bind_s]
      simp
def takeT (a m : List En) : List En × Int × Unit := if chkLog a ≠ 0 then ([], chkLog a, ()) else if chkLog (a ++ m) ≠ 0 then ([], chkLog (a ++ m), ()) else (a ++ m, 0, ())
theorem app_in {a b : List En} (ha : logIn a) (hb : logIn b) : logIn (a ++ b) := fun e he => (List.mem_append.1 he).elim (ha e) (hb e)
theorem ship_Take_eq {a m : List En} (ha : logIn a) (hm : logIn m) (hl : m.length ≤ 1048576) : ship_Take_t a m = some (takeT a m) := by
  unfold ship_Take_t takeT
  rw [log_Check_eq ha, bind_s]
  by_cases h1 : chkLog a = 0
  rotate_left
  · rw [decide_eq_false (show ¬ (chkLog a, ()).1 = 0 from h1), Bool.not_false, br_true, if_pos h1]
  have l1 := chkLog_len h1
  have hn1 := lenL_nonneg a
  have hn2 := lenL_nonneg m
  have n1 : ¬ 0 + lenL a < 0 := by omega
  have n2 : ¬ 0 + lenL a + lenL m < 0 := by omega
  have i1 : i64ok (0 + lenL a) = true := i64ok_of (by unfold lenL; omega) (by unfold lenL; omega)
  have i2 : i64ok (0 + lenL a + lenL m) = true := i64ok_of (by unfold lenL; omega) (by unfold lenL; omega)
  have i3 : (decide (0 ≤ 0 + lenL a + lenL m) && Nat.ble (0 + lenL a + lenL m).toNat 1099511627776) = true := by
    rw [Bool.and_eq_true, decide_eq_true_eq, Nat.ble_eq]
    unfold lenL
    omega
  have r1 : room (lenL ([] : List En)) (lenL a) = true := room_of (lenL_nonneg _) hn1 (by simp only [lenL, List.length_nil]; omega)
  have r2 : room (lenL a) (lenL m) = true := room_of hn1 hn2 (by unfold lenL; omega)
  rw [decide_eq_true (show (chkLog a, ()).1 = 0 from h1), Bool.not_true, br_false, if_neg (fun h => h h1)]
  simp only [List.nil_append, decide_eq_false n1, decide_eq_false n2, br_false, i1, i2, i3, r1, r2, req_true]
  rw [log_Check_eq (app_in ha hm), bind_s]
  by_cases h2 : chkLog (a ++ m) = 0
  · rw [decide_eq_true (show (chkLog (a ++ m), ()).1 = 0 from h2), Bool.not_true, br_false, if_neg (fun h => h h2)]
  · rw [decide_eq_false (show ¬ (chkLog (a ++ m), ()).1 = 0 from h2), Bool.not_false, br_true, if_pos h2]
theorem R_BehindOf_eq {a b : List En} {m : Int} (ha : a.length ≤ 30) (hb : b.length ≤ 30) (h : a.length ≤ b.length) (h0 : 0 ≤ m) (h1 : m ≤ 30) : R_BehindOf_t a b m = some (behindOf a b m, ()) := by
  unfold R_BehindOf_t
  have key : ∀ (N i : Nat), a.length ≤ i → i ≤ b.length → (i : Int) ≤ lenL a + m → b.length - i < N →
      loopN R_BehindOf_L3 N (((), (), (m, ()), (), ((i : Int), ()), ()), (a, b, (b.drop a.length).take (i - a.length), ())) = some (((), ()), (a, b, behindOf a b m, ())) := by
    intro N
    induction N with
    | zero => intro i _ _ _ hx; omega
    | succ N ih =>
      intro i hi hib him hx
      rw [loopN_succ]
      simp only [R_BehindOf_L3]
      have i0 : i64ok (lenL a + m) = true := i64ok_of (by unfold lenL; omega) (by unfold lenL; omega)
      rw [i0, req_true, br_sb, bind_s]
      by_cases hc : i < b.length ∧ (i : Int) < lenL a + m
      · obtain ⟨e, he⟩ : ∃ e, b[i]? = some e := ⟨_, List.getElem?_eq_getElem hc.1⟩
        have hlt : (((b.drop a.length).take (i - a.length)).length : Int) ≤ 30 := by rw [List.length_take, List.length_drop]; omega
        rw [decide_eq_true (show (i : Int) < lenL b by unfold lenL; omega), cond_true, decide_eq_true hc.2, br_true, req_of (inRange_of (by omega) (by unfold lenL; omega)), geti_at he, bind_s, req_of (room_of (lenL_nonneg _) (lenL_nonneg _) (by unfold lenL; simp only [List.length_cons, List.length_nil]; omega)), req_of (i64ok_of (by omega) (by omega)), show ((i : Int) + 1) = ((i + 1 : Nat) : Int) by omega]
        have e2 : (b.drop a.length).take (i - a.length) ++ [e] = (b.drop a.length).take (i + 1 - a.length) := by
          rw [show i + 1 - a.length = (i - a.length) + 1 by omega, List.take_add_one, List.getElem?_drop, show a.length + (i - a.length) = i by omega, he]
          rfl
        rw [e2]
        exact ih (i + 1) (by omega) (by omega) (by unfold lenL at hc ⊢; omega) (by omega)
      · have : (bif decide ((i : Int) < lenL b) then decide ((i : Int) < lenL a + m) else false) = false := by
          by_cases h5 : (i : Int) < lenL b
          · rw [decide_eq_true h5, cond_true, decide_eq_false]
            intro h6
            exact hc ⟨by unfold lenL at h5; omega, h6⟩
          · rw [decide_eq_false h5, cond_false]
        rw [this, br_false]
        congr 5
        unfold behindOf
        by_cases h5 : i < b.length
        · have : (i : Int) = lenL a + m := by
            have h6 : ¬ (i : Int) < lenL a + m := fun h6 => hc ⟨h5, h6⟩
            omega
          congr 1
          unfold lenL at this
          omega
        · rw [List.take_of_length_le (by rw [List.length_drop]; omega), List.take_of_length_le]
          unfold lenL at him
          rw [List.length_drop]
          omega
  have := key FUEL a.length (Nat.le_refl _) h (by unfold lenL; omega) (fuel_gt (by omega))
  rw [Nat.sub_self, List.take_zero] at this
  rw [show lenL a = ((a.length : Nat) : Int) from rfl, this, bind_s]
theorem logIs_eq {a b : List En} {e w : Int} (hl : a.length < 9223372036854775808) (h : e = w) (hd : a = if w = 0 then b else []) : law_logIs_t a e w b = some (true, ()) := by
  unfold law_logIs_t
  simp only [R_SameLog_eq hl, bind_s, br_sb]
  subst h
  by_cases h0 : e = 0
  · rw [if_pos h0] at hd
    simp [h0, hd, br_false]
  · rw [if_neg h0] at hd
    simp [h0, hd, br_true]

theorem ents1 : subL ents 0 1 = [⟨1, 1, op1⟩] := by decide
theorem ents2 : subL ents 0 2 = [⟨1, 1, op1⟩, ⟨2, 1, op2⟩] := by decide
theorem one_in : logIn [(⟨1, 1, op1⟩ : En)] := fun e he => ents_in e (by simp only [List.mem_singleton] at he; subst he; simp [ents])
theorem two_in : logIn [(⟨1, 1, op1⟩ : En), ⟨2, 1, op2⟩] := fun e he => ents_in e (by
  simp only [List.mem_cons, List.not_mem_nil, or_false] at he
  rcases he with rfl | rfl <;> simp [ents])
theorem sec_in : logIn [(⟨2, 1, op2⟩ : En)] := fun e he => two_in e (by simp only [List.mem_singleton] at he; subst he; simp)
theorem sb1 : nextT [⟨1, 1, op1⟩] ents 1 = ([⟨2, 1, op2⟩], 0, ()) := by decide +kernel
theorem sb2 : takeT [⟨1, 1, op1⟩] [⟨2, 1, op2⟩] = ([⟨1, 1, op1⟩, ⟨2, 1, op2⟩], 0, ()) := by decide +kernel
theorem sb3 : takeT [⟨1, 1, op1⟩, ⟨2, 1, op2⟩] [⟨2, 1, op2⟩] = ([], 4, ()) := by decide +kernel
theorem le1 : (true && decide (1 ≤ lenL ents)) = true := rfl
theorem le2 : (true && decide (2 ≤ lenL ents)) = true := rfl
theorem shipBegun_eq : law_shipBegun_t = some (true, ()) := by
  unfold law_shipBegun_t
  simp only [entries_eq, bind_s, le1, le2, req_true, ents1, ents2, ship_Next_eq one_in ents_in, sb1, ship_Take_eq one_in sec_in (by decide), sb2, ship_Take_eq two_in sec_in (by decide), sb3, decide_true, br_true, both_self,
    R_SameLog_eq (show ([(⟨1, 1, op1⟩ : En), ⟨2, 1, op2⟩]).length < 9223372036854775808 by decide)]
  rfl
theorem next_len {a b : List En} (m : Int) (hb : logIn b) : (nextT a b m).1.length < 9223372036854775808 := by
  unfold nextT
  split
  · exact (by decide : (0 : Nat) < 9223372036854775808)
  · rename_i h
    have h2 : chkLog b = 0 := by
      unfold nextE at h
      by_cases h1 : chkLog a = 0
      · by_cases h2 : chkLog b = 0
        · exact h2
        · simp [h1, h2] at h
      · simp [h1] at h
    have := chkLog_len h2
    unfold behindOf
    simp only [List.length_take, List.length_drop]
    omega
/-- **ShipTells**, where the arguments are no greater than a machine's. -/
theorem ShipTells_eq {a0 a1 a2 : List En} (h0 : logIn a0) (h1 : logIn a1) (h2 : logIn a2) (l0 : a0.length ≤ 1048576) (l2 : a2.length ≤ 1048576) (m : Int) : law_ShipTells_t a0 a1 a2 m = some (true, ()) := by
  unfold law_ShipTells_t
  have r1 : room (lenL ([] : List En)) (lenL a0) = true := room_of (lenL_nonneg _) (lenL_nonneg _) (by simp only [lenL, List.length_nil]; omega)
  have r2 : room (lenL a0) (lenL a2) = true := room_of (lenL_nonneg _) (lenL_nonneg _) (by unfold lenL; omega)
  have d : ∀ X, (nextE a0 a1 m = 0 → X = behindOf a0 a1 m) → law_logIs_t (nextT a0 a1 m).1 (nextT a0 a1 m).2.1 (nextE a0 a1 m) X = some (true, ()) := by
    intro X hX
    refine logIs_eq (next_len m h1) ?_ ?_
    · unfold nextT; split
      · rfl
      · rename_i h; exact (Decidable.not_not.1 h).symm
    · unfold nextT
      by_cases h : nextE a0 a1 m = 0
      · rw [if_neg (fun h' => h' h), if_pos h, hX h]
      · rw [if_pos h, if_neg h]
  have dt : ∀ w, w = (if chkLog a0 ≠ 0 then chkLog a0 else chkLog (a0 ++ a2)) → law_logIs_t (takeT a0 a2).1 (takeT a0 a2).2.1 w (a0 ++ a2) = some (true, ()) := by
    rintro w rfl
    refine logIs_eq ?_ ?_ ?_
    · unfold takeT
      split
      · exact (by decide : (0 : Nat) < 9223372036854775808)
      split
      · exact (by decide : (0 : Nat) < 9223372036854775808)
      · simp only [List.length_append]; omega
    · unfold takeT
      split
      · rfl
      split
      · rfl
      · rename_i h; exact (Decidable.not_not.1 h).symm
    · unfold takeT
      by_cases g1 : chkLog a0 = 0
      · by_cases g2 : chkLog (a0 ++ a2) = 0
        · simp only [g1, g2, ne_eq, not_true, if_false, if_true]
        · simp only [g1, g2, ne_eq, not_true, not_false_eq_true, if_false, if_true]
      · simp only [g1, ne_eq, not_false_eq_true, if_true, if_false]
  rw [ship_Next_eq h0 h1, bind_s, ship_Take_eq h0 h2 l2, bind_s, R_CheckLog_eq h0, bind_s]
  simp only [List.nil_append, r1, r2, req_true, shipBegun_eq, bind_s, br_true, R_CheckLog_eq h1, R_CheckLog_eq (app_in h0 h2), R_DoesBegin_eq (show a0.length < 9223372036854775808 by omega), br_sb]
  by_cases g1 : chkLog a0 = 0
  rotate_left
  · have hE : nextE a0 a1 m = chkLog a0 := by unfold nextE; rw [if_pos g1]
    have d1 := d [] (fun h => absurd (hE.symm.trans h) g1)
    rw [hE] at d1
    have d2 := dt (chkLog a0) (by rw [if_pos g1])
    simp only [decide_eq_false g1, br_false, bind_s, d1, d2, br_true]
    try rfl
  have e1 := chkLog_len g1
  have d2 := dt (chkLog (a0 ++ a2)) (by rw [if_neg (fun h => h g1)])
  simp only [decide_eq_true g1, br_true]
  by_cases g2 : chkLog a1 = 0
  rotate_left
  · have hE : nextE a0 a1 m = chkLog a1 := by unfold nextE; rw [if_neg (fun h => h g1), if_pos g2]
    have d1 := d [] (fun h => absurd (hE.symm.trans h) g2)
    rw [hE] at d1
    simp only [decide_eq_false g2, br_false, bind_s, d1, d2, br_true]
    try rfl
  have e2 := chkLog_len g2
  simp only [decide_eq_true g2, br_true]
  cases g3 : beginsB a0 a1
  · have hE : nextE a0 a1 m = 4 := by unfold nextE; rw [if_neg (fun h => h g1), if_neg (fun h => h g2), if_pos g3]
    have d1 := d [] (fun h => absurd (hE.symm.trans h) (by decide))
    rw [hE] at d1
    simp only [Bool.not_false, br_true, bind_s, d1, d2]
    try rfl
  · have hle := begins_len g3
    simp only [Bool.not_true, br_false, bind_s]
    by_cases g4 : m < 0 ∨ m > 30
    · have hE : nextE a0 a1 m = 3 := by unfold nextE; rw [if_neg (fun h => h g1), if_neg (fun h => h g2), if_neg (by rw [g3]; decide), if_pos g4]
      have d1 := d [] (fun h => absurd (hE.symm.trans h) (by decide))
      rw [hE] at d1
      have : (bif decide (m < 0) then true else decide (m > 30)) = true := by rcases g4 with h | h <;> simp [h]
      simp only [this, br_true, bind_s, d1, d2]
      try rfl
    · have hE : nextE a0 a1 m = 0 := by unfold nextE; rw [if_neg (fun h => h g1), if_neg (fun h => h g2), if_neg (by rw [g3]; decide), if_neg g4]
      have d1 := d (behindOf a0 a1 m) (fun _ => rfl)
      rw [hE] at d1
      have g5 : ¬ m < 0 := fun h => g4 (.inl h)
      have g6 : ¬ m > 30 := fun h => g4 (.inr h)
      have : (bif decide (m < 0) then true else decide (m > 30)) = false := by simp [g5, g6]
      simp only [this, br_false, bind_s, R_BehindOf_eq (m := m) e1 e2 hle (by omega) (by omega), g2, d1, d2, br_true]
      try rfl
end Go.Ma
