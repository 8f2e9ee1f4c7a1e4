/-
  The document's functions of ops, logs and fences; Check, Acquire and Write answer what it says.
-/
import Derived.Test.YtgfcgbhocdlleaaPe
import Derived.Test.YtgfcgbhocdlleaaPf
namespace Go.Ma
open Go

theorem convI_byte (b : UInt8) : convI .i64 (b.toNat : Int) = (b.toNat : Int) := by
  have := b.toNat_lt
  exact wrap_i64 (by omega) (by omega)
theorem R_IsWho_eq {s : ByteArray} (h : strIn s) : R_IsWho_t s = some (whoOk s, ()) := by
  have hs : s.size < 9223372036854775808 := lt_of_max h
  have hl : loopN R_IsWho_L2 FUEL (((s, ()), (0, ()), ()), ()) = some (if (s.data.toList.drop 0).all lowB then Sum.inr (((s, ()), ()), ()) else Sum.inl ((((false : Bool), ()), ()), ())) := by
    refine loop_up (step := R_IsWho_L2) (fun i => (((s, ()), ((i : Int), ()), ()), ())) s.size (fun i => some (if (s.data.toList.drop i).all lowB then Sum.inr (((s, ()), ()), ()) else Sum.inl ((((false : Bool), ()), ()), ()))) (fun rec i hi hr => ?_) (fun rec => ?_) FUEL 0 (Nat.zero_le _) (fuel_gt (by omega))
    · obtain ⟨b, hb⟩ : ∃ b, s.data.toList[i]? = some b := ⟨_, List.getElem?_eq_getElem (by rw [data_len]; exact hi)⟩
      simp only [R_IsWho_L2]
      have hr1 : inRange (i : Int) (lenS s) = true := inRange_of (by omega) (by unfold lenS; omega)
      rw [decide_eq_true (show (i : Int) < lenS s by unfold lenS; omega), br_true]
      simp only [hr1, req_true, byteAt_eq hb, convI_byte, R_between_eq, bind_s, br_sb]
      rw [show ((i : Int) + 1) = ((i + 1 : Nat) : Int) by omega, req_of (i64ok_of (by omega) (by omega)), hr, drop_all lowB hb]
      have : (bif !betw (b.toNat : Int) 97 122 then !betw (b.toNat : Int) 48 57 else false) = !lowB b := by
        unfold lowB
        cases betw (b.toNat : Int) 97 122 <;> cases betw (b.toNat : Int) 48 57 <;> rfl
      rw [this]
      cases lowB b <;> simp [br_true, br_false]
    · simp only [R_IsWho_L2]
      rw [decide_eq_false (show ¬ (s.size : Int) < lenS s by unfold lenS; omega), br_false, List.drop_of_length_le (by rw [data_len]; exact Nat.le_refl _)]
      rfl
  unfold R_IsWho_t whoOk
  rw [hl, bind_s, List.drop_zero]
  cases s.data.toList.all lowB
  · rfl
  · simp only [if_true, sumC, R_between_eq, bind_s, Bool.true_and]
theorem R_IsNarrow_eq {p : Pf} (h : chkP p = 0) : R_IsNarrow_t p = some (decide (((wid p.ad.v6 : Nat) : Int) - p.bits ≤ 4), ()) := by
  obtain ⟨h1, h2⟩ := chkP_bits h
  have := wid_le p.ad.v6
  unfold R_IsNarrow_t
  rw [R_wide_eq, bind_s, req_of (i64ok_of (by simp only; omega) (by simp only; omega))]
theorem R_CheckOp_eq {o : Oq} (h : o.In) : R_CheckOp_t o = some (formO o, ()) := by
  obtain ⟨_, hp, ha, hw, _, _⟩ := h
  unfold R_CheckOp_t formO
  rw [R_between_eq, bind_s]
  cases hk : betw o.kind 1 5
  · rfl
  obtain ⟨hk1, hk2⟩ := betw_iff.1 hk
  simp only [Bool.not_true, br_false, Bool.true_eq_false, if_false, br_sb, bind_s]
  have e : ∀ a b : Option (Int × Unit), br (bif (bif (bif (bif (bif !decide (o.kind = 1) then !(eqPf o.pf ⟨⟨false, 0, 0⟩, 0⟩) else false) then true else (bif !decide (o.kind = 2) then !(eqAd o.ad ⟨false, 0, 0⟩) else false))
    then true else (bif !decide (o.kind = 3) then (bif !decide (o.kind = 4) then strcmp .neq o.who ByteArray.empty else false) else false))
    then true else (bif !decide (o.kind = 3) then !decide (o.of_ = 0) else false))
    then true else (bif !decide (o.kind = 3) then (bif !decide (o.kind = 5) then !decide (o.n = 0) else false) else false)) a b = br (extraO o) a b := fun _ _ => rfl
  rw [e]
  cases extraO o
  rotate_left
  · rfl
  simp only [br_false, Bool.false_eq_true, if_false]
  by_cases k1 : o.kind = 1
  · rw [decide_eq_true k1, br_true, if_pos k1, R_CheckPrefix_eq hp, bind_s]
    by_cases hc : chkP o.pf = 0
    · simp only [hc, decide_true, br_true, ne_eq, not_true, if_false, R_IsNarrow_eq hc, bind_s]
      by_cases hn : ((wid o.pf.ad.v6 : Nat) : Int) - o.pf.bits ≤ 4 <;> simp [hn, br_true, br_false]
    · simp only [hc, decide_false, br_false, bind_s, ne_eq, not_false_eq_true, if_true]
  rw [decide_eq_false k1, br_false, if_neg k1]
  by_cases k2 : o.kind = 2
  · rw [decide_eq_true k2, br_true, if_pos k2, R_CheckAddr_eq ha, bind_s]
  rw [decide_eq_false k2, br_false, if_neg k2]
  by_cases k3 : o.kind = 3
  · simp only [k3, decide_true, br_true, R_IsWho_eq hw, bind_s, R_between_eq, br_sb, show decide ((3 : Int) < 5) = true from rfl, show decide ((3 : Int) = 5) = false from rfl, br_false]
    cases whoOk o.who <;> cases betw o.of_ 0 2 <;> cases betw o.n 1 500 <;> simp [br_true, br_false]
  · by_cases k4 : o.kind = 4
    · simp only [k4, R_IsWho_eq hw, bind_s, show decide ((4 : Int) < 5) = true from rfl, show decide ((4 : Int) = 5) = false from rfl, show decide ((4 : Int) = 3) = false from rfl, br_false, br_true]
      cases whoOk o.who <;> simp [br_true, br_false]
    · have k5 : o.kind = 5 := by omega
      simp only [k5, R_between_eq, bind_s, show decide ((5 : Int) < 5) = false from rfl, show decide ((5 : Int) = 5) = true from rfl, show decide ((5 : Int) = 3) = false from rfl, br_false, br_true]
      cases betw o.n 0 9999 <;> simp [br_true, br_false]
theorem R_CheckLog_eq {l : List En} (h : logIn l) : R_CheckLog_t l = some (chkLog l, ()) := by
  unfold R_CheckLog_t chkLog
  by_cases hlen : l.length > 30
  · rw [if_pos hlen, decide_eq_true (show lenL l > 30 by unfold lenL; omega), br_true]
  rw [if_neg hlen, decide_eq_false (show ¬ lenL l > 30 by unfold lenL; omega), br_false]
  have hl : loopN R_CheckLog_L4 FUEL (((), ((((0 : Nat) : Int)), ()), ()), l, ()) = some (logOut l (chkLogF (l.drop 0) 0 (prevE l 0))) := by
    refine loop_up (step := R_CheckLog_L4) (fun i => (((), ((i : Int), ()), ()), l, ())) l.length (fun i => some (logOut l (chkLogF (l.drop i) (i : Int) (prevE l i)))) (fun rec i hi hr => ?_) (fun rec => ?_) FUEL 0 (Nat.zero_le _) (fuel_gt (by omega))
    · obtain ⟨e, he⟩ : ∃ e, l[i]? = some e := ⟨_, List.getElem?_eq_getElem hi⟩
      have hr1 : inRange (i : Int) (lenL l) = true := inRange_of (by omega) (by unfold lenL; omega)
      have hi1 : i64ok ((i : Int) + 1) = true := i64ok_of (by omega) (by omega)
      simp only [R_CheckLog_L4]
      rw [decide_eq_true (show (i : Int) < lenL l by unfold lenL; omega), br_true]
      simp only [hr1, hi1, req_true, geti_at he, bind_s]
      rw [drop_cons he, chkLogF]
      by_cases hn : e.num = (i : Int) + 1
      rotate_left
      · rw [if_pos hn, decide_eq_false hn, Bool.not_false, br_true]
        rfl
      rw [if_neg (fun h0 => h0 hn), decide_eq_true hn, Bool.not_true, br_false, R_between_eq, bind_s]
      cases hb : betw e.epoch 1 999
      · rfl
      simp only [Bool.not_true, br_false, Bool.true_eq_false, if_false]
      have hc : (br (decide ((i : Int) > 0)) (req (i64ok ((i : Int) - 1)) (req (inRange ((i : Int) - 1) (lenL l)) (req (inRange ((i : Int) - 1) (lenL l)) ((geti l ((i : Int) - 1)).bind fun p3 => some (decide (e.epoch < p3.epoch)))))) (some false)) = some (decide (e.epoch < prevE l i)) := by
        cases i with
        | zero =>
          have := betw_iff.1 hb
          rw [decide_eq_false (by omega), br_false, decide_eq_false (show ¬ e.epoch < prevE l 0 by simp only [prevE]; omega)]
        | succ k =>
          obtain ⟨e', he'⟩ : ∃ e, l[k]? = some e := ⟨_, List.getElem?_eq_getElem (by omega)⟩
          rw [decide_eq_true (by omega), br_true, show (((k + 1 : Nat) : Int) - 1) = (k : Int) by omega, req_of (i64ok_of (by omega) (by omega)), req_of (inRange_of (by omega) (by unfold lenL; omega)), req_of (inRange_of (by omega) (by unfold lenL; omega)), geti_at he', bind_s]
          simp only [prevE, he']
      rw [hc, bind_s]
      by_cases hp : e.epoch < prevE l i
      · rw [if_pos hp, decide_eq_true hp, br_true]
        rfl
      rw [if_neg hp, decide_eq_false hp, br_false, R_CheckOp_eq (h e (List.mem_of_getElem? he)).2.2, bind_s]
      by_cases hf : formO e.op = 0
      rotate_left
      · rw [if_pos hf, decide_eq_false hf, Bool.not_false, br_true, logOut_ne hf]
      rw [if_neg (fun h0 => h0 hf), decide_eq_true hf, Bool.not_true, br_false, show ((i : Int) + 1) = ((i + 1 : Nat) : Int) by omega, hr]
      rw [show prevE l (i + 1) = e.epoch by simp only [prevE, he]]
    · simp only [R_CheckLog_L4]
      rw [decide_eq_false (show ¬ (l.length : Int) < lenL l by unfold lenL; omega), br_false, List.drop_of_length_le (Nat.le_refl _)]
      rfl
  rw [show (((0 : Nat) : Int)) = 0 from rfl, List.drop_zero] at hl
  rw [hl, bind_s]
  show sumC (logOut l (chkLogF l 0 0)) _ _ = _
  unfold logOut
  by_cases h0 : chkLogF l 0 0 = 0
  · rw [if_pos h0, h0]; rfl
  · rw [if_neg h0]; rfl
theorem R_SameLog_eq {l l' : List En} (hl : l.length < 9223372036854775808) : R_SameLog_t l l' = some (decide (l = l'), ()) := by
  unfold R_SameLog_t
  by_cases hn : l.length = l'.length
  rotate_left
  · rw [decide_eq_false (show ¬ lenL l = lenL l' by unfold lenL; omega), Bool.not_false, br_true, decide_eq_false (fun h => hn (by rw [h]))]
  rw [decide_eq_true (show lenL l = lenL l' by unfold lenL; omega), Bool.not_true, br_false]
  have hlp : loopN R_SameLog_L4 FUEL (((), (), (0, ()), ()), (l, l', ())) = some (if l.drop 0 = l'.drop 0 then Sum.inr ((), (l, l', ())) else Sum.inl ((((false : Bool), ()), ()), (l, l', ()))) := by
    refine loop_up (step := R_SameLog_L4) (fun i => (((), (), ((i : Int), ()), ()), (l, l', ()))) l.length (fun i => some (if l.drop i = l'.drop i then Sum.inr ((), (l, l', ())) else Sum.inl ((((false : Bool), ()), ()), (l, l', ())))) (fun rec i hi hr => ?_) (fun rec => ?_) FUEL 0 (Nat.zero_le _) (fuel_gt (by omega))
    · obtain ⟨e, he⟩ : ∃ e, l[i]? = some e := ⟨_, List.getElem?_eq_getElem hi⟩
      obtain ⟨e', he'⟩ : ∃ e, l'[i]? = some e := ⟨_, List.getElem?_eq_getElem (by omega)⟩
      simp only [R_SameLog_L4]
      rw [decide_eq_true (show (i : Int) < lenL l by unfold lenL; omega), br_true, req_of (inRange_of (by omega) (by unfold lenL; omega)), geti_at he, bind_s, req_of (inRange_of (by omega) (by unfold lenL; omega)), geti_at he', bind_s, eqEn_eq, drop_cons he, drop_cons he']
      by_cases hee : e = e'
      · rw [decide_eq_true hee, Bool.not_true, br_false, show ((i : Int) + 1) = ((i + 1 : Nat) : Int) by omega, req_of (i64ok_of (by omega) (by omega)), hr]
        subst hee
        simp
      · rw [decide_eq_false hee, Bool.not_false, br_true]
        simp [hee]
    · simp only [R_SameLog_L4]
      rw [decide_eq_false (show ¬ (l.length : Int) < lenL l by unfold lenL; omega), br_false, List.drop_of_length_le (Nat.le_refl _), List.drop_of_length_le (show l'.length ≤ l.length by omega)]
      rfl
  rw [hlp, bind_s, List.drop_zero, List.drop_zero]
  by_cases h : l = l'
  · rw [if_pos h, decide_eq_true h]; rfl
  · rw [if_neg h, decide_eq_false h]; rfl
theorem disk_loop (ep h u : Int) {l : List En} (hl : l.length < 9223372036854775808) : ∀ (N : Nat) (e : Int) (i : Nat), i ≤ l.length → l.length - i < N →
    loopN R_CheckDisk_L7 N (((), (e, ()), ((i : Int), ()), ()), (l, (ep, h, u, ()), ())) = some (((if e = 0 then (if (l.drop i).any (fun x => decide (ep < x.epoch)) = true then 4 else 0) else e, ()), ()), (l, ())) := by
  intro N
  induction N with
  | zero => intro e i _ h; omega
  | succ N ih =>
    intro e i hi hn
    rw [loopN_succ]
    simp only [R_CheckDisk_L7, br_sb, bind_s]
    by_cases hin : i < l.length
    · obtain ⟨x, hx⟩ : ∃ e, l[i]? = some e := ⟨_, List.getElem?_eq_getElem hin⟩
      rw [decide_eq_true (show (i : Int) < lenL l by unfold lenL; omega), cond_true]
      by_cases he : e = 0
      · have hr1 : inRange (i : Int) (lenL l) = true := inRange_of (by omega) (by unfold lenL; omega)
        have hi1 : i64ok ((i : Int) + 1) = true := i64ok_of (by omega) (by omega)
        rw [decide_eq_true he, br_true, if_pos he]
        simp only [hr1, hi1, req_true, geti_at hx, bind_s]
        rw [show ((i : Int) + 1) = ((i + 1 : Nat) : Int) by omega, ih _ (i + 1) (by omega) (by omega), ih _ (i + 1) (by omega) (by omega), drop_cons hx]
        by_cases hp : x.epoch > ep
        · have hp' : ep < x.epoch := hp
          rw [decide_eq_true hp, br_true]
          simp [hp']
        · have hp' : ¬ ep < x.epoch := hp
          rw [decide_eq_false hp, br_false]
          simp [hp', he]
      · rw [decide_eq_false he, br_false, if_neg he]
    · rw [decide_eq_false (show ¬ (i : Int) < lenL l by unfold lenL; omega), cond_false, br_false, List.drop_of_length_le (by omega)]
      by_cases he : e = 0
      · rw [if_pos he, he]; rfl
      · rw [if_neg he]
theorem R_CheckDisk_eq (ep h u : Int) {l : List En} (hl : logIn l) (hlen : l.length < 9223372036854775808) : R_CheckDisk_t ep h u l = some (chkDisk ep h u l, ()) := by
  unfold R_CheckDisk_t chkDisk
  simp only [R_between_eq, bind_s, br_sb]
  cases h1 : betw ep 0 999 <;> cases h2 : betw h 0 2 <;> cases h3 : betw u 0 10009 <;> simp only [Bool.not_false, Bool.not_true, cond_true, cond_false, br_true, br_false, true_or, or_true, if_true]
  simp only [Bool.true_eq_false, or_self, if_false]
  obtain ⟨a1, a2⟩ := betw_iff.1 h1
  obtain ⟨a3, a4⟩ := betw_iff.1 h2
  obtain ⟨a5, a6⟩ := betw_iff.1 h3
  rw [R_CheckLog_eq hl, bind_s]
  have hd := disk_loop ep h u hlen FUEL (chkLog l) 0 (Nat.zero_le _) (fuel_gt (by omega))
  rw [show (((0 : Nat) : Int)) = 0 from rfl, List.drop_zero] at hd
  simp only
  rw [hd, bind_s]
  have tail : (if chkLog l = 0 then (if l.any (fun x => decide (ep < x.epoch)) = true then (4 : Int) else 0) else chkLog l) = (if chkLog l ≠ 0 then chkLog l else if l.any (fun e => decide (ep < e.epoch)) = true then 4 else 0) := by
    by_cases hc : chkLog l = 0
    · simp only [hc, if_true, ne_eq, not_true, if_false]
    · rw [if_neg hc, if_pos hc]
  simp only [tail]
  by_cases k : h = 0
  · by_cases k1 : ep = 0
    · by_cases k2 : u = 0
      · simp [k, k1, k2, br_false]
      · have : u > 0 := by omega
        simp [k, k1, k2, this, br_true]
    · have : ep > 0 := by omega
      simp [k, k1, this, br_true]
  · have : h > 0 := by omega
    by_cases k1 : ep = 0
    · simp [k, k1, this, br_true]
    · simp [k, k1, br_false]
theorem R_AddOf_eq {l : List En} (hl : l.length ≤ 30) (ep : Int) {o : Oq} (ho : o.In) : R_AddOf_t l ep o = some (moreOf l ep o) := by
  unfold R_AddOf_t moreOf
  rw [R_between_eq, bind_s]
  cases h1 : betw ep 1 999
  · rfl
  obtain ⟨h2, h3⟩ := betw_iff.1 h1
  simp only [Bool.not_true, br_false, Bool.true_eq_false, if_false]
  rw [last_br hl (by omega), bind_s]
  by_cases h4 : ep < prevE l l.length
  · rw [decide_eq_true h4, br_true, if_pos h4]
  rw [decide_eq_false h4, br_false, if_neg h4, R_CheckOp_eq ho, bind_s]
  by_cases h5 : formO o = 0
  · rw [decide_eq_true (show (formO o, ()).1 = 0 from h5), Bool.not_true, br_false, if_neg (fun h => h h5)]
    by_cases h6 : l.length = 30
    · rw [decide_eq_true (show lenL l = 30 by unfold lenL; omega), br_true, if_pos h6]
    · rw [decide_eq_false (show ¬ lenL l = 30 by unfold lenL; omega), br_false, if_neg h6]
      have r1 : room (lenL ([] : List En)) (lenL l) = true := room_of (lenL_nonneg _) (lenL_nonneg _) (by simp only [lenL, List.length_nil]; omega)
      have r2 : ∀ x : En, room (lenL l) (lenL [x]) = true := fun x => room_of (lenL_nonneg _) (lenL_nonneg _) (by simp only [lenL, List.length_cons, List.length_nil]; omega)
      have r3 : i64ok (lenL l + 1) = true := i64ok_of (by unfold lenL; omega) (by unfold lenL; omega)
      simp only [List.nil_append, r1, r2, r3, req_true, dup_eq, both_self]
  · rw [decide_eq_false (show ¬ (formO o, ()).1 = 0 from h5), Bool.not_false, br_true, if_pos h5]
theorem R_WriteOf_eq (ep h u : Int) {l : List En} (hl : l.length ≤ 30) (e : Int) {o : Oq} (ho : o.In) : R_WriteOf_t ep h u l e o = some (putOf ep h u l e o) := by
  unfold R_WriteOf_t putOf
  rw [br_sb, bind_s, R_AddOf_eq hl e ho, bind_s]
  by_cases h1 : e = 0
  · simp [h1, br_true, noDk]
  by_cases h2 : e = ep
  · rw [if_neg (by simp [h1, h2]; omega)]
    simp only [decide_eq_false h1, decide_eq_true h2, cond_false, Bool.not_true, br_false]
    by_cases h3 : (moreOf l e o).2.1 = 0 <;> simp [h3, br_true, br_false, noDk]
  · simp [h1, h2, br_true, noDk]
theorem R_SameDisk_eq (a0 a1 a2 : Int) {a3 : List En} (b0 b1 b2 : Int) (b3 : List En) (hl : a3.length < 9223372036854775808) : R_SameDisk_t a0 a1 a2 a3 b0 b1 b2 b3 = some (decide (((a0, a1, a2, a3, ()) : Dk) = (b0, b1, b2, b3, ())), ()) := by
  unfold R_SameDisk_t
  simp only [R_SameLog_eq hl, bind_s, br_sb]
  congr 1
  simp only [Prod.mk.injEq, and_true]
  by_cases h0 : a0 = b0 <;> by_cases h1 : a1 = b1 <;> by_cases h2 : a2 = b2 <;> simp [h0, h1, h2]
/-- A disk and an errno are what they must be. -/
theorem diskIs_eq (a0 a1 a2 : Int) {a3 : List En} (e w b0 b1 b2 : Int) (b3 : List En) (hl : a3.length < 9223372036854775808) (h : e = w) (hd : ((a0, a1, a2, a3, ()) : Dk) = if w = 0 then (b0, b1, b2, b3, ()) else noDk) : law_diskIs_t a0 a1 a2 a3 e w b0 b1 b2 b3 = some (true, ()) := by
  unfold law_diskIs_t
  simp only [R_SameDisk_eq _ _ _ _ _ _ _ hl, bind_s, br_sb]
  subst h
  by_cases h0 : e = 0
  · rw [if_pos h0] at hd
    simp [h0, hd, br_false]
  · rw [if_neg h0] at hd
    have hd' : ((a0, a1, a2, a3, ()) : Dk) = (0, 0, 0, [], ()) := hd
    simp [h0, hd', br_true]

/-- What the document's AcquireOf answers. -/
theorem acq_ref {ep h u : Int} (l : List En) (who now : Int) (h1 : ep ≤ 999) : acqOf ep h u l who now =
    (let held := !decide (h = 0) && decide (u ≥ now)
     if held = true ∧ h ≠ who then (noDk, 4, ()) else if held = false then (if ep + 1 > 999 then (noDk, 2, ()) else ((ep + 1, who, now + 10, l, ()), 0, ())) else if ep > 999 then (noDk, 2, ()) else ((ep, who, now + 10, l, ()), 0, ())) := by
  have hv : (!decide (h = 0) && decide (u ≥ now)) = !overL h u now := by
    unfold overL
    by_cases k : h = 0
    · simp [k]
    · by_cases k2 : u < now
      · have : ¬ u ≥ now := by omega
        simp [k, k2, this]
      · have : u ≥ now := by omega
        simp [k, k2, this]
  simp only [hv]
  unfold acqOf
  cases overL h u now
  · by_cases k : h = who
    · have : ¬ ep > 999 := by omega
      simp [k, this]
    · simp [k]
  · by_cases k : ep = 999
    · have : ep + 1 > 999 := by omega
      simp [k]
    · have : ¬ ep + 1 > 999 := by omega
      simp [k, this]
theorem len_lt {l : List En} (h : rowIn .entry l) : l.length < 9223372036854775808 := lt_of_max h.1
theorem acq_len {ep h u : Int} {l : List En} {who now : Int} (hl : l.length < 9223372036854775808) : (acquire ep h u l who now).1.2.2.2.1.length < 9223372036854775808 := by
  unfold acquire acqOf
  split
  · exact (by decide : (0 : Nat) < 9223372036854775808)
  split
  · exact (by decide : (0 : Nat) < 9223372036854775808)
  split
  · exact (by decide : (0 : Nat) < 9223372036854775808)
  split
  · exact (by decide : (0 : Nat) < 9223372036854775808)
  · exact hl
theorem put_len {ep h u : Int} {l : List En} {e : Int} {o : Oq} (hl : l.length ≤ 30) : (putOf ep h u l e o).1.2.2.2.1.length < 9223372036854775808 := by
  unfold putOf moreOf
  split
  · exact (by decide : (0 : Nat) < 9223372036854775808)
  split
  · exact (by decide : (0 : Nat) < 9223372036854775808)
  split
  · exact (by decide : (0 : Nat) < 9223372036854775808)
  split
  · exact (by decide : (0 : Nat) < 9223372036854775808)
  split
  · exact (by decide : (0 : Nat) < 9223372036854775808)
  split
  · exact (by decide : (0 : Nat) < 9223372036854775808)
  · simp only [List.length_append, List.length_cons, List.length_nil]; omega
/-- **FenceTells**. -/
theorem FenceTells_eq (ep h u : Int) {l : List En} (hr : rowIn .entry l) (who now e : Int) {o : Oq} (ho : o.In) : law_FenceTells_t ep h u l who now e o = some (true, ()) := by
  have hl : logIn l := hr.2
  have hlen := len_lt hr
  unfold law_FenceTells_t
  rw [fence_Acquire_eq ep h u hl, bind_s, fence_Write_eq ep h u hl e ho, bind_s, R_CheckDisk_eq ep h u hl hlen, bind_s]
  simp only [fenceBegun_eq, fence_Check_eq ep h u hl, bind_s, br_true, decide_true]
  by_cases hc : chkDisk ep h u l = 0
  rotate_left
  · have ha : acquire ep h u l who now = (noDk, 0, chkDisk ep h u l, ()) := by unfold acquire; rw [if_pos hc]
    have hw : writeOf ep h u l e o = (noDk, chkDisk ep h u l, ()) := by unfold writeOf; rw [if_pos hc]
    rw [ha, hw]
    simp only [hc, decide_false, br_false, bind_s, Bool.not_false]
    have d1 : law_diskIs_t 0 0 0 [] (chkDisk ep h u l) (chkDisk ep h u l) 0 0 0 [] = some (true, ()) := diskIs_eq 0 0 0 _ _ 0 0 0 [] (by decide) rfl (by rw [if_neg hc]; rfl)
    simp only [noDk, d1, bind_s, decide_true, br_true]
  · obtain ⟨h1, h2, h3, h4, h5, h6⟩ := chkDisk_ok hc
    have hlog := chkLog_len h5
    have hw : writeOf ep h u l e o = putOf ep h u l e o := by unfold writeOf; rw [if_neg (fun h => h hc)]
    have d2 : law_diskIs_t (putOf ep h u l e o).1.1 (putOf ep h u l e o).1.2.1 (putOf ep h u l e o).1.2.2.1 (putOf ep h u l e o).1.2.2.2.1 (putOf ep h u l e o).2.1 (putOf ep h u l e o).2.1 (putOf ep h u l e o).1.1 (putOf ep h u l e o).1.2.1 (putOf ep h u l e o).1.2.2.1 (putOf ep h u l e o).1.2.2.2.1 = some (true, ()) := by
      refine diskIs_eq _ _ _ _ _ _ _ _ _ (put_len hlog) rfl ?_
      split
      · rfl
      · rename_i hne
        unfold putOf at hne ⊢
        split
        · rfl
        split
        · rfl
        rename_i g1 g2
        rw [if_neg g1, if_neg g2] at hne
        exact absurd rfl hne
    rw [hw]
    simp only [hc, decide_true, br_true, R_WriteOf_eq ep h u hlog e ho, bind_s, br_sb]
    have hcond : (bif decide (who < 1) then true else bif decide (who > 2) then true else bif decide (now < 0) then true else decide (now > 9999)) = !(betw who 1 2 && betw now 0 9999) := by
      unfold betw
      by_cases k1 : who < 1
      · have : ¬ 1 ≤ who := by omega
        simp [k1, this]
      · by_cases k2 : who > 2
        · have : ¬ who ≤ 2 := by omega
          simp [k2, this]
        · by_cases k3 : now < 0
          · have : ¬ 0 ≤ now := by omega
            simp [k3, this]
          · by_cases k4 : now > 9999
            · have : ¬ now ≤ 9999 := by omega
              simp [k4, this]
            · have a1 : 1 ≤ who := by omega
              have a2 : who ≤ 2 := by omega
              have a3 : 0 ≤ now := by omega
              have a4 : now ≤ 9999 := by omega
              simp [k1, k2, k3, k4, a1, a2, a3, a4]
    rw [hcond]
    cases hb : (betw who 1 2 && betw now 0 9999)
    · have ha : acquire ep h u l who now = (noDk, 0, 3, ()) := by
        unfold acquire
        rw [if_neg (fun h => h hc), if_pos (Bool.and_eq_false_iff.1 hb)]
      have d1 : law_diskIs_t 0 0 0 [] 3 3 0 0 0 [] = some (true, ()) := diskIs_eq 0 0 0 _ _ 0 0 0 [] (by decide) rfl (by rw [if_neg (by decide)]; rfl)
      rw [ha]
      simp only [Bool.not_false, br_true, noDk, d1, bind_s, decide_true, d2]
      try rfl
    · obtain ⟨b1, b2⟩ := (Bool.and_eq_true _ _).mp hb
      obtain ⟨n1, n2⟩ := betw_iff.1 b2
      have ha : acquire ep h u l who now = ((acqOf ep h u l who now).1, (acqOf ep h u l who now).1.1, (acqOf ep h u l who now).2.1, ()) := by
        unfold acquire
        rw [if_neg (fun h => h hc), if_neg (by simp [b1, b2])]
      have i1 : i64ok (ep + 1) = true := i64ok_of (by omega) (by omega)
      have i2 : i64ok (now + 10) = true := i64ok_of (by omega) (by omega)
      have d4 : ∀ x : Int, x ≠ 0 → law_diskIs_t 0 0 0 [] x x 0 0 0 [] = some (true, ()) := fun x hx => diskIs_eq 0 0 0 _ _ 0 0 0 [] (by decide) rfl (by rw [if_neg hx]; rfl)
      have d5 : ∀ x y z : Int, law_diskIs_t x y z l 0 0 x y z l = some (true, ()) := fun x y z => diskIs_eq x y z _ _ x y z l hlen rfl (by rw [if_pos rfl])
      rw [ha, acq_ref l who now h1.2]
      simp only [Bool.not_true, br_false, i1, i2, req_true]
      have e1 : (bif !decide (h = 0) then decide (u ≥ now) else false) = (!decide (h = 0) && decide (u ≥ now)) := by cases decide (h = 0) <;> rfl
      rw [e1]
      have hep : ¬ ep > 999 := by omega
      cases hd : (!decide (h = 0) && decide (u ≥ now))
      · simp only [cond_false, br_false, Bool.not_false, br_true, Bool.false_eq_true, false_and, if_false, if_true]
        by_cases k : ep + 1 > 999
        · simp only [k, decide_true, br_true, if_true, noDk, d4 2 (by decide), bind_s, d2]
          try rfl
        · simp only [k, decide_false, br_false, if_false, d5, d2, bind_s, br_true, decide_true]
          try rfl
      · by_cases k : h = who
        · simp only [cond_true, k, decide_true, Bool.not_true, br_false, hep, decide_false, true_and, ne_eq, not_true, if_false, Bool.true_eq_false, d5, bind_s, br_true]
          subst k
          simp only [d2, bind_s]
          try rfl
        · simp only [cond_true, k, decide_false, Bool.not_false, br_true, true_and, ne_eq, not_false_eq_true, if_true, noDk, d4 4 (by decide), bind_s, d2, decide_true]
          try rfl
end Go.Ma
