/-
  The plain forms of the functions of fences, the program's.
-/
import Derived.Test.YtgfcgbhocdlleaaPd
namespace Go.Ma
open Go

theorem clone_eq {l : List En} (h : l.length ≤ 274877906944) : slices_Clone___api_Entry_api_Entry__t l = some (l, ()) := by
  unfold slices_Clone___api_Entry_api_Entry__t
  rw [req_of (room_of (by simp [lenL]) (lenL_nonneg l) (by unfold lenL; simp; omega)), List.nil_append]
  cases l with
  | nil => exact both_self _
  | cons a r => rfl
theorem fence_within_eq (x a b : Int) : fence_within_t x a b = some (betw x a b, ()) := by
  unfold fence_within_t
  rw [br_ss, bind_s, betw_bif]
/-- What fence.Check answers. -/
def chkDisk (ep h u : Int) (l : List En) : Int :=
  if betw ep 0 999 = false ∨ betw h 0 2 = false ∨ betw u 0 10009 = false then 3
  else if (h = 0 ∧ (ep ≠ 0 ∨ u ≠ 0)) ∨ (h ≠ 0 ∧ ep = 0) then 4
  else if chkLog l ≠ 0 then chkLog l else if l.any (fun e => decide (ep < e.epoch)) = true then 4 else 0
abbrev DK := List En × (Int × Int × Int × Unit) × Unit
def goE (ep : Int) (d : DK) : List En → Int → (((Int × Unit) × Unit) × DK) ⊕ (Unit × DK)
  | [], _ => Sum.inr ((), d)
  | e :: r, i => if e.epoch > ep then Sum.inl (((i, ()), ()), d) else goE ep d r (i + 1)
theorem goE_eq (ep : Int) (d : DK) : ∀ (l : List En) (i : Int), 0 ≤ i → sumC (goE ep d l i) (fun y8 => br (decide (y8.1.1.1 ≥ 0)) (some ((4 : Int), ())) (some (0, ()))) (fun _ => some (0, ())) = some (if l.any (fun e => decide (ep < e.epoch)) = true then 4 else 0, ())
  | [], _, _ => rfl
  | e :: r, i, hi => by
    unfold goE
    by_cases h : e.epoch > ep
    · rw [if_pos h]
      have h' : ep < e.epoch := h
      simp only [sumC, List.any_cons, decide_eq_true h', Bool.true_or, if_true]
      rw [decide_eq_true (show i ≥ 0 from hi), br_true]
    · rw [if_neg h, goE_eq ep d r (i + 1) (by omega)]
      have h' : ¬ ep < e.epoch := h
      simp only [List.any_cons, decide_eq_false h', Bool.false_or]
theorem fence_loop {ep h u : Int} {l : List En} (hl : l.length < 9223372036854775808) :
    loopN fence_Check_slices_ContainsFunc___api_Entry_api_Entry__2_slices_IndexFunc___api_Entry_api_Entry__L2 FUEL (((), (), (lenL l, ()), (0, ()), ()), (l, (ep, h, u, ()), ())) = some (goE ep (l, (ep, h, u, ()), ()) l 0) := by
  have := loop_up (step := fence_Check_slices_ContainsFunc___api_Entry_api_Entry__2_slices_IndexFunc___api_Entry_api_Entry__L2) (fun i => (((), (), (lenL l, ()), ((i : Int), ()), ()), (l, (ep, h, u, ()), ()))) l.length (fun i => some (goE ep (l, (ep, h, u, ()), ()) (l.drop i) i)) (fun rec i hi hr => ?_) (fun rec => ?_) FUEL 0 (Nat.zero_le _) (fuel_gt (by omega))
  · exact this
  · obtain ⟨e, he⟩ : ∃ e, l[i]? = some e := ⟨_, List.getElem?_eq_getElem hi⟩
    simp only [fence_Check_slices_ContainsFunc___api_Entry_api_Entry__2_slices_IndexFunc___api_Entry_api_Entry__L2]
    rw [decide_eq_true (show (i : Int) < lenL l by unfold lenL; omega), br_true, req_of (inRange_of (by omega) (by unfold lenL; omega)), geti_at he, bind_s, drop_cons he]
    simp only [fence_Check_1_t, bind_s, goE]
    by_cases hp : e.epoch > ep
    · rw [if_pos hp, decide_eq_true hp, br_true]
    · rw [if_neg hp, decide_eq_false hp, br_false, show ((i : Int) + 1) = ((i + 1 : Nat) : Int) by omega, req_of (i64ok_of (by omega) (by omega)), hr]
  · simp only [fence_Check_slices_ContainsFunc___api_Entry_api_Entry__2_slices_IndexFunc___api_Entry_api_Entry__L2]
    rw [decide_eq_false (show ¬ (l.length : Int) < lenL l by unfold lenL; omega), br_false, List.drop_of_length_le (Nat.le_refl _)]
    rfl
theorem chkLog_len {l : List En} (h : chkLog l = 0) : l.length ≤ 30 := by
  unfold chkLog at h
  split at h
  · cases h
  · omega
theorem fence_Check_eq (ep h u : Int) {l : List En} (hl : logIn l) : fence_Check_t ep h u l = some (chkDisk ep h u l, ()) := by
  unfold fence_Check_t chkDisk
  simp only [fence_within_eq, bind_s, br_sb]
  cases h1 : betw ep 0 999 <;> cases h2 : betw h 0 2 <;> cases h3 : betw u 0 10009 <;> simp only [Bool.not_false, Bool.not_true, cond_true, cond_false, br_true, br_false, true_or, or_true, if_true]
  simp only [Bool.true_eq_false, or_self, if_false]
  have tail : ((log_Check_t l).bind fun y6 => br (!decide (y6.1 = 0)) (some (y6.1, ())) ((loopN fence_Check_slices_ContainsFunc___api_Entry_api_Entry__2_slices_IndexFunc___api_Entry_api_Entry__L2 FUEL (((), (), (lenL l, ()), (0, ()), ()), (l, (ep, h, u, ()), ()))).bind fun y7 =>
      sumC y7 (fun y8 => br (decide (y8.1.1.1 ≥ 0)) (some ((4 : Int), ())) (some (0, ()))) (fun y9 => some (0, ())))) = some (if chkLog l ≠ 0 then chkLog l else if l.any (fun e => decide (ep < e.epoch)) = true then 4 else 0, ()) := by
    rw [log_Check_eq hl, bind_s]
    by_cases h0 : chkLog l = 0
    · rw [if_neg (fun h => h h0), decide_eq_true (show (chkLog l, ()).1 = 0 from h0), Bool.not_true, br_false, fence_loop (by have := chkLog_len h0; omega), bind_s, goE_eq _ _ _ _ (by omega)]
    · rw [if_pos h0, decide_eq_false (show ¬ (chkLog l, ()).1 = 0 from h0), Bool.not_false, br_true]
  by_cases k : h = 0
  · by_cases k1 : ep = 0
    · by_cases k2 : u = 0
      · simp only [k, k1, k2, decide_true, cond_true, Bool.not_true, br_true, br_false, cond_false] at tail ⊢
        rw [if_neg (by simp)]
        exact tail
      · simp [k, k1, k2, br_true, br_false]
    · simp [k, k1, br_true, br_false]
  · by_cases k1 : ep = 0
    · simp [k, k1, br_true, br_false]
    · simp only [k, k1, decide_false, cond_true, Bool.not_false, br_true, br_false, cond_false] at tail ⊢
      rw [if_neg (by simp)]
      exact tail
abbrev Dk := Int × Int × Int × (List En) × Unit
def noDk : Dk := (0, 0, 0, [], ())
def overL (h u now : Int) : Bool := decide (h = 0) || decide (u < now)
/-- Who asks for the lock: the disk behind it, or what is wrong. -/
def acqOf (ep h u : Int) (l : List En) (who now : Int) : Dk × Int × Unit :=
  if overL h u now = false ∧ h ≠ who then (noDk, 4, ()) else if overL h u now = true ∧ ep = 999 then (noDk, 2, ()) else ((if overL h u now = true then ep + 1 else ep, who, now + 10, l, ()), 0, ())
theorem fence_Own_eq (ep h u : Int) {l : List En} (hl : l.length ≤ 274877906944) : fence_Own_t ep h u l = some ((ep, h, u, l, ()), ()) := by
  unfold fence_Own_t
  rw [clone_eq hl, bind_s]
theorem fence_Get_eq (ep h u : Int) {l : List En} (hl : l.length ≤ 274877906944) (who now : Int) (h1 : 0 ≤ ep) (h2 : ep ≤ 999) (h3 : 0 ≤ now) (h4 : now ≤ 9999) : fence_Get_t ep h u l who now = some (acqOf ep h u l who now) := by
  unfold fence_Get_t acqOf
  rw [fence_Own_eq ep h u hl, bind_s, br_ss, bind_s]
  have e : (bif decide (h = 0) then true else decide (u < now)) = overL h u now := by unfold overL; cases decide (h = 0) <;> rfl
  simp only [e, br_sb, bind_s]
  have i1 : i64ok (ep + 1) = true := i64ok_of (by omega) (by omega)
  have i2 : i64ok (now + 10) = true := i64ok_of (by omega) (by omega)
  simp only [i1, i2, req_true]
  cases overL h u now
  · by_cases k : h = who <;> simp [k, br_true, br_false, noDk]
  · by_cases k : ep = 999 <;> simp [k, br_true, br_false, noDk]
/-- What fence.Acquire answers. -/
def acquire (ep h u : Int) (l : List En) (who now : Int) : Dk × Int × Int × Unit :=
  if chkDisk ep h u l ≠ 0 then (noDk, 0, chkDisk ep h u l, ())
  else if betw who 1 2 = false ∨ betw now 0 9999 = false then (noDk, 0, 3, ())
  else ((acqOf ep h u l who now).1, (acqOf ep h u l who now).1.1, (acqOf ep h u l who now).2.1, ())
theorem chkDisk_ok {ep h u : Int} {l : List En} (hc : chkDisk ep h u l = 0) : (0 ≤ ep ∧ ep ≤ 999) ∧ (0 ≤ h ∧ h ≤ 2) ∧ (0 ≤ u ∧ u ≤ 10009) ∧ ((h = 0 ∧ ep = 0 ∧ u = 0) ∨ (h ≠ 0 ∧ ep ≠ 0)) ∧ chkLog l = 0 ∧ l.any (fun e => decide (ep < e.epoch)) = false := by
  unfold chkDisk at hc
  split at hc
  · cases hc
  rename_i h1
  split at hc
  · cases hc
  rename_i h2
  split at hc
  · rename_i h3; exact absurd hc h3
  rename_i h3
  split at hc
  · cases hc
  rename_i h4
  simp only [not_or, Bool.not_eq_false, betw_iff] at h1
  refine ⟨h1.1, h1.2.1, h1.2.2, ?_, Decidable.not_not.1 h3, by simpa using h4⟩
  omega
theorem fence_Acquire_eq (ep h u : Int) {l : List En} (hl : logIn l) (who now : Int) : fence_Acquire_t ep h u l who now = some (acquire ep h u l who now) := by
  unfold fence_Acquire_t acquire
  rw [fence_Check_eq ep h u hl, bind_s]
  by_cases h0 : chkDisk ep h u l = 0
  · obtain ⟨h1, h2, h3, h4, h5, _⟩ := chkDisk_ok h0
    have hlen := chkLog_len h5
    simp only [h0, decide_true, br_true, fence_within_eq, bind_s, br_sb, ne_eq, not_true, if_false, Bool.not_true, br_false]
    cases k1 : betw who 1 2
    · rfl
    cases k2 : betw now 0 9999
    · rfl
    simp only [Bool.not_true, br_false, bind_s, Bool.true_eq_false, or_self, if_false]
    obtain ⟨k3, k4⟩ := betw_iff.1 k2
    rw [fence_Get_eq ep h u (by omega) who now h1.1 h1.2 k3 k4, bind_s]
    simp only [dup_eq, both_self]
    rfl
  · simp [h0, br_false, br_true, noDk]
/-- One more entry: the log, or what is wrong. -/
def moreOf (l : List En) (ep : Int) (o : Oq) : (List En) × Int × Unit :=
  if betw ep 1 999 = false then ([], 3, ()) else if ep < prevE l l.length then ([], 4, ()) else if formO o ≠ 0 then ([], formO o, ()) else if l.length = 30 then ([], 2, ()) else (l ++ [⟨lenL l + 1, ep, o⟩], 0, ())
theorem last_br {l : List En} {ep : Int} (hl : l.length ≤ 30) (he : 0 ≤ ep) : (br (decide (lenL l > 0)) (req (i64ok ((lenL l) - 1)) <| req (inRange ((lenL l) - 1) (lenL l)) <| req (inRange ((lenL l) - 1) (lenL l)) <| (geti l ((lenL l) - 1)).bind fun p2 => some (decide (ep < p2.epoch))) (some false)) = some (decide (ep < prevE l l.length)) := by
  cases hn : l.length with
  | zero =>
    rw [decide_eq_false (show ¬ lenL l > 0 by unfold lenL; omega), br_false, decide_eq_false (show ¬ ep < prevE l 0 by simp only [prevE]; omega)]
  | succ k =>
    obtain ⟨e, he⟩ : ∃ e, l[k]? = some e := ⟨_, List.getElem?_eq_getElem (by omega)⟩
    have e1 : lenL l - 1 = (k : Int) := by unfold lenL; omega
    rw [decide_eq_true (show lenL l > 0 by unfold lenL; omega), br_true, e1, req_of (i64ok_of (by omega) (by omega)), req_of (inRange_of (by omega) (by unfold lenL; omega)), req_of (inRange_of (by omega) (by unfold lenL; omega)), geti_at he, bind_s]
    simp only [prevE, he]
theorem log_More_eq {l : List En} (hl : l.length ≤ 30) (ep : Int) {o : Oq} (ho : o.In) : log_More_t l ep o = some (moreOf l ep o) := by
  unfold log_More_t moreOf
  rw [log_epoch_eq, bind_s]
  cases h1 : betw ep 1 999
  · rfl
  obtain ⟨h2, h3⟩ := betw_iff.1 h1
  simp only [Bool.not_true, br_false, Bool.true_eq_false, if_false]
  rw [last_br hl (by omega), bind_s]
  by_cases h4 : ep < prevE l l.length
  · rw [decide_eq_true h4, br_true, if_pos h4]
  rw [decide_eq_false h4, br_false, if_neg h4, state_Form_eq ho, bind_s]
  by_cases h5 : formO o = 0
  · rw [decide_eq_true (show (formO o, ()).1 = 0 from h5), Bool.not_true, br_false, if_neg (fun h => h h5)]
    by_cases h6 : l.length = 30
    · rw [decide_eq_true (show lenL l = 30 by unfold lenL; omega), br_true, if_pos h6]
    · rw [decide_eq_false (show ¬ lenL l = 30 by unfold lenL; omega), br_false, if_neg h6, dup_eq, clone_eq (by omega), bind_s, req_of (i64ok_of (by unfold lenL; omega) (by unfold lenL; omega))]
      rw [req_of (room_of (lenL_nonneg _) (lenL_nonneg _) (by simp only [lenL, List.length_cons, List.length_nil]; omega))]
  · rw [decide_eq_false (show ¬ (formO o, ()).1 = 0 from h5), Bool.not_false, br_true, if_pos h5]
/-- What fence.Put answers. -/
def putOf (ep h u : Int) (l : List En) (e : Int) (o : Oq) : Dk × Int × Unit :=
  if e = 0 ∨ e ≠ ep then (noDk, 4, ()) else if (moreOf l e o).2.1 ≠ 0 then (noDk, (moreOf l e o).2.1, ()) else ((ep, h, u, (moreOf l e o).1, ()), 0, ())
theorem fence_Put_eq (ep h u : Int) {l : List En} (hl : l.length ≤ 30) (e : Int) {o : Oq} (ho : o.In) : fence_Put_t ep h u l e o = some (putOf ep h u l e o) := by
  unfold fence_Put_t putOf
  rw [br_sb, bind_s, log_More_eq hl e ho, bind_s]
  by_cases h1 : e = 0
  · simp [h1, br_true, noDk]
  by_cases h2 : e = ep
  · rw [if_neg (by simp [h1, h2]; omega)]
    simp only [decide_eq_false h1, decide_eq_true h2, cond_false, Bool.not_true, br_false]
    by_cases h3 : (moreOf l e o).2.1 = 0 <;> simp [h3, br_true, br_false, noDk]
  · simp [h1, h2, br_true, noDk]
/-- What fence.Write answers. -/
def writeOf (ep h u : Int) (l : List En) (e : Int) (o : Oq) : Dk × Int × Unit :=
  if chkDisk ep h u l ≠ 0 then (noDk, chkDisk ep h u l, ()) else putOf ep h u l e o
theorem fence_Write_eq (ep h u : Int) {l : List En} (hl : logIn l) (e : Int) {o : Oq} (ho : o.In) : fence_Write_t ep h u l e o = some (writeOf ep h u l e o) := by
  unfold fence_Write_t writeOf
  rw [fence_Check_eq ep h u hl, bind_s]
  by_cases h0 : chkDisk ep h u l = 0
  · have hlen := chkLog_len (chkDisk_ok h0).2.2.2.2.1
    rw [decide_eq_true (show (chkDisk ep h u l, ()).1 = 0 from h0), Bool.not_true, br_false, fence_Put_eq ep h u hlen e ho, bind_s, if_neg (fun h => h h0)]
  · rw [decide_eq_false (show ¬ (chkDisk ep h u l, ()).1 = 0 from h0), Bool.not_false, br_true, if_pos h0]
    rfl

/-! The three ops and the disk that the laws begin with. -/
def op1 : Oq := ⟨1, ⟨⟨false, 0, 8⟩, 30⟩, ⟨false, 0, 0⟩, ByteArray.empty, 0, 0⟩
def op2 : Oq := ⟨2, ⟨⟨false, 0, 0⟩, 0⟩, ⟨false, 0, 8⟩, ByteArray.empty, 0, 0⟩
def op3 : Oq := ⟨3, ⟨⟨false, 0, 0⟩, 0⟩, ⟨false, 0, 0⟩, ⟨#[120]⟩, 0, 10⟩
def ents : List En := [⟨1, 1, op1⟩, ⟨2, 1, op2⟩, ⟨3, 4, op3⟩]
theorem some_eq : law_some_t = some ([op1, op2, op3], ()) := rfl
theorem entries_eq : law_entries_t = some (ents, ()) := rfl
theorem store_eq : law_store_t = some ((4, 1, 12, ents, ()), ()) := rfl
theorem z_in : (⟨false, 0, 0⟩ : Ad).In := by constructor <;> constructor <;> decide
theorem op_in : op1.In ∧ op2.In ∧ op3.In := by
  have a8 : (⟨false, 0, 8⟩ : Ad).In := by constructor <;> constructor <;> decide
  have e0 : strIn ByteArray.empty := by unfold strIn; exact Nat.zero_le _
  have e1 : strIn ⟨#[120]⟩ := by unfold strIn maxLen; decide
  have n : ∀ x : Int, 0 ≤ x → x < 100 → i64In x := fun x h h' => ⟨by omega, by omega⟩
  exact ⟨⟨n _ (by decide) (by decide), ⟨a8, n _ (by decide) (by decide)⟩, z_in, e0, n _ (by decide) (by decide), n _ (by decide) (by decide)⟩,
    ⟨n _ (by decide) (by decide), ⟨z_in, n _ (by decide) (by decide)⟩, a8, e0, n _ (by decide) (by decide), n _ (by decide) (by decide)⟩,
    ⟨n _ (by decide) (by decide), ⟨z_in, n _ (by decide) (by decide)⟩, z_in, e1, n _ (by decide) (by decide), n _ (by decide) (by decide)⟩⟩
theorem ents_in : logIn ents := by
  have n : ∀ x : Int, 0 ≤ x → x < 100 → i64In x := fun x h h' => ⟨by omega, by omega⟩
  intro e he
  simp only [ents, List.mem_cons, List.not_mem_nil, or_false] at he
  rcases he with rfl | rfl | rfl
  · exact ⟨n _ (by decide) (by decide), n _ (by decide) (by decide), op_in.1⟩
  · exact ⟨n _ (by decide) (by decide), n _ (by decide) (by decide), op_in.2.1⟩
  · exact ⟨n _ (by decide) (by decide), n _ (by decide) (by decide), op_in.2.2⟩
def ents4 : List En := ents ++ [⟨4, 4, op3⟩]
def ents5 : List En := ents ++ [⟨4, 5, op3⟩]
theorem chk_store : chkDisk 4 1 12 ents = 0 := by decide +kernel
theorem acq1 : acquire 4 1 12 ents 2 13 = ((5, 2, 23, ents, ()), 5, 0, ()) := by decide +kernel
theorem acq2 : acquire 4 1 12 ents 2 12 = (noDk, 0, 4, ()) := by decide +kernel
theorem acq3 : acquire 4 1 12 ents 1 12 = ((4, 1, 22, ents, ()), 4, 0, ()) := by decide +kernel
theorem wr1 : writeOf 5 2 23 ents 4 op3 = (noDk, 4, ()) := by decide +kernel
theorem wr2 : writeOf 5 2 23 ents 5 op3 = ((5, 2, 23, ents5, ()), 0, ()) := by decide +kernel
theorem in2 : inRange 2 (lenL [op1, op2, op3]) = true := rfl
theorem get2 : geti [op1, op2, op3] 2 = some op3 := rfl
theorem fenceBegun_eq : law_fenceBegun_t = some (true, ()) := by
  unfold law_fenceBegun_t
  simp only [store_eq, some_eq, bind_s, fence_Acquire_eq _ _ _ ents_in, fence_Check_eq _ _ _ ents_in, fence_Write_eq _ _ _ ents_in _ op_in.2.2, acq1, acq2, acq3, dup_eq, in2, get2, req_true, wr1, wr2, chk_store, decide_true, br_true, both_self]
  rfl

/-! WHO HAS THE LOCK HAS IT FOR SO LONG, AND NOT LONGER. -/
theorem acq_ok {ep h u : Int} {l : List En} {who now : Int} (h0 : (acquire ep h u l who now).2.2.1 = 0) :
    chkDisk ep h u l = 0 ∧ (1 ≤ who ∧ who ≤ 2) ∧ (0 ≤ now ∧ now ≤ 9999) ∧ (overL h u now = true ∨ h = who) ∧ (overL h u now = true → ep ≠ 999) ∧
      acquire ep h u l who now = ((if overL h u now = true then ep + 1 else ep, who, now + 10, l, ()), (if overL h u now = true then ep + 1 else ep), 0, ()) := by
  unfold acquire at h0 ⊢
  split at h0
  · rename_i hc; exact absurd h0 hc
  rename_i hc
  split at h0
  · cases h0
  rename_i hw
  rw [if_neg hc, if_neg hw]
  simp only [not_or, Bool.not_eq_false, betw_iff] at hw
  unfold acqOf at h0 ⊢
  split at h0
  · cases h0
  rename_i h1
  split at h0
  · cases h0
  rename_i h2
  rw [if_neg h1, if_neg h2]
  refine ⟨Decidable.not_not.1 hc, hw.1, hw.2, ?_, fun ho he => h2 ⟨ho, he⟩, rfl⟩
  cases ho : overL h u now
  · exact .inr (by simpa [ho] using h1)
  · exact .inl rfl
theorem any_mono {l : List En} {a b : Int} (h : l.any (fun e => decide (a < e.epoch)) = false) (hab : a ≤ b) : l.any (fun e => decide (b < e.epoch)) = false := by
  rw [List.any_eq_false] at h ⊢
  intro e he
  have := h e he
  simp only [decide_eq_true_eq] at this ⊢
  omega
/-- The disk behind it is right. -/
theorem acq_disk {ep h u : Int} {l : List En} {who now : Int} (hc : chkDisk ep h u l = 0) (hw : 1 ≤ who ∧ who ≤ 2) (hn : 0 ≤ now ∧ now ≤ 9999) (ho : overL h u now = true ∨ h = who) (he : overL h u now = true → ep ≠ 999) :
    chkDisk (if overL h u now = true then ep + 1 else ep) who (now + 10) l = 0 := by
  obtain ⟨h1, h2, h3, h4, h5, h6⟩ := chkDisk_ok hc
  have key : ∀ e : Int, 1 ≤ e → e ≤ 999 → ep ≤ e → chkDisk e who (now + 10) l = 0 := by
    intro e g1 g2 g3
    unfold chkDisk
    rw [if_neg, if_neg, if_neg (fun h => h h5), if_neg (by rw [any_mono h6 g3]; simp)]
    · rintro (⟨g, _⟩ | ⟨_, g⟩) <;> omega
    · simp only [not_or, Bool.not_eq_false, betw_iff]
      omega
  cases hov : overL h u now
  · simp only [Bool.false_eq_true, if_false]
    have hh : h = who := by rcases ho with ho | ho; · rw [hov] at ho; cases ho
                            · exact ho
    refine key ep ?_ h1.2 (Int.le_refl _)
    rcases h4 with ⟨g, _, _⟩ | ⟨_, g⟩
    · omega
    · omega
  · simp only [if_true]
    have := he hov
    exact key (ep + 1) (by omega) (by omega) (by omega)
theorem overL_no {h u now : Int} (h0 : h ≠ 0) : overL h u now = decide (u < now) := by unfold overL; rw [decide_eq_false h0, Bool.false_or]
/-- **FenceTime**. -/
theorem FenceTime_eq (ep h u : Int) {l : List En} (hl : logIn l) (who now more : Int) : law_FenceTime_t ep h u l who now more = some (true, ()) := by
  unfold law_FenceTime_t
  rw [fenceBegun_eq, bind_s, Bool.not_true, br_false, fence_Acquire_eq ep h u hl, bind_s]
  by_cases h0 : (acquire ep h u l who now).2.2.1 = 0
  rotate_left
  · simp only [decide_eq_false h0, Bool.not_false, br_true, bind_s, br_false]
    have : (acquire ep h u l who now).2.1 = 0 := by
      unfold acquire at h0 ⊢
      split
      · rfl
      rename_i hc
      rw [if_neg hc] at h0
      split
      · rfl
      rename_i hw
      rw [if_neg hw] at h0
      unfold acqOf at h0 ⊢
      split
      · rfl
      rename_i h1
      rw [if_neg h1] at h0
      split
      · rfl
      rename_i h2
      rw [if_neg h2] at h0
      exact absurd rfl h0
    simp only [this, decide_true, bind_s]
  obtain ⟨hc, hw, hn, ho, he, heq⟩ := acq_ok h0
  have hd := acq_disk hc hw hn ho he
  rw [heq]
  simp only [decide_true, Bool.not_true, br_false, br_true, bind_s]
  obtain ⟨E, hE⟩ : ∃ E, E = (if overL h u now = true then ep + 1 else ep) := ⟨_, rfl⟩
  rw [← hE] at hd ⊢
  obtain ⟨g1, _, _, _, _, _⟩ := chkDisk_ok hd
  rw [req_of (i64ok_of (x := 9999 - now) (by omega) (by omega))]
  by_cases m0 : more < 0
  · simp only [decide_eq_true m0, br_true, bind_s]
  by_cases m1 : more > 9999 - now
  · simp only [decide_eq_false m0, decide_eq_true m1, br_true, br_false, bind_s]
  simp only [decide_eq_false m0, decide_eq_false m1, br_false, bind_s]
  have i1 : i64ok (3 - who) = true := i64ok_of (by omega) (by omega)
  have i2 : i64ok (now + more) = true := i64ok_of (by omega) (by omega)
  have i3 : i64ok (now + more + 10) = true := i64ok_of (by omega) (by omega)
  have i4 : i64ok (E + 1) = true := i64ok_of (by omega) (by omega)
  simp only [i1, i2, i3, i4, req_true, fence_Acquire_eq _ _ _ hl, bind_s]
  have hov : ∀ x, overL who (now + 10) x = decide (now + 10 < x) := fun x => overL_no (by omega)
  have w1 : betw (3 - who) 1 2 = true := betw_iff.2 ⟨by omega, by omega⟩
  have w2 : betw who 1 2 = true := betw_iff.2 ⟨by omega, by omega⟩
  have w3 : betw (now + more) 0 9999 = true := betw_iff.2 ⟨by omega, by omega⟩
  by_cases m2 : more ≤ 10
  · rw [decide_eq_true m2, br_true]
    have ov : overL who (now + 10) (now + more) = false := by rw [hov, decide_eq_false (by omega)]
    have a1 : acquire E who (now + 10) l (3 - who) (now + more) = (noDk, 0, 4, ()) := by
      unfold acquire acqOf
      rw [if_neg (fun h => h hd), if_neg (by simp [w1, w3]), if_pos ⟨ov, by omega⟩]
      rfl
    have a2 : acquire E who (now + 10) l who (now + more) = ((E, who, now + more + 10, l, ()), E, 0, ()) := by
      unfold acquire acqOf
      rw [if_neg (fun h => h hd), if_neg (by simp [w2, w3]), if_neg (by simp), if_neg (by simp [ov]), if_neg (by simp [ov])]
    rw [a1, a2]
    simp only [decide_true, Bool.not_true, br_false, br_true, bind_s]
  · rw [decide_eq_false m2, br_false]
    have ov : overL who (now + 10) (now + more) = true := by rw [hov, decide_eq_true (by omega)]
    by_cases m3 : E = 999
    · have a1 : acquire E who (now + 10) l (3 - who) (now + more) = (noDk, 0, 2, ()) := by
        unfold acquire acqOf
        rw [if_neg (fun h => h hd), if_neg (by simp [w1, w3]), if_neg (by simp [ov]), if_pos ⟨ov, m3⟩]
        rfl
      rw [decide_eq_true m3, br_true, a1]
      rfl
    · have a1 : acquire E who (now + 10) l (3 - who) (now + more) = ((E + 1, 3 - who, now + more + 10, l, ()), E + 1, 0, ()) := by
        unfold acquire acqOf
        rw [if_neg (fun h => h hd), if_neg (by simp [w1, w3]), if_neg (by simp [ov]), if_neg (by simp [ov, m3]), if_pos ov]
      rw [decide_eq_false m3, br_false, a1]
      simp only [decide_true, br_true, bind_s]
end Go.Ma
