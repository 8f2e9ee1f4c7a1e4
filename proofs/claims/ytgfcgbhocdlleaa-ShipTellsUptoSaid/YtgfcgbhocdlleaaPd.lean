/-
  The plain forms of the functions of ops and logs, the program's and the document's.
-/
import Derived.Test.YtgfcgbhocdlleaaPc
namespace Go.Ma
open Go

theorem eqEn_eq (a b : En) : eqEn a b = decide (a = b) := by
  have e : (a = b) ↔ (a.num = b.num ∧ a.epoch = b.epoch ∧ a.op.kind = b.op.kind ∧ a.op.pf.ad.v6 = b.op.pf.ad.v6 ∧ a.op.pf.ad.hi = b.op.pf.ad.hi ∧ a.op.pf.ad.lo = b.op.pf.ad.lo ∧ a.op.pf.bits = b.op.pf.bits ∧
      a.op.ad.v6 = b.op.ad.v6 ∧ a.op.ad.hi = b.op.ad.hi ∧ a.op.ad.lo = b.op.ad.lo ∧ a.op.who = b.op.who ∧ a.op.of_ = b.op.of_ ∧ a.op.n = b.op.n) := by
    cases a with | mk n1 e1 o1 => cases b with | mk n2 e2 o2 =>
    cases o1 with | mk k1 p1 a1 w1 f1 m1 => cases o2 with | mk k2 p2 a2 w2 f2 m2 =>
    cases p1 with | mk pa1 pb1 => cases p2 with | mk pa2 pb2 =>
    cases pa1; cases pa2; cases a1; cases a2
    simp only [En.mk.injEq, Oq.mk.injEq, Pf.mk.injEq, Ad.mk.injEq, and_assoc]
  rw [Bool.eq_iff_iff, decide_eq_true_iff, e]
  unfold eqEn eqOq
  simp [beqB, acmp, strcmp_eql]

/-! Who. -/
def lowB (b : UInt8) : Bool := betw (b.toNat : Int) 97 122 || betw (b.toNat : Int) 48 57
def whoOk (s : ByteArray) : Bool := s.data.toList.all lowB && betw (lenS s) 1 8
theorem lease_within_eq (x a b : Int) : lease_within_t x a b = some (betw x a b, ()) := by
  unfold lease_within_t
  rw [br_ss, bind_s, betw_bif]
theorem state_within_eq (x a b : Int) : state_within_t x a b = some (betw x a b, ()) := by
  unfold state_within_t
  rw [br_ss, bind_s, betw_bif]
theorem lease_Who_eq {s : ByteArray} (h : strIn s) : lease_Who_t s = some (whoOk s, ()) := by
  have hs : s.size < 9223372036854775808 := lt_of_max h
  have hl : ∀ i, i ≤ s.size → loopN lease_Who_L2 FUEL (((s, ()), (lenS s, ()), ((i : Int), ()), ()), ()) = some (if (s.data.toList.drop i).all lowB then Sum.inr (((s, ()), ()), ()) else Sum.inl ((((false : Bool), ()), ()), ())) := by
    intro i hi
    refine loop_up (fun i => ((((s, ()), (lenS s, ()), ((i : Int), ()), ()), ()) : (((ByteArray × Unit) × (Int × Unit) × (Int × Unit) × Unit) × (Unit)))) s.size (fun i => some (if (s.data.toList.drop i).all lowB then Sum.inr (((s, ()), ()), ()) else Sum.inl ((((false : Bool), ()), ()), ()))) (fun rec i hi hr => ?_) (fun rec => ?_) FUEL i hi (fuel_gt (by omega))
    · obtain ⟨b, hb⟩ : ∃ b, s.data.toList[i]? = some b := ⟨_, List.getElem?_eq_getElem (by rw [data_len]; exact hi)⟩
      simp only [lease_Who_L2]
      rw [decide_eq_true (show (i : Int) < lenS s by unfold lenS; omega), br_true, req_of (inRange_of (by omega) (by unfold lenS; omega)), byteAt_eq hb]
      rw [br_ss, bind_s]
      simp only [br_ss, bind_s]
      rw [show ((i : Int) + 1) = ((i + 1 : Nat) : Int) by omega] 
      rw [req_of (i64ok_of (by omega) (by omega)), hr, drop_all lowB hb]
      have : (bif !(bif decide ((b.toNat : Int) ≥ 97) then decide ((b.toNat : Int) ≤ 122) else false) then (bif decide ((b.toNat : Int) ≥ 48) then !decide ((b.toNat : Int) ≤ 57) else true) else false) = !lowB b := by
        rw [betw_bif]
        unfold lowB
        cases betw (b.toNat : Int) 97 122
        · unfold betw
          by_cases h1 : (48 : Int) ≤ b.toNat <;> simp [h1]
        · rfl
      rw [this]
      cases lowB b <;> simp [br_true, br_false]
    · simp only [lease_Who_L2]
      rw [decide_eq_false (show ¬ (s.size : Int) < lenS s by unfold lenS; omega), br_false, List.drop_of_length_le (by rw [data_len]; exact Nat.le_refl _)]
      rfl
  unfold lease_Who_t whoOk
  have := hl 0 (Nat.zero_le _)
  rw [List.drop_zero] at this
  rw [show ((0 : Nat) : Int) = 0 from rfl] at this
  rw [this, bind_s]
  cases s.data.toList.all lowB
  · rfl
  · simp only [if_true, sumC, lease_within_eq, bind_s, Bool.true_and]

/-! Ops. -/
/-- Is something told that does not belong there? -/
def extraO (o : Oq) : Bool :=
  bif (bif (bif (bif (bif !decide (o.kind = 1) then !(eqPf o.pf ⟨⟨false, 0, 0⟩, 0⟩) else false) then true else (bif !decide (o.kind = 2) then !(eqAd o.ad ⟨false, 0, 0⟩) else false))
    then true else (bif !decide (o.kind = 3) then (bif !decide (o.kind = 4) then strcmp .neq o.who ByteArray.empty else false) else false))
    then true else (bif !decide (o.kind = 3) then !decide (o.of_ = 0) else false))
    then true else (bif !decide (o.kind = 3) then (bif !decide (o.kind = 5) then !decide (o.n = 0) else false) else false)
/-- What state.Form answers. -/
def formO (o : Oq) : Int :=
  if betw o.kind 1 5 = false then 7 else if extraO o = true then 1
  else if o.kind = 1 then (if chkP o.pf ≠ 0 then chkP o.pf else if ((wid o.pf.ad.v6 : Nat) : Int) - o.pf.bits ≤ 4 then 0 else 2)
  else if o.kind = 2 then chkA o.ad
  else if o.kind < 5 ∧ whoOk o.who = false then 1
  else if o.kind = 3 ∧ (betw o.of_ 0 2 = false ∨ betw o.n 1 500 = false) then 3
  else if o.kind = 5 ∧ betw o.n 0 9999 = false then 3 else 0
theorem state_extra_eq (o : Oq) : state_extra_t o = some (extraO o, ()) := by
  unfold state_extra_t
  simp only [br_ss, bind_s]
  rfl
theorem lease_Narrow_eq {p : Pf} (h : chkP p = 0) : lease_Narrow_t p = some (decide (((wid p.ad.v6 : Nat) : Int) - p.bits ≤ 4), ()) := by
  obtain ⟨h1, h2⟩ := chkP_bits h
  have := wid_le p.ad.v6
  unfold lease_Narrow_t
  rw [prefix_Wide_eq, bind_s, req_of (i64ok_of (by simp only; omega) (by simp only; omega))]
theorem state_Form_eq {o : Oq} (h : o.In) : state_Form_t o = some (formO o, ()) := by
  obtain ⟨_, hp, ha, hw, _, _⟩ := h
  unfold state_Form_t formO
  rw [state_within_eq, bind_s]
  cases hk : betw o.kind 1 5
  · rfl
  obtain ⟨hk1, hk2⟩ := betw_iff.1 hk
  simp only [Bool.not_true, br_false, Bool.true_eq_false, if_false]
  rw [state_extra_eq, bind_s]
  cases extraO o
  rotate_left
  · rfl
  simp only [br_false, Bool.false_eq_true, if_false]
  by_cases k1 : o.kind = 1
  · rw [decide_eq_true k1, br_true, if_pos k1, prefix_Check_eq hp, bind_s]
    by_cases hc : chkP o.pf = 0
    · simp only [hc, decide_true, Bool.not_true, br_false, ne_eq, not_true, if_false]
      rw [lease_Narrow_eq hc, bind_s]
      by_cases hn : ((wid o.pf.ad.v6 : Nat) : Int) - o.pf.bits ≤ 4 <;> simp [hn, br_true, br_false]
    · simp [hc, br_true]
  rw [decide_eq_false k1, br_false, if_neg k1]
  by_cases k2 : o.kind = 2
  · rw [decide_eq_true k2, br_true, if_pos k2, addr_Check_eq, bind_s]
  rw [decide_eq_false k2, br_false, if_neg k2]
  have who : ∀ (X : Bool → Option (Int × Unit)), ((lease_Who_t o.who).bind fun y => X y.1) = X (whoOk o.who) := fun X => by rw [lease_Who_eq hw, bind_s]
  by_cases k3 : o.kind = 3
  · simp only [k3, decide_true, br_true, lease_Who_eq hw, bind_s, state_within_eq, br_ss]
    cases whoOk o.who <;> cases betw o.of_ 0 2 <;> cases betw o.n 1 500 <;> simp [br_true, br_false]
  · simp only [k3, decide_false, br_false]
    by_cases k4 : o.kind = 4
    · simp only [k4, lease_Who_eq hw, bind_s, state_within_eq, br_ss]
      cases whoOk o.who <;> simp [br_true, br_false]
    · have k5 : o.kind = 5 := by omega
      simp only [k5, state_within_eq, bind_s]
      cases betw o.n 0 9999 <;> simp [br_true, br_false]

/-! Logs. -/
theorem log_epoch_eq (x : Int) : log_epoch_t x = some (betw x 1 999, ()) := by
  unfold log_epoch_t
  rw [br_ss, bind_s, betw_bif]
def chkLogF : List En → Int → Int → Int
  | [], _, _ => 0
  | e :: r, i, p => if e.num ≠ i + 1 then 4 else if betw e.epoch 1 999 = false then 3 else if e.epoch < p then 4 else if formO e.op ≠ 0 then formO e.op else chkLogF r (i + 1) e.epoch
/-- What log.Check answers. -/
def chkLog (l : List En) : Int := if l.length > 30 then 2 else chkLogF l 0 0
def prevE (l : List En) : Nat → Int
  | 0 => 0
  | i + 1 => match l[i]? with | some e => e.epoch | none => 0
def logIn (l : List En) : Prop := ∀ e ∈ l, e.In
def logOut (l : List En) (r : Int) : (((Int × Unit) × Unit) × (List En × Unit)) ⊕ ((Unit) × (List En × Unit)) := if r = 0 then Sum.inr ((), l, ()) else Sum.inl (((r, ()), ()), l, ())
theorem ite_ne {α : Type} {p : Prop} [Decidable p] (h : ¬ p) (a b : α) : (if p then a else b) = b := if_neg h
theorem logOut_ne {l : List En} {r : Int} (h : r ≠ 0) : some (logOut l r) = some (Sum.inl (((r, ()), ()), l, ())) := by rw [logOut, if_neg h]
theorem log_Check_eq {l : List En} (h : logIn l) : log_Check_t l = some (chkLog l, ()) := by
  unfold log_Check_t chkLog
  by_cases hlen : l.length > 30
  · rw [if_pos hlen, decide_eq_true (show lenL l > 30 by unfold lenL; omega), br_true]
  rw [if_neg hlen, decide_eq_false (show ¬ lenL l > 30 by unfold lenL; omega), br_false]
  have hl : loopN log_Check_L4 FUEL (((), (), (lenL l, ()), ((((0 : Nat) : Int)), ()), ()), l, ()) = some (logOut l (chkLogF (l.drop 0) 0 (prevE l 0))) := by
    refine loop_up (fun i => (((((), (), (lenL l, ()), ((i : Int), ()), ()), l, ()) : (((Unit) × (Unit) × (Int × Unit) × (Int × Unit) × Unit) × (List En × Unit))))) l.length (fun i => some (logOut l (chkLogF (l.drop i) (i : Int) (prevE l i)))) (fun rec i hi hr => ?_) (fun rec => ?_) FUEL 0 (Nat.zero_le _) (fuel_gt (by omega))
    · obtain ⟨e, he⟩ : ∃ e, l[i]? = some e := ⟨_, List.getElem?_eq_getElem hi⟩
      simp only [log_Check_L4]
      rw [decide_eq_true (show (i : Int) < lenL l by unfold lenL; omega), br_true, req_of (inRange_of (by omega) (by unfold lenL; omega)), geti_at he, bind_s]
      rw [req_of (i64ok_of (by omega) (by omega)), drop_cons he, chkLogF]
      by_cases hn : e.num = (i : Int) + 1
      rotate_left
      · rw [if_pos hn, decide_eq_false hn, Bool.not_false, br_true]
        rfl
      rw [if_neg (fun h0 => h0 hn), decide_eq_true hn, Bool.not_true, br_false, log_epoch_eq, bind_s]
      cases hb : betw e.epoch 1 999
      · rfl
      simp only [Bool.not_true, br_false, Bool.true_eq_false, if_false]
      have hc : (br (decide ((i : Int) > 0)) (req (i64ok ((i : Int) - 1)) (req (inRange ((i : Int) - 1) (lenL l)) (req (inRange ((i : Int) - 1) (lenL l)) ((geti l ((i : Int) - 1)).bind fun p3 => some (decide (e.epoch < p3.epoch)))))) (some false)) = some (decide (e.epoch < prevE l i)) := by
        cases i with
        | zero =>
          have := betw_iff.1 hb
          rw [decide_eq_false (by omega), br_false, decide_eq_false (show ¬ e.epoch < prevE l 0 by simp only [prevE]; omega)]
        | succ k =>
          obtain ⟨e', he'⟩ : ∃ e, l[k]? = some e := ⟨_, List.getElem?_eq_getElem (by omega)⟩
          rw [decide_eq_true (by omega), br_true, show (((k + 1 : Nat) : Int) - 1) = (k : Int) by omega, req_of (i64ok_of (by omega) (by omega)), req_of (inRange_of (by omega) (by unfold lenL; omega)), req_of (inRange_of (by omega) (by unfold lenL; omega)), geti_at he', bind_s]
          simp only [prevE, he']
      rw [hc, bind_s]
      by_cases hp : e.epoch < prevE l i
      · rw [if_pos hp, decide_eq_true hp, br_true]
        rfl
      rw [if_neg hp, decide_eq_false hp, br_false, state_Form_eq (h e (List.mem_of_getElem? he)).2.2, bind_s]
      by_cases hf : formO e.op = 0
      rotate_left
      · rw [if_pos hf, decide_eq_false hf, Bool.not_false, br_true, logOut_ne hf]
      rw [if_neg (fun h0 => h0 hf), decide_eq_true hf, Bool.not_true, br_false, show ((i : Int) + 1) = ((i + 1 : Nat) : Int) by omega, req_of (i64ok_of (by omega) (by omega)), hr]
      rw [show prevE l (i + 1) = e.epoch by simp only [prevE, he]]
    · simp only [log_Check_L4]
      rw [decide_eq_false (show ¬ (l.length : Int) < lenL l by unfold lenL; omega), br_false, List.drop_of_length_le (Nat.le_refl _)]
      rfl
  rw [show (((0 : Nat) : Int)) = 0 from rfl, List.drop_zero] at hl
  rw [hl, bind_s]
  show sumC (logOut l (chkLogF l 0 0)) _ _ = _
  unfold logOut
  by_cases h0 : chkLogF l 0 0 = 0
  · rw [if_pos h0, h0]; rfl
  · rw [if_neg h0]; rfl
end Go.Ma
