/-
  TableMore: a table with one prefix less.
-/
import Derived.Test.YtaicmdnpjgijjaaGreatDoorCb
namespace Go.Ma
open Go

def kV (v : Bool) : Int := if v then 1 else 0
theorem ordA_key (a b : Ad) : (ordA a b < 0 ↔ kV a.v6 < kV b.v6 ∨ (kV a.v6 = kV b.v6 ∧ (a.hi < b.hi ∨ (a.hi = b.hi ∧ a.lo < b.lo)))) ∧ (ordA a b = 0 ↔ kV a.v6 = kV b.v6 ∧ a.hi = b.hi ∧ a.lo = b.lo) := by
  unfold ordA ordI kV
  cases a.v6 <;> cases b.v6 <;> simp <;> (by_cases h1 : a.hi = b.hi <;> simp [h1] <;> constructor <;> (repeat' split) <;> omega)
theorem ordP_key (p q : Pf) : ordP p q < 0 ↔ kV p.ad.v6 < kV q.ad.v6 ∨ (kV p.ad.v6 = kV q.ad.v6 ∧ (p.ad.hi < q.ad.hi ∨ (p.ad.hi = q.ad.hi ∧ (p.ad.lo < q.ad.lo ∨ (p.ad.lo = q.ad.lo ∧ p.bits < q.bits))))) := by
  obtain ⟨h1, h2⟩ := ordA_key p.ad q.ad
  unfold ordP
  split <;> omega
theorem kV_inj {v w : Bool} (h : kV v = kV w) : v = w := by cases v <;> cases w <;> first | rfl | (exact absurd h (by decide))
theorem ordP_strict {p q : Pf} (hne : q ≠ p) (h : ¬ ordP q p > 0) : ordP q p < 0 := by
  have : ordP q p ≠ 0 := fun h0 => by
    unfold ordP at h0
    split at h0
    · rename_i h1; exact h1 h0
    · rename_i h1
      have h2 := (ordA_key q.ad p.ad).2.1 (Decidable.not_not.1 h1)
      apply hne
      obtain ⟨h2a, h3, h4⟩ := h2
      have h2b := kV_inj h2a
      have h5 : q.bits = p.bits := by omega
      obtain ⟨⟨qv, qh, ql⟩, qb⟩ := q
      obtain ⟨⟨pv, ph, pl⟩, pb⟩ := p
      simp only at h2b h3 h4 h5
      rw [h2b, h3, h4, h5]
  omega
theorem ordP_trans {p q r : Pf} (h1 : ordP p q < 0) (h2 : ordP q r < 0) : ordP p r < 0 := by
  rw [ordP_key] at h1 h2 ⊢
  omega
theorem ordP_self (p : Pf) : ordP p p = 0 := by
  have h := (ordA_key p.ad p.ad).2.2 ⟨rfl, rfl, rfl⟩
  unfold ordP
  rw [if_neg (fun h' => h' h)]
  omega
/-- A table that is in order: each before all that follow. -/
theorem chkTabF_pair : ∀ (l : List Pf) (o : Option Pf), chkTabF l o = 0 → l.Pairwise (fun a b => ordP a b < 0) ∧ ∀ q, o = some q → ∀ p ∈ l, ordP q p < 0
  | [], _, _ => ⟨List.Pairwise.nil, fun _ _ _ h => by cases h⟩
  | p :: r, o, h => by
    rw [chkTabF_cons] at h
    by_cases hc : chkP p = 0
    rotate_left
    · rw [if_pos hc] at h; exact absurd h hc
    rw [if_neg (fun h' => h' hc)] at h
    have key : chkTabF r (some p) = 0 ∧ ∀ q, o = some q → ordP q p < 0 := by
      cases o with
      | none => exact ⟨h, fun _ h' => by cases h'⟩
      | some q =>
        simp only at h
        split at h
        · cases h
        · rename_i hne
          split at h
          · cases h
          · rename_i hle
            exact ⟨h, fun q' h' => by cases h'; exact ordP_strict hne hle⟩
    obtain ⟨h1, h2⟩ := chkTabF_pair r (some p) key.1
    have h3 := h2 p rfl
    refine ⟨List.Pairwise.cons h3 h1, fun q hq x hx => ?_⟩
    have h4 := key.2 q hq
    rcases List.mem_cons.1 hx with rfl | hx
    · exact h4
    · exact ordP_trans h4 (h3 x hx)
theorem chkTabF_of : ∀ (l : List Pf) (o : Option Pf), (∀ p ∈ l, chkP p = 0) → l.Pairwise (fun a b => ordP a b < 0) → (∀ q, o = some q → ∀ p ∈ l, ordP q p < 0) → chkTabF l o = 0
  | [], _, _, _, _ => rfl
  | p :: r, o, h, hp, ho => by
    rw [chkTabF_cons, if_neg (fun h' => h' (h p (List.mem_cons_self ..)))]
    obtain ⟨h1, h2⟩ := List.pairwise_cons.1 hp
    have ih := chkTabF_of r (some p) (fun x hx => h x (List.mem_cons_of_mem _ hx)) h2 (fun q hq x hx => by cases hq; exact h1 x hx)
    cases o with
    | none => exact ih
    | some q =>
      have hq := ho q rfl p (List.mem_cons_self ..)
      simp only
      rw [if_neg (fun e => by subst e; rw [ordP_self] at hq; omega), if_neg (by omega), ih]
theorem chkTab_sub {l m : List Pf} (hs : m.Sublist l) (h : chkTab l = 0) : chkTab m = 0 := by
  obtain ⟨h1, h2⟩ := chkTab_ok h
  have h3 : chkTabF l none = 0 := by
    unfold chkTab at h
    rw [if_neg (by omega)] at h
    exact h
  have hlen := hs.length_le
  unfold chkTab
  rw [if_neg (by omega)]
  exact chkTabF_of m none (fun p hp => h2 p (hs.subset hp)) ((chkTabF_pair l none h3).1.sublist hs) (fun _ h' => by cases h')

theorem chkA_ne5 (a : Ad) : chkA a ≠ 5 := by
  unfold chkA
  split <;> decide
theorem chkP_ne5 (p : Pf) : chkP p ≠ 5 := by
  unfold chkP
  split
  · exact chkA_ne5 _
  split
  · decide
  split <;> decide
theorem chkTabF_ne5 : ∀ (l : List Pf) (o : Option Pf), chkTabF l o ≠ 5
  | [], _ => by unfold chkTabF; decide
  | p :: r, o => by
    rw [chkTabF_cons]
    split
    · exact chkP_ne5 p
    cases o with
    | none => exact chkTabF_ne5 r _
    | some q =>
      simp only
      split
      · decide
      split
      · decide
      · exact chkTabF_ne5 r _
theorem chkTab_ne5 (l : List Pf) : chkTab l ≠ 5 := by
  unfold chkTab
  split
  · decide
  · exact chkTabF_ne5 l none

def lessN (l : List Pf) (n : Nat) : List Pf := l.take n ++ l.drop (n + 1)
theorem less_sub (l : List Pf) (n : Nat) : (lessN l n).Sublist l := by
  unfold lessN
  rw [← List.eraseIdx_eq_take_drop_succ]
  exact List.eraseIdx_sublist l n
theorem less_mem {l : List Pf} {n : Nat} {q : Pf} : q ∈ lessN l n ↔ ∃ i, i ≠ n ∧ l[i]? = some q := by
  unfold lessN
  rw [← List.eraseIdx_eq_take_drop_succ, List.mem_eraseIdx_iff_getElem?]
/-- The best one, by what it is. -/
theorem find_some {l : List Pf} {a : Ad} {p : Pf} (hp : p ∈ l) (ho : holds p a = true) (hb : ∀ q ∈ l, holds q a = true → q.bits ≤ p.bits) :
    ∃ j : Nat, bestTo (okFind l a) l l.length = (j : Int) ∧ l[j]? = some p := by
  obtain ⟨i, hi⟩ := List.mem_iff_getElem?.1 hp
  rcases bestTo_best (okFind l a) l l.length with ⟨_, h2⟩ | ⟨j, hj, h1, h2, h3, _⟩
  · have := h2 i (List.getElem?_eq_some_iff.1 hi).1
    unfold okFind at this
    rw [hi] at this
    simp only [ho] at this
    cases this
  · refine ⟨j, h1, ?_⟩
    obtain ⟨q, hq⟩ : ∃ e, l[j]? = some e := ⟨_, List.getElem?_eq_getElem hj⟩
    unfold okFind at h2
    rw [hq] at h2
    have b1 := hb q (List.mem_of_getElem? hq) h2
    have b2 := h3 i (List.getElem?_eq_some_iff.1 hi).1 (by unfold okFind; rw [hi]; exact ho)
    unfold bitsAt at b2
    rw [hi, hq] at b2
    have b2 : p.bits ≤ q.bits := b2
    rw [hq, holds_eq h2 ho (by omega)]
theorem find_none {l : List Pf} {a : Ad} : bestTo (okFind l a) l l.length = -1 ↔ ∀ q ∈ l, holds q a = false := by
  constructor
  · intro h q hq
    obtain ⟨i, hi⟩ := List.mem_iff_getElem?.1 hq
    rcases bestTo_best (okFind l a) l l.length with ⟨_, h2⟩ | ⟨j, hj, h1, _⟩
    · have := h2 i (List.getElem?_eq_some_iff.1 hi).1
      unfold okFind at this
      rw [hi] at this
      exact this
    · rw [h1] at h; omega
  · intro h
    rcases bestTo_best (okFind l a) l l.length with ⟨h1, _⟩ | ⟨j, hj, h1, h2, _⟩
    · exact h1
    · obtain ⟨q, hq⟩ : ∃ e, l[j]? = some e := ⟨_, List.getElem?_eq_getElem hj⟩
      unfold okFind at h2
      rw [hq] at h2
      simp only [h q (List.mem_of_getElem? hq)] at h2
      cases h2
theorem findOf_r {l : List Pf} {a : Ad} (hc : chkTab l = 0) (ca : chkA a = 0) : findOf l a = if bestTo (okFind l a) l l.length < 0 then (0, 5, ()) else (bestTo (okFind l a) l l.length, 0, ()) := by
  unfold findOf
  rw [if_neg (fun h => h hc), if_neg (fun h => h ca)]
theorem find_err {l : List Pf} {a : Ad} (hc : chkTab l = 0) (ca : chkA a = 0) (h : (findOf l a).2.1 = 5) : findOf l a = (0, 5, ()) ∧ bestTo (okFind l a) l l.length = -1 := by
  rw [findOf_r hc ca] at h ⊢
  split at h
  · rename_i hb
    rw [if_pos hb]
    refine ⟨rfl, ?_⟩
    rcases best_bound (okFind l a) l l.length with h1 | ⟨j, hj, h1⟩
    · exact h1
    · omega
  · cases h
theorem find_ok {l : List Pf} {a : Ad} (hc : chkTab l = 0) (ca : chkA a = 0) (h : (findOf l a).2.1 = 0) : ∃ (f : Nat) (p : Pf), findOf l a = ((f : Int), 0, ()) ∧ bestTo (okFind l a) l l.length = (f : Int) ∧ l[f]? = some p := by
  rw [findOf_r hc ca] at h ⊢
  split at h
  · cases h
  · rename_i hb
    rw [if_neg hb]
    rcases best_bound (okFind l a) l l.length with h1 | ⟨j, hj, h1⟩
    · rw [h1] at hb; omega
    · exact ⟨j, _, by rw [h1], h1, List.getElem?_eq_getElem hj⟩
theorem find_is {l : List Pf} {a : Ad} (hc : chkTab l = 0) (ca : chkA a = 0) {j : Nat} (h : bestTo (okFind l a) l l.length = (j : Int)) : findOf l a = ((j : Int), 0, ()) := by
  rw [findOf_r hc ca, h, if_neg (by omega)]
/-- What the law asks of the table that has one less. -/
noncomputable def moreF (l m : List Pf) (a : Ad) (n : Int) : Option (Bool × Unit) :=
  (table_Find_t m a).bind fun y7 =>
  br (decide ((findOf l a).2.1 = 5))
    (some (decide (y7.2.1 = 5), ()))
    (br (!decide (n = (findOf l a).1))
      ((br (decide (y7.2.1 = 0))
          (req (inRange y7.1 (lenL m)) <|
          (geti m y7.1).bind fun p8 =>
          req (inRange (findOf l a).1 (lenL l)) <|
          (geti l (findOf l a).1).bind fun p9 =>
          some (eqPf p8 p9))
          (some false)).bind fun c8 =>
      some (c8, ()))
      ((table_Above_t l (findOf l a).1).bind fun y8 =>
      (br (decide (y7.2.1 = y8.2.1))
          (br (!decide (y7.2.1 = 0))
            (some true)
            (req (inRange y7.1 (lenL m)) <|
            (geti m y7.1).bind fun p9 =>
            req (inRange y8.1 (lenL l)) <|
            (geti l y8.1).bind fun p10 =>
            some (eqPf p9 p10)))
          (some false)).bind fun c9 =>
      some (c9, ())))
theorem more_eq {l : List Pf} {a : Ad} (h : tabIn l) (ha : a.In) (hc : chkTab l = 0) (ca : chkA a = 0) {k : Nat} (hk : k < l.length) : moreF l (lessN l k) a (k : Int) = some (true, ()) := by
  have hm : tabIn (lessN l k) := fun p hp => h p ((less_sub l k).subset hp)
  have hcm := chkTab_sub (less_sub l k) hc
  have hsub : ∀ q ∈ lessN l k, q ∈ l := fun q hq => (less_sub l k).subset hq
  unfold moreF
  rw [table_Find_eq hm ha, bind_s]
  by_cases h5 : (findOf l a).2.1 = 5
  · obtain ⟨_, hb⟩ := find_err hc ca h5
    have hn : bestTo (okFind (lessN l k) a) (lessN l k) (lessN l k).length = -1 := find_none.2 fun q hq => find_none.1 hb q (hsub q hq)
    rw [decide_eq_true h5, br_true, findOf_r hcm ca, hn]
    rfl
  · have h0 : (findOf l a).2.1 = 0 := by
      rw [findOf_r hc ca] at h5 ⊢
      split at h5
      · exact absurd rfl h5
      · rename_i hb; rw [if_neg hb]
    obtain ⟨f, p, hf, hb, hp⟩ := find_ok hc ca h0
    obtain ⟨hpa, hall⟩ := found_best hp hb
    have hfl := (List.getElem?_eq_some_iff.1 hp).1
    have rl : inRange (f : Int) (lenL l) = true := inRange_of (by omega) (by unfold lenL; omega)
    rw [hf]
    simp only [show decide ((0 : Int) = 5) = false from rfl, br_false]
    by_cases hkf : k = f
    rotate_left
    · -- another one is gone
      have hpm : p ∈ lessN l k := less_mem.2 ⟨f, fun e => hkf e.symm, hp⟩
      obtain ⟨j, hj, hjp⟩ := find_some hpm hpa (fun q hq ho => (over_iff.1 (hall q (hsub q hq) ho)).1)
      have hjl := (List.getElem?_eq_some_iff.1 hjp).1
      have rm : inRange (j : Int) (lenL (lessN l k)) = true := inRange_of (by omega) (by unfold lenL; omega)
      rw [decide_eq_false (show ¬ (k : Int) = (f : Int) by omega), Bool.not_false, br_true, find_is hcm ca hj]
      simp only [decide_true, br_true, rm, rl, req_true, geti_at hjp, geti_at hp, bind_s, eqPf_eq]
    · subst hkf
      rw [decide_eq_true rfl, Bool.not_true, br_false, table_Above_eq h, bind_s, aboveT_at hc hfl]
      have hov : aboveOf l (k : Int) = bestTo (okOver l p (k : Int)) l l.length := by unfold aboveOf; rw [geti_at hp]
      have hok : ∀ {i : Nat} {q : Pf}, l[i]? = some q → (okOver l p (k : Int) i = true ↔ i ≠ k ∧ over q p = true) := fun {i q} hi => by
        unfold okOver
        rw [hi]
        simp only [Bool.and_eq_true, decide_eq_true_eq]
        exact ⟨fun h => ⟨fun e => h.1 (by rw [e]), h.2⟩, fun h => ⟨fun e => h.1 (by omega), h.2⟩⟩
      rcases bestTo_best (okOver l p (k : Int)) l l.length with ⟨g1, g2⟩ | ⟨j, hj, g1, g2, g3, _⟩
      · -- none above
        have hn : bestTo (okFind (lessN l k) a) (lessN l k) (lessN l k).length = -1 := find_none.2 fun q hq => by
          obtain ⟨i, hi, hiq⟩ := less_mem.1 hq
          cases ho : holds q a
          · rfl
          · have := (hok hiq).2 ⟨hi, hall q (hsub q hq) ho⟩
            rw [g2 i (List.getElem?_eq_some_iff.1 hiq).1] at this
            cases this
        rw [hov, g1, if_pos (by decide), findOf_r hcm ca, hn]
        rfl
      · obtain ⟨q, hq⟩ : ∃ e, l[j]? = some e := ⟨_, List.getElem?_eq_getElem hj⟩
        obtain ⟨hjk, hqp⟩ := (hok hq).1 g2
        have hqm : q ∈ lessN l k := less_mem.2 ⟨j, hjk, hq⟩
        have hqa := over_holds hqp hpa
        obtain ⟨i, hi, hiq⟩ := find_some hqm hqa (fun r hr ho => by
          obtain ⟨i, hik, hir⟩ := less_mem.1 hr
          have := g3 i (List.getElem?_eq_some_iff.1 hir).1 ((hok hir).2 ⟨hik, hall r (hsub r hr) ho⟩)
          unfold bitsAt at this
          rw [hir, hq] at this
          exact this)
        have hil := (List.getElem?_eq_some_iff.1 hiq).1
        have rm : inRange (i : Int) (lenL (lessN l k)) = true := inRange_of (by omega) (by unfold lenL; omega)
        have rj : inRange (j : Int) (lenL l) = true := inRange_of (by omega) (by unfold lenL; omega)
        rw [hov, g1, if_neg (by omega), find_is hcm ca hi]
        simp only [decide_true, Bool.not_true, br_true, br_false, rm, rj, req_true, geti_at hiq, geti_at hq, bind_s, eqPf_eq]
/-- **TableMore**. -/
theorem TableMore_eq {l : List Pf} {a : Ad} (h : tabIn l) (ha : a.In) (n : Int) : law_TableMore_t l a n = some (true, ()) := by
  unfold law_TableMore_t
  rw [tableBegun_eq, bind_s, Bool.not_true, br_false, prefixBegun_eq, bind_s, bind_s, Bool.not_true, br_false, table_Find_eq h ha, bind_s]
  by_cases hc : chkTab l = 0 ∧ chkA a = 0
  rotate_left
  · have : (findOf l a).2.1 ≠ 0 ∧ (findOf l a).2.1 ≠ 5 := by
      unfold findOf
      by_cases h1 : chkTab l = 0
      · have h2 : chkA a ≠ 0 := fun h2 => hc ⟨h1, h2⟩
        rw [if_neg (fun h => h h1), if_pos h2]
        exact ⟨h2, chkA_ne5 a⟩
      · rw [if_pos h1]
        exact ⟨h1, chkTab_ne5 l⟩
    simp only [decide_eq_false this.1, decide_eq_false this.2, Bool.not_false, br_true, bind_s]
  obtain ⟨hc, ca⟩ := hc
  obtain ⟨hl, hall⟩ := chkTab_ok hc
  have he : (findOf l a).2.1 = 0 ∨ (findOf l a).2.1 = 5 := by
    rw [findOf_r hc ca]
    split
    · exact .inr rfl
    · exact .inl rfl
  have hx1 : (br (!decide ((findOf l a).2.1 = 0)) (some (!decide ((findOf l a).2.1 = 5))) (some false)) = some false := by
    rcases he with he | he <;> rw [he] <;> rfl
  rw [hx1, bind_s, br_false, bind_s]
  by_cases hn0 : n < 0
  · rw [decide_eq_true hn0, br_true, bind_s, br_true]
  rw [decide_eq_false hn0, br_false, bind_s]
  by_cases hn1 : n ≥ lenL l
  · rw [decide_eq_true hn1, br_true]
  rw [decide_eq_false hn1, br_false]
  obtain ⟨k, rfl⟩ := Int.eq_ofNat_of_zero_le (show 0 ≤ n by omega)
  have hk : k < l.length := by unfold lenL at hn1; omega
  have e1 : subL l 0 (k : Int) = l.take k := by simp [subL]
  have e2 : subL l ((k : Int) + 1) (lenL l) = l.drop (k + 1) := by
    unfold subL lenL
    rw [show ((k : Int) + 1).toNat = k + 1 by omega, Int.toNat_natCast, List.take_length]
  have hlt : lenL (l.take k) = (k : Int) := by unfold lenL; rw [List.length_take]; omega
  have hld : lenL (l.drop (k + 1)) = (l.length : Int) - (k + 1) := by unfold lenL; rw [List.length_drop]; omega
  have i1 : i64ok ((k : Int) + 1) = true := i64ok_of (by omega) (by omega)
  have d1 : (decide (0 ≤ (k : Int)) && decide ((k : Int) ≤ lenL l)) = true := by unfold lenL; simp; omega
  have d2 : (decide (0 ≤ (k : Int) + 1) && decide ((k : Int) + 1 ≤ lenL l) && decide (lenL l ≤ lenL l)) = true := by unfold lenL; simp; omega
  have r1 : room (lenL ([] : List Pf)) (lenL (l.take k)) = true := room_of (lenL_nonneg _) (lenL_nonneg _) (by rw [hlt, lenL_nil]; omega)
  have r2 : room (lenL (l.take k)) (lenL (l.drop (k + 1))) = true := room_of (lenL_nonneg _) (lenL_nonneg _) (by rw [hlt, hld]; omega)
  have hmore := more_eq h ha hc ca hk
  unfold moreF lessN at hmore
  simp only [e1, e2, List.nil_append, i1, d1, d2, r1, r2, req_true, dup_eq, both_self]

  exact hmore
end Go.Ma
