/-
  Parts: Sd Se Sf Sg Sh Si Sj Sk Sl Sm Ty Hd Wk.
-/
import Derived.Test.YtbajhmdekihagaaGreatRows
import Derived.WalkKit
import Derived.ProofKit
import Derived.Lib.Walk
import Derived.Lib.SliceRun
import Derived.Lib.JoinLaws
import Derived.Lib.AppendZeros
import Derived.Lib.AppendZerosOnto
import Derived.Lib.Overlaps
import Derived.Laws.Externs
import Derived.Laws.IdiomCopy
import Derived.Laws.AppendOwn
import Derived.Shelf.Spec.SlicesInsertGrow
import Derived.Test.YtbajhmdekihagaaGreatUu3
set_option linter.unusedVariables false
set_option linter.unusedSimpArgs false
namespace Go.Ma
open Go
theorem poolsF_iff : ∀ (ps : List Pf) (ks : List (List Ad)), poolsF ps ks = 0 ↔ ∀ (i : Nat) (p : Pf), ps[i]? = some p → chkPool p (ks.getD i []) = 0 := fun ps ks => by
 refine ⟨poolsF_all, ?_⟩
 induction ps generalizing ks with
 | nil => intro _; rfl
 | cons q r ih =>
  intro h
  have h0 := h 0 q rfl
  have h0' : chkPool q (ks.headD []) = 0 := by cases ks <;> exact h0
  rw [poolsF, if_neg (fun hh => hh h0')]
  refine ih _ fun i p hp => ?_
  have := h (i + 1) p hp
  cases ks <;> simpa using this
theorem stF_iff (ps : List Pf) (now : Int) : ∀ (m bf : List Ls), stF' ps now bf m = 0 ↔ (∀ x ∈ m, (poolIx ps x.ad).isSome = true) ∧ (∀ x ∈ m, now ≤ x.upto) ∧ (∀ y ∈ bf, ∀ x ∈ m, y.who ≠ x.who) ∧ m.Pairwise fun x y => x.who ≠ y.who
 | [], bf => by simp [stF']
 | x :: r, bf => by
  unfold stF'
  by_cases h1 : (poolIx ps x.ad).isSome = true
  ·rw [if_neg (by cases hq : poolIx ps x.ad <;> simp_all)]
   by_cases h2 : bf.any (whoP x.who) = true
   ·rw [if_pos h2]
    constructor
    ·intro h; exact absurd h (by decide)
    ·rintro ⟨_, _, h3, _⟩
     obtain ⟨y, hy, hq⟩ := List.any_eq_true.1 h2
     exact absurd (by simpa [whoP] using hq) (h3 y hy x (by simp))
   ·rw [if_neg h2]
    have h2' : ∀ y ∈ bf, y.who ≠ x.who := fun y hy he => h2 (List.any_eq_true.2 ⟨y, hy, by simp [whoP, he]⟩)
    by_cases hu : x.upto < now
    ·rw [if_pos hu]
     constructor
     ·intro h; exact absurd h (by decide)
     ·rintro ⟨_, h3, _⟩
      have := h3 x (by simp)
      omega
    rw [if_neg hu, stF_iff ps now r (bf ++ [x])]
    constructor
    ·rintro ⟨a1, a0, a2, a3⟩
     refine ⟨fun z hz => ?_, fun z hz => ?_, fun y hy z hz => ?_, List.pairwise_cons.2 ⟨fun z hz => a2 x (by simp) z hz, a3⟩⟩
     ·rcases List.mem_cons.1 hz with rfl | hz
      ·exact h1
      ·exact a1 z hz
     ·rcases List.mem_cons.1 hz with rfl | hz
      ·omega
      ·exact a0 z hz
     ·rcases List.mem_cons.1 hz with rfl | hz
      ·exact h2' y hy
      ·exact a2 y (by simp [hy]) z hz
    ·rintro ⟨a1, a0, a2, a3⟩
     obtain ⟨b1, b2⟩ := List.pairwise_cons.1 a3
     refine ⟨fun z hz => a1 z (by simp [hz]), fun z hz => a0 z (by simp [hz]), fun y hy z hz => ?_, b2⟩
     rcases List.mem_append.1 hy with hy | hy
     ·exact a2 y hy z (by simp [hz])
     ·have : y = x := by simpa using hy
      subst this
      exact b1 z hz
  ·rw [if_pos (by simpa using h1)]
   constructor
   ·intro h; exact absurd h (by decide)
   ·rintro ⟨a1, _⟩; exact absurd (a1 x (by simp)) h1
theorem poolIx_some {ps : List Pf} {a : Ad} : (poolIx ps a).isSome = true ↔ ∃ p ∈ ps, holds p a = true := by
 unfold poolIx
 rw [firstF_any, List.any_eq_true]
structure StOk (ps : List Pf) (ks : List (List Ad)) (ls : List Ls) (now : Int) : Prop where
 pin : pfIn ps
 kin : kpIn ks
 lin : lsIn ls
 klen : ks.length = ps.length
 plen : ps.length ≤ 3
 pool : ∀ (i : Nat) (p : Pf), ps[i]? = some p → chkPool p (ks.getD i []) = 0
 pair : ps.Pairwise apartP
 time : betw now 0 9999 = true
 all : allC ls now = 0
 has : ∀ x ∈ ls, ∃ p ∈ ps, holds p x.ad = true
 upto : ∀ x ∈ ls, now ≤ x.upto
 who : ls.Pairwise fun x y => x.who ≠ y.who
theorem stOk_of {ps : List Pf} (hp : ∀ p ∈ ps, p.In) {ks : List (List Ad)} (hk : kpIn ks) {ls : List Ls} (hl : lsIn ls) (hlen : ks.length = ps.length) {now : Int} (h : chkS ps ks ls now = 0) : StOk ps ks ls now := by
 unfold chkS at h
 split at h
 ·cases h
 rename_i h3
 split at h
 ·rename_i h4; exact absurd h h4
 rename_i h4
 have h4 := Decidable.not_not.1 h4
 split at h
 ·cases h
 rename_i ha
 split at h
 ·cases h
 rename_i hb
 split at h
 ·rename_i hc; exact absurd h hc
 rename_i hc
 have hpf := pfIn_of hp h4
 obtain ⟨s1, s2, _, s3⟩ := (stF_iff ps now ls []).1 h
 exact ⟨hpf, hk, hl, hlen, by omega, (poolsF_iff ps ks).1 h4, (adj_pair hpf).1 (by simpa using ha), by simpa using hb, Decidable.not_not.1 hc, fun x hx => poolIx_some.1 (s1 x hx), s2, s3⟩
theorem StOk.chk {ps : List Pf} {ks : List (List Ad)} {ls : List Ls} {now : Int} (h : StOk ps ks ls now) : chkS ps ks ls now = 0 := by
 have hpl := h.plen
 unfold chkS
 rw [if_neg (by omega), if_neg (fun hh => hh ((poolsF_iff ps ks).2 h.pool)), (adj_pair h.pin).2 h.pair, if_neg (by simp), h.time, if_neg (by simp), if_neg (fun hh => hh h.all)]
 exact (stF_iff ps now ls []).2 ⟨fun x hx => poolIx_some.2 (h.has x hx), h.upto, fun y hy => (by cases hy), h.who⟩
abbrev StV := (List Pf × List (List Ad)) × List Ls × Int × Unit
abbrev DoV := StV × Ad × Int × Unit
def noSt : StV := ((([] : List Pf), ([] : List (List Ad))), ([] : List Ls), 0, ())
def noAd : Ad := ⟨false, 0, 0⟩
def errS (e : Int) : DoV := (noSt, noAd, e, ())
def okS (ps : List Pf) (ks : List (List Ad)) (ls : List Ls) (now : Int) (a : Ad) : DoV := (((ps, ks), ls, now, ()), a, 0, ())
def posP (p : Pf) (ps : List Pf) : Nat := (ps.takeWhile fun y => decide (ordP y p < 0)).length
def posA (a : Ad) (kp : List Ad) : Nat := (kp.takeWhile fun y => decide (ordA y a < 0)).length
def putAt {α : Type} (l : List α) (n : Nat) (x : α) : List α := l.take n ++ x :: l.drop n
def doPool (ps : List Pf) (ks : List (List Ad)) (ls : List Ls) (now : Int) (p : Pf) : DoV :=
 if ps.any (fun q => meets q p) = true then errS 6 else if ps.length = 3 then errS 2 else okS (putAt ps (posP p ps) p) (putAt ks (posP p ps) []) ls now noAd
def doKeep (ps : List Pf) (ks : List (List Ad)) (ls : List Ls) (now : Int) (a : Ad) : DoV :=
 match poolIx ps a with
 | none => errS 5
 | some i => if (ks.getD i []).any (fun x => decide (a = x)) = true then errS 6 else if (ks.getD i []).length = 6 then errS 2 else okS ps (ks.set i (putAt (ks.getD i []) (posA a (ks.getD i [])) a)) ls now noAd
def ownL (p : Pf) (ls : List Ls) : List Ls := ls.filter fun x => holds p x.ad
def othL (p : Pf) (ls : List Ls) : List Ls := ls.filter fun x => !holds p x.ad
def awayB (p : Pf) (ls : List Ls) (who : ByteArray) : Bool := match firstF (whoP who) ls with | some i => (match ls[i]? with | some x => !holds p x.ad | none => false) | none => false
def grantR (p : Pf) (kp : List Ad) (ls : List Ls) (who : ByteArray) (now ttl : Int) : List Ls × Ad × Bool × Unit := rawOf p kp (live (ownL p ls) now) who (now + ttl)
def doGrant (ps : List Pf) (ks : List (List Ad)) (ls : List Ls) (now : Int) (who : ByteArray) (k : Int) (ttl : Int) : DoV :=
 match ps[k.toNat]? with
 | none => errS 5
 | some p => if awayB p ls who = true then errS 6 else if (grantR p (ks.getD k.toNat []) ls who now ttl).2.2.1 = false then errS 8
  else if (grantR p (ks.getD k.toNat []) ls who now ttl).1.length + (othL p ls).length > 20 then errS 2
  else okS ps ks (sortL ((grantR p (ks.getD k.toNat []) ls who now ttl).1 ++ othL p ls)) now (grantR p (ks.getD k.toNat []) ls who now ttl).2.1
def doFree (ps : List Pf) (ks : List (List Ad)) (ls : List Ls) (now : Int) (who : ByteArray) : DoV :=
 match firstF (whoP who) ls with
 | none => errS 5
 | some i => (match ls[i]? with | some x => okS ps ks (ls.take i ++ ls.drop (i + 1)) now x.ad | none => errS 5)
def doTick (ps : List Pf) (ks : List (List Ad)) (ls : List Ls) (now n : Int) : DoV := if n < now then errS 4 else okS ps ks (live ls n) n noAd
def doOf (ps : List Pf) (ks : List (List Ad)) (ls : List Ls) (now : Int) (o : Oq) : DoV :=
 if formO o ≠ 0 then errS (formO o)
 else if o.kind = 1 then doPool ps ks ls now o.pf
 else if o.kind = 2 then doKeep ps ks ls now o.ad
 else if o.kind = 3 then doGrant ps ks ls now o.who o.of_ o.n
 else if o.kind = 4 then doFree ps ks ls now o.who
 else doTick ps ks ls now o.n
def stDo (ps : List Pf) (ks : List (List Ad)) (ls : List Ls) (now : Int) (o : Oq) : DoV := if chkS ps ks ls now ≠ 0 then errS (chkS ps ks ls now) else doOf ps ks ls now o
theorem form_pool {o : Oq} (h : formO o = 0) (hk : o.kind = 1) : chkP o.pf = 0 ∧ ((wid o.pf.ad.v6 : Nat) : Int) - o.pf.bits ≤ 4 := by
 unfold formO at h
 split at h
 ·cases h
 split at h
 ·cases h
 split at h
 ·rename_i h1; exact absurd h h1
 rename_i h1
 split at h
 ·rename_i h2; exact ⟨Decidable.not_not.1 h1, h2⟩
 ·cases h
theorem form_keep {o : Oq} (h : formO o = 0) (hk : o.kind = 2) : chkA o.ad = 0 := by
 unfold formO at h
 split at h
 ·cases h
 split at h
 ·cases h
 rwa [if_neg (by omega)] at h
theorem form_kind {o : Oq} (h : formO o = 0) : 1 ≤ o.kind ∧ o.kind ≤ 5 := by
 unfold formO at h
 split at h
 ·cases h
 rename_i hk
 exact betw_iff.1 (by simpa using hk)
theorem form_who {o : Oq} (h : formO o = 0) (hk : o.kind = 3 ∨ o.kind = 4) : whoOk o.who = true := by
 unfold formO at h
 split at h
 ·cases h
 split at h
 ·cases h
 rw [if_neg (by omega), if_neg (by omega)] at h
 split at h
 ·cases h
 rename_i h1
 have : o.kind < 5 := by omega
 cases hw : whoOk o.who
 ·exact absurd ⟨this, hw⟩ h1
 ·rfl
theorem form_grant {o : Oq} (h : formO o = 0) (hk : o.kind = 3) : betw o.of_ 0 2 = true ∧ betw o.n 1 500 = true := by
 unfold formO at h
 split at h
 ·cases h
 split at h
 ·cases h
 rw [if_neg (by omega), if_neg (by omega)] at h
 split at h
 ·cases h
 split at h
 ·cases h
 rename_i h2
 cases h1 : betw o.of_ 0 2
 ·exact absurd ⟨hk, .inl h1⟩ h2
 ·cases h3 : betw o.n 1 500
  ·exact absurd ⟨hk, .inr h3⟩ h2
  ·exact ⟨rfl, rfl⟩
theorem form_tick {o : Oq} (h : formO o = 0) (hk : o.kind = 5) : betw o.n 0 9999 = true := by
 unfold formO at h
 split at h
 ·cases h
 split at h
 ·cases h
 rw [if_neg (by omega), if_neg (by omega)] at h
 split at h
 ·cases h
 split at h
 ·cases h
 split at h
 ·cases h
 rename_i h2
 cases h1 : betw o.n 0 9999
 ·exact absurd ⟨hk, h1⟩ h2
 ·rfl
theorem tw_iff {α : Type} {q : α → Bool} : ∀ {l : List α}, (l.Pairwise fun x y => q y = true → q x = true) → ∀ {i : Nat} {x : α}, l[i]? = some x → (q x = true ↔ i < (l.takeWhile q).length)
 | [], _, i, x, h => by simp at h
 | y :: r, hp, i, x, h => by
  obtain ⟨h1, h2⟩ := List.pairwise_cons.1 hp
  rw [List.takeWhile_cons]
  cases hq : q y
  ·simp only [Bool.false_eq_true, if_false, List.length_nil, Nat.not_lt_zero, iff_false, Bool.not_eq_true]
   match i with
   | 0 =>
    simp only [List.getElem?_cons_zero, Option.some.injEq] at h
    rw [← h]; exact hq
   | i + 1 =>
    rw [List.getElem?_cons_succ] at h
    cases hx : q x
    ·rfl
    ·rw [h1 x (List.mem_of_getElem? h) hx] at hq; cases hq
  ·simp only [if_true, List.length_cons]
   match i with
   | 0 =>
    simp only [List.getElem?_cons_zero, Option.some.injEq] at h
    rw [← h, hq]; simp
   | i + 1 =>
    rw [List.getElem?_cons_succ] at h
    rw [tw_iff h2 h]; omega
theorem tw_le {α : Type} (q : α → Bool) (l : List α) : (l.takeWhile q).length ≤ l.length := (List.takeWhile_sublist q).length_le
theorem posP_iff {ps : List Pf} (h : ps.Pairwise apartP) (p : Pf) {i : Nat} {x : Pf} (hx : ps[i]? = some x) : ordP x p < 0 ↔ i < posP p ps := by
 have := tw_iff (q := fun y => decide (ordP y p < 0)) (l := ps) (h.imp fun {a b} hab hb => by
  simp only [decide_eq_true_eq] at hb ⊢
  exact ordP_trans hab.1 hb) hx
 simpa [posP] using this
theorem posP_le (p : Pf) (ps : List Pf) : posP p ps ≤ ps.length := tw_le _ _
theorem ordA_trans {a b c : Ad} (h1 : ordA a b < 0) (h2 : ordA b c < 0) : ordA a c < 0 := by
 have := (ordA_key a b).1.1 h1
 have := (ordA_key b c).1.1 h2
 exact (ordA_key a c).1.2 (by omega)
theorem posA_iff {kp : List Ad} (h : kp.Pairwise fun a b => ordA a b < 0) (p : Ad) {i : Nat} {x : Ad} (hx : kp[i]? = some x) : ordA x p < 0 ↔ i < posA p kp := by
 have := tw_iff (q := fun y => decide (ordA y p < 0)) (l := kp) (h.imp fun {a b} hab hb => by
  simp only [decide_eq_true_eq] at hb ⊢
  exact ordA_trans hab hb) hx
 simpa [posA] using this
theorem posA_le (p : Ad) (kp : List Ad) : posA p kp ≤ kp.length := tw_le _ _
theorem kept_iff {p : Pf} : ∀ (kp : List Ad) (o : Option Ad), keptF p o kp = 0 ↔ (∀ a ∈ kp, chkA a = 0 ∧ holds p a = true) ∧ (kp.Pairwise fun a b => ordA a b < 0) ∧ ∀ b, o = some b → ∀ a ∈ kp, ordA b a < 0
 | [], o => by simp [keptF]
 | x :: r, o => by
  rw [keptF]
  by_cases h1 : chkA x = 0
  rotate_left
  ·rw [if_pos h1]
   exact ⟨fun h => absurd h h1, fun h => absurd (h.1 x (by simp)).1 h1⟩
  rw [if_neg (fun h => h h1)]
  cases h2 : holds p x
  ·rw [if_pos rfl]
   refine ⟨fun h => (by cases h), fun h => ?_⟩
   rw [(h.1 x (by simp)).2] at h2; cases h2
  rw [if_neg (by simp)]
  by_cases h3 : backB o x = true
  ·rw [if_pos h3]
   refine ⟨fun h => (by cases h), fun h => ?_⟩
   cases o with
   | none => cases h3
   | some b =>
    have := h.2.2 b rfl x (by simp)
    simp only [backB, decide_eq_true_eq] at h3
    omega
  ·rw [if_neg h3, kept_iff r (some x)]
   have h4 : ∀ b, o = some b → ordA b x < 0 := fun b hb => by
    subst hb
    simp only [backB, decide_eq_true_eq] at h3
    omega
   constructor
   ·rintro ⟨g1, g2, g3⟩
    refine ⟨fun a ha => ?_, List.pairwise_cons.2 ⟨fun a ha => g3 x rfl a ha, g2⟩, fun b hb a ha => ?_⟩
    ·rcases List.mem_cons.1 ha with rfl | ha
     ·exact ⟨h1, h2⟩
     ·exact g1 a ha
    ·rcases List.mem_cons.1 ha with rfl | ha
     ·exact h4 b hb
     ·exact ordA_trans (h4 b hb) (g3 x rfl a ha)
   ·rintro ⟨g1, g2, g3⟩
    obtain ⟨k1, k2⟩ := List.pairwise_cons.1 g2
    exact ⟨fun a ha => g1 a (List.mem_cons_of_mem _ ha), k2, fun b hb a ha => by injection hb with hb; subst hb; exact k1 a ha⟩
theorem chkPool_iff {p : Pf} {kp : List Ad} : chkPool p kp = 0 ↔ chkP p = 0 ∧ ((wid p.ad.v6 : Nat) : Int) - p.bits ≤ 4 ∧ kp.length ≤ 6 ∧ (∀ a ∈ kp, chkA a = 0 ∧ holds p a = true) ∧ kp.Pairwise fun a b => ordA a b < 0 := by
 unfold chkPool
 by_cases h1 : chkP p = 0
 rotate_left
 ·rw [if_pos h1]
  exact ⟨fun h => absurd h h1, fun h => absurd h.1 h1⟩
 rw [if_neg (fun h => h h1)]
 by_cases h2 : ((wid p.ad.v6 : Nat) : Int) - p.bits ≤ 4 ∧ kp.length ≤ 6
 ·rw [if_neg (by omega), kept_iff]
  constructor
  ·rintro ⟨g1, g2, _⟩; exact ⟨h1, h2.1, h2.2, g1, g2⟩
  ·rintro ⟨_, _, _, g1, g2⟩; exact ⟨g1, g2, fun b hb => by cases hb⟩
 ·rw [if_pos (by omega)]
  exact ⟨fun h => (by cases h), fun h => absurd ⟨h.2.1, h.2.2.1⟩ h2⟩
end Go.Ma
namespace Go.Ma
open Go
theorem clone_ad {l : List Ad} (h : l.length ≤ 1048576) : zq42 l = some (l, ()) := by
 unfold zq42
 rw [req_of (room_of (by simp [lenL]) (lenL_nonneg l) (by unfold lenL; simp; omega)), List.nil_append]
 cases l with
 | nil => exact both_self _
 | cons a r => rfl
theorem StOk.kept {ps : List Pf} {ks : List (List Ad)} {ls : List Ls} {now : Int} (h : StOk ps ks ls now) {i : Nat} {p : Pf} (hp : ps[i]? = some p) : (ks.getD i []).length ≤ 6 := (chkPool_iff.1 (h.pool i p hp)).2.2.1
theorem StOk.llen {ps : List Pf} {ks : List (List Ad)} {ls : List Ls} {now : Int} (h : StOk ps ks ls now) : ls.length ≤ 20 := (allC_ok h.all).1
theorem StOk.lchk {ps : List Pf} {ks : List (List Ad)} {ls : List Ls} {now : Int} (h : StOk ps ks ls now) : ∀ x ∈ ls, chkLs x = 0 := (allC_ok h.all).2.1
theorem state_Own_eq {ps : List Pf} {ks : List (List Ad)} {ls : List Ls} {now : Int} (h : StOk ps ks ls now) : state_Own_t (ps, ks) ls now = some (((ps, ks), ls, now, ()), ()) := by
 have hpl := h.plen
 have hkl := h.klen
 have hll := h.llen
 unfold state_Own_t
 rw [clone_ls (by omega), bind_s, dup_eq]
 simp only
 have := loop_up (step := state_Own_L3) (fun i => (((), (), (), (lenL ps, ()), ((i : Int), ()), ()), (ks, ps, ls, ((0 : Int), ()), (now, ()), ([] : List Pf), ([] : List Ls), ps.take i, ls, ([] : List (List Ad)), ks.take i, ()))) ps.length
  (fun _ => some (((), (), ()), (ks, ps, ls, ((0 : Int), ()), (now, ()), ([] : List Pf), ([] : List Ls), ps, ls, ([] : List (List Ad)), ks, ()))) (fun rec i hi hr => ?_) (fun rec => ?_) FUEL 0 (Nat.zero_le _) (fuel_gt (by omega))
 ·rw [show ((0 : Nat) : Int) = 0 from rfl, List.take_zero, List.take_zero] at this
  rw [this, bind_s]
 ·obtain ⟨p, hp⟩ : ∃ e, ps[i]? = some e := ⟨_, List.getElem?_eq_getElem hi⟩
  have hk6 := h.kept hp
  have e1 : ps.take (i + 1) = ps.take i ++ [p] := by rw [List.take_succ_eq_append_getElem hi, (List.getElem?_eq_some_iff.1 hp).2]
  have hik : i < ks.length := by omega
  have e2 : ks.take (i + 1) = ks.take i ++ [ks.getD i []] := by
   rw [List.take_succ_eq_append_getElem hik, List.getD_eq_getElem?_getD, List.getElem?_eq_getElem hik]
   rfl
  have e3 : padL (ps.take i).length (ks.take i) = ks.take i := padL_of (by simp; omega)
  simp only [state_Own_L3]
  rw [decide_eq_true (show (i : Int) < lenL ps by unfold lenL; omega), br_true, req_of (zq17 (by omega) (by unfold lenL; omega)), geti_at hp, bind_s, getL_nat, clone_ad (by omega)]
  simp only [bind_s, dup_eq, both_self, e3]
  rw [req_of (room_of (lenL_nonneg _) (lenL_nonneg _) (by unfold lenL; simp; omega)), show ((i : Int) + 1) = ((i + 1 : Nat) : Int) by omega, req_of (i64ok_of (by omega) (by omega)), ← e1, ← e2, hr]
 ·simp only [state_Own_L3]
  rw [decide_eq_false (show ¬ (ps.length : Int) < lenL ps by unfold lenL; omega), br_false, List.take_length, ← hkl, List.take_length]
theorem state_find_eq (ps : List Pf) (ks : List (List Ad)) {ls : List Ls} (hlen : ls.length ≤ 1048576) (now : Int) (who : ByteArray) : m_state_doer__find_t (ps, ks) ls now who = some (idxI (firstF (whoP who) ls), ()) := by
 unfold m_state_doer__find_t
 have := idx_loop (step := zq10) ls (whoP who) (fun i => (((), (), (lenL ls, ()), ((i : Int), ()), ()), ((now, ()), ks, ps, ls, (who, ()), ())))
  (fun o => match o with | some i => Sum.inl ((((i : Int), ()), ()), ((now, ()), ks, ps, ls, (who, ()), ())) | none => Sum.inr ((), ((now, ()), ks, ps, ls, (who, ()), ()))) (by omega) (fun rec i x hx hi => ?_) (fun rec => ?_)
 ·rw [show ((0 : Nat) : Int) = 0 from rfl] at this
  simp only
  rw [this, bind_s]
  cases firstF (whoP who) ls <;> rfl
 ·simp only [zq10]
  rw [decide_eq_true (show (i : Int) < lenL ls by unfold lenL; omega), br_true, req_of (zq17 (by omega) (by unfold lenL; omega)), geti_at hx, bind_s, m_state_doer__find_1_t, bind_s, strcmp_eql]
  unfold whoP
  by_cases hc : x.who = who
  ·rw [decide_eq_true hc, br_true, if_pos rfl]
  ·rw [decide_eq_false hc, br_false, if_neg (by simp), show ((i : Int) + 1) = ((i + 1 : Nat) : Int) by omega, req_of (i64ok_of (by omega) (by omega))]
 ·simp only [zq10]
  rw [decide_eq_false (show ¬ (ls.length : Int) < lenL ls by unfold lenL; omega), br_false]
abbrev DPl := List (List Ad) × List Pf × List Ls × (Int × Unit) × (Oq × Unit) × (Int × Unit) × List (List Ad) × List Pf × List Ls × (Ad × Unit) × List (List Ad) × List Pf × List Ls × (Int × Unit) × (Oq × Unit) × (Ad × Unit) × (Pf × Unit) × Unit
abbrev DPl2 := List (List Ad) × List Pf × List Ls × (Int × Unit) × (Oq × Unit) × (Int × Unit) × List (List Ad) × List Pf × List Ls × (Ad × Unit) × List (List Ad) × List Pf × List Ls × (Int × Unit) × (Oq × Unit) × (Ad × Unit) × (Pf × Unit) × (Pf × Unit) × Unit
theorem pool_any {ps : List Pf} (hp : pfIn ps) (hlen : ps.length ≤ 1048576) (ks : List (List Ad)) (ls : List Ls) (now : Int) (o : Oq) (h1 : o.pf.In) (h2 : chkP o.pf = 0) :
  loopN zq73 FUEL (((), (), (lenL ps, ()), (0, ()), ()), ((ks, ps, ls, (now, ()), (o, ()), ((0 : Int), ()), ([] : List (List Ad)), ([] : List Pf), ([] : List Ls), ((⟨false, 0, 0⟩ : Ad), ()), ks, ps, ls, (now, ()), (o, ()), ((⟨false, 0, 0⟩ : Ad), ()), (o.pf, ()), ()) : DPl)) =
   some (match firstF (fun q => meets q o.pf) ps with
    | some i => Sum.inl ((((i : Int), ()), ()), ((ks, ps, ls, (now, ()), (o, ()), ((0 : Int), ()), ([] : List (List Ad)), ([] : List Pf), ([] : List Ls), ((⟨false, 0, 0⟩ : Ad), ()), ks, ps, ls, (now, ()), (o, ()), ((⟨false, 0, 0⟩ : Ad), ()), (o.pf, ()), ()) : DPl))
    | none => Sum.inr ((), ((ks, ps, ls, (now, ()), (o, ()), ((0 : Int), ()), ([] : List (List Ad)), ([] : List Pf), ([] : List Ls), ((⟨false, 0, 0⟩ : Ad), ()), ks, ps, ls, (now, ()), (o, ()), ((⟨false, 0, 0⟩ : Ad), ()), (o.pf, ()), ()) : DPl))) := by
 have := idx_loop (step := zq73) ps (fun q => meets q o.pf) (fun i => (((), (), (lenL ps, ()), ((i : Int), ()), ()), ((ks, ps, ls, (now, ()), (o, ()), ((0 : Int), ()), ([] : List (List Ad)), ([] : List Pf), ([] : List Ls), ((⟨false, 0, 0⟩ : Ad), ()), ks, ps, ls, (now, ()), (o, ()), ((⟨false, 0, 0⟩ : Ad), ()), (o.pf, ()), ()) : DPl)))
  (fun r => match r with | some i => Sum.inl ((((i : Int), ()), ()), ((ks, ps, ls, (now, ()), (o, ()), ((0 : Int), ()), ([] : List (List Ad)), ([] : List Pf), ([] : List Ls), ((⟨false, 0, 0⟩ : Ad), ()), ks, ps, ls, (now, ()), (o, ()), ((⟨false, 0, 0⟩ : Ad), ()), (o.pf, ()), ()) : DPl)) | none => Sum.inr ((), ((ks, ps, ls, (now, ()), (o, ()), ((0 : Int), ()), ([] : List (List Ad)), ([] : List Pf), ([] : List Ls), ((⟨false, 0, 0⟩ : Ad), ()), ks, ps, ls, (now, ()), (o, ()), ((⟨false, 0, 0⟩ : Ad), ()), (o.pf, ()), ()) : DPl))) (by omega) (fun rec i x hx hi => ?_) (fun rec => ?_)
 ·exact this
 ·obtain ⟨g1, g2⟩ := hp x (List.mem_of_getElem? hx)
  simp only [zq73]
  rw [decide_eq_true (show (i : Int) < lenL ps by unfold lenL; omega), br_true, req_of (zq17 (by omega) (by unfold lenL; omega)), geti_at hx, bind_s, m_state_doer__pool_1_t, prefix_Meet_eq g1 h1 g2 h2, bind_s, bind_s]
  simp only [show (over x o.pf || over o.pf x) = meets x o.pf from rfl]
  cases meets x o.pf
  ·rw [show ((i : Int) + 1) = ((i + 1 : Nat) : Int) by omega, br_false, req_of (i64ok_of (by omega) (by omega)), if_neg (by simp)]
  ·rw [br_true, if_pos rfl]
 ·simp only [zq73]
  rw [decide_eq_false (show ¬ (ps.length : Int) < lenL ps by unfold lenL; omega), br_false]
theorem pool_bin {ps : List Pf} (hp : pfIn ps) (hpw : ps.Pairwise apartP) (hlen : ps.length ≤ 1048576) (ks : List (List Ad)) (ls : List Ls) (now : Int) (o : Oq) (h2 : chkP o.pf = 0) :
  loopN zq63 FUEL (((), (), (), (lenL ps, ()), (0, ()), (lenL ps, ()), ()), ((ks, ps, ls, (now, ()), (o, ()), ((0 : Int), ()), ([] : List (List Ad)), ([] : List Pf), ([] : List Ls), ((⟨false, 0, 0⟩ : Ad), ()), ks, ps, ls, (now, ()), (o, ()), ((⟨false, 0, 0⟩ : Ad), ()), (o.pf, ()), (o.pf, ()), ()) : DPl2)) =
   some (((), (), (), (lenL ps, ()), (((posP o.pf ps : Nat) : Int), ()), ()), ((ks, ps, ls, (now, ()), (o, ()), ((0 : Int), ()), ([] : List (List Ad)), ([] : List Pf), ([] : List Ls), ((⟨false, 0, 0⟩ : Ad), ()), ks, ps, ls, (now, ()), (o, ()), ((⟨false, 0, 0⟩ : Ad), ()), (o.pf, ()), (o.pf, ()), ()) : DPl2)) := by
 refine bin_loop (step := zq63) ps.length (posP o.pf ps) (posP_le _ _) (by omega)
  (fun i j => (((), (), (), (lenL ps, ()), ((i : Int), ()), ((j : Int), ()), ()), ((ks, ps, ls, (now, ()), (o, ()), ((0 : Int), ()), ([] : List (List Ad)), ([] : List Pf), ([] : List Ls), ((⟨false, 0, 0⟩ : Ad), ()), ks, ps, ls, (now, ()), (o, ()), ((⟨false, 0, 0⟩ : Ad), ()), (o.pf, ()), (o.pf, ()), ()) : DPl2))) _ (fun rec i j hij h3 h4 h5 => ?_) (fun rec => ?_)
 ·obtain ⟨e, he⟩ : ∃ e, ps[(i + j) / 2]? = some e := ⟨_, List.getElem?_eq_getElem (by omega)⟩
  obtain ⟨g1, g2⟩ := hp e (List.mem_of_getElem? he)
  have hpos := posP_iff hpw o.pf he
  simp only [zq63]
  rw [decide_eq_true (show (i : Int) < (j : Int) by omega), br_true, req_of (i64ok_of (by omega) (by omega))]
  simp only [half_eq i j (by omega)]
  rw [req_of (zq17 (by omega) (by unfold lenL; omega)), geti_at he, bind_s, zq14, prefix_Order_eq g2 h2, bind_s, bind_s]
  by_cases ho : ordP e o.pf < 0
  ·rw [decide_eq_true ho, br_true, if_pos (hpos.1 ho), show (((i + j) / 2 : Nat) : Int) + 1 = (((i + j) / 2 + 1 : Nat) : Int) by omega, req_of (i64ok_of (by omega) (by omega))]
  ·rw [decide_eq_false ho, br_false, if_neg (fun h => ho (hpos.2 h))]
 ·simp only [zq63]
  rw [decide_eq_false (show ¬ ((posP o.pf ps : Nat) : Int) < ((posP o.pf ps : Nat) : Int) by omega), br_false]
theorem any_first {α : Type} {q : α → Bool} {l : List α} : l.any q = (firstF q l).isSome := (firstF_any l).symm
theorem raw_pool {ps : List Pf} {ks : List (List Ad)} {ls : List Ls} {now : Int} (h : StOk ps ks ls now) {o : Oq} (ho : o.In) (hf : formO o = 0) (hk : o.kind = 1) : state_Raw_t (ps, ks) ls now o = some (doPool ps ks ls now o.pf) := by
 obtain ⟨c1, c2⟩ := form_pool hf hk
 have hpl := h.plen
 have hkl := h.klen
 have hpo := posP_le o.pf ps
 unfold state_Raw_t doPool
 rw [state_Form_eq ho, bind_s, hf, decide_eq_true rfl, Bool.not_true, br_false, state_Own_eq h, bind_s, decide_eq_true hk, br_true]
 simp only
 rw [pool_any h.pin (by omega) ks ls now o ho.2.1 c1, bind_s, any_first]
 cases hm : firstF (fun q => meets q o.pf) ps with
 | some i =>
  simp only [sumC, Option.isSome, if_true]
  rw [decide_eq_true (show (i : Int) ≥ 0 by omega), br_true]
  rfl
 | none =>
  simp only [sumC, Option.isSome, Bool.false_eq_true, if_false]
  by_cases h3 : ps.length = 3
  ·rw [decide_eq_true (show lenL ps = 3 by unfold lenL; omega), br_true, if_pos h3]; rfl
  ·rw [decide_eq_false (show ¬ lenL ps = 3 by unfold lenL; omega), br_false, if_neg h3, pool_bin h.pin h.pair (by omega) ks ls now o c1, bind_s]
   simp only
   have r1 : (decide ((0 : Int) ≤ ((posP o.pf ps : Nat) : Int)) && decide (((posP o.pf ps : Nat) : Int) ≤ lenL ps) && room (lenL ps) 1) = true := by
    rw [decide_eq_true (show (0 : Int) ≤ ((posP o.pf ps : Nat) : Int) by omega), decide_eq_true (show ((posP o.pf ps : Nat) : Int) ≤ lenL ps by unfold lenL; omega), room_of (lenL_nonneg _) (by omega) (by unfold lenL; omega)]
    rfl
   have r2 : ∃ b, (br (decide (((posP o.pf ps : Nat) : Int) < lenL ps)) (req (inRange ((posP o.pf ps : Nat) : Int) (lenL ps)) ((geti ps ((posP o.pf ps : Nat) : Int)).bind fun p9 => (zq14 p9 (getL ks ((posP o.pf ps : Nat) : Int)) o.pf).bind fun y10 => some (((posP o.pf ps : Nat) : Int), decide (y10.1 = 0), ()))) (some (((posP o.pf ps : Nat) : Int), false, ()))) = some (((posP o.pf ps : Nat) : Int), b, ()) := by
    by_cases hlt : posP o.pf ps < ps.length
    ·obtain ⟨e, he⟩ : ∃ e, ps[posP o.pf ps]? = some e := ⟨_, List.getElem?_eq_getElem hlt⟩
     obtain ⟨g1, g2⟩ := h.pin e (List.mem_of_getElem? he)
     exact ⟨_, by rw [decide_eq_true (show ((posP o.pf ps : Nat) : Int) < lenL ps by unfold lenL; omega), br_true, req_of (zq17 (by omega) (by unfold lenL; omega)), geti_at he, bind_s, zq14, prefix_Order_eq g2 c1, bind_s, bind_s]⟩
    ·exact ⟨_, by rw [decide_eq_false (show ¬ ((posP o.pf ps : Nat) : Int) < lenL ps by unfold lenL; omega), br_false]⟩
   obtain ⟨b, hb⟩ := r2
   rw [hb, bind_s]
   simp only [r1, req_true, dup_eq, both_self, padL_of hkl]
   simp [okS, noAd, insL, putAt]
abbrev DKp := List (List Ad) × List Pf × List Ls × (Int × Unit) × (Oq × Unit) × (Int × Unit) × List (List Ad) × List Pf × List Ls × (Ad × Unit) × List (List Ad) × List Pf × List Ls × (Int × Unit) × (Oq × Unit) × (Ad × Unit) × (Ad × Unit) × (Ad × Unit) × Unit
theorem keep_bin {kp : List Ad} (hpw : kp.Pairwise fun a b => ordA a b < 0) (hlen : kp.length ≤ 1048576) (ps : List Pf) (ks : List (List Ad)) (ls : List Ls) (now : Int) (o : Oq) {i : Nat} (hkp : ks.getD i [] = kp) :
  loopN zq56 FUEL ((((i : Int), ()), (), (), (lenL kp, ()), (0, ()), (lenL kp, ()), ()), ((ks, ps, ls, (now, ()), (o, ()), ((0 : Int), ()), ([] : List (List Ad)), ([] : List Pf), ([] : List Ls), ((⟨false, 0, 0⟩ : Ad), ()), ks, ps, ls, (now, ()), (o, ()), ((⟨false, 0, 0⟩ : Ad), ()), (o.ad, ()), (o.ad, ()), ()) : DKp)) =
   some ((((i : Int), ()), (), (), (lenL kp, ()), (((posA o.ad kp : Nat) : Int), ()), ()), ((ks, ps, ls, (now, ()), (o, ()), ((0 : Int), ()), ([] : List (List Ad)), ([] : List Pf), ([] : List Ls), ((⟨false, 0, 0⟩ : Ad), ()), ks, ps, ls, (now, ()), (o, ()), ((⟨false, 0, 0⟩ : Ad), ()), (o.ad, ()), (o.ad, ()), ()) : DKp)) := by
 refine bin_loop (step := zq56) kp.length (posA o.ad kp) (posA_le _ _) (by omega)
  (fun a b => ((((i : Int), ()), (), (), (lenL kp, ()), ((a : Int), ()), ((b : Int), ()), ()), ((ks, ps, ls, (now, ()), (o, ()), ((0 : Int), ()), ([] : List (List Ad)), ([] : List Pf), ([] : List Ls), ((⟨false, 0, 0⟩ : Ad), ()), ks, ps, ls, (now, ()), (o, ()), ((⟨false, 0, 0⟩ : Ad), ()), (o.ad, ()), (o.ad, ()), ()) : DKp))) _ (fun rec a b hij h3 h4 h5 => ?_) (fun rec => ?_)
 ·obtain ⟨e, he⟩ : ∃ e, kp[(a + b) / 2]? = some e := ⟨_, List.getElem?_eq_getElem (by omega)⟩
  have hpos := posA_iff hpw o.ad he
  simp only [zq56]
  rw [decide_eq_true (show (a : Int) < (b : Int) by omega), br_true, req_of (i64ok_of (by omega) (by omega))]
  simp only [half_eq a b (by omega), getL_nat, hkp]
  rw [req_of (zq17 (by omega) (by unfold lenL; omega)), geti_at he, bind_s, addr_Order_eq, bind_s]
  by_cases ho : ordA e o.ad < 0
  ·rw [decide_eq_true ho, br_true, if_pos (hpos.1 ho), show (((a + b) / 2 : Nat) : Int) + 1 = (((a + b) / 2 + 1 : Nat) : Int) by omega, req_of (i64ok_of (by omega) (by omega))]
  ·rw [decide_eq_false ho, br_false, if_neg (fun h => ho (hpos.2 h))]
 ·simp only [zq56]
  rw [decide_eq_false (show ¬ ((posA o.ad kp : Nat) : Int) < ((posA o.ad kp : Nat) : Int) by omega), br_false]
theorem ordA_eq0 {a b : Ad} : ordA a b = 0 ↔ a = b := by
 constructor
 ·intro h
  obtain ⟨h1, h2, h3⟩ := (ordA_key a b).2.1 h
  have h1 := kV_inj h1
  obtain ⟨av, ah, al⟩ := a
  obtain ⟨bv, bh, bl⟩ := b
  simp only at h1 h2 h3
  rw [h1, h2, h3]
 ·rintro rfl
  exact (ordA_key a a).2.2 ⟨rfl, rfl, rfl⟩
theorem posA_found {kp : List Ad} (hpw : kp.Pairwise fun a b => ordA a b < 0) (a : Ad) : (match kp[posA a kp]? with | some e => decide (ordA e a = 0) | none => false) = kp.any (fun x => decide (a = x)) := by
 rw [Bool.eq_iff_iff, List.any_eq_true]
 constructor
 ·intro h
  split at h
  ·rename_i e he
   exact ⟨e, List.mem_of_getElem? he, by simp [ordA_eq0.1 (of_decide_eq_true h)]⟩
  ·cases h
 ·rintro ⟨x, hx, hax⟩
  have hax := of_decide_eq_true hax
  subst hax
  obtain ⟨i, hi⟩ := List.mem_iff_getElem?.1 hx
  have h1 := posA_iff hpw a hi
  have h0 : ¬ ordA a a < 0 := by rw [ordA_eq0.2 rfl]; omega
  have hle : posA a kp ≤ i := by
   rcases Nat.lt_or_ge i (posA a kp) with h | h
   ·exact absurd (h1.2 h) h0
   ·exact h
  have hil := (List.getElem?_eq_some_iff.1 hi).1
  have hpos : posA a kp = i := by
   rcases Nat.lt_or_ge (posA a kp) i with h | h
   ·obtain ⟨e, he⟩ : ∃ e, kp[posA a kp]? = some e := ⟨_, List.getElem?_eq_getElem (by omega)⟩
    have h2 := posA_iff hpw a he
    have h3 : ordA e a < 0 := by
     rw [List.pairwise_iff_getElem] at hpw
     have := hpw _ i (by omega) hil h
     rwa [(List.getElem?_eq_some_iff.1 he).2, (List.getElem?_eq_some_iff.1 hi).2] at this
    have := h2.1 h3
    omega
   ·omega
  rw [hpos, hi]
  exact decide_eq_true (ordA_eq0.2 rfl)
theorem set_self {α : Type} {l : List α} {i : Nat} {x : α} (h : l[i]? = some x) : l.set i x = l := by
 obtain ⟨h1, h2⟩ := List.getElem?_eq_some_iff.1 h
 rw [← h2]
 exact List.set_getElem_self h1
theorem raw_keep {ps : List Pf} {ks : List (List Ad)} {ls : List Ls} {now : Int} (h : StOk ps ks ls now) {o : Oq} (ho : o.In) (hf : formO o = 0) (hk : o.kind = 2) : state_Raw_t (ps, ks) ls now o = some (doKeep ps ks ls now o.ad) := by
 have hpl := h.plen
 have hkl := h.klen
 unfold state_Raw_t doKeep
 rw [state_Form_eq ho, bind_s, hf, decide_eq_true rfl, Bool.not_true, br_false, state_Own_eq h, bind_s, decide_eq_false (show ¬ o.kind = 1 by omega), br_false, decide_eq_true hk, br_true]
 simp only
 rw [state_poolOf_eq h.pin (by omega) ks ls now ho.2.2.1, bind_s]
 simp only [idxI_neg]
 cases hx : poolIx ps o.ad with
 | none => rfl
 | some i =>
  have hil := firstF_lt hx
  obtain ⟨p, hp⟩ : ∃ e, ps[i]? = some e := ⟨_, List.getElem?_eq_getElem hil⟩
  obtain ⟨k1, k2, k3, k4, k5⟩ := chkPool_iff.1 (h.pool i p hp)
  have hik : i < ks.length := by omega
  simp only [Option.isNone, br_false, idxI, getL_nat]
  have r1 : inRange (i : Int) (lenL ps) = true := zq17 (by omega) (by unfold lenL; omega)
  have hb := keep_bin k5 (by omega) ps ks ls now o (i := i) rfl
  simp only [r1, req_true, geti_at hp, bind_s]
  rw [hb, bind_s]
  simp only [getL_nat]
  generalize hkp : ks.getD i [] = kp at *
  have hpo := posA_le o.ad kp
  have r2 : (br (decide (((posA o.ad kp : Nat) : Int) < lenL kp)) (req (inRange ((posA o.ad kp : Nat) : Int) (lenL kp)) ((geti kp ((posA o.ad kp : Nat) : Int)).bind fun p6 => (addr_Order_t p6 o.ad).bind fun y7 => some (((posA o.ad kp : Nat) : Int), decide (y7.1 = 0), ()))) (some (((posA o.ad kp : Nat) : Int), false, ()))) = some (((posA o.ad kp : Nat) : Int), kp.any (fun x => decide (o.ad = x)), ()) := by
   rw [← posA_found k5]
   by_cases hlt : posA o.ad kp < kp.length
   ·obtain ⟨e, he⟩ : ∃ e, kp[posA o.ad kp]? = some e := ⟨_, List.getElem?_eq_getElem hlt⟩
    rw [decide_eq_true (show ((posA o.ad kp : Nat) : Int) < lenL kp by unfold lenL; omega), br_true, req_of (zq17 (by omega) (by unfold lenL; omega)), geti_at he, bind_s, addr_Order_eq, bind_s, he]
   ·rw [decide_eq_false (show ¬ ((posA o.ad kp : Nat) : Int) < lenL kp by unfold lenL; omega), br_false, List.getElem?_eq_none (by omega)]
  rw [r2, bind_s]
  simp only
  cases hany : kp.any (fun x => decide (o.ad = x))
  rotate_left
  ·rfl
  simp only [br_false, Bool.false_eq_true, if_false]
  by_cases h6 : kp.length = 6
  ·rw [decide_eq_true (show lenL kp = 6 by unfold lenL; omega), br_true, if_pos h6]; rfl
  rw [decide_eq_false (show ¬ lenL kp = 6 by unfold lenL; omega), br_false, if_neg h6]
  have r3 : (decide ((0 : Int) ≤ ((posA o.ad kp : Nat) : Int)) && decide (((posA o.ad kp : Nat) : Int) ≤ lenL kp) && room (lenL kp) 1) = true := by
   rw [decide_eq_true (show (0 : Int) ≤ ((posA o.ad kp : Nat) : Int) by omega), decide_eq_true (show ((posA o.ad kp : Nat) : Int) ≤ lenL kp by unfold lenL; omega), room_of (lenL_nonneg _) (by omega) (by unfold lenL; omega)]
   rfl
  simp only [Int.natCast_nonneg, decide_true, Bool.true_and] at r3 ⊢
  simp only [r3, req_true]
  have e1 : (ks.set i []).length = ps.length := by simp [hkl]
  simp only [seti, outL, Int.toNat_natCast, padL_of e1, outL, Int.toNat_natCast, set_self hp, List.set_set, insL, okS, noAd, putAt]
theorem own_good {ps : List Pf} {ks : List (List Ad)} {ls : List Ls} {now : Int} (h : StOk ps ks ls now) (p : Pf) : Good p (ownL p ls) := by
 obtain ⟨_, a2, a3, _⟩ := allC_ok h.all
 exact ⟨fun x hx => h.lin x (List.mem_filter.1 hx).1, fun x hx => a2 x (List.mem_filter.1 hx).1, fun x hx => (List.mem_filter.1 hx).2, ((asc_pair h.lin).1 a3).filter _, h.who.filter _⟩
theorem own_ok {ps : List Pf} {ks : List (List Ad)} {ls : List Ls} {now : Int} (h : StOk ps ks ls now) {i : Nat} {p : Pf} (hp : ps[i]? = some p) : chkOf p (ks.getD i []) (ownL p ls) now = 0 :=
 (own_good h p).ok (h.pin p (List.mem_of_getElem? hp)).1 (h.pool i p hp) h.time
section
variable {A R α : Type}
theorem flt2_loop {step : (A → Option R) → A → Option R} (b : List α) (q : α → Bool) (mk : Nat → List α → List α → A) (out : List α → List α → R) (hlen : b.length < 9223372036854775808)
  (h : ∀ (rec : A → Option R) (i : Nat) (x : α) (acc acc2 : List α), b[i]? = some x → i < b.length → acc.length ≤ i → acc2.length ≤ i → step rec (mk i acc acc2) = rec (mk (i + 1) (if q x then acc ++ [x] else acc) (if q x then acc2 else acc2 ++ [x])))
  (hend : ∀ (rec : A → Option R) (acc acc2 : List α), step rec (mk b.length acc acc2) = some (out acc acc2)) : loopN step FUEL (mk 0 [] []) = some (out (b.filter q) (b.filter fun x => !q x)) := by
 have := loop_up (step := step) (fun i => mk i ((b.take i).filter q) ((b.take i).filter fun x => !q x)) b.length (fun _ => some (out (b.filter q) (b.filter fun x => !q x))) (fun rec i hi hr => ?_) (fun rec => ?_) FUEL 0 (Nat.zero_le _) (fuel_gt (by omega))
 ·simpa using this
 ·obtain ⟨e, he⟩ : ∃ e, b[i]? = some e := ⟨_, List.getElem?_eq_getElem hi⟩
  have hle : ∀ q : α → Bool, ((b.take i).filter q).length ≤ i := fun q => Nat.le_trans (List.length_filter_le _ _) (by simp; omega)
  rw [h rec i e _ _ he hi (hle q) (hle _)]
  have ht : b.take (i + 1) = b.take i ++ [e] := by
   rw [List.take_succ_eq_append_getElem hi, (List.getElem?_eq_some_iff.1 he).2]
  rw [ht] at hr
  rw [← hr, List.filter_append, List.filter_append]
  cases hq : q e <;> simp [List.filter, hq]
 ·rw [hend, List.take_length]
end
abbrev DGr := List (List Ad) × List Pf × List Ls × (Int × Unit) × (Oq × Unit) × (Int × Unit) × List (List Ad) × List Pf × List Ls × (Ad × Unit) × List (List Ad) × List Pf × List Ls × (Int × Unit) × (Oq × Unit) × (Ad × Unit) × (Ad × Unit) × (Bool × Int × Int × Int × Int × Unit) × List Ls × List Ls × Unit
theorem grant_split (p : Pf) (cp : chkP p = 0) (ps : List Pf) (ks : List (List Ad)) {ls : List Ls} (hl : lsIn ls) (h20 : ls.length ≤ 20) (now : Int) (o : Oq) :
  loopN zq51 FUEL (((), (o.who, ()), (o.n, ()), (), (), (), (), (), (lenL ls, ()), (0, ()), ()), ((ks, ps, ls, (now, ()), (o, ()), ((0 : Int), ()), ([] : List (List Ad)), ([] : List Pf), ([] : List Ls), ((⟨false, 0, 0⟩ : Ad), ()), ks, ps, ls, (now, ()), (o, ()), ((⟨false, 0, 0⟩ : Ad), ()), ((⟨false, 0, 0⟩ : Ad), ()), (p.ad.v6, p.ad.hi, p.ad.lo, p.bits, o.of_, ()), ([] : List Ls), ([] : List Ls), ()) : DGr)) =
   some (((), (o.who, ()), (o.n, ()), (), (), (), (), ()), ((ks, ps, ls, (now, ()), (o, ()), ((0 : Int), ()), ([] : List (List Ad)), ([] : List Pf), ([] : List Ls), ((⟨false, 0, 0⟩ : Ad), ()), ks, ps, ls, (now, ()), (o, ()), ((⟨false, 0, 0⟩ : Ad), ()), ((⟨false, 0, 0⟩ : Ad), ()), (p.ad.v6, p.ad.hi, p.ad.lo, p.bits, o.of_, ()), ownL p ls, othL p ls, ()) : DGr)) := by
 obtain ⟨b1, b2⟩ := chkP_bits cp
 refine flt2_loop (step := zq51) ls (fun x => holds p x.ad) (fun i a b => (((), (o.who, ()), (o.n, ()), (), (), (), (), (), (lenL ls, ()), ((i : Int), ()), ()), ((ks, ps, ls, (now, ()), (o, ()), ((0 : Int), ()), ([] : List (List Ad)), ([] : List Pf), ([] : List Ls), ((⟨false, 0, 0⟩ : Ad), ()), ks, ps, ls, (now, ()), (o, ()), ((⟨false, 0, 0⟩ : Ad), ()), ((⟨false, 0, 0⟩ : Ad), ()), (p.ad.v6, p.ad.hi, p.ad.lo, p.bits, o.of_, ()), a, b, ()) : DGr)))
  (fun a b => (((), (o.who, ()), (o.n, ()), (), (), (), (), ()), ((ks, ps, ls, (now, ()), (o, ()), ((0 : Int), ()), ([] : List (List Ad)), ([] : List Pf), ([] : List Ls), ((⟨false, 0, 0⟩ : Ad), ()), ks, ps, ls, (now, ()), (o, ()), ((⟨false, 0, 0⟩ : Ad), ()), ((⟨false, 0, 0⟩ : Ad), ()), (p.ad.v6, p.ad.hi, p.ad.lo, p.bits, o.of_, ()), a, b, ()) : DGr))) (by omega) (fun rec i x a b hx hi ha hb => ?_) (fun rec a b => ?_)
 ·simp only [zq51]
  rw [decide_eq_true (show (i : Int) < lenL ls by unfold lenL; omega), br_true, req_of (zq17 (by omega) (by unfold lenL; omega)), geti_at hx, bind_s, prefix_Holds_eq (p := p) b1 b2 (hl x (List.mem_of_getElem? hx)).1, bind_s]
  rw [show ((i : Int) + 1) = ((i + 1 : Nat) : Int) by omega]
  cases holds p x.ad
  ·rw [br_false, req_of (room_of (lenL_nonneg _) (lenL_nonneg _) (by unfold lenL; simp; omega)), req_of (i64ok_of (by omega) (by omega))]
   simp
  ·rw [br_true, req_of (room_of (lenL_nonneg _) (lenL_nonneg _) (by unfold lenL; simp; omega)), req_of (i64ok_of (by omega) (by omega))]
   simp
 ·simp only [zq51]
  rw [decide_eq_false (show ¬ (ls.length : Int) < lenL ls by unfold lenL; omega), br_false]
end Go.Ma
namespace Go.Ma
open Go
theorem grantR_given {ps : List Pf} {ks : List (List Ad)} {ls : List Ls} {now : Int} (h : StOk ps ks ls now) {i : Nat} {p : Pf} (hp : ps[i]? = some p) {who : ByteArray} (hs : strIn who) (hw : whoOk who = true) {ttl : Int} (ht : betw ttl 1 500 = true)
  (hr : ¬ (grantR p (ks.getD i []) ls who now ttl).2.2.1 = false) : Given p (ks.getD i []) (ownL p ls) who now (now + ttl) (grantR p (ks.getD i []) ls who now ttl).1 (grantR p (ks.getD i []) ls who now ttl).2.1 := by
 have hg : grantOf p (ks.getD i []) (ownL p ls) who now ttl = ((grantR p (ks.getD i []) ls who now ttl).1, (grantR p (ks.getD i []) ls who now ttl).2.1, 0, ()) := by
  unfold grantOf
  unfold grantR at hr ⊢
  rw [if_neg (fun hh => hh (own_ok h hp)), if_neg (by simp [hw]), if_neg (by simp [ht]), if_neg hr]
 exact (given_of (h.pin p (List.mem_of_getElem? hp)).1 (own_good h p).ins hs hg).2.2
theorem apart_of : ∀ {l : List Ls}, (l.Pairwise fun x y => x.ad ≠ y.ad) → apartL l = true
 | [], _ => rfl
 | x :: r, h => by
  obtain ⟨h1, h2⟩ := List.pairwise_cons.1 h
  simp only [apartL, Bool.and_eq_true, List.all_eq_true, decide_eq_true_eq]
  exact ⟨fun y hy => Ne.symm (h1 y hy), apart_of h2⟩
theorem asc_ne {l : List Ls} (h : l.Pairwise fun x y => rank x.ad < rank y.ad) : l.Pairwise fun x y => x.ad ≠ y.ad := h.imp fun hab e => by rw [e] at hab; omega
theorem merged_apart {p : Pf} {m b : List Ls} (hm : m.Pairwise fun x y => x.ad ≠ y.ad) (hb : b.Pairwise fun x y => x.ad ≠ y.ad) (h1 : ∀ x ∈ m, holds p x.ad = true) (h2 : ∀ x ∈ b, holds p x.ad = false) : (m ++ b).Pairwise fun x y => x.ad ≠ y.ad := by
 rw [List.pairwise_append]
 exact ⟨hm, hb, fun x hx y hy e => by
  have e1 := h1 x hx
  rw [e, h2 y hy] at e1
  cases e1⟩
theorem oth_asc {ps : List Pf} {ks : List (List Ad)} {ls : List Ls} {now : Int} (h : StOk ps ks ls now) (p : Pf) : (othL p ls).Pairwise fun x y => rank x.ad < rank y.ad := ((asc_pair h.lin).1 (allC_ok h.all).2.2.1).filter _
theorem oth_held {p : Pf} {ls : List Ls} : ∀ x ∈ othL p ls, holds p x.ad = false := fun x hx => by simpa using (List.mem_filter.1 hx).2
theorem merge_ok {ps : List Pf} {ks : List (List Ad)} {ls : List Ls} {now : Int} (h : StOk ps ks ls now) {p : Pf} {kp : List Ad} {l : List Ls} {who : ByteArray} {u : Int} {m : List Ls} {a : Ad} (g : Given p kp l who now u m a) (hlen : m.length + (othL p ls).length ≤ 20) : sortOkL (m ++ othL p ls) = true := by
 unfold sortOkL
 have hne : (m ++ othL p ls).isEmpty = false := by
  have := g.mine
  cases m with
  | nil => cases this
  | cons x r => rfl
 rw [hne, room_of (lenL_nonneg _) (by omega) (by unfold lenL; simp; omega), apart_of (merged_apart (asc_ne g.good.asc) (asc_ne (oth_asc h p)) g.good.held oth_held)]
 rfl
theorem raw_grant {ps : List Pf} {ks : List (List Ad)} {ls : List Ls} {now : Int} (h : StOk ps ks ls now) {o : Oq} (ho : o.In) (hf : formO o = 0) (hk : o.kind = 3) : state_Raw_t (ps, ks) ls now o = some (doGrant ps ks ls now o.who o.of_ o.n) := by
 obtain ⟨g1, g2⟩ := form_grant hf hk
 have hw := form_who hf (.inl hk)
 obtain ⟨o1, o2⟩ := betw_iff.1 g1
 obtain ⟨n1, n2⟩ := betw_iff.1 g2
 obtain ⟨t1, t2⟩ := betw_iff.1 h.time
 have hpl := h.plen
 have hkl := h.klen
 have hll := h.llen
 obtain ⟨k, hk'⟩ : ∃ k : Nat, o.of_ = (k : Int) := ⟨o.of_.toNat, by omega⟩
 unfold state_Raw_t doGrant
 rw [state_Form_eq ho, bind_s, hf, decide_eq_true rfl, Bool.not_true, br_false, state_Own_eq h, bind_s, decide_eq_false (show ¬ o.kind = 1 by omega), br_false, decide_eq_false (show ¬ o.kind = 2 by omega), br_false, decide_eq_true hk, br_true]
 simp only
 rw [hk', Int.toNat_natCast]
 by_cases hkp : k < ps.length
 rotate_left
 ·rw [decide_eq_true (show (k : Int) ≥ lenL ps by unfold lenL; omega), br_true, List.getElem?_eq_none (by omega)]; rfl
 obtain ⟨p, hp⟩ : ∃ e, ps[k]? = some e := ⟨_, List.getElem?_eq_getElem hkp⟩
 obtain ⟨pin, cp⟩ := h.pin p (List.mem_of_getElem? hp)
 obtain ⟨b1, b2⟩ := chkP_bits cp
 rw [decide_eq_false (show ¬ (k : Int) ≥ lenL ps by unfold lenL; omega), br_false, req_of (zq17 (by omega) (by unfold lenL; omega)), geti_at hp, bind_s, state_find_eq ps ks (by omega) now o.who, bind_s, hp]
 simp only
 have haw : (br (decide (idxI (firstF (whoP o.who) ls) ≥ 0)) (req (inRange (idxI (firstF (whoP o.who) ls)) (lenL ls)) (req (inRange (idxI (firstF (whoP o.who) ls)) (lenL ls)) ((geti ls (idxI (firstF (whoP o.who) ls))).bind fun p5 => (prefix_Holds_t p p5.ad).bind fun y6 => some (!y6.1)))) (some false)) = some (awayB p ls o.who) := by
  unfold awayB
  rw [idxI_nonneg]
  cases hw : firstF (whoP o.who) ls with
  | none => rfl
  | some i =>
   have hil := firstF_lt hw
   obtain ⟨x, hx⟩ : ∃ e, ls[i]? = some e := ⟨_, List.getElem?_eq_getElem hil⟩
   have r1 : inRange (i : Int) (lenL ls) = true := zq17 (by omega) (by unfold lenL; omega)
   simp only [idxI, hx, Option.isSome]
   rw [br_true, req_of r1, req_of r1, geti_at hx, bind_s, prefix_Holds_eq b1 b2 (h.lin x (List.mem_of_getElem? hx)).1, bind_s]
 rw [haw, bind_s]
 cases awayB p ls o.who
 rotate_left
 ·rfl
 simp only [br_false, Bool.false_eq_true, if_false]
 have hsp := grant_split p cp ps ks h.lin hll now o
 rw [hk'] at hsp
 rw [hsp, bind_s, dup_eq]
 simp only [getL_nat]
 have hok := chkOf_ok (own_ok h hp)
 have hrw := lease_Raw_eq (p := p) pin (kp := ks.getD k []) (own_good h p).ins (now := now) (ttl := o.n) hok.1 hok.2.1 (by omega) (by omega) o.who
 rw [show (⟨(⟨p.ad.v6, p.ad.hi, p.ad.lo⟩ : Ad), p.bits⟩ : Pf) = p from rfl, hrw, bind_s]
 show br (!(grantR p (ks.getD k []) ls o.who now o.n).2.2.1) _ _ = _
 cases hr : (grantR p (ks.getD k []) ls o.who now o.n).2.2.1
 ·rfl
 have gv := grantR_given h hp ho.2.2.2.1 hw g2 (by rw [hr]; simp)
 unfold grantR at gv ⊢
 simp only [Bool.not_true, br_false, Bool.true_eq_false, if_false]
 have hml := gv.good.len pin cp (chkPool_ok (h.pool k p hp)).2.1
 have hol : (othL p ls).length ≤ 20 := Nat.le_trans (List.length_filter_le _ _) hll
 generalize hR : rawOf p (ks.getD k []) (live (ownL p ls) now) o.who (now + o.n) = r at *
 rw [req_of (i64ok_of (by unfold lenL; omega) (by unfold lenL; omega))]
 by_cases h20 : r.1.length + (othL p ls).length > 20
 ·rw [decide_eq_true (show lenL r.1 + lenL (othL p ls) > 20 by unfold lenL; omega), br_true, if_pos h20]; rfl
 ·rw [decide_eq_false (show ¬ lenL r.1 + lenL (othL p ls) > 20 by unfold lenL; omega), br_false, if_neg h20, req_of (room_of (lenL_nonneg _) (lenL_nonneg _) (by unfold lenL; omega)), req_of (merge_ok h gv (by omega))]
  rfl
theorem raw_free {ps : List Pf} {ks : List (List Ad)} {ls : List Ls} {now : Int} (h : StOk ps ks ls now) {o : Oq} (ho : o.In) (hf : formO o = 0) (hk : o.kind = 4) : state_Raw_t (ps, ks) ls now o = some (doFree ps ks ls now o.who) := by
 have hll := h.llen
 unfold state_Raw_t doFree
 rw [state_Form_eq ho, bind_s, hf, decide_eq_true rfl, Bool.not_true, br_false, state_Own_eq h, bind_s, decide_eq_false (show ¬ o.kind = 1 by omega), br_false, decide_eq_false (show ¬ o.kind = 2 by omega), br_false, decide_eq_false (show ¬ o.kind = 3 by omega), br_false, decide_eq_true hk, br_true]
 simp only
 rw [state_find_eq ps ks (by omega) now o.who, bind_s]
 simp only [idxI_neg]
 cases hw : firstF (whoP o.who) ls with
 | none => rfl
 | some i =>
  have hil := firstF_lt hw
  obtain ⟨x, hx⟩ : ∃ e, ls[i]? = some e := ⟨_, List.getElem?_eq_getElem hil⟩
  have r1 : inRange (i : Int) (lenL ls) = true := zq17 (by omega) (by unfold lenL; omega)
  have r2 : (decide ((0 : Int) ≤ (i : Int)) && decide ((i : Int) ≤ (i : Int) + 1) && decide ((i : Int) + 1 ≤ lenL ls)) = true := by
   rw [decide_eq_true (show (0 : Int) ≤ (i : Int) by omega), decide_eq_true (show (i : Int) ≤ (i : Int) + 1 by omega), decide_eq_true (show (i : Int) + 1 ≤ lenL ls by unfold lenL; omega)]
   rfl
  have e1 : ((i : Int) + 1).toNat = i + 1 := by omega
  simp only [Option.isNone, br_false]
  rw [show idxI (some i) = (i : Int) from rfl, req_of r1, req_of r1, geti_at hx, bind_s, req_of (i64ok_of (by omega) (by omega)), req_of r2, hx]
  simp only [okS, delL, e1, Int.toNat_natCast]
theorem raw_tick {ps : List Pf} {ks : List (List Ad)} {ls : List Ls} {now : Int} (h : StOk ps ks ls now) {o : Oq} (ho : o.In) (hf : formO o = 0) (hk : o.kind = 5) : state_Raw_t (ps, ks) ls now o = some (doTick ps ks ls now o.n) := by
 have hll := h.llen
 unfold state_Raw_t doTick
 rw [state_Form_eq ho, bind_s, hf, decide_eq_true rfl, Bool.not_true, br_false, state_Own_eq h, bind_s, decide_eq_false (show ¬ o.kind = 1 by omega), br_false, decide_eq_false (show ¬ o.kind = 2 by omega), br_false, decide_eq_false (show ¬ o.kind = 3 by omega), br_false, decide_eq_false (show ¬ o.kind = 4 by omega), br_false]
 simp only
 by_cases hn : o.n < now
 ·rw [decide_eq_true hn, br_true, if_pos hn]; rfl
 ·rw [decide_eq_false hn, br_false, if_neg hn, lease_Live_eq (by omega), bind_s]; rfl
theorem state_Raw_eq {ps : List Pf} {ks : List (List Ad)} {ls : List Ls} {now : Int} (h : StOk ps ks ls now) {o : Oq} (ho : o.In) : state_Raw_t (ps, ks) ls now o = some (doOf ps ks ls now o) := by
 unfold doOf
 by_cases hf : formO o = 0
 rotate_left
 ·rw [if_pos hf]
  unfold state_Raw_t
  rw [state_Form_eq ho, bind_s, decide_eq_false hf, Bool.not_false, br_true]
  rfl
 rw [if_neg (fun hh => hh hf)]
 have hk := form_kind hf
 by_cases k1 : o.kind = 1
 ·rw [if_pos k1, raw_pool h ho hf k1]
 by_cases k2 : o.kind = 2
 ·rw [if_neg k1, if_pos k2, raw_keep h ho hf k2]
 by_cases k3 : o.kind = 3
 ·rw [if_neg k1, if_neg k2, if_pos k3, raw_grant h ho hf k3]
 by_cases k4 : o.kind = 4
 ·rw [if_neg k1, if_neg k2, if_neg k3, if_pos k4, raw_free h ho hf k4]
 ·rw [if_neg k1, if_neg k2, if_neg k3, if_neg k4, raw_tick h ho hf (by omega)]
theorem state_Do_eq {ps : List Pf} (hp : ∀ p ∈ ps, p.In) {ks : List (List Ad)} (hk : kpIn ks) {ls : List Ls} (hl : lsIn ls) (hlen : ks.length = ps.length) (now : Int) {o : Oq} (ho : o.In) : zq49 (ps, ks) ls now o = some (stDo ps ks ls now o) := by
 unfold zq49 stDo
 rw [state_Check_eq hp hk hl, bind_s]
 by_cases hc : chkS ps ks ls now = 0
 rotate_left
 ·rw [decide_eq_false hc, Bool.not_false, br_true, if_pos hc]; rfl
 rw [decide_eq_true hc, Bool.not_true, br_false, if_neg (fun hh => hh hc), state_Raw_eq (stOk_of hp hk hl hlen hc) ho, bind_s]
end Go.Ma
namespace Go.Ma
open Go
theorem meets_self {p : Pf} (cp : chkP p = 0) : meets p p = true := by unfold meets; rw [over_refl cp]; rfl
theorem ahead_pos {ps : List Pf} (hpw : ps.Pairwise apartP) {p : Pf} {i : Nat} {x : Pf} (hx : ps[i]? = some x) (hne : x ≠ p) : decide (ordP p x < 0) = decide (posP p ps ≤ i) := by
 have h1 := posP_iff hpw p hx
 refine decide_eq_decide.2 ⟨fun h => ?_, fun h => ?_⟩
 ·rcases Nat.lt_or_ge i (posP p ps) with hlt | hge
  ·have := ordP_trans h (h1.2 hlt)
   rw [ordP_self] at this
   omega
  ·exact hge
 ·have h2 : ¬ ordP x p < 0 := fun hh => by have := h1.1 hh; omega
  by_cases h3 : ordP p x < 0
  ·exact h3
  ·exfalso
   apply hne
   rw [ordP_key] at h2 h3
   have hv := kV_inj (v := x.ad.v6) (w := p.ad.v6) (by omega)
   obtain ⟨⟨xv, xh, xl⟩, xb⟩ := x
   obtain ⟨⟨pv, ph, pl⟩, pb⟩ := p
   simp only at hv h2 h3 ⊢
   have e1 : xh = ph := by omega
   have e2 : xl = pl := by omega
   have e3 : xb = pb := by omega
   rw [hv, e1, e2, e3]
theorem ordA_tri {a b : Ad} (h : ¬ ordA a b < 0) (hne : a ≠ b) : ordA b a < 0 := by
 by_cases h2 : ordA b a < 0
 ·exact h2
 ·exfalso
  apply hne
  rw [← ordA_eq0]
  have h1 := (ordA_key a b).1
  have h3 := (ordA_key b a).1
  have := (ordA_key a b).2
  rw [h1] at h
  rw [h3] at h2
  exact this.2 (by omega)
end Go.Ma
namespace Go.Ma
open Go
theorem adLt_ord (a b : Ad) : adLt a b = decide (ordA a b < 0) := by
 rw [Bool.eq_iff_iff, adLt_iff, decide_eq_true_iff, (ordA_key a b).1]
 unfold kV
 cases a.v6 <;> cases b.v6 <;> simp
theorem oth_in {p : Pf} {ls : List Ls} (h : lsIn ls) : lsIn (othL p ls) := fun x hx => h x (List.mem_filter.1 hx).1
end Go.Ma
namespace Go.Ma
open Go
theorem R_SameAddrs_self {l : List Ad} (hl : l.length < 9223372036854775808) : R_SameAddrs_t l l = some (true, ()) := by
 unfold R_SameAddrs_t
 rw [decide_eq_true rfl, Bool.not_true, br_false]
 have := loop_up (step := R_SameAddrs_L4) (fun i => (((), (), ((i : Int), ()), ()), (l, l, ()))) l.length (fun _ => some (Sum.inr ((), (l, l, ())))) (fun rec i hi hr => ?_) (fun rec => ?_) FUEL 0 (Nat.zero_le _) (fuel_gt (by omega))
 ·rw [show ((0 : Nat) : Int) = 0 from rfl] at this
  rw [this]; rfl
 ·obtain ⟨x, hx⟩ : ∃ e, l[i]? = some e := ⟨_, List.getElem?_eq_getElem hi⟩
  have r1 : inRange (i : Int) (lenL l) = true := zq17 (by omega) (by unfold lenL; omega)
  simp only [R_SameAddrs_L4]
  simp only [r1, req_true, geti_at hx, bind_s, eqAd_eq]
  rw [decide_eq_true (show (i : Int) < lenL l by unfold lenL; omega), br_true]
  simp only [decide_true, Bool.not_true, br_false]
  rw [show ((i : Int) + 1) = ((i + 1 : Nat) : Int) by omega, req_of (i64ok_of (by omega) (by omega)), hr]
 ·simp only [R_SameAddrs_L4]
  rw [decide_eq_false (show ¬ (l.length : Int) < lenL l by unfold lenL; omega), br_false]
def fitS (ps : List Pf) (ks : List (List Ad)) (ls : List Ls) : Prop := ps.length < 9223372036854775808 ∧ (∀ i, (ks.getD i []).length < 9223372036854775808) ∧ ls.length < 9223372036854775808
theorem R_SameState_self {ps : List Pf} {ks : List (List Ad)} {ls : List Ls} (h : fitS ps ks ls) (now : Int) : R_SameState_t (ps, ks) ls now (ps, ks) ls now = some (true, ()) := by
 obtain ⟨h1, h2, h3⟩ := h
 unfold R_SameState_t
 rw [R_SameLeases_eq h3]
 simp only [decide_true, Bool.not_true, br_false, bind_s]
 have := loop_up (step := R_SameState_L4) (fun i => (((), (), ((i : Int), ()), ()), (ks, ps, ls, ks, ps, ls, (now, ()), (now, ()), ()))) ps.length (fun _ => some (Sum.inr ((), (ks, ps, ls, ks, ps, ls, ())))) (fun rec i hi hr => ?_) (fun rec => ?_) FUEL 0 (Nat.zero_le _) (fuel_gt (by omega))
 ·rw [show ((0 : Nat) : Int) = 0 from rfl] at this
  rw [this]; rfl
 ·obtain ⟨x, hx⟩ : ∃ e, ps[i]? = some e := ⟨_, List.getElem?_eq_getElem hi⟩
  have r1 : inRange (i : Int) (lenL ps) = true := zq17 (by omega) (by unfold lenL; omega)
  simp only [R_SameState_L4]
  simp only [r1, req_true, geti_at hx, bind_s, eqPf_eq, getL_nat, R_SameAddrs_self (h2 i)]
  rw [decide_eq_true (show (i : Int) < lenL ps by unfold lenL; omega), br_true]
  simp only [decide_true, Bool.not_true, br_false, bind_s]
  rw [show ((i : Int) + 1) = ((i + 1 : Nat) : Int) by omega, req_of (i64ok_of (by omega) (by omega)), hr]
 ·simp only [R_SameState_L4]
  rw [decide_eq_false (show ¬ (ps.length : Int) < lenL ps by unfold lenL; omega), br_false]
def sop1 : Oq := ⟨1, ⟨⟨false, 0, 8⟩, 30⟩, ⟨false, 0, 0⟩, ByteArray.empty, 0, 0⟩
def sop2 : Oq := ⟨2, ⟨⟨false, 0, 0⟩, 0⟩, ⟨false, 0, 8⟩, ByteArray.empty, 0, 0⟩
def sop3 : Oq := ⟨3, ⟨⟨false, 0, 0⟩, 0⟩, ⟨false, 0, 0⟩, ⟨#[120]⟩, 0, 10⟩
def sop4 : Oq := ⟨4, ⟨⟨false, 0, 0⟩, 0⟩, ⟨false, 0, 0⟩, ⟨#[120]⟩, 0, 0⟩
def sop5 : Oq := ⟨5, ⟨⟨false, 0, 0⟩, 0⟩, ⟨false, 0, 0⟩, ByteArray.empty, 0, 11⟩
theorem sop_in {k : Int} (hk : i64In k) {p : Pf} (hp : p.In) {a : Ad} (ha : a.In) {w : ByteArray} (hw : strIn w) {f n : Int} (hf : i64In f) (hn : i64In n) : (⟨k, p, a, w, f, n⟩ : Oq).In := ⟨hk, hp, ha, hw, hf, hn⟩
theorem strIn_empty : strIn ByteArray.empty := by unfold strIn maxLen; decide
theorem noAd_in : (⟨false, 0, 0⟩ : Ad).In := ⟨⟨by decide, by decide⟩, by decide, by decide⟩
theorem noPf_in : (⟨⟨false, 0, 0⟩, 0⟩ : Pf).In := ⟨noAd_in, by decide, by decide⟩
theorem sop1_in : sop1.In := sop_in ⟨by decide, by decide⟩ quad_in noAd_in strIn_empty ⟨by decide, by decide⟩ ⟨by decide, by decide⟩
theorem sop2_in : sop2.In := sop_in ⟨by decide, by decide⟩ noPf_in ⟨⟨by decide, by decide⟩, by decide, by decide⟩ strIn_empty ⟨by decide, by decide⟩ ⟨by decide, by decide⟩
theorem sop3_in : sop3.In := sop_in ⟨by decide, by decide⟩ noPf_in noAd_in wx_in ⟨by decide, by decide⟩ ⟨by decide, by decide⟩
theorem sop4_in : sop4.In := sop_in ⟨by decide, by decide⟩ noPf_in noAd_in wx_in ⟨by decide, by decide⟩ ⟨by decide, by decide⟩
theorem sop5_in : sop5.In := sop_in ⟨by decide, by decide⟩ noPf_in noAd_in strIn_empty ⟨by decide, by decide⟩ ⟨by decide, by decide⟩
theorem ops_form : formO sop1 = 0 ∧ formO sop2 = 0 ∧ formO sop3 = 0 ∧ formO sop4 = 0 ∧ formO sop5 = 0 := by
 refine ⟨?_, ?_, ?_, ?_, ?_⟩ <;> (unfold formO extraO; simp only [strcmp_neq, eqPf_eq, eqAd_eq]; decide +kernel)
def sP : List Pf := [⟨⟨false, 0, 8⟩, 30⟩]
def sK : List (List Ad) := [[⟨false, 0, 8⟩]]
def sL : List Ls := [⟨⟨false, 0, 9⟩, ⟨#[120]⟩, 10⟩]
theorem sP_in : ∀ p ∈ sP, p.In := fun p hp => by
 simp only [sP, List.mem_singleton] at hp
 subst hp
 exact quad_in
theorem sK_in : kpIn sK := fun k hk => by
 simp only [sK, List.mem_singleton] at hk
 subst hk
 exact kept_in
theorem sK0_in : kpIn [[]] := fun k hk => by
 simp only [List.mem_singleton] at hk
 subst hk
 exact fun a ha => by cases ha
theorem sL_in : lsIn sL := fun x hx => by
 simp only [sL, List.mem_singleton] at hx
 subst hx
 exact ⟨⟨⟨by decide, by decide⟩, by decide, by decide⟩, wx_in, by decide, by decide⟩
theorem stDo_of {ps : List Pf} {ks : List (List Ad)} {ls : List Ls} {now : Int} {o : Oq} (h : chkS ps ks ls now = 0) (hf : formO o = 0) {y : DoV}
  (hy : (if o.kind = 1 then doPool ps ks ls now o.pf else if o.kind = 2 then doKeep ps ks ls now o.ad else if o.kind = 3 then doGrant ps ks ls now o.who o.of_ o.n else if o.kind = 4 then doFree ps ks ls now o.who else doTick ps ks ls now o.n) = y) : stDo ps ks ls now o = y := by
 unfold stDo doOf
 rw [if_neg (fun hh => hh h), if_neg (fun hh => hh hf)]
 exact hy
theorem sc0 : chkS [] [] [] 0 = 0 := by decide +kernel
theorem sc1 : chkS sP [[]] [] 0 = 0 := by decide +kernel
theorem sc2 : chkS sP sK [] 0 = 0 := by decide +kernel
theorem sc3 : chkS sP sK sL 0 = 0 := by decide +kernel
theorem sd1 : stDo [] [] [] 0 sop1 = okS sP [[]] [] 0 noAd := stDo_of sc0 ops_form.1 (by decide +kernel)
theorem sd2 : stDo sP [[]] [] 0 sop2 = okS sP sK [] 0 noAd := stDo_of sc1 ops_form.2.1 (by decide +kernel)
theorem sd3 : stDo sP sK [] 0 sop3 = okS sP sK sL 0 ⟨false, 0, 9⟩ := stDo_of sc2 ops_form.2.2.1 (by decide +kernel)
theorem sd4 : stDo sP sK sL 0 sop4 = okS sP sK [] 0 ⟨false, 0, 9⟩ := stDo_of sc3 ops_form.2.2.2.1 (by decide +kernel)
theorem sd5 : stDo sP sK sL 0 sop5 = okS sP sK [] 11 noAd := stDo_of sc3 ops_form.2.2.2.2 (by decide +kernel)
theorem pfs_nil : ∀ p ∈ ([] : List Pf), p.In := fun p hp => by cases hp
theorem kps_nil : kpIn ([] : List (List Ad)) := fun p hp => by cases hp
theorem law_some_eq : law_some_t = some ([sop1, sop2, sop3], ()) := rfl
def doMk (l : List Oq) (i : Nat) (y : DoV) : (((Unit) × (Unit) × (Unit) × (Unit) × (Unit) × (Int × Unit) × Unit) × (List Oq × (Int × Unit) × (Ad × Unit) × (Int × Unit) × (Ad × Unit) × List Pf × List Ls × List Pf × List Ls × List (List Ad) × List (List Ad) × Unit)) :=
 (((), (), (), (), (), ((i : Int), ()), ()), (l, (0, ()), ((⟨false, 0, 0⟩ : Ad), ()), (y.1.2.2.1, ()), (y.2.1, ()), ([] : List Pf), ([] : List Ls), y.1.1.1, y.1.2.1, ([] : List (List Ad)), y.1.1.2, ()))
theorem do_step {l : List Oq} {i : Nat} {o : Oq} (ho : l[i]? = some o) (hlen : l.length ≤ 1000) (rec) (y : DoV) {ps : List Pf} {ks : List (List Ad)} {ls : List Ls} {now : Int} {a : Ad} (e : zq49 y.1.1 y.1.2.1 y.1.2.2.1 o = some (okS ps ks ls now a)) : law_do_L4 rec (doMk l i y) = rec (doMk l (i + 1) (okS ps ks ls now a)) := by
 have hi := (List.getElem?_eq_some_iff.1 ho).1
 have e' : zq49 (y.1.1.1, y.1.1.2) y.1.2.1 y.1.2.2.1 o = some (okS ps ks ls now a) := e
 unfold doMk
 simp only [law_do_L4]
 rw [decide_eq_true (show (i : Int) < lenL l by unfold lenL; omega), br_true, req_of (zq17 (by omega) (by unfold lenL; omega)), geti_at ho, bind_s, e']
 simp only [bind_s, dup_eq, both_self]
 rw [decide_eq_true (show (okS ps ks ls now a).2.2.1 = 0 from rfl), Bool.not_true, br_false, req_of (i64ok_of (by omega) (by omega))]
 rfl
theorem do_end (l : List Oq) (rec) (y : DoV) : law_do_L4 rec (doMk l l.length y) = some (Sum.inr (((), (), (), (), ()), (doMk l l.length y).2)) := by
 unfold doMk
 simp only [law_do_L4]
 rw [decide_eq_false (show ¬ (l.length : Int) < lenL l by unfold lenL; omega), br_false]
theorem law_do_eq : law_do_t [sop1, sop2, sop3] = some (okS sP sK sL 0 ⟨false, 0, 9⟩) := by
 unfold law_do_t
 have e1 := state_Do_eq pfs_nil kps_nil lsIn_nil rfl 0 sop1_in
 have e2 := state_Do_eq sP_in sK0_in lsIn_nil rfl 0 sop2_in
 have e3 := state_Do_eq sP_in sK_in lsIn_nil rfl 0 sop3_in
 rw [sd1] at e1
 rw [sd2] at e2
 rw [sd3] at e3
 obtain ⟨n, hn⟩ : ∃ n, FUEL = n + 1 + 1 + 1 + 1 := by
  have := fuel_gt (n := 100) (by omega)
  exact ⟨FUEL - 4, by omega⟩
 have hl : loopN law_do_L4 FUEL (doMk [sop1, sop2, sop3] 0 (okS [] [] [] 0 noAd)) = some (Sum.inr (((), (), (), (), ()), (doMk [sop1, sop2, sop3] 3 (okS sP sK sL 0 ⟨false, 0, 9⟩)).2)) := by
  rw [hn, loopN_succ, do_step (o := sop1) rfl (by decide) _ _ e1, loopN_succ, do_step (o := sop2) rfl (by decide) _ _ e2, loopN_succ, do_step (o := sop3) rfl (by decide) _ _ e3, loopN_succ]
  exact do_end [sop1, sop2, sop3] _ _
 have e0 : (loopN law_do_L4 FUEL (doMk [sop1, sop2, sop3] 0 (okS [] [] [] 0 noAd))).bind (fun y1 => sumC y1 (fun y2 => some (((y2.2.2.2.2.1, y2.2.2.2.2.2.2.1), y2.2.2.2.2.2.1, y2.2.2.1.1, ()), y2.2.2.2.1.1, y2.1.2.2.1.1, ())) (fun y3 => some (((y3.2.2.2.2.2.2.2.2.1, y3.2.2.2.2.2.2.2.2.2.2.2.1), y3.2.2.2.2.2.2.2.2.2.1, y3.2.2.2.2.1.1, ()), y3.2.2.2.2.2.1.1, 0, ()))) = some (okS sP sK sL 0 ⟨false, 0, 9⟩) := by
  rw [hl, bind_s]; rfl
 exact e0
theorem stateBegun_eq : law_stateBegun_t = some (true, ()) := by
 unfold law_stateBegun_t
 have e4 := state_Do_eq sP_in sK_in sL_in rfl 0 sop4_in
 have e5 := state_Do_eq sP_in sK_in sL_in rfl 0 sop5_in
 have e6 := state_Check_eq sP_in sK_in sL_in 0
 have e7 := state_Form_eq sop1_in
 rw [sd4] at e4
 rw [sd5] at e5
 rw [sc3] at e6
 rw [ops_form.1] at e7
 rw [law_some_eq, bind_s]
 simp only
 rw [law_do_eq, bind_s]
 show (zq49 (sP, sK) sL 0 sop4).bind _ = _
 rw [e4, bind_s]
 show (zq49 (sP, sK) sL 0 sop5).bind _ = _
 rw [e5, bind_s]
 show (state_Check_t (sP, sK) sL 0).bind _ = _
 rw [e6, bind_s]
 simp only [decide_true, br_true, bind_s]
 rw [req_of (show inRange 0 (lenL [sop1, sop2, sop3]) = true by decide), show geti [sop1, sop2, sop3] 0 = some sop1 from rfl, bind_s, e7, bind_s]
 rfl
theorem doOf_err {ps : List Pf} {ks : List (List Ad)} {ls : List Ls} {now : Int} {o : Oq} : (doOf ps ks ls now o).2.2.1 ≠ 0 → doOf ps ks ls now o = errS (doOf ps ks ls now o).2.2.1 := by
 have he : ∀ e : Int, errS e = errS (errS e).2.2.1 := fun _ => rfl
 have ho : ∀ (ps : List Pf) (ks : List (List Ad)) (ls : List Ls) (now : Int) (a : Ad), (okS ps ks ls now a).2.2.1 ≠ 0 → okS ps ks ls now a = errS (okS ps ks ls now a).2.2.1 := fun _ _ _ _ _ h => absurd rfl h
 unfold doOf
 split
 ·exact fun _ => he _
 split
 ·unfold doPool
  split
  ·exact fun _ => he _
  split
  ·exact fun _ => he _
  ·exact ho _ _ _ _ _
 split
 ·unfold doKeep
  split
  ·exact fun _ => he _
  split
  ·exact fun _ => he _
  split
  ·exact fun _ => he _
  ·exact ho _ _ _ _ _
 split
 ·unfold doGrant
  split
  ·exact fun _ => he _
  split
  ·exact fun _ => he _
  split
  ·exact fun _ => he _
  split
  ·exact fun _ => he _
  ·exact ho _ _ _ _ _
 split
 ·unfold doFree
  split
  ·exact fun _ => he _
  split
  ·exact ho _ _ _ _ _
  ·exact fun _ => he _
 ·unfold doTick
  split
  ·exact fun _ => he _
  ·exact ho _ _ _ _ _
end Go.Ma
namespace Go.Ma
open Go
section
variable {α : Type}
theorem mem_putAt {l : List α} {n : Nat} {x y : α} : y ∈ putAt l n x ↔ y ∈ l ∨ y = x := by
 unfold putAt
 conv => rhs; rw [← List.take_append_drop n l]
 simp only [List.mem_append, List.mem_cons]
 constructor
 ·rintro (h | h | h)
  ·exact .inl (.inl h)
  ·exact .inr h
  ·exact .inl (.inr h)
 ·rintro ((h | h) | h)
  ·exact .inl h
  ·exact .inr (.inr h)
  ·exact .inr (.inl h)
theorem putAt_len {l : List α} {n : Nat} {x : α} : (putAt l n x).length = l.length + 1 := by
 unfold putAt
 have := congrArg List.length (List.take_append_drop n l)
 simp only [List.length_append, List.length_cons] at this ⊢
 omega
theorem putAt_get {l : List α} {n : Nat} (hn : n ≤ l.length) (x : α) (i : Nat) : (putAt l n x)[i]? = if i < n then l[i]? else if i = n then some x else l[i - 1]? := ins_get hn x i
theorem putAt_pw {R : α → α → Prop} {l : List α} {n : Nat} {x : α} (h : l.Pairwise R) (h1 : ∀ i y, l[i]? = some y → i < n → R y x) (h2 : ∀ i y, l[i]? = some y → n ≤ i → R x y) : (putAt l n x).Pairwise R := by
 unfold putAt
 have hs : (l.take n ++ l.drop n).Pairwise R := by rw [List.take_append_drop]; exact h
 obtain ⟨a1, a2, a3⟩ := List.pairwise_append.1 hs
 refine List.pairwise_append.2 ⟨a1, List.pairwise_cons.2 ⟨fun y hy => ?_, a2⟩, fun y hy z hz => ?_⟩
 ·obtain ⟨i, hi⟩ := List.mem_iff_getElem?.1 hy
  rw [List.getElem?_drop] at hi
  exact h2 _ y hi (by omega)
 ·rcases List.mem_cons.1 hz with rfl | hz
  ·obtain ⟨i, hi⟩ := List.mem_iff_getElem?.1 hy
   rw [List.getElem?_take] at hi
   split at hi
   ·exact h1 i y hi (by assumption)
   ·cases hi
  ·exact a3 y hy z hz
end
theorem getD_putAt {l : List (List Ad)} {n : Nat} (hn : n ≤ l.length) (x : List Ad) (i : Nat) : (putAt l n x).getD i [] = if i < n then l.getD i [] else if i = n then x else l.getD (i - 1) [] := by
 simp only [List.getD_eq_getElem?_getD, putAt_get hn]
 split
 ·rfl
 split <;> rfl
theorem ok_pool {ps : List Pf} {ks : List (List Ad)} {ls : List Ls} {now : Int} (h : StOk ps ks ls now) {p : Pf} (hp : p.In) (c1 : chkP p = 0) (c2 : ((wid p.ad.v6 : Nat) : Int) - p.bits ≤ 4) (hno : ps.any (fun q => meets q p) = false) (h3 : ps.length ≠ 3) :
  StOk (putAt ps (posP p ps) p) (putAt ks (posP p ps) []) ls now := by
 have hpl := h.plen
 have hkl := h.klen
 have hle := posP_le p ps
 have hno' : ∀ q ∈ ps, meets q p = false := fun q hq => by
  rw [List.any_eq_false] at hno
  simpa using hno q hq
 refine ⟨fun q hq => ?_, fun k hk => ?_, h.lin, by rw [putAt_len, putAt_len, hkl], by rw [putAt_len]; omega, fun i q hq => ?_, ?_, h.time, h.all, fun x hx => ?_, h.upto, h.who⟩
 ·rcases mem_putAt.1 hq with hq | rfl
  ·exact h.pin q hq
  ·exact ⟨hp, c1⟩
 ·rcases mem_putAt.1 hk with hk | rfl
  ·exact h.kin k hk
  ·exact fun a ha => by cases ha
 ·rw [putAt_get hle] at hq
  rw [getD_putAt (by omega)]
  split
  ·rename_i hi; rw [if_pos hi] at hq; exact h.pool i q hq
  ·rename_i hi
   rw [if_neg hi] at hq
   split
   ·rename_i he
    rw [if_pos he] at hq
    injection hq with hq
    subst hq
    exact chkPool_iff.2 ⟨c1, c2, by simp, (fun a ha => by cases ha), List.Pairwise.nil⟩
   ·rename_i he
    rw [if_neg he] at hq
    exact h.pool (i - 1) q hq
 ·refine putAt_pw h.pair (fun i y hy hi => ⟨(posP_iff h.pair p hy).2 hi, hno' y (List.mem_of_getElem? hy)⟩) (fun i y hy hi => ?_)
  have hne : y ≠ p := fun e => by have := hno' y (List.mem_of_getElem? hy); rw [e, meets_self c1] at this; cases this
  have := ahead_pos h.pair hy hne
  rw [decide_eq_true hi] at this
  exact ⟨of_decide_eq_true this, by rw [meets_comm]; exact hno' y (List.mem_of_getElem? hy)⟩
 ·obtain ⟨q, hq, hh⟩ := h.has x hx
  exact ⟨q, mem_putAt.2 (.inl hq), hh⟩
theorem ok_keep {ps : List Pf} {ks : List (List Ad)} {ls : List Ls} {now : Int} (h : StOk ps ks ls now) {a : Ad} (ha : a.In) (ca : chkA a = 0) {i : Nat} (hi : poolIx ps a = some i) (hno : (ks.getD i []).any (fun x => decide (a = x)) = false) (h6 : (ks.getD i []).length ≠ 6) :
  StOk ps (ks.set i (putAt (ks.getD i []) (posA a (ks.getD i [])) a)) ls now := by
 have hkl := h.klen
 obtain ⟨p, hp, hh, _⟩ := firstF_some hi
 have hil := firstF_lt hi
 obtain ⟨k1, k2, k3, k4, k5⟩ := chkPool_iff.1 (h.pool i p hp)
 have hne : ∀ x ∈ ks.getD i [], a ≠ x := fun x hx e => by
  rw [List.any_eq_false] at hno
  exact hno x hx (decide_eq_true e)
 have hkin := kp_at h.kin i
 have hget : ∀ j, (ks.set i (putAt (ks.getD i []) (posA a (ks.getD i [])) a)).getD j [] = if j = i then putAt (ks.getD i []) (posA a (ks.getD i [])) a else ks.getD j [] := fun j => by
  rw [List.getD_eq_getElem?_getD]
  by_cases hj : j = i
  ·subst hj
   rw [List.getElem?_set_self (by omega), if_pos rfl]; rfl
  ·rw [List.getElem?_set_ne (by omega), if_neg hj, List.getD_eq_getElem?_getD]
 refine ⟨h.pin, fun k hk => ?_, h.lin, by rw [List.length_set, hkl], h.plen, fun j q hq => ?_, h.pair, h.time, h.all, h.has, h.upto, h.who⟩
 ·rcases List.mem_or_eq_of_mem_set hk with hk | rfl
  ·exact h.kin k hk
  ·intro b hb
   rcases mem_putAt.1 hb with hb | rfl
   ·exact hkin b hb
   ·exact ha
 ·rw [hget]
  split
  ·rename_i hj
   subst hj
   rw [hp] at hq
   injection hq with hq
   subst hq
   refine chkPool_iff.2 ⟨k1, k2, by rw [putAt_len]; omega, fun b hb => ?_, ?_⟩
   ·rcases mem_putAt.1 hb with hb | rfl
    ·exact k4 b hb
    ·exact ⟨ca, hh⟩
   ·exact putAt_pw k5 (fun n y hy hn => (posA_iff k5 a hy).2 hn) (fun n y hy hn => ordA_tri (fun hlt => by have := (posA_iff k5 a hy).1 hlt; omega) (Ne.symm (hne y (List.mem_of_getElem? hy))))
  ·exact h.pool j q hq
theorem allC_of {l : List Ls} (hin : lsIn l) (h20 : l.length ≤ 20) (hc : ∀ x ∈ l, chkLs x = 0) (ha : l.Pairwise fun x y => rank x.ad < rank y.ad) {now : Int} (ht : betw now 0 9999 = true) : allC l now = 0 := by
 unfold allC
 rw [if_neg (by omega), if_neg (fun hh => hh (chkLsF_of hc)), (asc_pair hin).2 ha, if_neg (by simp), ht]
 simp
theorem ok_free {ps : List Pf} {ks : List (List Ad)} {ls : List Ls} {now : Int} (h : StOk ps ks ls now) {m : List Ls} (hs : m.Sublist ls) {n : Int} (hn : now ≤ n) (ht : betw n 0 9999 = true) (hu : ∀ x ∈ m, n ≤ x.upto) : StOk ps ks m n := by
 have hin : lsIn m := fun x hx => h.lin x (hs.subset hx)
 exact ⟨h.pin, h.kin, hin, h.klen, h.plen, h.pool, h.pair, ht, allC_of hin (Nat.le_trans hs.length_le h.llen) (fun x hx => h.lchk x (hs.subset hx)) (((asc_pair h.lin).1 (allC_ok h.all).2.2.1).sublist hs) ht,
  fun x hx => h.has x (hs.subset hx), hu, h.who.sublist hs⟩
theorem ok_grant {ps : List Pf} {ks : List (List Ad)} {ls : List Ls} {now : Int} (h : StOk ps ks ls now) {k : Nat} {p : Pf} (hp : ps[k]? = some p) {kp : List Ad} {who : ByteArray} {u : Int} {m : List Ls} {a : Ad} (g : Given p kp (ownL p ls) who now u m a)
  (hw : ∀ x ∈ m, ∀ y ∈ othL p ls, x.who ≠ y.who) (h20 : m.length + (othL p ls).length ≤ 20) : StOk ps ks (sortL (m ++ othL p ls)) now := by
 have hmem : ∀ x, x ∈ sortL (m ++ othL p ls) ↔ x ∈ m ∨ x ∈ othL p ls := fun x => by rw [(sortL_perm _).mem_iff, List.mem_append]
 have hpm := List.mem_of_getElem? hp
 have hap := merged_apart (asc_ne g.good.asc) (asc_ne (oth_asc h p)) g.good.held oth_held
 have hin : lsIn (sortL (m ++ othL p ls)) := fun x hx => by
  rcases (hmem x).1 hx with hx | hx
  ·exact g.good.ins x hx
  ·exact oth_in h.lin x hx
 have hasc : (sortL (m ++ othL p ls)).Pairwise fun x y => rank x.ad < rank y.ad := by
  have h1 := sortL_pw (m ++ othL p ls)
  have h2 : (sortL (m ++ othL p ls)).Pairwise fun x y => x.ad ≠ y.ad := ((sortL_perm _).pairwise_iff (fun hxy => Ne.symm hxy)).2 hap
  refine List.Pairwise.imp_of_mem (fun {x y} hx hy hxy => ?_) (h1.and h2)
  obtain ⟨e1, e2⟩ := hxy
  unfold leL at e1
  rw [adLt_ord, decide_eq_false_iff_not] at e1
  exact (ord_rank (hin x hx).1 (hin y hy).1).1.1 (ordA_tri e1 (Ne.symm e2))
 refine ⟨h.pin, h.kin, hin, h.klen, h.plen, h.pool, h.pair, h.time, allC_of hin (by rw [(sortL_perm _).length_eq, List.length_append]; exact h20) (fun x hx => ?_) hasc h.time, fun x hx => ?_, fun x hx => ?_, ?_⟩
 ·rcases (hmem x).1 hx with hx | hx
  ·exact g.good.chk x hx
  ·exact h.lchk x (List.mem_filter.1 hx).1
 ·rcases (hmem x).1 hx with hx | hx
  ·exact ⟨p, hpm, g.good.held x hx⟩
  ·exact h.has x (List.mem_filter.1 hx).1
 ·rcases (hmem x).1 hx with hx | hx
  ·exact g.alive x hx
  ·exact h.upto x (List.mem_filter.1 hx).1
 ·refine ((sortL_perm _).pairwise_iff (fun hxy => Ne.symm hxy)).2 (List.pairwise_append.2 ⟨g.good.whos, h.who.filter _, hw⟩)
theorem given_who {p : Pf} {kp : List Ad} {l : List Ls} {who : ByteArray} {now u : Int} {m : List Ls} (hr : m = (rawOf p kp (live l now) who u).1) : ∀ x ∈ m, x.who = who ∨ x ∈ l := by
 intro x hx
 subst hr
 unfold rawOf at hx
 cases hf : firstF (whoP who) (live l now) with
 | some k =>
  rw [hf] at hx
  obtain ⟨e, he, hq, _⟩ := firstF_some hf
  simp only [keepOn, he] at hx
  rcases mem_setQ hx with hx | rfl
  ·exact .inr (live_mem hx).1
  ·exact .inl (by simpa [whoP] using hq)
 | none =>
  rw [hf] at hx
  cases hfr : freeOf p kp (live l now) with
  | none => rw [hfr] at hx; cases hx
  | some b =>
   rw [hfr] at hx
   rcases mem_ins.1 hx with hx | rfl
   ·exact .inr (live_mem hx).1
   ·exact .inl rfl
theorem away_no {p : Pf} {ls : List Ls} {who : ByteArray} (h : awayB p ls who = false) (hw : ls.Pairwise fun x y => x.who ≠ y.who) : ∀ x ∈ othL p ls, x.who ≠ who := by
 intro x hx he
 obtain ⟨h1, h2⟩ := List.mem_filter.1 hx
 obtain ⟨k, hk, hk2⟩ := who_at hw h1
 unfold awayB at h
 rw [← he, hk] at h
 simp only [hk2] at h
 rw [h] at h2
 cases h2
theorem doOf_ok {ps : List Pf} {ks : List (List Ad)} {ls : List Ls} {now : Int} (h : StOk ps ks ls now) {o : Oq} (ho : o.In) {ps' : List Pf} {ks' : List (List Ad)} {ls' : List Ls} {now' : Int} {a : Ad} (he : doOf ps ks ls now o = okS ps' ks' ls' now' a) : StOk ps' ks' ls' now' ∧ now ≤ now' := by
 have hno : ∀ {e : Int}, e ≠ 0 → errS e = okS ps' ks' ls' now' a → StOk ps' ks' ls' now' ∧ now ≤ now' := fun hn he => absurd (congrArg (fun y => y.2.2.1) he) hn
 have hok : ∀ {p1 : List Pf} {k1 : List (List Ad)} {l1 : List Ls} {n1 : Int} {a1 : Ad}, okS p1 k1 l1 n1 a1 = okS ps' ks' ls' now' a → StOk p1 k1 l1 n1 → now ≤ n1 → StOk ps' ks' ls' now' ∧ now ≤ now' := fun he h1 h2 => by
  unfold okS at he
  simp only [Prod.mk.injEq] at he
  obtain ⟨⟨⟨rfl, rfl⟩, rfl, rfl, _⟩, _⟩ := he
  exact ⟨h1, h2⟩
 unfold doOf at he
 split at he
 ·rename_i hf; exact hno hf he
 rename_i hf
 have hf := Decidable.not_not.1 hf
 split at he
 ·rename_i hk
  obtain ⟨c1, c2⟩ := form_pool hf hk
  unfold doPool at he
  split at he
  ·exact hno (by decide) he
  rename_i ha
  split at he
  ·exact hno (by decide) he
  rename_i h3
  exact hok he (ok_pool h ho.2.1 c1 c2 (by simpa using ha) h3) (Int.le_refl _)
 split at he
 ·rename_i hk
  unfold doKeep at he
  split at he
  ·exact hno (by decide) he
  rename_i i hi
  split at he
  ·exact hno (by decide) he
  rename_i ha
  split at he
  ·exact hno (by decide) he
  rename_i h6
  exact hok he (ok_keep h ho.2.2.1 (form_keep hf hk) hi (Bool.eq_false_iff.2 ha) h6) (Int.le_refl _)
 split at he
 ·rename_i hk
  obtain ⟨g1, g2⟩ := form_grant hf hk
  have hw := form_who hf (.inl hk)
  unfold doGrant at he
  split at he
  ·exact hno (by decide) he
  rename_i p hp
  split at he
  ·exact hno (by decide) he
  rename_i haw
  split at he
  ·exact hno (by decide) he
  rename_i hr
  split at he
  ·exact hno (by decide) he
  rename_i h20
  have gv := grantR_given h hp ho.2.2.2.1 hw g2 hr
  refine hok he (ok_grant h hp gv (fun x hx y hy e => ?_) (by omega)) (Int.le_refl _)
  rcases given_who rfl x hx with hx | hx
  ·exact away_no (by simpa using haw) h.who y hy (by rw [← e, hx])
  ·obtain ⟨x1, x2⟩ := List.mem_filter.1 hx
   obtain ⟨y1, y2⟩ := List.mem_filter.1 hy
   obtain ⟨i, hi, hi2⟩ := who_at h.who x1
   obtain ⟨j, hj, hj2⟩ := who_at h.who y1
   rw [e, hj] at hi
   injection hi with hi
   subst hi
   rw [hj2] at hi2
   injection hi2 with hi2
   rw [hi2, x2] at y2
   cases y2
 split at he
 ·unfold doFree at he
  split at he
  ·exact hno (by decide) he
  rename_i i hi
  split at he
  ·exact hok he (ok_free h (by
    have := List.eraseIdx_sublist ls i
    rwa [List.eraseIdx_eq_take_drop_succ] at this) (Int.le_refl _) h.time (fun x hx => h.upto x (by
    have hs := List.eraseIdx_sublist ls i
    rw [List.eraseIdx_eq_take_drop_succ] at hs
    exact hs.subset hx))) (Int.le_refl _)
  ·exact hno (by decide) he
 ·rename_i k1 k2 k3 k4
  unfold doTick at he
  split at he
  ·exact hno (by decide) he
  rename_i hn
  have hk := form_kind hf
  exact hok he (ok_free h List.filter_sublist (by omega) (form_tick hf (by omega)) (fun x hx => (live_mem hx).2)) (by omega)
end Go.Ma
namespace Go.Ma
open Go
structure StIn (ps : List Pf) (ks : List (List Ad)) (ls : List Ls) : Prop where
 p : rowIn .pfx ps
 len : ks.length = ps.length
 k : ∀ l ∈ ks, rowIn .addr l
 l : rowIn .lease ls
theorem StIn.ps {ps : List Pf} {ks : List (List Ad)} {ls : List Ls} (h : StIn ps ks ls) : ∀ p ∈ ps, p.In := h.p.2
theorem StIn.ks {ps : List Pf} {ks : List (List Ad)} {ls : List Ls} (h : StIn ps ks ls) : kpIn ks := fun k hk => (h.k k hk).2
theorem StIn.ls {ps : List Pf} {ks : List (List Ad)} {ls : List Ls} (h : StIn ps ks ls) : lsIn ls := h.l.2
theorem StOk.fit {ps : List Pf} {ks : List (List Ad)} {ls : List Ls} {now : Int} (h : StOk ps ks ls now) : fitS ps ks ls := by
 have h1 := h.plen
 have h2 := h.llen
 refine ⟨by omega, fun i => ?_, by omega⟩
 by_cases hi : i < ps.length
 ·have := h.kept (List.getElem?_eq_getElem hi)
  omega
 ·rw [List.getD_eq_getElem?_getD, List.getElem?_eq_none (by rw [h.klen]; omega)]
  simp
theorem doOf_two (ps : List Pf) (ks : List (List Ad)) (ls : List Ls) (now : Int) (o : Oq) : (∃ e, e ≠ 0 ∧ doOf ps ks ls now o = errS e) ∨ ∃ ps' ks' ls' now' a, doOf ps ks ls now o = okS ps' ks' ls' now' a := by
 by_cases h : (doOf ps ks ls now o).2.2.1 = 0
 ·right
  generalize doOf ps ks ls now o = y at h ⊢
  obtain ⟨⟨⟨p, k⟩, l, n, _⟩, a, e, _⟩ := y
  simp only at h
  subst h
  exact ⟨p, k, l, n, a, rfl⟩
 ·exact .inl ⟨_, h, doOf_err h⟩
theorem eqAd_refl (a : Ad) : eqAd a a = true := by rw [eqAd_eq]; exact decide_eq_true rfl
end Go.Ma
namespace Go.Ma
open Go
theorem state_Do_ok {ps : List Pf} {ks : List (List Ad)} {ls : List Ls} {now : Int} (h : StOk ps ks ls now) {o : Oq} (ho : o.In) : zq49 (ps, ks) ls now o = some (doOf ps ks ls now o) := by
 rw [state_Do_eq (fun p hp => (h.pin p hp).1) h.kin h.lin h.klen now ho]
 unfold stDo
 rw [if_neg (fun hh => hh h.chk)]
theorem okS_ls {ps ps' : List Pf} {ks ks' : List (List Ad)} {ls ls' : List Ls} {now now' : Int} {a a' : Ad} (h : okS ps ks ls now a = okS ps' ks' ls' now' a') : ps = ps' ∧ ks = ks' ∧ ls = ls' ∧ now = now' ∧ a = a' := by
 unfold okS at h
 simp only [Prod.mk.injEq] at h
 obtain ⟨⟨⟨h1, h2⟩, h3, h4, _⟩, h5, _⟩ := h
 exact ⟨h1, h2, h3, h4, h5⟩
theorem errS_no {e : Int} (he : e ≠ 0) {ps : List Pf} {ks : List (List Ad)} {ls : List Ls} {now : Int} {a : Ad} (h : errS e = okS ps ks ls now a) : False := he (congrArg (fun y => y.2.2.1) h)
theorem grant_done {ps : List Pf} {ks : List (List Ad)} {ls : List Ls} {now : Int} (h : StOk ps ks ls now) {o : Oq} (ho : o.In) (hf : formO o = 0) (hk : o.kind = 3) {ps' : List Pf} {ks' : List (List Ad)} {ls' : List Ls} {now' : Int} {a : Ad} (he : doGrant ps ks ls now o.who o.of_ o.n = okS ps' ks' ls' now' a) :
  ∃ p m, ps[o.of_.toNat]? = some p ∧ awayB p ls o.who = false ∧ grantR p (ks.getD o.of_.toNat []) ls o.who now o.n = (m, a, true, ()) ∧ Given p (ks.getD o.of_.toNat []) (ownL p ls) o.who now (now + o.n) m a ∧ ps' = ps ∧ ks' = ks ∧ ls' = sortL (m ++ othL p ls) ∧ now' = now := by
 obtain ⟨g1, g2⟩ := form_grant hf hk
 have hw := form_who hf (.inl hk)
 unfold doGrant at he
 split at he
 ·exact (errS_no (by decide) he).elim
 rename_i p hp
 split at he
 ·exact (errS_no (by decide) he).elim
 rename_i haw
 split at he
 ·exact (errS_no (by decide) he).elim
 rename_i hr
 split at he
 ·exact (errS_no (by decide) he).elim
 have gv := grantR_given h hp ho.2.2.2.1 hw g2 hr
 obtain ⟨e1, e2, e3, e4, e5⟩ := okS_ls he
 refine ⟨p, _, hp, Bool.eq_false_iff.2 haw, ?_, ?_, e1.symm, e2.symm, e3.symm, e4.symm⟩
 ·rw [← e5]
  have : (grantR p (ks.getD o.of_.toNat []) ls o.who now o.n).2.2.1 = true := by simpa using hr
  rw [← this]
 ·rw [← e5]; exact gv
theorem form_no {o : Oq} {ps : List Pf} {ks : List (List Ad)} {ls : List Ls} {now : Int} {ps' : List Pf} {ks' : List (List Ad)} {ls' : List Ls} {now' : Int} {a : Ad} (he : doOf ps ks ls now o = okS ps' ks' ls' now' a) : formO o = 0 := by
 unfold doOf at he
 split at he
 ·rename_i hf; exact (errS_no hf he).elim
 ·rename_i hf; exact Decidable.not_not.1 hf
theorem idxI_none {α : Type} {q : α → Bool} {l : List α} (h : ¬ idxI (firstF q l) ≥ 0) : firstF q l = none := by
 cases hf : firstF q l with
 | none => rfl
 | some k =>
  rw [hf] at h
  exact absurd (show (k : Int) ≥ 0 by omega) h
end Go.Ma
namespace Go.Ma
open Go
def opGrant (who : ByteArray) (k ttl : Int) : Oq := ⟨3, ⟨⟨false, 0, 0⟩, 0⟩, ⟨false, 0, 0⟩, who, k, ttl⟩
def opFree (who : ByteArray) : Oq := ⟨4, ⟨⟨false, 0, 0⟩, 0⟩, ⟨false, 0, 0⟩, who, 0, 0⟩
def opTick (n : Int) : Oq := ⟨5, ⟨⟨false, 0, 0⟩, 0⟩, ⟨false, 0, 0⟩, ByteArray.empty, 0, n⟩
theorem opFree_form {who : ByteArray} (hw : whoOk who = true) : formO (opFree who) = 0 := by
 unfold formO extraO opFree
 simp only [strcmp_neq, eqPf_eq, eqAd_eq, hw]
 rfl
theorem opTick_form (n : Int) : formO (opTick n) = if betw n 0 9999 = true then 0 else 3 := by
 unfold formO extraO opTick
 simp only [strcmp_neq, eqPf_eq, eqAd_eq]
 cases betw n 0 9999 <;> rfl
theorem asc_eq {l m : List Ls} (hl : l.Pairwise fun x y => rank x.ad < rank y.ad) (hm : m.Pairwise fun x y => rank x.ad < rank y.ad) (hp : l.Perm m) : l = m :=
 List.Perm.eq_of_pairwise (le := fun x y => rank x.ad < rank y.ad) (fun a b _ _ h1 h2 => by omega) hl hm hp
theorem live_self {l : List Ls} {now : Int} (h : ∀ x ∈ l, now ≤ x.upto) : live l now = l := List.filter_eq_self.2 fun x hx => by simp [liveP, h x hx]
theorem live_twice (l : List Ls) {now later : Int} (h : now ≤ later) : live (live l now) later = live l later := by
 unfold live
 rw [List.filter_filter]
 refine List.filter_congr fun x _ => ?_
 unfold liveP
 by_cases h1 : later ≤ x.upto
 ·simp [h1]; omega
 ·simp [h1]
theorem own_oth (p : Pf) (ls : List Ls) : (ownL p ls ++ othL p ls).Perm ls := List.filter_append_perm _ ls
theorem grant_free {ps : List Pf} {ks : List (List Ad)} {ls : List Ls} {now : Int} (h : StOk ps ks ls now) {who : ByteArray} {k ttl : Int} (ho : (opGrant who k ttl).In) (hno : firstF (whoP who) ls = none) {ps' : List Pf} {ks' : List (List Ad)} {ls' : List Ls} {now' : Int} {a : Ad} (he : doOf ps ks ls now (opGrant who k ttl) = okS ps' ks' ls' now' a) :
  StOk ps' ks' ls' now' ∧ doOf ps' ks' ls' now' (opFree who) = okS ps ks ls now a := by
 have hok' := (doOf_ok h ho he).1
 refine ⟨hok', ?_⟩
 have hf := form_no he
 have hk : (opGrant who k ttl).kind = 3 := rfl
 have hw : whoOk who = true := form_who hf (.inl hk)
 have h3 : doGrant ps ks ls now who k ttl = okS ps' ks' ls' now' a := by
  unfold doOf at he
  rw [if_neg (fun hh => hh hf), if_neg (by omega), if_neg (by omega), if_pos hk] at he
  exact he
 obtain ⟨p, m, hp, _, hg, gv, rfl, rfl, rfl, rfl⟩ := grant_done h ho hf hk h3
 have hall := firstF_none hno
 have hno' : firstF (whoP who) (live (ownL p ls) now') = none := by
  cases hf : firstF (whoP who) (live (ownL p ls) now') with
  | none => rfl
  | some i =>
   obtain ⟨x, hx, hq, _⟩ := firstF_some hf
   have := hall x (List.mem_filter.1 (live_mem (List.mem_of_getElem? hx)).1).1
   rw [hq] at this
   cases this
 have hlive : live (ownL p ls) now' = ownL p ls := live_self fun x hx => h.upto x (List.mem_filter.1 hx).1
 have hm : m = insAt (ownL p ls) ⟨a, who, now' + ttl⟩ := by
  unfold grantR rawOf at hg
  simp only [opGrant] at hg
  rw [hno'] at hg
  rw [hlive] at hg
  simp only at hg
  cases hfr : freeOf p (ks'.getD (opGrant who k ttl).of_.toNat []) (ownL p ls) with
  | none =>
   have e0 : freeOf p (ks'.getD k.toNat []) (ownL p ls) = none := hfr
   rw [e0] at hg
   exact absurd (congrArg (fun y => y.2.2.1) hg) (by simp [putNew])
  | some b =>
   have e0 : freeOf p (ks'.getD k.toNat []) (ownL p ls) = some b := hfr
   rw [e0] at hg
   simp only [putNew, Prod.mk.injEq] at hg
   obtain ⟨g1, rfl, _⟩ := hg
   exact g1.symm
 obtain ⟨x, hx, hmine⟩ : ∃ x : Ls, x = ⟨a, who, now' + ttl⟩ ∧ x ∈ sortL (m ++ othL p ls) := ⟨_, rfl, (sortL_perm _).mem_iff.2 (List.mem_append_left _ gv.mine)⟩
 obtain ⟨i, hi, hxi⟩ := who_at hok'.who hmine
 have hxw : x.who = who := by rw [hx]
 rw [hxw] at hi
 unfold doOf
 rw [if_neg (fun hh => hh (opFree_form hw)), show (opFree who).kind = 4 from rfl, if_neg (show ¬ (4 : Int) = 1 by decide), if_neg (show ¬ (4 : Int) = 2 by decide), if_neg (show ¬ (4 : Int) = 3 by decide), if_pos (show (4 : Int) = 4 from rfl)]
 unfold doFree
 show (match firstF (whoP who) (sortL (m ++ othL p ls)) with | none => errS 5 | some i => (match (sortL (m ++ othL p ls))[i]? with | some x => okS ps' ks' ((sortL (m ++ othL p ls)).take i ++ (sortL (m ++ othL p ls)).drop (i + 1)) now' x.ad | none => errS 5)) = _
 rw [hi]
 simp only [hxi]
 have hasc := (asc_pair hok'.lin).1 (allC_ok hok'.all).2.2.1
 have herase : (sortL (m ++ othL p ls)).take i ++ (sortL (m ++ othL p ls)).drop (i + 1) = ls := by
  refine asc_eq ?_ ((asc_pair h.lin).1 (allC_ok h.all).2.2.1) ?_
  ·have := List.eraseIdx_sublist (sortL (m ++ othL p ls)) i
   rw [List.eraseIdx_eq_take_drop_succ] at this
   exact hasc.sublist this
  ·have hil := (List.getElem?_eq_some_iff.1 hxi).1
   have h1 : (sortL (m ++ othL p ls)).Perm (x :: ((sortL (m ++ othL p ls)).take i ++ (sortL (m ++ othL p ls)).drop (i + 1))) := by
    conv => lhs; rw [← List.take_append_drop i (sortL (m ++ othL p ls)), drop_cons hxi]
    exact List.perm_middle
   have h2 : (sortL (m ++ othL p ls)).Perm (x :: ls) := by
    refine (sortL_perm _).trans ?_
    rw [hm, ← hx]
    have h3 : (insAt (ownL p ls) x).Perm (x :: ownL p ls) := by
     unfold insAt
     refine List.perm_middle.trans ?_
     rw [List.take_append_drop]
    exact (h3.append_right _).trans ((own_oth p ls).cons x)
   exact (List.perm_cons x).1 (h1.symm.trans h2)
 rw [herase, hx]
theorem doTick_eq {ps : List Pf} {ks : List (List Ad)} {ls : List Ls} {now : Int} {n : Int} (hb : betw n 0 9999 = true) (hn : now ≤ n) : doOf ps ks ls now (opTick n) = okS ps ks (live ls n) n noAd := by
 unfold doOf
 have hf : formO (opTick n) = 0 := by rw [opTick_form, if_pos hb]
 rw [if_neg (fun hh => hh hf), show (opTick n).kind = 5 from rfl, if_neg (show ¬ (5 : Int) = 1 by decide), if_neg (show ¬ (5 : Int) = 2 by decide), if_neg (show ¬ (5 : Int) = 3 by decide), if_neg (show ¬ (5 : Int) = 4 by decide)]
 unfold doTick
 rw [if_neg (show ¬ (opTick n).n < now from fun hh => by have : n < now := hh; omega)]
 rfl
theorem doTick_err {ps : List Pf} {ks : List (List Ad)} {ls : List Ls} {now : Int} {n : Int} (h : ¬ (betw n 0 9999 = true ∧ now ≤ n)) : (doOf ps ks ls now (opTick n)).2.2.1 ≠ 0 := by
 unfold doOf
 by_cases hb : betw n 0 9999 = true
 ·have hf : formO (opTick n) = 0 := by rw [opTick_form, if_pos hb]
  rw [if_neg (fun hh => hh hf), show (opTick n).kind = 5 from rfl, if_neg (show ¬ (5 : Int) = 1 by decide), if_neg (show ¬ (5 : Int) = 2 by decide), if_neg (show ¬ (5 : Int) = 3 by decide), if_neg (show ¬ (5 : Int) = 4 by decide)]
  unfold doTick
  rw [if_pos (show (opTick n).n < now by
   have : ¬ now ≤ n := fun hh => h ⟨hb, hh⟩
   show n < now
   omega)]
  decide
 ·have hf : formO (opTick n) = 3 := by rw [opTick_form, if_neg hb]
  rw [if_pos (by rw [hf]; decide), hf]
  decide
theorem opGrant_in {who : ByteArray} (hw : strIn who) {k ttl : Int} (hk : i64In k) (ht : i64In ttl) : (opGrant who k ttl).In := sop_in ⟨by decide, by decide⟩ noPf_in noAd_in hw hk ht
theorem opFree_in {who : ByteArray} (hw : strIn who) : (opFree who).In := sop_in ⟨by decide, by decide⟩ noPf_in noAd_in hw ⟨by decide, by decide⟩ ⟨by decide, by decide⟩
theorem opTick_in {n : Int} (hn : i64In n) : (opTick n).In := sop_in ⟨by decide, by decide⟩ noPf_in noAd_in strIn_empty ⟨by decide, by decide⟩ hn
noncomputable def tickEnd (a0 : List Pf × List (List Ad)) (a1 : List Ls) (a2 a6 a7 : Int) : Option (Bool × Unit) :=
 (zq49 a0 a1 a2 (⟨5, (⟨(⟨false, 0, 0⟩ : Ad), 0⟩ : Pf), (⟨false, 0, 0⟩ : Ad), (ByteArray.empty), 0, a6⟩ : Oq)).bind fun y5 =>
    br (!decide (y5.2.2.1 = 0))
     ((br (decide (a6 < a2))
       (some true)
       (some (decide (a6 > 9999)))).bind fun c6 =>
     some (c6, ()))
     ((zq49 y5.1.1 y5.1.2.1 y5.1.2.2.1 (⟨5, (⟨(⟨false, 0, 0⟩ : Ad), 0⟩ : Pf), (⟨false, 0, 0⟩ : Ad), (ByteArray.empty), 0, a6⟩ : Oq)).bind fun y6 =>
     (br (!decide (y6.2.2.1 = 0))
       (some true)
       ((R_SameState_t y5.1.1 y5.1.2.1 y5.1.2.2.1 y6.1.1 y6.1.2.1 y6.1.2.2.1).bind fun y7 =>
       some (!y7.1))).bind fun c7 =>
     br c7
      (some (false, ()))
      ((zq49 y5.1.1 y5.1.2.1 y5.1.2.2.1 (⟨5, (⟨(⟨false, 0, 0⟩ : Ad), 0⟩ : Pf), (⟨false, 0, 0⟩ : Ad), (ByteArray.empty), 0, a7⟩ : Oq)).bind fun y8 =>
      (zq49 a0 a1 a2 (⟨5, (⟨(⟨false, 0, 0⟩ : Ad), 0⟩ : Pf), (⟨false, 0, 0⟩ : Ad), (ByteArray.empty), 0, a7⟩ : Oq)).bind fun y9 =>
      (br (!decide (y8.2.2.1 = 0))
        (some true)
        (br (decide (y9.2.2.1 = 0))
         ((R_SameState_t y8.1.1 y8.1.2.1 y8.1.2.2.1 y9.1.1 y9.1.2.1 y9.1.2.2.1).bind fun y10 =>
         some y10.1)
         (some false))).bind fun c10 =>
      some (c10, ())))
theorem tick_end {ps : List Pf} {ks : List (List Ad)} {ls : List Ls} {now : Int} (h : StOk ps ks ls now) {n m : Int} (hn : i64In n) (hm : i64In m) : tickEnd (ps, ks) ls now n m = some (true, ()) := by
 obtain ⟨t1, t2⟩ := betw_iff.1 h.time
 have e1 := state_Do_ok h (opTick_in hn)
 have e2 := state_Do_ok h (opTick_in hm)
 unfold tickEnd
 show (zq49 (ps, ks) ls now (opTick n)).bind _ = _
 rw [e1, bind_s]
 by_cases hb : betw n 0 9999 = true ∧ now ≤ n
 rotate_left
 ·rw [decide_eq_false (doTick_err hb), Bool.not_false, br_true]
  by_cases h1 : n < now
  ·rw [decide_eq_true h1]; rfl
  ·rw [decide_eq_false h1, br_false]
   have h2 : n > 9999 := by
    by_cases h3 : n ≤ 9999
    ·exact absurd ⟨betw_iff.2 ⟨by omega, h3⟩, by omega⟩ hb
    ·omega
   rw [decide_eq_true h2]; rfl
 have hd := doTick_eq (ps := ps) (ks := ks) (ls := ls) hb.1 hb.2
 have hok := (doOf_ok h (opTick_in hn) hd).1
 have e3 := state_Do_ok hok (opTick_in hn)
 have e4 := state_Do_ok hok (opTick_in hm)
 rw [hd]
 simp only [okS, decide_true, Bool.not_true, br_false]
 show (zq49 (ps, ks) (live ls n) n (opTick n)).bind _ = _
 rw [e3, bind_s, doTick_eq hb.1 (Int.le_refl _), live_twice ls (Int.le_refl _)]
 simp only [okS, decide_true, Bool.not_true, br_false]
 rw [R_SameState_self hok.fit, bind_s]
 simp only [Bool.not_true, bind_s, br_false]
 show (zq49 (ps, ks) (live ls n) n (opTick m)).bind _ = _
 rw [e4, bind_s]
 show (zq49 (ps, ks) ls now (opTick m)).bind _ = _
 rw [e2, bind_s]
 by_cases hc : betw m 0 9999 = true ∧ n ≤ m
 rotate_left
 ·rw [decide_eq_false (doTick_err hc), Bool.not_false, br_true]; rfl
 have hd2 := doTick_eq (ps := ps) (ks := ks) (ls := ls) (now := now) hc.1 (by omega)
 have hok2 := (doOf_ok h (opTick_in hm) hd2).1
 rw [doTick_eq hc.1 hc.2, hd2, live_twice ls hc.2]
 simp only [okS, decide_true, Bool.not_true, br_false, br_true]
 rw [R_SameState_self hok2.fit, bind_s]
 rfl
theorem StateAgain_eq {ps : List Pf} {ks : List (List Ad)} {ls : List Ls} (h : StIn ps ks ls) (now : Int) {who : ByteArray} (hw : strIn who) {k ttl n m : Int} (hk : i64In k) (ht : i64In ttl) (hn : i64In n) (hm : i64In m) : law_StateAgain_t (ps, ks) ls now who k ttl n m = some (true, ()) := by
 unfold law_StateAgain_t
 rw [stateBegun_eq, bind_s, Bool.not_true, br_false, state_Check_eq h.ps h.ks h.ls, bind_s]
 have hl63 : ls.length ≤ 9223372036854775807 := Nat.le_of_lt_succ (lt_of_max h.l.1)
 by_cases hc : chkS ps ks ls now = 0
 rotate_left
 ·simp only [hc, decide_false, Bool.not_false, br_true, bind_s]
 have hok := stOk_of h.ps h.ks h.ls h.len hc
 simp only [hc, decide_true, Bool.not_true, br_false]
 rw [R_WhoAt_eq hl63, bind_s, bind_s]
 by_cases hw2 : idxI (firstF (whoP who) ls) ≥ 0
 ·rw [decide_eq_true hw2, br_true]
 rw [decide_eq_false hw2, br_false]
 have hno := idxI_none hw2
 have e1 := state_Do_ok hok (opGrant_in hw hk ht)
 have hte := tick_end hok hn hm
 show (zq49 (ps, ks) ls now (opGrant who k ttl)).bind _ = _
 rw [e1, bind_s]
 rcases doOf_two ps ks ls now (opGrant who k ttl) with ⟨e, he, h1⟩ | ⟨ps', ks', ls', now', a, h1⟩
 ·rw [h1]
  show br (decide (e = 0)) _ _ = _
  rw [decide_eq_false he, br_false]
  exact hte
 ·obtain ⟨hok', h2⟩ := grant_free hok (opGrant_in hw hk ht) hno h1
  have e2 := state_Do_ok hok' (opFree_in hw)
  rw [h1]
  simp only [okS, decide_true, br_true]
  show (zq49 (ps', ks') ls' now' (opFree who)).bind _ = _
  rw [e2, bind_s, h2]
  simp only [okS, decide_true, Bool.not_true, br_false, eqAd_refl, bind_s]
  rw [R_SameState_self hok.fit, bind_s]
  simp only [Bool.not_true, br_false]
  exact hte
end Go.Ma
namespace Go.Proofs.YtbajhmdekihagaaGreat
open Go Go.Ma
def noTi : TI := { known := false, kind := .other, agg := false, size := 0, zero := [], fields := [], elem := 0 }
def ti_1 : TI := { kind := .other, agg := false, size := 1, zero := [.nilFunc], fields := [], elem := 0, bytes := 8, eq := false, k := none }
def ti_2 : TI := { kind := (.int .i64), agg := false, size := 1, zero := [.int .i64 0], fields := [], elem := 0, bytes := 8, eq := false, k := some .int }
def ti_3 : TI := ti_2
def ti_4 : TI := { kind := .bool, agg := false, size := 1, zero := [.bool false], fields := [], elem := 0, bytes := 1, eq := false, k := some .bool }
def ti_5 : TI := { kind := (.int .u8), agg := false, size := 1, zero := [.int .u8 0], fields := [], elem := 0, bytes := 1, eq := false, k := some .u8 }
def ti_6 : TI := ti_5
def ti_7 : TI := { kind := .struct, agg := true, size := 4, zero := [.int .i64 0, .int .i64 0, .bool false, .int .u8 0], fields := [(0, 2), (1, 3), (2, 4), (3, 6)], elem := 0, bytes := 24, eq := false, k := none }
def ti_8 : TI := ti_7
def ti_9 : TI := { kind := .str, agg := false, size := 1, zero := [.string .empty], fields := [], elem := 0, bytes := 16, eq := false, k := some .str }
def ti_10 : TI := ti_9
def ti_11 : TI := ti_9
def ti_12 : TI := { kind := (.int .u64), agg := false, size := 1, zero := [.int .u64 0], fields := [], elem := 0, bytes := 8, eq := false, k := some .u64 }
def ti_13 : TI := { kind := .struct, agg := true, size := 2, zero := [.string .empty, .int .u64 0], fields := [(0, 9), (1, 12)], elem := 0, bytes := 24, eq := false, k := none }
def ti_14 : TI := ti_13
def ti_15 : TI := { kind := .other, agg := false, size := 1, zero := [.pointer none], fields := [], elem := 0, bytes := 8, eq := false, k := none }
def ti_16 : TI := ti_15
def ti_17 : TI := ti_15
def ti_18 : TI := { kind := .struct, agg := true, size := 1, zero := [.pointer none], fields := [(0, 17)], elem := 0, bytes := 8, eq := false, k := none }
def ti_19 : TI := ti_18
def ti_20 : TI := { kind := .other, agg := false, size := 1, zero := [.nilIface], fields := [], elem := 0, bytes := 16, eq := false, k := none }
def ti_21 : TI := { kind := (.int .i32), agg := false, size := 1, zero := [.int .i32 0], fields := [], elem := 0, bytes := 4, eq := false, k := none }
def ti_22 : TI := { kind := .slice, agg := false, size := 1, zero := [.slice none 0 0], fields := [], elem := 46, bytes := 24, eq := false, k := none, sl := [(0, .inr (.pfx, .addr, 28), 46)] }
def ti_23 : TI := { kind := .slice, agg := false, size := 1, zero := [.slice none 0 0], fields := [], elem := 42, bytes := 24, eq := false, k := none, sl := [(0, .inl .lease, 42)] }
def ti_24 : TI := { kind := .struct, agg := true, size := 3, zero := [.slice none 0 0, .slice none 0 0, .int .i64 0], fields := [(0, 22), (1, 23), (2, 3)], elem := 0, bytes := 56, eq := false, k := none, sl := [(0, .inr (.pfx, .addr, 28), 46), (1, .inl .lease, 42)] }
def ti_25 : TI := ti_24
def ti_26 : TI := ti_12
def ti_27 : TI := { kind := .struct, agg := true, size := 3, zero := [.bool false, .int .u64 0, .int .u64 0], fields := [(0, 4), (1, 26), (2, 26)], elem := 0, bytes := 24, eq := false, k := none }
def ti_28 : TI := { kind := .struct, agg := true, size := 3, zero := [.bool false, .int .u64 0, .int .u64 0], fields := [(0, 4), (1, 26), (2, 26)], elem := 0, bytes := 24, eq := true, k := some .addr }
def ti_29 : TI := { kind := .struct, agg := true, size := 4, zero := [.bool false, .int .u64 0, .int .u64 0, .int .i64 0], fields := [(0, 28), (3, 3)], elem := 0, bytes := 32, eq := false, k := none }
def ti_30 : TI := { kind := .struct, agg := true, size := 4, zero := [.bool false, .int .u64 0, .int .u64 0, .int .i64 0], fields := [(0, 28), (3, 3)], elem := 0, bytes := 32, eq := true, k := some .pfx }
def ti_31 : TI := { kind := .struct, agg := true, size := 11, zero := [.int .i64 0, .bool false, .int .u64 0, .int .u64 0, .int .i64 0, .bool false, .int .u64 0, .int .u64 0, .string .empty, .int .i64 0, .int .i64 0], fields := [(0, 3), (1, 30), (5, 28), (8, 9), (9, 3), (10, 3)], elem := 0, bytes := 96, eq := false, k := none }
def ti_32 : TI := { kind := .struct, agg := true, size := 11, zero := [.int .i64 0, .bool false, .int .u64 0, .int .u64 0, .int .i64 0, .bool false, .int .u64 0, .int .u64 0, .string .empty, .int .i64 0, .int .i64 0], fields := [(0, 3), (1, 30), (5, 28), (8, 9), (9, 3), (10, 3)], elem := 0, bytes := 96, eq := true, k := some .op }
def ti_33 : TI := ti_2
def ti_35 : TI := ti_1
def ti_36 : TI := ti_1
def ti_37 : TI := ti_1
def ti_38 : TI := ti_1
def ti_39 : TI := ti_1
def ti_40 : TI := ti_1
def ti_41 : TI := { kind := .struct, agg := true, size := 5, zero := [.bool false, .int .u64 0, .int .u64 0, .string .empty, .int .i64 0], fields := [(0, 28), (3, 9), (4, 3)], elem := 0, bytes := 48, eq := false, k := none }
def ti_42 : TI := { kind := .struct, agg := true, size := 5, zero := [.bool false, .int .u64 0, .int .u64 0, .string .empty, .int .i64 0], fields := [(0, 28), (3, 9), (4, 3)], elem := 0, bytes := 48, eq := true, k := some .lease }
def ti_43 : TI := ti_1
def ti_44 : TI := { kind := .slice, agg := false, size := 1, zero := [.slice none 0 0], fields := [], elem := 28, bytes := 24, eq := false, k := none, sl := [(0, .inl .addr, 28)] }
def ti_45 : TI := { kind := .struct, agg := true, size := 5, zero := [.bool false, .int .u64 0, .int .u64 0, .int .i64 0, .slice none 0 0], fields := [(0, 30), (4, 44)], elem := 0, bytes := 56, eq := false, k := none, nk := some (.pfx, .addr, 28), sl := [(4, .inl .addr, 28)] }
def ti_46 : TI := ti_45
def ti_47 : TI := ti_1
def ti_48 : TI := ti_1
def ti_49 : TI := ti_1
def ti_50 : TI := ti_1
def ti_51 : TI := ti_1
def ti_52 : TI := ti_1
def ti_53 : TI := ti_1
def ti_54 : TI := ti_1
def ti_55 : TI := ti_1
def ti_56 : TI := ti_1
def ti_58 : TI := ti_1
def ti_59 : TI := ti_1
def ti_60 : TI := ti_1
def ti_61 : TI := { kind := .slice, agg := false, size := 1, zero := [.slice none 0 0], fields := [], elem := 32, bytes := 24, eq := false, k := none, sl := [(0, .inl .op, 32)] }
def ti_62 : TI := ti_1
def ti_63 : TI := ti_1
def ti_64 : TI := ti_1
def ti_65 : TI := ti_1
def ti_66 : TI := ti_1
def ti_67 : TI := ti_1
def ti_68 : TI := ti_1
def ti_69 : TI := ti_1
def ti_70 : TI := ti_1
def ti_71 : TI := ti_1
def ti_72 : TI := ti_1
def ti_73 : TI := ti_15
def ti_74 : TI := ti_1
def ti_75 : TI := { kind := .struct, agg := true, size := 3, zero := [.slice none 0 0, .slice none 0 0, .int .i64 0], fields := [(0, 25)], elem := 0, bytes := 56, eq := false, k := none, sl := [(0, .inr (.pfx, .addr, 28), 46), (1, .inl .lease, 42)] }
def ti_76 : TI := ti_75
def ti_78 : TI := ti_1
def ti_79 : TI := ti_1
def ti_81 : TI := ti_1
def ti_82 : TI := ti_1
def ti_83 : TI := ti_1
def ti_84 : TI := ti_1
def ti_85 : TI := ti_1
def ti_86 : TI := ti_1
def ti_87 : TI := { kind := .other, agg := false, size := 1, zero := [.map none], fields := [], elem := 0, bytes := 8, eq := false, k := none }
def ti_88 : TI := ti_1
def ti_89 : TI := ti_1
def ti_90 : TI := ti_1
def ti_91 : TI := ti_1
def ti_92 : TI := ti_1
def ti_93 : TI := ti_1
def ti_94 : TI := ti_1
def ti_95 : TI := ti_1
def ti_96 : TI := { kind := .slice, agg := false, size := 1, zero := [.slice none 0 0], fields := [], elem := 5, bytes := 24, eq := false, k := none, sl := [(0, .inl .u8, 5)] }
def ti_97 : TI := ti_1
def ti_98 : TI := ti_1
def ti_99 : TI := ti_1
def ti_100 : TI := ti_1
def ti_102 : TI := ti_1
def ti_103 : TI := ti_1
def ti_104 : TI := ti_1
def ti_105 : TI := ti_15
def ti_106 : TI := ti_1
def ti_107 : TI := ti_1
def ti_108 : TI := ti_1
def ti_109 : TI := ti_1
def ti_110 : TI := ti_1
def ti_111 : TI := ti_1
def ti_112 : TI := ti_1
def ti_113 : TI := ti_12
def ti_114 : TI := ti_1
def ti_115 : TI := ti_1
def ti_116 : TI := ti_1
def ti_117 : TI := ti_15
def ti_118 : TI := { kind := .struct, agg := true, size := 6, zero := [.bool false, .int .u64 0, .int .u64 0, .int .i64 0, .slice none 0 0, .slice none 0 0], fields := [(0, 46), (5, 23)], elem := 0, bytes := 80, eq := false, k := none, sl := [(4, .inl .addr, 28), (5, .inl .lease, 42)] }
def ti_119 : TI := ti_118
def ti_120 : TI := ti_1
def ti_121 : TI := ti_1
def ti_122 : TI := ti_1
def ti_123 : TI := ti_1
def ti_124 : TI := ti_1
def ti_125 : TI := ti_1
def ti_126 : TI := ti_1
def ti_127 : TI := ti_1
def ti_128 : TI := ti_1
def ti_129 : TI := ti_1
def ti_130 : TI := ti_2
def ti_132 : TI := ti_1
def ti_133 : TI := ti_1
def ti_134 : TI := ti_1
def ti_135 : TI := ti_1
def ti_136 : TI := ti_1
def ti_137 : TI := { kind := (.int .u32), agg := false, size := 1, zero := [.int .u32 0], fields := [], elem := 0, bytes := 4, eq := false, k := none }
def ti_138 : TI := ti_1
def ti_139 : TI := ti_1
def ti_140 : TI := ti_1
def ti_141 : TI := ti_1
def ti_142 : TI := ti_12
def ti_143 : TI := ti_1
def ti_144 : TI := ti_1
def ti_145 : TI := ti_1
def ti_146 : TI := ti_15
def ti_147 : TI := ti_1
def ti_148 : TI := ti_1
def ti_149 : TI := ti_1
def ti_150 : TI := ti_15
def ti_152 : TI := ti_1
def ti_153 : TI := ti_1
def ti_154 : TI := { kind := .struct, agg := true, size := 4, zero := [.pointer none, .pointer none, .pointer none, .string .empty], fields := [(0, 17), (1, 17), (2, 17), (3, 9)], elem := 0, bytes := 40, eq := false, k := none }
def ti_155 : TI := ti_154
def ti_156 : TI := { kind := .other, agg := true, size := 0, zero := [], fields := [], elem := 16, bytes := 0, eq := false, k := none }
def ti_157 : TI := { kind := .struct, agg := true, size := 0, zero := [], fields := [(0, 156)], elem := 0, bytes := 0, eq := false, k := none }
def ti_158 : TI := ti_157
def ti_159 : TI := ti_1
def ti_160 : TI := ti_5
def ti_161 : TI := ti_5
def ti_162 : TI := ti_1
def ti_163 : TI := ti_15
def ti_164 : TI := ti_21
def ti_165 : TI := ti_21
def ti_166 : TI := { kind := .struct, agg := true, size := 11, zero := [.int .u64 0, .int .u64 0, .int .u32 0, .int .u8 0, .int .u8 0, .int .u8 0, .int .u8 0, .nilFunc, .pointer none, .int .i32 0, .int .i32 0], fields := [(0, 12), (1, 12), (2, 137), (3, 160), (4, 5), (5, 5), (6, 161), (7, 162), (8, 163), (9, 164), (10, 165)], elem := 0, bytes := 48, eq := false, k := none }
def ti_167 : TI := ti_166
def ti_168 : TI := ti_15
def ty (t : Nat) : TI := bif Nat.blt t 176 then (bif Nat.blt t 88 then (bif Nat.blt t 44 then (bif Nat.blt t 22 then (bif Nat.blt t 11 then (bif Nat.blt t 5 then (bif Nat.blt t 2 then (bif Nat.blt t 1 then noTi else ti_1) else (bif Nat.blt t 3 then ti_2 else (bif Nat.blt t 4 then ti_3 else ti_4))) else (bif Nat.blt t 8 then (bif Nat.blt t 6 then ti_5 else (bif Nat.blt t 7 then ti_6 else ti_7)) else (bif Nat.blt t 9 then ti_8 else (bif Nat.blt t 10 then ti_9 else ti_10)))) else (bif Nat.blt t 16 then (bif Nat.blt t 13 then (bif Nat.blt t 12 then ti_11 else ti_12) else (bif Nat.blt t 14 then ti_13 else (bif Nat.blt t 15 then ti_14 else ti_15))) else (bif Nat.blt t 19 then (bif Nat.blt t 17 then ti_16 else (bif Nat.blt t 18 then ti_17 else ti_18)) else (bif Nat.blt t 20 then ti_19 else (bif Nat.blt t 21 then ti_20 else ti_21))))) else (bif Nat.blt t 33 then (bif Nat.blt t 27 then (bif Nat.blt t 24 then (bif Nat.blt t 23 then ti_22 else ti_23) else (bif Nat.blt t 25 then ti_24 else (bif Nat.blt t 26 then ti_25 else ti_26))) else (bif Nat.blt t 30 then (bif Nat.blt t 28 then ti_27 else (bif Nat.blt t 29 then ti_28 else ti_29)) else (bif Nat.blt t 31 then ti_30 else (bif Nat.blt t 32 then ti_31 else ti_32)))) else (bif Nat.blt t 38 then (bif Nat.blt t 35 then (bif Nat.blt t 34 then ti_33 else noTi) else (bif Nat.blt t 36 then ti_35 else (bif Nat.blt t 37 then ti_36 else ti_37))) else (bif Nat.blt t 41 then (bif Nat.blt t 39 then ti_38 else (bif Nat.blt t 40 then ti_39 else ti_40)) else (bif Nat.blt t 42 then ti_41 else (bif Nat.blt t 43 then ti_42 else ti_43)))))) else (bif Nat.blt t 66 then (bif Nat.blt t 55 then (bif Nat.blt t 49 then (bif Nat.blt t 46 then (bif Nat.blt t 45 then ti_44 else ti_45) else (bif Nat.blt t 47 then ti_46 else (bif Nat.blt t 48 then ti_47 else ti_48))) else (bif Nat.blt t 52 then (bif Nat.blt t 50 then ti_49 else (bif Nat.blt t 51 then ti_50 else ti_51)) else (bif Nat.blt t 53 then ti_52 else (bif Nat.blt t 54 then ti_53 else ti_54)))) else (bif Nat.blt t 60 then (bif Nat.blt t 57 then (bif Nat.blt t 56 then ti_55 else ti_56) else (bif Nat.blt t 58 then noTi else (bif Nat.blt t 59 then ti_58 else ti_59))) else (bif Nat.blt t 63 then (bif Nat.blt t 61 then ti_60 else (bif Nat.blt t 62 then ti_61 else ti_62)) else (bif Nat.blt t 64 then ti_63 else (bif Nat.blt t 65 then ti_64 else ti_65))))) else (bif Nat.blt t 77 then (bif Nat.blt t 71 then (bif Nat.blt t 68 then (bif Nat.blt t 67 then ti_66 else ti_67) else (bif Nat.blt t 69 then ti_68 else (bif Nat.blt t 70 then ti_69 else ti_70))) else (bif Nat.blt t 74 then (bif Nat.blt t 72 then ti_71 else (bif Nat.blt t 73 then ti_72 else ti_73)) else (bif Nat.blt t 75 then ti_74 else (bif Nat.blt t 76 then ti_75 else ti_76)))) else (bif Nat.blt t 82 then (bif Nat.blt t 79 then (bif Nat.blt t 78 then noTi else ti_78) else (bif Nat.blt t 80 then ti_79 else (bif Nat.blt t 81 then noTi else ti_81))) else (bif Nat.blt t 85 then (bif Nat.blt t 83 then ti_82 else (bif Nat.blt t 84 then ti_83 else ti_84)) else (bif Nat.blt t 86 then ti_85 else (bif Nat.blt t 87 then ti_86 else ti_87))))))) else (bif Nat.blt t 132 then (bif Nat.blt t 110 then (bif Nat.blt t 99 then (bif Nat.blt t 93 then (bif Nat.blt t 90 then (bif Nat.blt t 89 then ti_88 else ti_89) else (bif Nat.blt t 91 then ti_90 else (bif Nat.blt t 92 then ti_91 else ti_92))) else (bif Nat.blt t 96 then (bif Nat.blt t 94 then ti_93 else (bif Nat.blt t 95 then ti_94 else ti_95)) else (bif Nat.blt t 97 then ti_96 else (bif Nat.blt t 98 then ti_97 else ti_98)))) else (bif Nat.blt t 104 then (bif Nat.blt t 101 then (bif Nat.blt t 100 then ti_99 else ti_100) else (bif Nat.blt t 102 then noTi else (bif Nat.blt t 103 then ti_102 else ti_103))) else (bif Nat.blt t 107 then (bif Nat.blt t 105 then ti_104 else (bif Nat.blt t 106 then ti_105 else ti_106)) else (bif Nat.blt t 108 then ti_107 else (bif Nat.blt t 109 then ti_108 else ti_109))))) else (bif Nat.blt t 121 then (bif Nat.blt t 115 then (bif Nat.blt t 112 then (bif Nat.blt t 111 then ti_110 else ti_111) else (bif Nat.blt t 113 then ti_112 else (bif Nat.blt t 114 then ti_113 else ti_114))) else (bif Nat.blt t 118 then (bif Nat.blt t 116 then ti_115 else (bif Nat.blt t 117 then ti_116 else ti_117)) else (bif Nat.blt t 119 then ti_118 else (bif Nat.blt t 120 then ti_119 else ti_120)))) else (bif Nat.blt t 126 then (bif Nat.blt t 123 then (bif Nat.blt t 122 then ti_121 else ti_122) else (bif Nat.blt t 124 then ti_123 else (bif Nat.blt t 125 then ti_124 else ti_125))) else (bif Nat.blt t 129 then (bif Nat.blt t 127 then ti_126 else (bif Nat.blt t 128 then ti_127 else ti_128)) else (bif Nat.blt t 130 then ti_129 else (bif Nat.blt t 131 then ti_130 else noTi)))))) else (bif Nat.blt t 154 then (bif Nat.blt t 143 then (bif Nat.blt t 137 then (bif Nat.blt t 134 then (bif Nat.blt t 133 then ti_132 else ti_133) else (bif Nat.blt t 135 then ti_134 else (bif Nat.blt t 136 then ti_135 else ti_136))) else (bif Nat.blt t 140 then (bif Nat.blt t 138 then ti_137 else (bif Nat.blt t 139 then ti_138 else ti_139)) else (bif Nat.blt t 141 then ti_140 else (bif Nat.blt t 142 then ti_141 else ti_142)))) else (bif Nat.blt t 148 then (bif Nat.blt t 145 then (bif Nat.blt t 144 then ti_143 else ti_144) else (bif Nat.blt t 146 then ti_145 else (bif Nat.blt t 147 then ti_146 else ti_147))) else (bif Nat.blt t 151 then (bif Nat.blt t 149 then ti_148 else (bif Nat.blt t 150 then ti_149 else ti_150)) else (bif Nat.blt t 152 then noTi else (bif Nat.blt t 153 then ti_152 else ti_153))))) else (bif Nat.blt t 165 then (bif Nat.blt t 159 then (bif Nat.blt t 156 then (bif Nat.blt t 155 then ti_154 else ti_155) else (bif Nat.blt t 157 then ti_156 else (bif Nat.blt t 158 then ti_157 else ti_158))) else (bif Nat.blt t 162 then (bif Nat.blt t 160 then ti_159 else (bif Nat.blt t 161 then ti_160 else ti_161)) else (bif Nat.blt t 163 then ti_162 else (bif Nat.blt t 164 then ti_163 else ti_164)))) else (bif Nat.blt t 170 then (bif Nat.blt t 167 then (bif Nat.blt t 166 then ti_165 else ti_166) else (bif Nat.blt t 168 then ti_167 else (bif Nat.blt t 169 then ti_168 else noTi))) else (bif Nat.blt t 173 then (bif Nat.blt t 171 then noTi else (bif Nat.blt t 172 then noTi else noTi)) else (bif Nat.blt t 174 then noTi else (bif Nat.blt t 175 then noTi else noTi)))))))) else noTi
theorem ty_dflt (t : Nat) (h : 176 ≤ t) : ty t = noTi := by
 have e : Nat.blt t 176 = false := by
  cases hb : Nat.blt t 176
  ·rfl
  ·have := Nat.le_of_ble_eq_true hb
   omega
 unfold ty
 rw [e]
 rfl
def tyKnown : List Nat := [1, 2, 3, 4, 5, 6, 7, 8, 9, 10, 11, 12, 13, 14, 15, 16, 17, 18, 19, 20, 21, 22, 23, 24, 25, 26, 27, 28, 29, 30, 31, 32, 33, 35, 36, 37, 38, 39, 40, 41, 42, 43, 44, 45, 46, 47, 48, 49, 50, 51, 52, 53, 54, 55, 56, 58, 59, 60, 61, 62, 63, 64, 65, 66, 67, 68, 69, 70, 71, 72, 73, 74, 75, 76, 78, 79, 81, 82, 83, 84, 85, 86, 87, 88, 89, 90, 91, 92, 93, 94, 95, 96, 97, 98, 99, 100, 102, 103, 104, 105, 106, 107, 108, 109, 110, 111, 112, 113, 114, 115, 116, 117, 118, 119, 120, 121, 122, 123, 124, 125, 126, 127, 128, 129, 130, 132, 133, 134, 135, 136, 137, 138, 139, 140, 141, 142, 143, 144, 145, 146, 147, 148, 149, 150, 152, 153, 154, 155, 156, 157, 158, 159, 160, 161, 162, 163, 164, 165, 166, 167, 168]
theorem ty_list : tyKnown.map (fun t => ({ ty t with eq := false, k := none, nk := none, sl := [] } : TI)) = tyKnown.map (tiOf Tryz.prog) := by kernel_rfl
theorem ty_in : (List.range 176).all (fun t => !(ty t).known || tyKnown.contains t) = true := by kernel_rfl
theorem ty_fact (t : Nat) (h : (ty t).known = true) : TyFact Tryz.prog t (ty t) := by
 refine tyFact_of h ?_
 have hlt : t < 176 := by
  rcases Nat.lt_or_ge t 176 with h' | h'
  ·exact h'
  ·have : (ty t) = noTi := ty_dflt t h'
   rw [this] at h
   cases h
 have h1 := List.all_eq_true.1 ty_in t (List.mem_range.2 hlt)
 rw [h] at h1
 have hmem : t ∈ tyKnown := by simpa using h1
 have := List.map_inj_left.1 ty_list t hmem
 exact this
theorem eq_28 : StructEq Tryz.prog 28 (ty 28).zero := structEq ty_fact 28 (ty 28).zero (by kernel_rfl) (by kernel_rfl) (by kernel_rfl)
theorem eq_30 : StructEq Tryz.prog 30 (ty 30).zero := structEq ty_fact 30 (ty 30).zero (by kernel_rfl) (by kernel_rfl) (by kernel_rfl)
theorem eq_32 : StructEq Tryz.prog 32 (ty 32).zero := structEq ty_fact 32 (ty 32).zero (by kernel_rfl) (by kernel_rfl) (by kernel_rfl)
theorem eq_42 : StructEq Tryz.prog 42 (ty 42).zero := structEq ty_fact 42 (ty 42).zero (by kernel_rfl) (by kernel_rfl) (by kernel_rfl)
def tyEqs : List Nat := [28, 30, 32, 42]
theorem eq_in : (List.range 176).all (fun t => !(ty t).eq || tyEqs.contains t) = true := by kernel_rfl
theorem ty_eq (t : Nat) (h : (ty t).eq = true) : StructEq Tryz.prog t (ty t).zero := by
 have hlt : t < 176 := by
  rcases Nat.lt_or_ge t 176 with h' | h'
  ·exact h'
  ·rw [ty_dflt t h'] at h
   cases h
 have h1 := List.all_eq_true.1 eq_in t (List.mem_range.2 hlt)
 rw [h] at h1
 have hmem : t ∈ tyEqs := by simpa using h1
 simp only [tyEqs, List.mem_cons, List.not_mem_nil, or_false] at hmem
 rcases hmem with rfl | rfl | rfl | rfl
 ·exact eq_28
 ·exact eq_30
 ·exact eq_32
 ·exact eq_42
theorem tyOk : TOk Tryz.prog ty := ⟨ty_fact, ty_eq, by kernel_rfl⟩
def fnExt : List Nat := [0, 1, 92, 94, 108, 136, 137, 138, 139, 140, 141, 142, 143, 144, 145, 146, 147, 148, 149, 150, 151]
def fnB (f : Nat) : Bool := decide (f < 152) && !fnExt.contains f
theorem fn_all : (List.range 152).all (fun f => !fnB f || (match Tryz.prog.funcs[f]? with | some fn => fn.body.isSome && !(fn.name == "runtime.NumGoroutine") | none => false)) = true := by kernel_rfl
theorem fn_ok (f : Nat) (h : fnB f = true) : HasBody Tryz.prog f := by
 have hlt : f < 152 := by
  unfold fnB at h
  simp only [Bool.and_eq_true, decide_eq_true_eq] at h
  exact h.1
 have h1 := List.all_eq_true.1 fn_all f (List.mem_range.2 hlt)
 rw [h] at h1
 simp only [Bool.not_true, Bool.false_or] at h1
 unfold HasBody
 cases hf : Tryz.prog.funcs[f]? with
 | none => rw [hf] at h1; cases h1
 | some fn =>
  rw [hf] at h1
  simp only [Bool.and_eq_true, Bool.not_eq_true'] at h1
  exact ⟨fn, rfl, h1.1, h1.2⟩
end Go.Proofs.YtbajhmdekihagaaGreat
namespace Go.Proofs.YtbajhmdekihagaaGreat
open Go Go.Ma Go.RowKit Go.Lib Go.Proofs
theorem run_copy_n {P : Program} (w : World) (dT sT ty elem : TypeId) (s : Nat) (b o dLen dCap : Nat) (a : Addr) (sLen sCap q : Nat) (cs : List Value)
  (hu : P.underlying dT = some (.slice elem)) (hs : (P.info? elem).map (·.size) = some s) (hq : q = Nat.min sLen dLen) (hn : cs.length = q * s)
  (hsrc : ∀ j v, cs[j]? = some v → w.cell? (a.add j) = some v) (hc : ∀ j, j < cs.length → (w.cell? ⟨b, o + j, none⟩).isSome = true) (hf : ∀ j, j < cs.length → w.frozen? ⟨b, o + j, none⟩ = false) (h1 : ∀ v ∈ cs, v.oneCell' = true) :
  (Builtin.copy_ #[dT, sT] ty #[.slice (some ⟨b, o, none⟩) dLen dCap, .slice (some a) sLen sCap]).run P w = .ok (goInt q) (w.setCells b o cs) := by
 have hl := run_loadCells_list (P := P) w a cs hsrc
 have hst := run_storeCells_cells (P := P) b o cs 0 w (by simpa using hc) (by simpa using hf) h1
 cases hq' : P.info? elem with
 | none => simp [hq'] at hs
 | some i =>
  have hi : i.size = s := by simpa [hq'] using hs
  rw [hn] at hl
  subst hi
  simp [Builtin.copy_, run_underlying hu, Builtin.lenOf, Builtin.firstCells, sizeOf, typeInfo, hq', ← hq, hl, hst]
theorem infoOf_yardarm_api_Lease : (Tryz.prog.info? 42).map (fun i => (i.zero.map (·.cells.size), i.size, i.bytes)) = some (some 5, 5, 48) := by kernel_rfl
theorem zq41 (w : World) : (Go.sizeOf 42).run Tryz.prog w = .ok 5 w := by kernel_rfl
theorem mixed_all : Tryz.prog.follows .mixedOrders = true := by kernel_rfl
set_option maxHeartbeats 4000000 in
set_option maxRecDepth 100000 in
/-- There is room, i < len(s): in place. -/
theorem ins_shift (b off n c i vb voff m vc : Nat) (cs vs : List Value) (w : World) (hi : i < n) (hm : 0 < m) (hroom : n + m ≤ c) (hc63 : c ≤ 9223372036854775807) (hvb : vb ≠ b)
  (hcl : cs.length = n * 5) (hvl : vs.length = m * 5)
  (hcs : ∀ j v, cs[j]? = some v → w.cell? ⟨b, off + j, none⟩ = some v) (hsp : ∀ j, j < (n + m) * 5 → (w.cell? ⟨b, off + j, none⟩).isSome = true) (hfz : ∀ j, j < (n + m) * 5 → w.frozen? ⟨b, off + j, none⟩ = false)
  (hvs : ∀ j v, vs[j]? = some v → w.cell? ⟨vb, voff + j, none⟩ = some v) (h1c : ∀ v ∈ cs, v.oneCell' = true) (h1v : ∀ v ∈ vs, v.oneCell' = true)
  (tA tB : TypeId) (kA kB : Nat) (hsa : w.shape? vb = some (tA, kA)) (hsb : w.shape? b = some (tB, kB)) (hkB : kB ≠ 0) (hfa : w.frozen? ⟨vb, voff, none⟩ = false) (hfe : w.frozen? ⟨vb, kA, none⟩ = false) :
  Calls Tryz.prog 101 #[.slice (some ⟨b, off, none⟩) n c, .int .i64 i, .slice (some ⟨vb, voff, none⟩) m vc] w fun e w' =>
   e = .returned (.slice (some ⟨b, off, none⟩) (n + m) c) ∧ w' = (w.drew.setCells b (off + (i + m) * 5) (cs.drop (i * 5))).setCells b (off + i * 5) vs := by
 have u30 := run_underlying Tryz.underlying23
 have z49 := zq41
 have hz1 : ¬ ((m : Int) = 0) := by omega
 have hz2 : ¬ ((i : Int) = (n : Int)) := by omega
 have hsz : (Tryz.prog.info? 42).map (·.size) = some 5 := by
  obtain ⟨i0, hi0, hz⟩ := Option.map_eq_some_iff.1 infoOf_yardarm_api_Lease
  simp only [Prod.mk.injEq] at hz
  rw [hi0]; simp [hz.2.1]
 have hov : ∀ lb cb, (callFunc 108 #[.slice (some ⟨vb, voff, none⟩) m vc, .slice (some ⟨b, off + (i + m) * 5, none⟩) lb cb]).run Tryz.prog w = .ok (.value (.bool false)) w := fun lb cb => by
  rw [run_callFunc_extern Tryz.func108 (by kernel_rfl) (by kernel_rfl) (by kernel_rfl) (e := Extern.SlicesOverlaps.overlaps #[23, 23] #[4]) (by kernel_rfl),
   Lib.run_overlaps_apart w 23 4 42 Tryz.underlying23 5 zq41 ⟨vb, voff, none⟩ ⟨b, off + (i + m) * 5, none⟩ m vc lb cb hvb tA tB kA kB hsa hsb hkB hfa hfe]
  rfl
 have hdl : (cs.drop (i * 5)).length = (n - i) * 5 := by rw [List.length_drop, hcl]; omega
 have mixed := mixed_all
 have hw1 : IntKind.i64.wrap ((i : Int) + (m : Int)) = (i : Int) + (m : Int) := by rw [IntKind.wrap_i64]; omega
 have hb1 : (0 : Int) ≤ (i : Int) + (m : Int) := by omega
 have hin : i ≤ n := by omega
 have htn : ((i : Int) + (m : Int)).toNat = i + m := by omega
 have hb2 : ¬ (c = i + m) := by omega
 have hb3 : (i : Int) ≤ (n : Int) + (m : Int) := by omega
 have hb4 : ¬ (c = i) := by omega
 have hcp1 : ∀ ty dc sc, (Builtin.copy_ #[23, 23] ty #[.slice (some ⟨b, off + (i + m) * 5, none⟩) (n + m - (i + m)) dc, .slice (some ⟨b, off + i * 5, none⟩) (n + m - i) sc]).run Tryz.prog w.drew = .ok (goInt ((n - i : Nat) : Int)) (w.drew.setCells b (off + (i + m) * 5) (cs.drop (i * 5))) := fun ty dc sc =>
  run_copy_n w.drew _ _ ty 42 5 b (off + (i + m) * 5) (n + m - (i + m)) dc ⟨b, off + i * 5, none⟩ (n + m - i) sc (n - i) (cs.drop (i * 5)) Tryz.underlying23 hsz (by simp only [Nat.min_def]; split <;> omega) hdl
   (fun j v hj => by rw [Addr.add_lit, Nat.add_assoc]; exact hcs (i * 5 + j) v (by rwa [List.getElem?_drop] at hj))
   (fun j hj => by rw [Nat.add_assoc]; exact hsp _ (by omega)) (fun j hj => by rw [Nat.add_assoc]; exact hfz _ (by omega)) (fun v hv => h1c v (List.mem_of_mem_drop hv))
 obtain ⟨W1, hW1⟩ : ∃ W1, W1 = w.drew.setCells b (off + (i + m) * 5) (cs.drop (i * 5)) := ⟨_, rfl⟩
 have hsp1 : ∀ k, k < (n + m) * 5 → (W1.cell? ⟨b, off + k, none⟩).isSome = true := fun k hk => by
  rw [hW1]
  exact isSome_setCells b _ _ _ (fun j hj => by rw [Nat.add_assoc]; exact hsp _ (by omega)) _ (hsp k hk)
 have hcp2 : ∀ (W : World), (∀ x, W.cell? x = W1.cell? x) → (∀ x, W.frozen? x = W1.frozen? x) → ∀ ty dc, (Builtin.copy_ #[23, 23] ty #[.slice (some ⟨b, off + i * 5, none⟩) (n + m - i) dc, .slice (some ⟨vb, voff, none⟩) m vc]).run Tryz.prog W = .ok (goInt m) (W.setCells b (off + i * 5) vs) := fun W hWc hWf ty dc =>
  run_copy_n W _ _ ty 42 5 b (off + i * 5) (n + m - i) dc ⟨vb, voff, none⟩ m vc m vs Tryz.underlying23 hsz (by simp only [Nat.min_def]; split <;> omega) hvl
   (fun j v hj => by
    rw [Addr.add_lit, hWc, hW1, World.cell?_setCells_out b _ _ _ _ (fun h _ => absurd h hvb)]
    exact hvs j v hj)
   (fun j hj => by rw [hWc, Nat.add_assoc]; exact hsp1 _ (by omega)) (fun j hj => by rw [hWf, hW1, World.frozen?_setCells, Nat.add_assoc]; exact hfz _ (by omega)) h1v
 rw [← hW1] at hcp1
 go_enter Tryz.func101, Tryz.ntmps101
 go_wp2_with (simp only [hov])
 go_region_law_o (refine step_copy_runI rfl _ _ 23 23 rfl _ _ (by simp [Act.eval, Act.put]) (by simp [Act.eval, Act.put]) (hcp1 _ _ _) ?_)
 go_wp2_with (at_builtin; refine wpList_copy_runI _ rfl _ _ 23 23 rfl _ _ rfl rfl (hcp2 _ (fun _ => rfl) (fun _ => rfl) _ _) ?_)
 go_ret
 first | exact ⟨rfl, rfl⟩ | exact ⟨rfl, by rw [hW1]⟩
set_option maxHeartbeats 4000000 in
set_option maxRecDepth 100000 in
/-- i < len(s), no room: a new row. -/
theorem ins_grow (b off n c i vb voff m vc : Nat) (cs vs : List Value) (z : Value) (hz0 : (Tryz.prog.info? 42).map (·.zero) = some (some z)) (w : World) (hi : i < n) (hm : 0 < m) (hnc : n ≤ c) (hroom : c < n + m) (hbig : (n + m) * 48 ≤ 140737488355328)
  (hcl : cs.length = n * 5) (hvl : vs.length = m * 5)
  (hcs : ∀ j v, cs[j]? = some v → w.cell? ⟨b, off + j, none⟩ = some v)
  (hvs : ∀ j v, vs[j]? = some v → w.cell? ⟨vb, voff + j, none⟩ = some v) (h1c : ∀ v ∈ cs, v.oneCell' = true) (h1v : ∀ v ∈ vs, v.oneCell' = true) :
  Calls Tryz.prog 101 #[.slice (some ⟨b, off, none⟩) n c, .int .i64 i, .slice (some ⟨vb, voff, none⟩) m vc] w fun e w' =>
   e = .returned (.slice (some ⟨w.heap.size, 0, none⟩) (n + m) (grownCap w (n + m) c 42)) ∧
   w' = (((w.alloc (.cells ((cs.take (i * 5)).toArray ++ Builtin.zeroCells z.cells (n + m - i) ++ Builtin.zeroCells z.cells (grownCap w (n + m) c 42 - (n + m))) 42)).drew.setCells w.heap.size (i * 5) vs).drew).setCells w.heap.size ((i + m) * 5) (cs.drop (i * 5)) := by
 have u30 := run_underlying Tryz.underlying23
 have z49 := zq41
 have mixed := mixed_all
 obtain ⟨i0, hi0, hz⟩ := Option.map_eq_some_iff.1 infoOf_yardarm_api_Lease
 simp only [Prod.mk.injEq] at hz
 obtain ⟨hzc, hzs, hzb⟩ := hz
 have hz0 : i0.zero = some z := by rw [hi0] at hz0; simpa using hz0
 have hzc : z.cells.size = 5 := by rw [hz0] at hzc; simpa using hzc
 have hz1 : ¬ ((m : Int) = 0) := by omega
 have hz2 : ¬ ((i : Int) = (n : Int)) := by omega
 have hz3 : (c : Int) < (n : Int) + (m : Int) := by omega
 have hsz : (Tryz.prog.info? 42).map (·.size) = some 5 := by rw [hi0]; simp [hzs]
 have hbw : b < w.heap.size := block_lt_of_cell (hcs 0 _ (List.getElem?_eq_getElem (by omega)))
 have hvw : vb < w.heap.size := block_lt_of_cell (hvs 0 _ (List.getElem?_eq_getElem (by omega)))
 have hkk : (n : Int) + (m : Int) - (i : Int) = ((n + m - i : Nat) : Int) := by omega
 have hik : i + (n + m - i) = n + m := by omega
 have hold : (Builtin.firstCells i0.size i (.slice (some ⟨b, off, none⟩) i c)).run Tryz.prog w.drew = .ok (cs.take (i * 5)).toArray w.drew := by
  rw [hzs]
  exact run_firstCells_some w.drew 5 i ⟨b, off, none⟩ i c (cs.take (i * 5)) (by rw [List.length_take]; omega) (fun j v hj => by
   rw [Addr.add_lit]
   rw [List.getElem?_take] at hj
   split at hj
   ·exact hcs j v hj
   ·cases hj)
 have hrz : ∀ ty, (Builtin.append_ #[23, 3] ty #[.slice (some ⟨b, off, none⟩) i c, .int .i64 ((n : Int) + (m : Int) - (i : Int))]).run Tryz.prog w =
   .ok (.slice (some ⟨w.heap.size, 0, none⟩) (n + m) (grownCap w (n + m) c 42)) (w.drew.alloc (.cells ((cs.take (i * 5)).toArray ++ Builtin.zeroCells z.cells (n + m - i) ++ Builtin.zeroCells z.cells (grownCap w (n + m) c 42 - (n + m))) 42)) := fun ty => by
  have h := Lib.run_append_grow_zeros w 23 3 ty 42 i0 z .i64 .i64 Tryz.underlying23 Tryz.underlying3 hi0 hz0 (some ⟨b, off, none⟩) i c (cs.take (i * 5)) hold (n + m - i) (by omega) (by omega) (by omega) (by omega) (by rw [hzb]; omega) (by rw [hzb, hik]; exact growslice_fits hroom hbig)
  rw [hik] at h
  rw [hkk]
  exact h
 obtain ⟨G, hG⟩ : ∃ G, G = grownCap w (n + m) c 42 := ⟨_, rfl⟩
 obtain ⟨ROW, hROW⟩ : ∃ ROW : Array Value, ROW = (cs.take (i * 5)).toArray ++ Builtin.zeroCells z.cells (n + m - i) ++ Builtin.zeroCells z.cells (G - (n + m)) := ⟨_, rfl⟩
 rw [← hG] at hrz ⊢
 rw [← hROW] at hrz ⊢
 have hRl : (n + m) * 5 ≤ ROW.size := by
  rw [hROW]
  simp [Builtin.zeroCells, hzc]
  omega
 obtain ⟨W1, hW1⟩ : ∃ W1, W1 = w.drew.alloc (.cells ROW 42) := ⟨_, rfl⟩
 rw [← hW1] at hrz
 have hN : ∀ j, j < (n + m) * 5 → (W1.cell? ⟨w.heap.size, j, none⟩).isSome = true := fun j hj => by
  rw [hW1, World.cell?_alloc_at (w := w.drew) ROW _ w.heap.size j rfl, Array.getElem?_eq_getElem (by omega)]; rfl
 have hNf : ∀ j, W1.frozen? ⟨w.heap.size, j, none⟩ = false := fun j => by rw [hW1]; exact World.frozen?_alloc_at (w := w.drew) ROW _ w.heap.size j rfl
 have hOb : ∀ j v, w.cell? ⟨b, j, none⟩ = some v → W1.cell? ⟨b, j, none⟩ = some v := fun j v h => by rw [hW1, World.cell?_alloc_past (w := w.drew) _ b j hbw]; exact h
 have hOv : ∀ j v, w.cell? ⟨vb, j, none⟩ = some v → W1.cell? ⟨vb, j, none⟩ = some v := fun j v h => by rw [hW1, World.cell?_alloc_past (w := w.drew) _ vb j hvw]; exact h
 have hcpA : ∀ (W : World), (∀ x, W.cell? x = W1.cell? x) → (∀ x, W.frozen? x = W1.frozen? x) → ∀ ty dc, (Builtin.copy_ #[23, 23] ty #[.slice (some ⟨w.heap.size, i * 5, none⟩) (n + m - i) dc, .slice (some ⟨vb, voff, none⟩) m vc]).run Tryz.prog W = .ok (goInt (m : Int)) (W.setCells w.heap.size (i * 5) vs) := fun W hWc hWf ty dc =>
  run_copy_n W _ _ ty 42 5 w.heap.size (i * 5) (n + m - i) dc ⟨vb, voff, none⟩ m vc m vs Tryz.underlying23 hsz (by simp only [Nat.min_def]; split <;> omega) hvl
   (fun j v hj => by rw [Addr.add_lit, hWc]; exact hOv _ v (hvs j v hj))
   (fun j hj => by rw [hWc]; exact hN _ (by omega)) (fun j hj => by rw [hWf]; exact hNf _) h1v
 have hGn : n + m ≤ G := by rw [hG]; exact grownCap_ge w _ _ _
 have hG63 : G ≤ 9223372036854775807 := by
  have := grownCap_le_maxLen w (n + m) c 42 (by unfold maxLen; omega)
  rw [← hG] at this
  unfold maxLen at this
  omega
 have hGi : ¬ (G = i) := by omega
 have hGim : ¬ (G = i + m) := by omega
 have hci : ¬ (c = i) := by omega
 have hbN : b ≠ w.heap.size := by omega
 have hdl : (cs.drop (i * 5)).length = (n - i) * 5 := by rw [List.length_drop, hcl]; omega
 have hcpB : ∀ (W : World), (∀ x, W.cell? x = (W1.setCells w.heap.size (i * 5) vs).cell? x) → (∀ x, W.frozen? x = (W1.setCells w.heap.size (i * 5) vs).frozen? x) → ∀ ty dc sc, (Builtin.copy_ #[23, 23] ty #[.slice (some ⟨w.heap.size, (i + m) * 5, none⟩) (n + m - (i + m)) dc, .slice (some ⟨b, off + i * 5, none⟩) (n - i) sc]).run Tryz.prog W = .ok (goInt ((n - i : Nat) : Int)) (W.setCells w.heap.size ((i + m) * 5) (cs.drop (i * 5))) := fun W hWc hWf ty dc sc =>
  run_copy_n W _ _ ty 42 5 w.heap.size ((i + m) * 5) (n + m - (i + m)) dc ⟨b, off + i * 5, none⟩ (n - i) sc (n - i) (cs.drop (i * 5)) Tryz.underlying23 hsz (by simp only [Nat.min_def]; split <;> omega) hdl
   (fun j v hj => by
    rw [Addr.add_lit, hWc, World.cell?_setCells_out _ _ _ _ _ (fun h _ => absurd h hbN), Nat.add_assoc]
    exact hOb _ v (hcs (i * 5 + j) v (by rwa [List.getElem?_drop] at hj)))
   (fun j hj => by rw [hWc]; exact isSome_setCells _ _ _ _ (fun t ht => hN _ (by omega)) _ (hN _ (by omega)))
   (fun j hj => by rw [hWf, World.frozen?_setCells]; exact hNf _) (fun v hv => h1c v (List.mem_of_mem_drop hv))
 subst hW1
 have hE1 : ∀ x, ((w.alloc (.cells ROW 42)).drew).cell? x = (w.drew.alloc (.cells ROW 42)).cell? x := fun x => rfl
 have hE2 : ∀ x, ((w.alloc (.cells ROW 42)).drew).frozen? x = (w.drew.alloc (.cells ROW 42)).frozen? x := fun x => rfl
 have hF1 : ∀ x, (((w.alloc (.cells ROW 42)).drew.setCells w.heap.size (i * 5) vs).drew).cell? x = ((w.drew.alloc (.cells ROW 42)).setCells w.heap.size (i * 5) vs).cell? x := fun x => rfl
 have hF2 : ∀ x, (((w.alloc (.cells ROW 42)).drew.setCells w.heap.size (i * 5) vs).drew).frozen? x = ((w.drew.alloc (.cells ROW 42)).setCells w.heap.size (i * 5) vs).frozen? x := fun x => rfl
 have hw1 : IntKind.i64.wrap ((i : Int) + (m : Int)) = (i : Int) + (m : Int) := by rw [IntKind.wrap_i64]; omega
 have hb1 : (0 : Int) ≤ (i : Int) + (m : Int) := by omega
 have hin : i ≤ n := by omega
 have htn : ((i : Int) + (m : Int)).toNat = i + m := by omega
 have hb3 : (i : Int) ≤ (n : Int) := by omega
 clear hkk hik hold hROW hG hRl
 go_enter Tryz.func101, Tryz.ntmps101
 go_wp2_with (first
  | (at_builtin; refine Lib.wpList_append_run _ rfl _ _ _ _ rfl _ _ rfl rfl _ _ (hrz _) ?_)
  | (at_builtin; refine wpList_copy_runI _ rfl _ _ 23 23 rfl _ _ rfl rfl (hcpA _ hE1 hE2 _ _) ?_)
  | (at_builtin; refine wpList_copy_runI _ rfl _ _ 23 23 rfl _ _ rfl rfl (hcpB _ (fun _ => rfl) (fun _ => rfl) _ _ _) ?_))
 go_region_law_o (refine step_copy_runI rfl _ _ 23 23 rfl (.slice (some ⟨w.heap.size, (i + m) * 5, none⟩) (n + m - (i + m)) (G - (i + m))) (.slice (some ⟨b, off + i * 5, none⟩) (n - i) (c - i)) (by simp [Act.eval, Act.put]) (by simp [Act.eval, Act.put]) (hcpB _ hF1 hF2 3 (G - (i + m)) (c - i)) ?_)
 go_wp2
 go_ret
 exact ⟨rfl, rfl⟩
set_option maxHeartbeats 4000000 in
set_option maxRecDepth 100000 in
/-- At the end: whatever append does. -/
theorem ins_end (v : Value) (base : Option Addr) (n c : Nat) (vb vc m : Nat) (v' : Value) (w w' : World) (hm : 0 < m) (hnc : n ≤ c)
  (hrun : ∀ ty, (Builtin.append_ #[23, 23] ty #[.slice base n c, .slice (some ⟨vb, 0, none⟩) m vc]).run Tryz.prog w = .ok v' w') (hsl : ∃ A N C, v' = .slice A N C) (hnil : base = none → n = 0) :
  Calls Tryz.prog 101 #[.slice base n c, .int .i64 n, .slice (some ⟨vb, 0, none⟩) m vc] w fun e w2 => e = .returned v' ∧ w2 = w' := by
 have u30 := run_underlying Tryz.underlying23
 have z49 := zq41
 have mixed := mixed_all
 have hz1 : ¬ ((m : Int) = 0) := by omega
 obtain ⟨A, N, C, rfl⟩ := hsl
 go_enter Tryz.func101, Tryz.ntmps101
 cases base with
 | none =>
  have h0 := hnil rfl
  subst h0
  go_wp2_with (at_builtin; refine Lib.wpList_append_run _ rfl _ _ _ _ rfl _ _ rfl rfl _ _ (hrun _) ?_)
  all_goals (go_ret; exact ⟨rfl, rfl⟩)
 | some a =>
  obtain ⟨ab, ao, asp⟩ := a
  go_wp2_with (at_builtin; refine Lib.wpList_append_run _ rfl _ _ _ _ rfl _ _ rfl rfl _ _ (hrun _) ?_)
  all_goals (go_ret; exact ⟨rfl, rfl⟩)
theorem ins_cells {arr : Array Value} {n i : Nat} {cs xs : List Value} (hi : i < n) (hcl : cs.length = n * 5) (hxl : xs.length = 5) (hsz : (n + 1) * 5 ≤ arr.size) (h0 : ∀ q, q < i * 5 → arr[q]? = cs[q]?) :
  (setArr (setArr arr ((i + 1) * 5) (cs.drop (i * 5))) (i * 5) xs).toList.take ((n + 1) * 5) = cs.take (i * 5) ++ xs ++ cs.drop (i * 5) ∧
  (setArr (setArr arr (i * 5) xs) ((i + 1) * 5) (cs.drop (i * 5))).toList.take ((n + 1) * 5) = cs.take (i * 5) ++ xs ++ cs.drop (i * 5) := by
 have hdl : (cs.drop (i * 5)).length = (n - i) * 5 := by rw [List.length_drop, hcl]; omega
 have hrhs : ∀ q : Nat, (cs.take (i * 5) ++ xs ++ cs.drop (i * 5))[q]? = if q < i * 5 then cs[q]? else if q < (i + 1) * 5 then xs[q - i * 5]? else (cs.drop (i * 5))[q - (i + 1) * 5]? := by
  intro q
  rw [List.append_assoc, List.getElem?_append, List.length_take, Nat.min_eq_left (by omega)]
  split
  ·rw [List.getElem?_take, if_pos (by assumption)]
  ·rw [List.getElem?_append, hxl]
   by_cases hq : q < (i + 1) * 5
   ·rw [if_pos (by omega), if_pos hq]
   ·rw [if_neg (by omega), if_neg hq]
    congr 1
    omega
 constructor
 ·apply List.ext_getElem?
  intro q
  rw [hrhs, List.getElem?_take]
  by_cases hq : q < (n + 1) * 5
  ·rw [if_pos hq, Array.getElem?_toList, setArr_get _ _ _ _ (by rw [zq39]; omega)]
   by_cases h1 : q < i * 5
   ·rw [if_neg (by omega), if_pos h1, setArr_get _ _ _ _ (by omega), if_neg (by omega), h0 q h1]
   ·rw [if_neg h1]
    by_cases h2 : q < (i + 1) * 5
    ·rw [if_pos (by omega), if_pos h2]
    ·rw [if_neg (by omega), if_neg h2, setArr_get _ _ _ _ (by omega), if_pos (by omega)]
  ·rw [if_neg hq, if_neg (by omega), if_neg (by omega), List.getElem?_eq_none (by omega)]
 ·apply List.ext_getElem?
  intro q
  rw [hrhs, List.getElem?_take]
  by_cases hq : q < (n + 1) * 5
  ·rw [if_pos hq, Array.getElem?_toList, setArr_get _ _ _ _ (by rw [zq39]; omega)]
   by_cases h1 : q < i * 5
   ·rw [if_neg (by omega), if_pos h1, setArr_get _ _ _ _ (by omega), if_neg (by omega), h0 q h1]
   ·rw [if_neg h1]
    by_cases h2 : q < (i + 1) * 5
    ·rw [if_neg (by omega), if_pos h2, setArr_get _ _ _ _ (by omega), if_pos (by omega)]
    ·rw [if_pos (by omega), if_neg h2]
  ·rw [if_neg hq, if_neg (by omega), if_neg (by omega), List.getElem?_eq_none (by omega)]
theorem ins_main (base : Nat) (w : World) (v u : Value) (n i : Nat) (cs xs : List Value) (h1 : w.ownsRow base 42 5 v n cs) (h2 : w.ownsRow base 42 5 u 1 xs) (hap : ∀ b, v.ownBlock = some b → u.ownBlock ≠ some b) (hc1 : ∀ x ∈ cs, oneC x = true) (hc2 : ∀ x ∈ xs, oneC x = true)
  (hbase : base ≤ w.heap.size) (hin : i ≤ n) (hbig : n + 1 ≤ 274877906944) :
  Calls Tryz.prog 101 #[v, .int .i64 (i : Int), u] w fun r w' => ∃ v', r = .returned v' ∧ w'.ownsRow base 42 5 v' (n + 1) (cs.take (i * 5) ++ xs ++ cs.drop (i * 5)) ∧ w.grownBy w' v.ownBlock ∧ (∀ b, v'.ownBlock = some b → v.ownBlock = some b ∨ w.heap.size ≤ b) := by
 obtain ⟨i0, hi0, hz⟩ := Option.map_eq_some_iff.1 infoOf_yardarm_api_Lease
 simp only [Prod.mk.injEq] at hz
 obtain ⟨hzc, hzs, hzb⟩ := hz
 obtain ⟨z, hz0, hzc⟩ := Option.map_eq_some_iff.1 hzc
 have hcl := h1.1
 have hxl : xs.length = 5 := by have := h2.1; omega
 rcases h2.2 with ⟨_, h0⟩ | ⟨vb, vc, curv, rfl, hvbase, hvheap, hvc, hvcm, hvsz, hvtake⟩
 ·cases h0
 have hvs : ∀ j x, xs[j]? = some x → w.cell? ⟨vb, 0 + j, none⟩ = some x := by
  intro j x hj
  rw [Nat.zero_add, zq15 hvheap, ← Array.getElem?_toList]
  rw [← hvtake, List.getElem?_take] at hj
  split at hj
  ·exact hj
  ·cases hj
 have h1v : ∀ x ∈ xs, x.oneCell' = true := fun x hx => oneC_cell' (hc2 x hx)
 have h1c : ∀ x ∈ cs, x.oneCell' = true := fun x hx => oneC_cell' (hc1 x hx)
 by_cases hine : i = n
 ·subst hine
  have htd : cs.take (i * 5) ++ xs ++ cs.drop (i * 5) = cs ++ xs := by rw [List.take_of_length_le (by omega), List.drop_of_length_le (by omega), List.append_nil]
  rw [htd]
  have hown5 : w.ownsRow base 42 i0.size v i cs := by rw [hzs]; exact h1
  obtain ⟨v', w', hrun, hown', hgb, hblk⟩ := append_own (P := Tryz.prog) w base 23 0 42 i0 z Tryz.underlying23 hi0 hz0 (by rw [hzs]; exact hzc) (by omega) v i cs hown5 (some ⟨vb, 0, none⟩) 1 vc xs (by rw [hzs]; omega) (by simp)
   (fun ad had j x hj => by
    cases had
    rw [add_zero_addr]
    exact hvs j x hj) h1v (by unfold maxLen; omega) (by rw [hzb]; omega) hbase
  have hrun' : ∀ ty, (Builtin.append_ #[23, 23] ty #[v, .slice (some ⟨vb, 0, none⟩) 1 vc]).run Tryz.prog w = .ok v' w' := fun ty => by
   rw [← hrun]
   rfl
  rw [hzs] at hown'
  have hsl : ∃ A N C, v' = .slice A N C := by
   rcases hown'.2 with ⟨h, _⟩ | ⟨g, cp, cur, h, _⟩
   ·exact ⟨_, _, _, h⟩
   ·exact ⟨_, _, _, h⟩
  have hv : ∃ A c, v = .slice A i c ∧ i ≤ c ∧ (A = none → i = 0) := by
   rcases h1.2 with ⟨h, h0⟩ | ⟨g, cp, cur, h, _, _, hc, _⟩
   ·exact ⟨none, 0, by rw [h, h0], by omega, fun _ => h0⟩
   ·exact ⟨_, cp, h, hc, fun h => by cases h⟩
  obtain ⟨A, c, rfl, hc, hnil⟩ := hv
  refine (ins_end (.slice A i c) A i c vb vc 1 v' w w' (by omega) hc hrun' hsl hnil).mono ?_
  rintro e w2 ⟨rfl, rfl⟩
  exact ⟨v', rfl, hown', hgb, hblk⟩
 ·have hi : i < n := by omega
  rcases h1.2 with ⟨_, h0⟩ | ⟨g, cap, cur, rfl, hgbase, hgheap, hnc, hcm, hgsz, hgtake⟩
  ·omega
  have hvbg : vb ≠ g := fun e => hap g rfl (by rw [e]; rfl)
  have hcs : ∀ j x, cs[j]? = some x → w.cell? ⟨g, 0 + j, none⟩ = some x := by
   intro j x hj
   rw [Nat.zero_add, zq15 hgheap, ← Array.getElem?_toList]
   rw [← hgtake, List.getElem?_take] at hj
   split at hj
   ·exact hj
   ·cases hj
  by_cases hroom : n + 1 ≤ cap
  ·refine (ins_shift g 0 n cap i vb 0 1 vc cs xs w hi (by omega) hroom (by unfold maxLen at hcm; omega) hvbg hcl (by omega) hcs
    (fun j hj => by rw [Nat.zero_add, zq15 hgheap, Array.getElem?_eq_getElem (by omega)]; rfl) (fun j hj => by simp [World.frozen?, hgheap]) hvs h1c h1v 42 42 curv.size cur.size
    (by simp [World.shape?, hvheap]) (by simp [World.shape?, hgheap]) (by omega) (by simp [World.frozen?, hvheap]) (by simp [World.frozen?, hvheap])).mono ?_
   rintro e w' ⟨rfl, rfl⟩
   have hg0 : w.drew.heap[g]? = some (.cells cur 42 (0, 0)) := hgheap
   obtain ⟨a1, a2, a3, a4, a5, a6⟩ := zq40 w.drew g (0 + (i + 1) * 5) (cs.drop (i * 5)) cur 42 (0, 0) hg0
   obtain ⟨b1, b2, b3, b4, b5, b6⟩ := zq40 _ g (0 + i * 5) xs _ 42 (0, 0) a1
   have hdl : (cs.drop (i * 5)).length = (n - i) * 5 := by rw [List.length_drop, hcl]; omega
   refine ⟨_, rfl, ⟨?_, .inr ⟨g, cap, _, rfl, hgbase, b1, hroom, hcm, by rw [zq39, zq39]; exact hgsz, ?_⟩⟩, ⟨b4.trans a4, b5.trans a5, b6.trans a6, by rw [b3, a3]; exact Nat.le_refl _, fun k hk hne => ?_⟩, fun b hb => .inl hb⟩
   ·simp only [List.length_append, List.length_take, hdl, hxl]; omega
   ·rw [Nat.zero_add, Nat.zero_add]
    refine (ins_cells hi hcl hxl (by omega) fun q hq => ?_).1
    rw [← hgtake, List.getElem?_take, if_pos (by omega), Array.getElem?_toList]
   ·have hkg : k ≠ g := fun e => hne (by rw [e]; rfl)
    exact (b2 k hkg).trans (a2 k hkg)
  ·refine (ins_grow g 0 n cap i vb 0 1 vc cs xs z (by rw [hi0]; simp [hz0]) w hi (by omega) hnc (by omega) (by omega) hcl (by omega) hcs hvs h1c h1v).mono ?_
   rintro e w' ⟨rfl, rfl⟩
   obtain ⟨G, hG⟩ : ∃ G, G = grownCap w (n + 1) cap 42 := ⟨_, rfl⟩
   have hGn : n + 1 ≤ G := by rw [hG]; exact grownCap_ge w _ _ _
   have hG63 : G ≤ maxLen := by rw [hG]; exact grownCap_le_maxLen w (n + 1) cap 42 (by unfold maxLen; omega)
   rw [← hG]
   obtain ⟨ROW, hROW⟩ : ∃ ROW : Array Value, ROW = (cs.take (i * 5)).toArray ++ Builtin.zeroCells z.cells (n + 1 - i) ++ Builtin.zeroCells z.cells (G - (n + 1)) := ⟨_, rfl⟩
   rw [← hROW]
   have hRs : ROW.size = G * 5 := by
    rw [hROW]
    simp [Builtin.zeroCells, hzc]
    omega
   have hR0 : ∀ q, q < i * 5 → ROW[q]? = cs[q]? := fun q hq => by
    rw [hROW, Array.append_assoc, Array.getElem?_append_left (by simp; omega)]
    simp only [List.getElem?_toArray, List.getElem?_take, if_pos hq]
   have hh : ((w.alloc (.cells ROW 42)).drew).heap[w.heap.size]? = some (.cells ROW 42 (0, 0)) := by
    show (w.heap.push _)[w.heap.size]? = _
    exact Array.getElem?_push_size
   obtain ⟨a1, a2, a3, a4, a5, a6⟩ := zq40 _ w.heap.size (i * 5) xs ROW 42 (0, 0) hh
   have a1' : (((w.alloc (.cells ROW 42)).drew.setCells w.heap.size (i * 5) xs).drew).heap[w.heap.size]? = _ := a1
   obtain ⟨b1, b2, b3, b4, b5, b6⟩ := zq40 _ w.heap.size ((i + 1) * 5) (cs.drop (i * 5)) _ 42 (0, 0) a1'
   have hdl : (cs.drop (i * 5)).length = (n - i) * 5 := by rw [List.length_drop, hcl]; omega
   have hold : ∀ k, k < w.heap.size → ((w.alloc (.cells ROW 42)).drew).heap[k]? = w.heap[k]? := fun k hk => by
    show (w.heap.push _)[k]? = _
    rw [Array.getElem?_push, if_neg (by omega)]
   refine ⟨_, rfl, ⟨?_, .inr ⟨w.heap.size, G, _, rfl, hbase, b1, hGn, hG63, by rw [zq39, zq39]; exact hRs, ?_⟩⟩, ⟨b4.trans a4, b5.trans a5, b6.trans a6, ?_, fun k hk hne => ?_⟩, fun b hb => .inr ?_⟩
   ·simp only [List.length_append, List.length_take, hdl, hxl]; omega
   ·exact (ins_cells hi hcl hxl (by omega) hR0).2
   ·rw [b3]
    show w.heap.size ≤ ((w.alloc (.cells ROW 42)).drew.setCells w.heap.size (i * 5) xs).heap.size
    rw [a3]
    show w.heap.size ≤ (w.heap.push _).size
    simp
   ·exact ((b2 k (by omega)).trans (a2 k (by omega))).trans (hold k hk)
   ·cases hb
    exact Nat.le_refl _
noncomputable def slices_Insert___api_Lease_api_Lease__con : Con := insCon .lease 42
theorem slices_Insert___api_Lease_api_Lease__ok : TrOk Tryz.prog 101 slices_Insert___api_Lease_api_Lease__con := ins_ok .lease 42 ins_main
end Go.Proofs.YtbajhmdekihagaaGreat
namespace Go.Proofs.YtbajhmdekihagaaGreat
open Go Go.Ma
noncomputable def addr_Check_env : Env := mkEnv ty fnB [] []
theorem addr_Check_envOk : EnvOk Tryz.prog addr_Check_env := envOk tyOk fn_ok callsNil _
noncomputable def addr_Check_con : Con := con [.one (.fl .addr)] [.one (.fl .int)] (fun x => addr_Check_t x.1)
theorem addr_Check_ok : TrOk Tryz.prog 41 addr_Check_con := by
 have h : loopsOf (codeOf Tryz.f41) = [] := by kernel_rfl
 refine con_ok addr_Check_envOk Tryz.func41 (bodyOk h lsNil) [.one (.fl .addr)] [.one (.fl .int)] _ (fun x => ?_)
 kernel_rfl
noncomputable def prefix_Wide_env : Env := mkEnv ty fnB [] []
theorem prefix_Wide_envOk : EnvOk Tryz.prog prefix_Wide_env := envOk tyOk fn_ok callsNil _
noncomputable def prefix_Wide_con : Con := con [.one (.fl .addr)] [.one (.fl .int)] (fun x => prefix_Wide_t x.1)
theorem prefix_Wide_ok : TrOk Tryz.prog 64 prefix_Wide_con := by
 have h : loopsOf (codeOf Tryz.f64) = [] := by kernel_rfl
 refine con_ok prefix_Wide_envOk Tryz.func64 (bodyOk h lsNil) [.one (.fl .addr)] [.one (.fl .int)] _ (fun x => ?_)
 kernel_rfl
noncomputable def prefix_mask_env : Env := mkEnv ty fnB [(64, prefix_Wide_con)] []
theorem prefix_mask_envOk : EnvOk Tryz.prog prefix_mask_env := envOk tyOk fn_ok (callsCons prefix_Wide_ok callsNil) _
noncomputable def prefix_mask_con : Con := con [.one (.fl .addr), .one (.fl .int)] [.one (.fl .addr)] (fun x => prefix_mask_t x.1 x.2.1)
theorem prefix_mask_ok : TrOk Tryz.prog 77 prefix_mask_con := by
 have h : loopsOf (codeOf Tryz.f77) = [] := by kernel_rfl
 refine con_ok prefix_mask_envOk Tryz.func77 (bodyOk h lsNil) [.one (.fl .addr), .one (.fl .int)] [.one (.fl .addr)] _ (fun x => ?_)
 kernel_rfl
noncomputable def prefix_Cut_env : Env := mkEnv ty fnB [(77, prefix_mask_con)] []
theorem prefix_Cut_envOk : EnvOk Tryz.prog prefix_Cut_env := envOk tyOk fn_ok (callsCons prefix_mask_ok callsNil) _
noncomputable def prefix_Cut_con : Con := con [.one (.fl .addr), .one (.fl .int)] [.one (.fl .addr)] (fun x => prefix_Cut_t x.1 x.2.1)
theorem prefix_Cut_ok : TrOk Tryz.prog 65 prefix_Cut_con := by
 have h : loopsOf (codeOf Tryz.f65) = [] := by kernel_rfl
 refine con_ok prefix_Cut_envOk Tryz.func65 (bodyOk h lsNil) [.one (.fl .addr), .one (.fl .int)] [.one (.fl .addr)] _ (fun x => ?_)
 kernel_rfl
noncomputable def prefix_Check_env : Env := mkEnv ty fnB [(41, addr_Check_con), (64, prefix_Wide_con), (65, prefix_Cut_con)] []
theorem prefix_Check_envOk : EnvOk Tryz.prog prefix_Check_env := envOk tyOk fn_ok (callsCons addr_Check_ok (callsCons prefix_Wide_ok (callsCons prefix_Cut_ok callsNil))) _
noncomputable def prefix_Check_con : Con := con [.one (.fl .pfx)] [.one (.fl .int)] (fun x => prefix_Check_t x.1)
theorem prefix_Check_ok : TrOk Tryz.prog 39 prefix_Check_con := by
 have h : loopsOf (codeOf Tryz.f39) = [] := by kernel_rfl
 refine con_ok prefix_Check_envOk Tryz.func39 (bodyOk h lsNil) [.one (.fl .pfx)] [.one (.fl .int)] _ (fun x => ?_)
 kernel_rfl
noncomputable def lease_Narrow_env : Env := mkEnv ty fnB [(64, prefix_Wide_con)] []
theorem lease_Narrow_envOk : EnvOk Tryz.prog lease_Narrow_env := envOk tyOk fn_ok (callsCons prefix_Wide_ok callsNil) _
noncomputable def lease_Narrow_con : Con := con [.one (.fl .pfx)] [.one (.fl .bool)] (fun x => lease_Narrow_t x.1)
theorem lease_Narrow_ok : TrOk Tryz.prog 40 lease_Narrow_con := by
 have h : loopsOf (codeOf Tryz.f40) = [] := by kernel_rfl
 refine con_ok lease_Narrow_envOk Tryz.func40 (bodyOk h lsNil) [.one (.fl .pfx)] [.one (.fl .bool)] _ (fun x => ?_)
 kernel_rfl
noncomputable def prefix_Holds_env : Env := mkEnv ty fnB [(65, prefix_Cut_con)] []
theorem prefix_Holds_envOk : EnvOk Tryz.prog prefix_Holds_env := envOk tyOk fn_ok (callsCons prefix_Cut_ok callsNil) _
noncomputable def prefix_Holds_con : Con := con [.one (.fl .pfx), .one (.fl .addr)] [.one (.fl .bool)] (fun x => prefix_Holds_t x.1 x.2.1)
theorem prefix_Holds_ok : TrOk Tryz.prog 55 prefix_Holds_con := by
 have h : loopsOf (codeOf Tryz.f55) = [] := by kernel_rfl
 refine con_ok prefix_Holds_envOk Tryz.func55 (bodyOk h lsNil) [.one (.fl .pfx), .one (.fl .addr)] [.one (.fl .bool)] _ (fun x => ?_)
 kernel_rfl
noncomputable def addr_Order_1_env : Env := mkEnv ty fnB [] []
theorem addr_Order_1_envOk : EnvOk Tryz.prog addr_Order_1_env := envOk tyOk fn_ok callsNil _
noncomputable def addr_Order_1_con : Con := con [.one (.fl .u64), .one (.fl .u64)] [.one (.fl .int)] (fun x => addr_Order_1_t x.1 x.2.1)
theorem addr_Order_1_ok : TrOk Tryz.prog 75 addr_Order_1_con := by
 have h : loopsOf (codeOf Tryz.f75) = [] := by kernel_rfl
 refine con_ok addr_Order_1_envOk Tryz.func75 (bodyOk h lsNil) [.one (.fl .u64), .one (.fl .u64)] [.one (.fl .int)] _ (fun x => ?_)
 kernel_rfl
noncomputable def addr_Order_env : Env := mkEnv ty fnB [(75, addr_Order_1_con)] []
theorem addr_Order_envOk : EnvOk Tryz.prog addr_Order_env := envOk tyOk fn_ok (callsCons addr_Order_1_ok callsNil) _
noncomputable def addr_Order_con : Con := con [.one (.fl .addr), .one (.fl .addr)] [.one (.fl .int)] (fun x => addr_Order_t x.1 x.2.1)
theorem addr_Order_ok : TrOk Tryz.prog 56 addr_Order_con := by
 have h : loopsOf (codeOf Tryz.f56) = [] := by kernel_rfl
 refine con_ok addr_Order_envOk Tryz.func56 (bodyOk h lsNil) [.one (.fl .addr), .one (.fl .addr)] [.one (.fl .int)] _ (fun x => ?_)
 kernel_rfl
def lease_Pool_L7_S : LoopS := { n := 57, base := 1, head := { keep := [1, 24, 25, 26], vals := [.one (.cst (.ptr 1 0)), .one (.cst (.row 0)), .one (.fl .int), .one (.fl .int)], objs := [.row .addr 28 false, .blk [.fl .bool, .fl .u64, .fl .u64, .fl .int, .cst (.row 0)] 46 true] }, exits := [⟨none, { keep := [2], vals := [.one (.fl .int)], objs := [.row .addr 28 false] }⟩, ⟨some 0, { keep := [], vals := [], objs := [.row .addr 28 false] }⟩] }
noncomputable def lease_Pool_env : Env := mkEnv ty fnB [(39, prefix_Check_con), (40, lease_Narrow_con), (41, addr_Check_con), (55, prefix_Holds_con), (56, addr_Order_con)] [(7, (loopTr lease_Pool_L7_S (loopN lease_Pool_L7 FUEL)))]
theorem lease_Pool_envOk : EnvOk Tryz.prog lease_Pool_env := envOk tyOk fn_ok (callsCons prefix_Check_ok (callsCons lease_Narrow_ok (callsCons addr_Check_ok (callsCons prefix_Holds_ok (callsCons addr_Order_ok callsNil))))) _
theorem lease_Pool_L7_ok : LOk Tryz.prog (nthLoop (codeOf Tryz.f31) 0) (loopTr lease_Pool_L7_S (loopN lease_Pool_L7 FUEL)) := by
 have h : loopsOf (nthLoop (codeOf Tryz.f31) 0) = [] := by kernel_rfl
 refine loop_ok lease_Pool_envOk (loopsOk h lsNil) lease_Pool_L7_S lease_Pool_L7 FUEL (fun rec x => ?_)
 kernel_rfl
noncomputable def lease_Pool_con : Con := con [.agg [.fl .pfx, .row .addr 28]] [.one (.fl .int)] (fun x => lease_Pool_t x.1.1 x.1.2.1)
theorem lease_Pool_ok : TrOk Tryz.prog 31 lease_Pool_con := by
 have h : loopsOf (codeOf Tryz.f31) = [(nthLoop (codeOf Tryz.f31) 0)] := by kernel_rfl
 refine con_ok lease_Pool_envOk Tryz.func31 (bodyOk h (lsCons (one_loop (t := (loopTr lease_Pool_L7_S (loopN lease_Pool_L7 FUEL))) (by kernel_rfl) lease_Pool_L7_ok) lsNil)) [.agg [.fl .pfx, .row .addr 28]] [.one (.fl .int)] _ (fun x => ?_)
 kernel_rfl
noncomputable def prefix_Order_env : Env := mkEnv ty fnB [(56, addr_Order_con)] []
theorem prefix_Order_envOk : EnvOk Tryz.prog prefix_Order_env := envOk tyOk fn_ok (callsCons addr_Order_ok callsNil) _
noncomputable def prefix_Order_con : Con := con [.one (.fl .pfx), .one (.fl .pfx)] [.one (.fl .int)] (fun x => prefix_Order_t x.1 x.2.1)
theorem prefix_Order_ok : TrOk Tryz.prog 32 prefix_Order_con := by
 have h : loopsOf (codeOf Tryz.f32) = [] := by kernel_rfl
 refine con_ok prefix_Order_envOk Tryz.func32 (bodyOk h lsNil) [.one (.fl .pfx), .one (.fl .pfx)] [.one (.fl .int)] _ (fun x => ?_)
 kernel_rfl
noncomputable def prefix_Over_env : Env := mkEnv ty fnB [(55, prefix_Holds_con)] []
theorem prefix_Over_envOk : EnvOk Tryz.prog prefix_Over_env := envOk tyOk fn_ok (callsCons prefix_Holds_ok callsNil) _
noncomputable def prefix_Over_con : Con := con [.one (.fl .pfx), .one (.fl .pfx)] [.one (.fl .bool)] (fun x => prefix_Over_t x.1 x.2.1)
theorem prefix_Over_ok : TrOk Tryz.prog 57 prefix_Over_con := by
 have h : loopsOf (codeOf Tryz.f57) = [] := by kernel_rfl
 refine con_ok prefix_Over_envOk Tryz.func57 (bodyOk h lsNil) [.one (.fl .pfx), .one (.fl .pfx)] [.one (.fl .bool)] _ (fun x => ?_)
 kernel_rfl
noncomputable def prefix_Meet_env : Env := mkEnv ty fnB [(57, prefix_Over_con)] []
theorem prefix_Meet_envOk : EnvOk Tryz.prog prefix_Meet_env := envOk tyOk fn_ok (callsCons prefix_Over_ok callsNil) _
noncomputable def prefix_Meet_con : Con := con [.one (.fl .pfx), .one (.fl .pfx)] [.one (.fl .bool)] (fun x => prefix_Meet_t x.1 x.2.1)
theorem prefix_Meet_ok : TrOk Tryz.prog 33 prefix_Meet_con := by
 have h : loopsOf (codeOf Tryz.f33) = [] := by kernel_rfl
 refine con_ok prefix_Meet_envOk Tryz.func33 (bodyOk h lsNil) [.one (.fl .pfx), .one (.fl .pfx)] [.one (.fl .bool)] _ (fun x => ?_)
 kernel_rfl
noncomputable def state_within_env : Env := mkEnv ty fnB [] []
theorem state_within_envOk : EnvOk Tryz.prog state_within_env := envOk tyOk fn_ok callsNil _
noncomputable def state_within_con : Con := con [.one (.fl .int), .one (.fl .int), .one (.fl .int)] [.one (.fl .bool)] (fun x => state_within_t x.1 x.2.1 x.2.2.1)
theorem state_within_ok : TrOk Tryz.prog 34 state_within_con := by
 have h : loopsOf (codeOf Tryz.f34) = [] := by kernel_rfl
 refine con_ok state_within_envOk Tryz.func34 (bodyOk h lsNil) [.one (.fl .int), .one (.fl .int), .one (.fl .int)] [.one (.fl .bool)] _ (fun x => ?_)
 kernel_rfl
noncomputable def lease_within_env : Env := mkEnv ty fnB [] []
theorem lease_within_envOk : EnvOk Tryz.prog lease_within_env := envOk tyOk fn_ok callsNil _
noncomputable def lease_within_con : Con := con [.one (.fl .int), .one (.fl .int), .one (.fl .int)] [.one (.fl .bool)] (fun x => lease_within_t x.1 x.2.1 x.2.2.1)
theorem lease_within_ok : TrOk Tryz.prog 59 lease_within_con := by
 have h : loopsOf (codeOf Tryz.f59) = [] := by kernel_rfl
 refine con_ok lease_within_envOk Tryz.func59 (bodyOk h lsNil) [.one (.fl .int), .one (.fl .int), .one (.fl .int)] [.one (.fl .bool)] _ (fun x => ?_)
 kernel_rfl
def lease_Who_L2_S : LoopS := { n := 33, base := 0, head := { keep := [0, 6, 7], vals := [.one (.fl .str), .one (.fl .int), .one (.fl .int)], objs := [] }, exits := [⟨none, { keep := [2], vals := [.one (.fl .bool)], objs := [] }⟩, ⟨some 0, { keep := [0], vals := [.one (.fl .str)], objs := [] }⟩] }
noncomputable def lease_Who_env : Env := mkEnv ty fnB [(59, lease_within_con)] [(2, (loopTr lease_Who_L2_S (loopN lease_Who_L2 FUEL)))]
theorem lease_Who_envOk : EnvOk Tryz.prog lease_Who_env := envOk tyOk fn_ok (callsCons lease_within_ok callsNil) _
theorem lease_Who_L2_ok : LOk Tryz.prog (nthLoop (codeOf Tryz.f42) 0) (loopTr lease_Who_L2_S (loopN lease_Who_L2 FUEL)) := by
 have h : loopsOf (nthLoop (codeOf Tryz.f42) 0) = [] := by kernel_rfl
 refine loop_ok lease_Who_envOk (loopsOk h lsNil) lease_Who_L2_S lease_Who_L2 FUEL (fun rec x => ?_)
 kernel_rfl
noncomputable def lease_Who_con : Con := con [.one (.fl .str)] [.one (.fl .bool)] (fun x => lease_Who_t x.1)
theorem lease_Who_ok : TrOk Tryz.prog 42 lease_Who_con := by
 have h : loopsOf (codeOf Tryz.f42) = [(nthLoop (codeOf Tryz.f42) 0)] := by kernel_rfl
 refine con_ok lease_Who_envOk Tryz.func42 (bodyOk h (lsCons (one_loop (t := (loopTr lease_Who_L2_S (loopN lease_Who_L2 FUEL))) (by kernel_rfl) lease_Who_L2_ok) lsNil)) [.one (.fl .str)] [.one (.fl .bool)] _ (fun x => ?_)
 kernel_rfl
noncomputable def lease_one_env : Env := mkEnv ty fnB [(41, addr_Check_con), (42, lease_Who_con), (59, lease_within_con)] []
theorem lease_one_envOk : EnvOk Tryz.prog lease_one_env := envOk tyOk fn_ok (callsCons addr_Check_ok (callsCons lease_Who_ok (callsCons lease_within_ok callsNil))) _
noncomputable def lease_one_con : Con := con [.one (.fl .lease)] [.one (.fl .int)] (fun x => lease_one_t x.1)
theorem lease_one_ok : TrOk Tryz.prog 58 lease_one_con := by
 have h : loopsOf (codeOf Tryz.f58) = [] := by kernel_rfl
 refine con_ok lease_one_envOk Tryz.func58 (bodyOk h lsNil) [.one (.fl .lease)] [.one (.fl .int)] _ (fun x => ?_)
 kernel_rfl
def lease_All_L4_S : LoopS := { n := 46, base := 1, head := { keep := [0, 1, 12, 13, 14], vals := [.one (.cst (.row 0)), .one (.fl .int), .one (.cst (.row 0)), .one (.fl .int), .one (.fl .int)], objs := [.row .lease 42 false] }, exits := [⟨none, { keep := [4], vals := [.one (.fl .int)], objs := [.row .lease 42 false] }⟩, ⟨some 0, { keep := [0, 1], vals := [.one (.cst (.row 0)), .one (.fl .int)], objs := [.row .lease 42 false] }⟩] }
def lease_All_L11_S : LoopS := { n := 46, base := 1, head := { keep := [0, 1, 8], vals := [.one (.cst (.row 0)), .one (.fl .int), .one (.fl .int)], objs := [.row .lease 42 false] }, exits := [⟨none, { keep := [4], vals := [.one (.fl .int)], objs := [.row .lease 42 false] }⟩, ⟨some 2, { keep := [1], vals := [.one (.fl .int)], objs := [.row .lease 42 false] }⟩] }
noncomputable def lease_All_env : Env := mkEnv ty fnB [(58, lease_one_con), (56, addr_Order_con), (59, lease_within_con)] [(4, (loopTr lease_All_L4_S (loopN lease_All_L4 FUEL))), (11, (loopTr lease_All_L11_S (loopN lease_All_L11 FUEL)))]
theorem lease_All_envOk : EnvOk Tryz.prog lease_All_env := envOk tyOk fn_ok (callsCons lease_one_ok (callsCons addr_Order_ok (callsCons lease_within_ok callsNil))) _
theorem lease_All_L11_ok : LOk Tryz.prog (nthLoop (codeOf Tryz.f35) 1) (loopTr lease_All_L11_S (loopN lease_All_L11 FUEL)) := by
 have h : loopsOf (nthLoop (codeOf Tryz.f35) 1) = [] := by kernel_rfl
 refine loop_ok lease_All_envOk (loopsOk h lsNil) lease_All_L11_S lease_All_L11 FUEL (fun rec x => ?_)
 kernel_rfl
theorem lease_All_L4_ok : LOk Tryz.prog (nthLoop (codeOf Tryz.f35) 0) (loopTr lease_All_L4_S (loopN lease_All_L4 FUEL)) := by
 have h : loopsOf (nthLoop (codeOf Tryz.f35) 0) = [] := by kernel_rfl
 refine loop_ok lease_All_envOk (loopsOk h lsNil) lease_All_L4_S lease_All_L4 FUEL (fun rec x => ?_)
 kernel_rfl
noncomputable def lease_All_con : Con := con [.one (.row .lease 42), .one (.fl .int)] [.one (.fl .int)] (fun x => lease_All_t x.1 x.2.1)
theorem lease_All_ok : TrOk Tryz.prog 35 lease_All_con := by
 have h : loopsOf (codeOf Tryz.f35) = [(nthLoop (codeOf Tryz.f35) 0), (nthLoop (codeOf Tryz.f35) 1)] := by kernel_rfl
 refine con_ok lease_All_envOk Tryz.func35 (bodyOk h (lsCons (one_loop (t := (loopTr lease_All_L4_S (loopN lease_All_L4 FUEL))) (by kernel_rfl) lease_All_L4_ok) (lsCons (one_loop (t := (loopTr lease_All_L11_S (loopN lease_All_L11 FUEL))) (by kernel_rfl) lease_All_L11_ok) lsNil))) [.one (.row .lease 42), .one (.fl .int)] [.one (.fl .int)] _ (fun x => ?_)
 kernel_rfl
noncomputable def state_poolOf_1_env : Env := mkEnv ty fnB [(55, prefix_Holds_con)] []
theorem state_poolOf_1_envOk : EnvOk Tryz.prog state_poolOf_1_env := envOk tyOk fn_ok (callsCons prefix_Holds_ok callsNil) _
noncomputable def state_poolOf_1_con : Con := con [.agg [.fl .pfx, .row .addr 28], .ref [.fl .addr] 28] [.one (.fl .bool)] (fun x => state_poolOf_1_t x.1.1 x.1.2.1 x.2.1.1)
theorem state_poolOf_1_ok : TrOk Tryz.prog 61 state_poolOf_1_con := by
 have h : loopsOf (codeOf Tryz.f61) = [] := by kernel_rfl
 refine con_ok state_poolOf_1_envOk Tryz.func61 (bodyOk h lsNil) [.agg [.fl .pfx, .row .addr 28], .ref [.fl .addr] 28] [.one (.fl .bool)] _ (fun x => ?_)
 kernel_rfl
def zq80 : LoopS := { n := 19, base := 5, head := { keep := [0, 1, 7, 8], vals := [.one (.cst (.row 1)), .one (.cst (.fn 61 [.ptr 4 0])), .one (.fl .int), .one (.fl .int)], objs := [.bag .addr 28 false false, .nest .pfx 0 46 false, .row .lease 42 false, .blk [.cst (.row 1), .cst (.row 2), .fl .int] 25 true, .blk [.fl .addr] 28 true] }, exits := [⟨none, { keep := [4], vals := [.one (.fl .int)], objs := [.bag .addr 28 false false, .nest .pfx 0 46 false, .row .lease 42 false, .blk [.cst (.row 1), .cst (.row 2), .fl .int] 25 true, .blk [.fl .addr] 28 true] }⟩, ⟨some 0, { keep := [], vals := [], objs := [.bag .addr 28 false false, .nest .pfx 0 46 false, .row .lease 42 false, .blk [.cst (.row 1), .cst (.row 2), .fl .int] 25 true, .blk [.fl .addr] 28 true] }⟩] }
noncomputable def zq81 : Env := mkEnv ty fnB [(61, state_poolOf_1_con)] [(2, (loopTr zq80 (loopN zq79 FUEL)))]
theorem zq82 : EnvOk Tryz.prog zq81 := envOk tyOk fn_ok (callsCons state_poolOf_1_ok callsNil) _
theorem state_poolOf_slices_IndexFunc___api_Pool_api_Pool__L2_ok : LOk Tryz.prog (nthLoop (codeOf Tryz.f60) 0) (loopTr zq80 (loopN zq79 FUEL)) := by
 have h : loopsOf (nthLoop (codeOf Tryz.f60) 0) = [] := by kernel_rfl
 refine loop_ok zq82 (loopsOk h lsNil) zq80 zq79 FUEL (fun rec x => ?_)
 kernel_rfl
theorem state_poolOf_slices_IndexFunc___api_Pool_api_Pool__inl : TrOk Tryz.prog 60 (inlCon zq81 Tryz.f60) := by
 have h : loopsOf (codeOf Tryz.f60) = [(nthLoop (codeOf Tryz.f60) 0)] := by kernel_rfl
 exact inl_ok zq82 Tryz.func60 (bodyOk h (lsCons (one_loop (t := (loopTr zq80 (loopN zq79 FUEL))) (by kernel_rfl) state_poolOf_slices_IndexFunc___api_Pool_api_Pool__L2_ok) lsNil))
noncomputable def state_poolOf_env : Env := mkEnv ty fnB [(60, (inlCon zq81 Tryz.f60))] []
theorem state_poolOf_envOk : EnvOk Tryz.prog state_poolOf_env := envOk tyOk fn_ok (callsCons state_poolOf_slices_IndexFunc___api_Pool_api_Pool__inl callsNil) _
noncomputable def state_poolOf_con : Con := con [.agg [.nest .pfx .addr 46 28 true, .row .lease 42, .fl .int], .one (.fl .addr)] [.one (.fl .int)] (fun x => state_poolOf_t x.1.1 x.1.2.1 x.1.2.2.1 x.2.1)
theorem state_poolOf_ok : TrOk Tryz.prog 36 state_poolOf_con := by
 have h : loopsOf (codeOf Tryz.f36) = [] := by kernel_rfl
 refine con_ok state_poolOf_envOk Tryz.func36 (bodyOk h lsNil) [.agg [.nest .pfx .addr 46 28 true, .row .lease 42, .fl .int], .one (.fl .addr)] [.one (.fl .int)] _ (fun x => ?_)
 kernel_rfl
noncomputable def state_extra_env : Env := mkEnv ty fnB [] []
theorem state_extra_envOk : EnvOk Tryz.prog state_extra_env := envOk tyOk fn_ok callsNil _
noncomputable def state_extra_con : Con := con [.one (.fl .op)] [.one (.fl .bool)] (fun x => state_extra_t x.1)
theorem state_extra_ok : TrOk Tryz.prog 38 state_extra_con := by
 have h : loopsOf (codeOf Tryz.f38) = [] := by kernel_rfl
 refine con_ok state_extra_envOk Tryz.func38 (bodyOk h lsNil) [.one (.fl .op)] [.one (.fl .bool)] _ (fun x => ?_)
 kernel_rfl
noncomputable def state_Form_env : Env := mkEnv ty fnB [(34, state_within_con), (38, state_extra_con), (39, prefix_Check_con), (40, lease_Narrow_con), (41, addr_Check_con), (42, lease_Who_con)] []
theorem state_Form_envOk : EnvOk Tryz.prog state_Form_env := envOk tyOk fn_ok (callsCons state_within_ok (callsCons state_extra_ok (callsCons prefix_Check_ok (callsCons lease_Narrow_ok (callsCons addr_Check_ok (callsCons lease_Who_ok callsNil)))))) _
noncomputable def state_Form_con : Con := con [.one (.fl .op)] [.one (.fl .int)] (fun x => state_Form_t x.1)
theorem state_Form_ok : TrOk Tryz.prog 11 state_Form_con := by
 have h : loopsOf (codeOf Tryz.f11) = [] := by kernel_rfl
 refine con_ok state_Form_envOk Tryz.func11 (bodyOk h lsNil) [.one (.fl .op)] [.one (.fl .int)] _ (fun x => ?_)
 kernel_rfl
noncomputable def slices_Clone___api_Lease_api_Lease__env : Env := mkEnv ty fnB [] []
theorem slices_Clone___api_Lease_api_Lease__envOk : EnvOk Tryz.prog slices_Clone___api_Lease_api_Lease__env := envOk tyOk fn_ok callsNil _
noncomputable def zq43 : Con := con [.one (.row .lease 42)] [.one (.row .lease 42)] (fun x => zq44 x.1)
theorem slices_Clone___api_Lease_api_Lease__ok : TrOk Tryz.prog 67 zq43 := by
 have h : loopsOf (codeOf Tryz.f67) = [] := by kernel_rfl
 refine con_ok slices_Clone___api_Lease_api_Lease__envOk Tryz.func67 (bodyOk h lsNil) [.one (.row .lease 42)] [.one (.row .lease 42)] _ (fun x => ?_)
 kernel_rfl
noncomputable def slices_Clone___api_Addr_api_Addr__env : Env := mkEnv ty fnB [] []
theorem slices_Clone___api_Addr_api_Addr__envOk : EnvOk Tryz.prog slices_Clone___api_Addr_api_Addr__env := envOk tyOk fn_ok callsNil _
noncomputable def slices_Clone___api_Addr_api_Addr__con : Con := con [.one (.row .addr 28)] [.one (.row .addr 28)] (fun x => zq42 x.1)
theorem slices_Clone___api_Addr_api_Addr__ok : TrOk Tryz.prog 68 slices_Clone___api_Addr_api_Addr__con := by
 have h : loopsOf (codeOf Tryz.f68) = [] := by kernel_rfl
 refine con_ok slices_Clone___api_Addr_api_Addr__envOk Tryz.func68 (bodyOk h lsNil) [.one (.row .addr 28)] [.one (.row .addr 28)] _ (fun x => ?_)
 kernel_rfl
def state_Own_L3_S : LoopS := { n := 32, base := 3, head := { keep := [2, 3, 13, 14, 15], vals := [.one (.cst (.ptr 3 0)), .one (.cst (.ptr 4 0)), .one (.cst (.row 1)), .one (.fl .int), .one (.fl .int)], objs := [.bag .addr 28 false false, .nest .pfx 0 46 false, .row .lease 42 false, .blk [.cst (.row 5), .cst (.row 6), .fl .int] 25 true, .blk [.cst (.row 7), .cst (.row 8), .fl .int] 25 true, .nest .pfx 9 46 true, .row .lease 42 true, .nest .pfx 10 46 true, .row .lease 42 true, .bag .addr 28 true true, .bag .addr 28 true true] }, exits := [⟨some 0, { keep := [2, 3], vals := [.one (.cst (.ptr 3 0)), .one (.cst (.ptr 4 0))], objs := [.bag .addr 28 false false, .nest .pfx 0 46 false, .row .lease 42 false, .blk [.cst (.row 5), .cst (.row 6), .fl .int] 25 true, .blk [.cst (.row 7), .cst (.row 8), .fl .int] 25 true, .nest .pfx 9 46 true, .row .lease 42 true, .nest .pfx 10 46 true, .row .lease 42 true, .bag .addr 28 true true, .bag .addr 28 true true] }⟩] }
noncomputable def state_Own_env : Env := mkEnv ty fnB [(67, zq43), (68, slices_Clone___api_Addr_api_Addr__con)] [(3, (loopTr state_Own_L3_S (loopN state_Own_L3 FUEL)))]
theorem state_Own_envOk : EnvOk Tryz.prog state_Own_env := envOk tyOk fn_ok (callsCons slices_Clone___api_Lease_api_Lease__ok (callsCons slices_Clone___api_Addr_api_Addr__ok callsNil)) _
theorem state_Own_L3_ok : LOk Tryz.prog (nthLoop (codeOf Tryz.f49) 0) (loopTr state_Own_L3_S (loopN state_Own_L3 FUEL)) := by
 have h : loopsOf (nthLoop (codeOf Tryz.f49) 0) = [] := by kernel_rfl
 refine loop_ok state_Own_envOk (loopsOk h lsNil) state_Own_L3_S state_Own_L3 FUEL (fun rec x => ?_)
 kernel_rfl
noncomputable def state_Own_con : Con := con [.agg [.nest .pfx .addr 46 28 true, .row .lease 42, .fl .int]] [.agg [.nest .pfx .addr 46 28 true, .row .lease 42, .fl .int]] (fun x => state_Own_t x.1.1 x.1.2.1 x.1.2.2.1)
theorem state_Own_ok : TrOk Tryz.prog 49 state_Own_con := by
 have h : loopsOf (codeOf Tryz.f49) = [(nthLoop (codeOf Tryz.f49) 0)] := by kernel_rfl
 refine con_ok state_Own_envOk Tryz.func49 (bodyOk h (lsCons (one_loop (t := (loopTr state_Own_L3_S (loopN state_Own_L3 FUEL))) (by kernel_rfl) state_Own_L3_ok) lsNil)) [.agg [.nest .pfx .addr 46 28 true, .row .lease 42, .fl .int]] [.agg [.nest .pfx .addr 46 28 true, .row .lease 42, .fl .int]] _ (fun x => ?_)
 kernel_rfl
noncomputable def m_state_doer__pool_1_env : Env := mkEnv ty fnB [(33, prefix_Meet_con)] []
theorem m_state_doer__pool_1_envOk : EnvOk Tryz.prog m_state_doer__pool_1_env := envOk tyOk fn_ok (callsCons prefix_Meet_ok callsNil) _
noncomputable def m_state_doer__pool_1_con : Con := con [.agg [.fl .pfx, .row .addr 28], .ref [.fl .pfx] 30] [.one (.fl .bool)] (fun x => m_state_doer__pool_1_t x.1.1 x.1.2.1 x.2.1.1)
theorem m_state_doer__pool_1_ok : TrOk Tryz.prog 79 m_state_doer__pool_1_con := by
 have h : loopsOf (codeOf Tryz.f79) = [] := by kernel_rfl
 refine con_ok m_state_doer__pool_1_envOk Tryz.func79 (bodyOk h lsNil) [.agg [.fl .pfx, .row .addr 28], .ref [.fl .pfx] 30] [.one (.fl .bool)] _ (fun x => ?_)
 kernel_rfl
noncomputable def m_state_doer__pool_2_env : Env := mkEnv ty fnB [(32, prefix_Order_con)] []
theorem m_state_doer__pool_2_envOk : EnvOk Tryz.prog m_state_doer__pool_2_env := envOk tyOk fn_ok (callsCons prefix_Order_ok callsNil) _
noncomputable def m_state_doer__pool_2_con : Con := con [.agg [.fl .pfx, .row .addr 28], .one (.fl .pfx)] [.one (.fl .int)] (fun x => zq14 x.1.1 x.1.2.1 x.2.1)
theorem m_state_doer__pool_2_ok : TrOk Tryz.prog 81 m_state_doer__pool_2_con := by
 have h : loopsOf (codeOf Tryz.f81) = [] := by kernel_rfl
 refine con_ok m_state_doer__pool_2_envOk Tryz.func81 (bodyOk h lsNil) [.agg [.fl .pfx, .row .addr 28], .one (.fl .pfx)] [.one (.fl .int)] _ (fun x => ?_)
 kernel_rfl
noncomputable def m_state_doer__find_1_env : Env := mkEnv ty fnB [] []
theorem m_state_doer__find_1_envOk : EnvOk Tryz.prog m_state_doer__find_1_env := envOk tyOk fn_ok callsNil _
noncomputable def m_state_doer__find_1_con : Con := con [.one (.fl .lease), .ref [.fl .str] 9] [.one (.fl .bool)] (fun x => m_state_doer__find_1_t x.1 x.2.1.1)
theorem m_state_doer__find_1_ok : TrOk Tryz.prog 96 m_state_doer__find_1_con := by
 have h : loopsOf (codeOf Tryz.f96) = [] := by kernel_rfl
 refine con_ok m_state_doer__find_1_envOk Tryz.func96 (bodyOk h lsNil) [.one (.fl .lease), .ref [.fl .str] 9] [.one (.fl .bool)] _ (fun x => ?_)
 kernel_rfl
def zq11 : LoopS := { n := 19, base := 5, head := { keep := [0, 1, 7, 8], vals := [.one (.cst (.row 3)), .one (.cst (.fn 96 [.ptr 4 0])), .one (.fl .int), .one (.fl .int)], objs := [.blk [.cst (.row 2), .cst (.row 3), .fl .int] 76 false, .bag .addr 28 false false, .nest .pfx 1 46 false, .row .lease 42 false, .blk [.fl .str] 9 true] }, exits := [⟨none, { keep := [4], vals := [.one (.fl .int)], objs := [.blk [.cst (.row 2), .cst (.row 3), .fl .int] 76 false, .bag .addr 28 false false, .nest .pfx 1 46 false, .row .lease 42 false, .blk [.fl .str] 9 true] }⟩, ⟨some 0, { keep := [], vals := [], objs := [.blk [.cst (.row 2), .cst (.row 3), .fl .int] 76 false, .bag .addr 28 false false, .nest .pfx 1 46 false, .row .lease 42 false, .blk [.fl .str] 9 true] }⟩] }
noncomputable def zq12 : Env := mkEnv ty fnB [(96, m_state_doer__find_1_con)] [(2, (loopTr zq11 (loopN zq10 FUEL)))]
theorem zq13 : EnvOk Tryz.prog zq12 := envOk tyOk fn_ok (callsCons m_state_doer__find_1_ok callsNil) _
theorem m_state_doer__find_slices_IndexFunc___api_Lease_api_Lease__L2_ok : LOk Tryz.prog (nthLoop (codeOf Tryz.f76) 0) (loopTr zq11 (loopN zq10 FUEL)) := by
 have h : loopsOf (nthLoop (codeOf Tryz.f76) 0) = [] := by kernel_rfl
 refine loop_ok zq13 (loopsOk h lsNil) zq11 zq10 FUEL (fun rec x => ?_)
 kernel_rfl
theorem m_state_doer__find_slices_IndexFunc___api_Lease_api_Lease__inl : TrOk Tryz.prog 76 (inlCon zq12 Tryz.f76) := by
 have h : loopsOf (codeOf Tryz.f76) = [(nthLoop (codeOf Tryz.f76) 0)] := by kernel_rfl
 exact inl_ok zq13 Tryz.func76 (bodyOk h (lsCons (one_loop (t := (loopTr zq11 (loopN zq10 FUEL))) (by kernel_rfl) m_state_doer__find_slices_IndexFunc___api_Lease_api_Lease__L2_ok) lsNil))
noncomputable def m_state_doer__find_env : Env := mkEnv ty fnB [(76, (inlCon zq12 Tryz.f76))] []
theorem m_state_doer__find_envOk : EnvOk Tryz.prog m_state_doer__find_env := envOk tyOk fn_ok (callsCons m_state_doer__find_slices_IndexFunc___api_Lease_api_Lease__inl callsNil) _
noncomputable def m_state_doer__find_con : Con := con [.ref [.nest .pfx .addr 46 28 true, .row .lease 42, .fl .int] 76, .one (.fl .str)] [.one (.fl .int)] (fun x => m_state_doer__find_t x.1.1 x.1.2.1 x.1.2.2.1 x.2.1)
theorem m_state_doer__find_ok : TrOk Tryz.prog 85 m_state_doer__find_con := by
 have h : loopsOf (codeOf Tryz.f85) = [] := by kernel_rfl
 refine con_ok m_state_doer__find_envOk Tryz.func85 (bodyOk h lsNil) [.ref [.nest .pfx .addr 46 28 true, .row .lease 42, .fl .int] 76, .one (.fl .str)] [.one (.fl .int)] _ (fun x => ?_)
 kernel_rfl
noncomputable def lease_Live_1_env : Env := mkEnv ty fnB [] []
theorem lease_Live_1_envOk : EnvOk Tryz.prog lease_Live_1_env := envOk tyOk fn_ok callsNil _
noncomputable def lease_Live_1_con : Con := con [.one (.fl .lease), .ref [.fl .int] 3] [.one (.fl .bool)] (fun x => lease_Live_1_t x.1 x.2.1.1)
theorem lease_Live_1_ok : TrOk Tryz.prog 91 lease_Live_1_con := by
 have h : loopsOf (codeOf Tryz.f91) = [] := by kernel_rfl
 refine con_ok lease_Live_1_envOk Tryz.func91 (bodyOk h lsNil) [.one (.fl .lease), .ref [.fl .int] 3] [.one (.fl .bool)] _ (fun x => ?_)
 kernel_rfl
def zq23 : LoopS := { n := 19, base := 5, head := { keep := [0, 1, 7, 8], vals := [.one (.cst (.row 3)), .one (.cst (.fn 91 [.ptr 1 0])), .one (.fl .int), .one (.fl .int)], objs := [.row .lease 42 false, .blk [.fl .int] 3 true, .row .lease 42 true, .row .lease 42 true, .row .lease 42 true] }, exits := [⟨none, { keep := [4], vals := [.one (.fl .int)], objs := [.row .lease 42 false, .blk [.fl .int] 3 true, .row .lease 42 true, .row .lease 42 true, .row .lease 42 true] }⟩, ⟨some 0, { keep := [], vals := [], objs := [.row .lease 42 false, .blk [.fl .int] 3 true, .row .lease 42 true, .row .lease 42 true, .row .lease 42 true] }⟩] }
noncomputable def zq25 : Env := mkEnv ty fnB [(91, lease_Live_1_con)] [(2, (loopTr zq23 (loopN zq22 FUEL)))]
theorem zq26 : EnvOk Tryz.prog zq25 := envOk tyOk fn_ok (callsCons lease_Live_1_ok callsNil) _
theorem zq24 : LOk Tryz.prog (nthLoop (codeOf Tryz.f76) 0) (loopTr zq23 (loopN zq22 FUEL)) := by
 have h : loopsOf (nthLoop (codeOf Tryz.f76) 0) = [] := by kernel_rfl
 refine loop_ok zq26 (loopsOk h lsNil) zq23 zq22 FUEL (fun rec x => ?_)
 kernel_rfl
theorem zq27 : TrOk Tryz.prog 76 (inlCon zq25 Tryz.f76) := by
 have h : loopsOf (codeOf Tryz.f76) = [(nthLoop (codeOf Tryz.f76) 0)] := by kernel_rfl
 exact inl_ok zq26 Tryz.func76 (bodyOk h (lsCons (one_loop (t := (loopTr zq23 (loopN zq22 FUEL))) (by kernel_rfl) zq24) lsNil))
def zq19 : LoopS := { n := 42, base := 4, head := { keep := [0, 1, 5, 6], vals := [.one (.cst (.row 3)), .one (.cst (.fn 91 [.ptr 1 0])), .one (.fl .int), .one (.fl .int)], objs := [.row .lease 42 false, .blk [.fl .int] 3 true, .row .lease 42 true, .row .lease 42 true] }, exits := [⟨some 0, { keep := [0, 5], vals := [.one (.cst (.row 3)), .one (.fl .int)], objs := [.row .lease 42 false, .blk [.fl .int] 3 true, .row .lease 42 true, .row .lease 42 true] }⟩] }
noncomputable def zq20 : Env := mkEnv ty fnB [(91, lease_Live_1_con), (76, (inlCon zq25 Tryz.f76))] [(5, (loopTr zq19 (loopN zq18 FUEL)))]
theorem zq21 : EnvOk Tryz.prog zq20 := envOk tyOk fn_ok (callsCons lease_Live_1_ok (callsCons zq27 callsNil)) _
theorem lease_Live_slices_DeleteFunc___api_Lease_api_Lease__L5_ok : LOk Tryz.prog (nthLoop (codeOf Tryz.f90) 0) (loopTr zq19 (loopN zq18 FUEL)) := by
 have h : loopsOf (nthLoop (codeOf Tryz.f90) 0) = [] := by kernel_rfl
 refine loop_ok zq21 (loopsOk h lsNil) zq19 zq18 FUEL (fun rec x => ?_)
 kernel_rfl
theorem lease_Live_slices_DeleteFunc___api_Lease_api_Lease__inl : TrOk Tryz.prog 90 (inlCon zq20 Tryz.f90) := by
 have h : loopsOf (codeOf Tryz.f90) = [(nthLoop (codeOf Tryz.f90) 0)] := by kernel_rfl
 exact inl_ok zq21 Tryz.func90 (bodyOk h (lsCons (one_loop (t := (loopTr zq19 (loopN zq18 FUEL))) (by kernel_rfl) lease_Live_slices_DeleteFunc___api_Lease_api_Lease__L5_ok) lsNil))
noncomputable def lease_Live_env : Env := mkEnv ty fnB [(67, zq43), (90, (inlCon zq20 Tryz.f90))] []
theorem lease_Live_envOk : EnvOk Tryz.prog lease_Live_env := envOk tyOk fn_ok (callsCons slices_Clone___api_Lease_api_Lease__ok (callsCons lease_Live_slices_DeleteFunc___api_Lease_api_Lease__inl callsNil)) _
noncomputable def lease_Live_con : Con := con [.one (.row .lease 42), .one (.fl .int)] [.one (.row .lease 42)] (fun x => lease_Live_t x.1 x.2.1)
theorem lease_Live_ok : TrOk Tryz.prog 73 lease_Live_con := by
 have h : loopsOf (codeOf Tryz.f73) = [] := by kernel_rfl
 refine con_ok lease_Live_envOk Tryz.func73 (bodyOk h lsNil) [.one (.row .lease 42), .one (.fl .int)] [.one (.row .lease 42)] _ (fun x => ?_)
 kernel_rfl
noncomputable def lease_Raw_1_env : Env := mkEnv ty fnB [] []
theorem lease_Raw_1_envOk : EnvOk Tryz.prog lease_Raw_1_env := envOk tyOk fn_ok callsNil _
noncomputable def lease_Raw_1_con : Con := con [.one (.fl .lease), .ref [.fl .str] 9] [.one (.fl .bool)] (fun x => lease_Raw_1_t x.1 x.2.1.1)
theorem lease_Raw_1_ok : TrOk Tryz.prog 97 lease_Raw_1_con := by
 have h : loopsOf (codeOf Tryz.f97) = [] := by kernel_rfl
 refine con_ok lease_Raw_1_envOk Tryz.func97 (bodyOk h lsNil) [.one (.fl .lease), .ref [.fl .str] 9] [.one (.fl .bool)] _ (fun x => ?_)
 kernel_rfl
noncomputable def prefix_Last_env : Env := mkEnv ty fnB [(77, prefix_mask_con)] []
theorem prefix_Last_envOk : EnvOk Tryz.prog prefix_Last_env := envOk tyOk fn_ok (callsCons prefix_mask_ok callsNil) _
noncomputable def prefix_Last_con : Con := con [.one (.fl .pfx)] [.one (.fl .addr)] (fun x => prefix_Last_t x.1)
theorem prefix_Last_ok : TrOk Tryz.prog 123 prefix_Last_con := by
 have h : loopsOf (codeOf Tryz.f123) = [] := by kernel_rfl
 refine con_ok prefix_Last_envOk Tryz.func123 (bodyOk h lsNil) [.one (.fl .pfx)] [.one (.fl .addr)] _ (fun x => ?_)
 kernel_rfl
noncomputable def addr_After_env : Env := mkEnv ty fnB [] []
theorem addr_After_envOk : EnvOk Tryz.prog addr_After_env := envOk tyOk fn_ok callsNil _
noncomputable def addr_After_con : Con := con [.one (.fl .addr)] [.one (.fl .addr), .one (.fl .bool)] (fun x => addr_After_t x.1)
theorem addr_After_ok : TrOk Tryz.prog 124 addr_After_con := by
 have h : loopsOf (codeOf Tryz.f124) = [] := by kernel_rfl
 refine con_ok addr_After_envOk Tryz.func124 (bodyOk h lsNil) [.one (.fl .addr)] [.one (.fl .addr), .one (.fl .bool)] _ (fun x => ?_)
 kernel_rfl
def zq47 : LoopS := { n := 19, base := 1, head := { keep := [0, 3, 7, 8], vals := [.one (.cst (.row 0)), .one (.cst (.ptr 1 0)), .one (.fl .int), .one (.fl .int)], objs := [.row .addr 28 false, .blk [.fl .addr] 28 true] }, exits := [⟨none, { keep := [4], vals := [.one (.fl .int)], objs := [.row .addr 28 false] }⟩, ⟨some 0, { keep := [], vals := [], objs := [.row .addr 28 false] }⟩] }
noncomputable def slices_Index___api_Addr_api_Addr__env : Env := mkEnv ty fnB [] [(2, (loopTr zq47 (loopN zq46 FUEL)))]
theorem slices_Index___api_Addr_api_Addr__envOk : EnvOk Tryz.prog slices_Index___api_Addr_api_Addr__env := envOk tyOk fn_ok callsNil _
theorem slices_Index___api_Addr_api_Addr__L2_ok : LOk Tryz.prog (nthLoop (codeOf Tryz.f133) 0) (loopTr zq47 (loopN zq46 FUEL)) := by
 have h : loopsOf (nthLoop (codeOf Tryz.f133) 0) = [] := by kernel_rfl
 refine loop_ok slices_Index___api_Addr_api_Addr__envOk (loopsOk h lsNil) zq47 zq46 FUEL (fun rec x => ?_)
 kernel_rfl
noncomputable def slices_Index___api_Addr_api_Addr__con : Con := con [.one (.row .addr 28), .one (.fl .addr)] [.one (.fl .int)] (fun x => zq48 x.1 x.2.1)
theorem slices_Index___api_Addr_api_Addr__ok : TrOk Tryz.prog 133 slices_Index___api_Addr_api_Addr__con := by
 have h : loopsOf (codeOf Tryz.f133) = [(nthLoop (codeOf Tryz.f133) 0)] := by kernel_rfl
 refine con_ok slices_Index___api_Addr_api_Addr__envOk Tryz.func133 (bodyOk h (lsCons (one_loop (t := (loopTr zq47 (loopN zq46 FUEL))) (by kernel_rfl) slices_Index___api_Addr_api_Addr__L2_ok) lsNil)) [.one (.row .addr 28), .one (.fl .addr)] [.one (.fl .int)] _ (fun x => ?_)
 kernel_rfl
noncomputable def slices_Contains___api_Addr_api_Addr__env : Env := mkEnv ty fnB [(133, slices_Index___api_Addr_api_Addr__con)] []
theorem slices_Contains___api_Addr_api_Addr__envOk : EnvOk Tryz.prog slices_Contains___api_Addr_api_Addr__env := envOk tyOk fn_ok (callsCons slices_Index___api_Addr_api_Addr__ok callsNil) _
noncomputable def slices_Contains___api_Addr_api_Addr__con : Con := con [.one (.row .addr 28), .one (.fl .addr)] [.one (.fl .bool)] (fun x => zq45 x.1 x.2.1)
theorem slices_Contains___api_Addr_api_Addr__ok : TrOk Tryz.prog 125 slices_Contains___api_Addr_api_Addr__con := by
 have h : loopsOf (codeOf Tryz.f125) = [] := by kernel_rfl
 refine con_ok slices_Contains___api_Addr_api_Addr__envOk Tryz.func125 (bodyOk h lsNil) [.one (.row .addr 28), .one (.fl .addr)] [.one (.fl .bool)] _ (fun x => ?_)
 kernel_rfl
noncomputable def m_lease_book__taken_1_env : Env := mkEnv ty fnB [] []
theorem m_lease_book__taken_1_envOk : EnvOk Tryz.prog m_lease_book__taken_1_env := envOk tyOk fn_ok callsNil _
noncomputable def m_lease_book__taken_1_con : Con := con [.one (.fl .lease), .ref [.fl .addr] 28] [.one (.fl .bool)] (fun x => m_lease_book__taken_1_t x.1 x.2.1.1)
theorem m_lease_book__taken_1_ok : TrOk Tryz.prog 126 m_lease_book__taken_1_con := by
 have h : loopsOf (codeOf Tryz.f126) = [] := by kernel_rfl
 refine con_ok m_lease_book__taken_1_envOk Tryz.func126 (bodyOk h lsNil) [.one (.fl .lease), .ref [.fl .addr] 28] [.one (.fl .bool)] _ (fun x => ?_)
 kernel_rfl
def zq5 : LoopS := { n := 19, base := 4, head := { keep := [0, 1, 7, 8], vals := [.one (.cst (.row 2)), .one (.cst (.fn 126 [.ptr 3 0])), .one (.fl .int), .one (.fl .int)], objs := [.blk [.fl .bool, .fl .u64, .fl .u64, .fl .int, .cst (.row 1), .cst (.row 2)] 119 false, .row .addr 28 false, .row .lease 42 false, .blk [.fl .addr] 28 false] }, exits := [⟨none, { keep := [4], vals := [.one (.fl .int)], objs := [.blk [.fl .bool, .fl .u64, .fl .u64, .fl .int, .cst (.row 1), .cst (.row 2)] 119 false, .row .addr 28 false, .row .lease 42 false, .blk [.fl .addr] 28 false] }⟩, ⟨some 0, { keep := [], vals := [], objs := [.blk [.fl .bool, .fl .u64, .fl .u64, .fl .int, .cst (.row 1), .cst (.row 2)] 119 false, .row .addr 28 false, .row .lease 42 false, .blk [.fl .addr] 28 false] }⟩] }
noncomputable def zq7 : Env := mkEnv ty fnB [(126, m_lease_book__taken_1_con)] [(2, (loopTr zq5 (loopN zq4 FUEL)))]
theorem zq8 : EnvOk Tryz.prog zq7 := envOk tyOk fn_ok (callsCons m_lease_book__taken_1_ok callsNil) _
theorem zq6 : LOk Tryz.prog (nthLoop (codeOf Tryz.f76) 0) (loopTr zq5 (loopN zq4 FUEL)) := by
 have h : loopsOf (nthLoop (codeOf Tryz.f76) 0) = [] := by kernel_rfl
 refine loop_ok zq8 (loopsOk h lsNil) zq5 zq4 FUEL (fun rec x => ?_)
 kernel_rfl
theorem zq9 : TrOk Tryz.prog 76 (inlCon zq7 Tryz.f76) := by
 have h : loopsOf (codeOf Tryz.f76) = [(nthLoop (codeOf Tryz.f76) 0)] := by kernel_rfl
 exact inl_ok zq8 Tryz.func76 (bodyOk h (lsCons (one_loop (t := (loopTr zq5 (loopN zq4 FUEL))) (by kernel_rfl) zq6) lsNil))
noncomputable def zq1 : Env := mkEnv ty fnB [(76, (inlCon zq7 Tryz.f76))] []
theorem zq2 : EnvOk Tryz.prog zq1 := envOk tyOk fn_ok (callsCons zq9 callsNil) _
theorem zq3 : TrOk Tryz.prog 62 (flCon zq1 Tryz.f62 [.one (.fl .bool)]) := by
 have h : loopsOf (codeOf Tryz.f62) = [] := by kernel_rfl
 exact flCon_ok zq2 Tryz.func62 (bodyOk h lsNil) [.one (.fl .bool)] rfl
noncomputable def m_lease_book__taken_env : Env := mkEnv ty fnB [(125, slices_Contains___api_Addr_api_Addr__con), (62, (flCon zq1 Tryz.f62 [.one (.fl .bool)]))] []
theorem m_lease_book__taken_envOk : EnvOk Tryz.prog m_lease_book__taken_env := envOk tyOk fn_ok (callsCons slices_Contains___api_Addr_api_Addr__ok (callsCons zq3 callsNil)) _
noncomputable def m_lease_book__taken_con : Con := con [.ref [.fl .pfx, .row .addr 28, .row .lease 42] 119, .one (.fl .addr)] [.one (.fl .bool)] (fun x => m_lease_book__taken_t x.1.1 x.1.2.1 x.1.2.2.1 x.2.1)
theorem m_lease_book__taken_ok : TrOk Tryz.prog 107 m_lease_book__taken_con := by
 have h : loopsOf (codeOf Tryz.f107) = [] := by kernel_rfl
 refine con_ok m_lease_book__taken_envOk Tryz.func107 (bodyOk h lsNil) [.ref [.fl .pfx, .row .addr 28, .row .lease 42] 119, .one (.fl .addr)] [.one (.fl .bool)] _ (fun x => ?_)
 kernel_rfl
noncomputable def lease_Raw_2_env : Env := mkEnv ty fnB [(56, addr_Order_con)] []
theorem lease_Raw_2_envOk : EnvOk Tryz.prog lease_Raw_2_env := envOk tyOk fn_ok (callsCons addr_Order_ok callsNil) _
noncomputable def lease_Raw_2_con : Con := con [.one (.fl .lease), .one (.fl .lease)] [.one (.fl .int)] (fun x => lease_Raw_2_t x.1 x.2.1)
theorem lease_Raw_2_ok : TrOk Tryz.prog 100 lease_Raw_2_con := by
 have h : loopsOf (codeOf Tryz.f100) = [] := by kernel_rfl
 refine con_ok lease_Raw_2_envOk Tryz.func100 (bodyOk h lsNil) [.one (.fl .lease), .one (.fl .lease)] [.one (.fl .int)] _ (fun x => ?_)
 kernel_rfl
def R_WhoAt_L2_S : LoopS := { n := 20, base := 1, head := { keep := [0, 1, 5], vals := [.one (.cst (.row 0)), .one (.fl .str), .one (.fl .int)], objs := [.row .lease 42 false] }, exits := [⟨none, { keep := [4], vals := [.one (.fl .int)], objs := [.row .lease 42 false] }⟩, ⟨some 0, { keep := [], vals := [], objs := [.row .lease 42 false] }⟩] }
noncomputable def R_WhoAt_env : Env := mkEnv ty fnB [] [(2, (loopTr R_WhoAt_L2_S (loopN R_WhoAt_L2 FUEL)))]
theorem R_WhoAt_envOk : EnvOk Tryz.prog R_WhoAt_env := envOk tyOk fn_ok callsNil _
theorem R_WhoAt_L2_ok : LOk Tryz.prog (nthLoop (codeOf Tryz.f14) 0) (loopTr R_WhoAt_L2_S (loopN R_WhoAt_L2 FUEL)) := by
 have h : loopsOf (nthLoop (codeOf Tryz.f14) 0) = [] := by kernel_rfl
 refine loop_ok R_WhoAt_envOk (loopsOk h lsNil) R_WhoAt_L2_S R_WhoAt_L2 FUEL (fun rec x => ?_)
 kernel_rfl
noncomputable def R_WhoAt_con : Con := con [.one (.row .lease 42), .one (.fl .str)] [.one (.fl .int)] (fun x => R_WhoAt_t x.1 x.2.1)
theorem R_WhoAt_ok : TrOk Tryz.prog 14 R_WhoAt_con := by
 have h : loopsOf (codeOf Tryz.f14) = [(nthLoop (codeOf Tryz.f14) 0)] := by kernel_rfl
 refine con_ok R_WhoAt_envOk Tryz.func14 (bodyOk h (lsCons (one_loop (t := (loopTr R_WhoAt_L2_S (loopN R_WhoAt_L2 FUEL))) (by kernel_rfl) R_WhoAt_L2_ok) lsNil)) [.one (.row .lease 42), .one (.fl .str)] [.one (.fl .int)] _ (fun x => ?_)
 kernel_rfl
noncomputable def law_v4_env : Env := mkEnv ty fnB [] []
theorem law_v4_envOk : EnvOk Tryz.prog law_v4_env := envOk tyOk fn_ok callsNil _
noncomputable def law_v4_con : Con := con [.one (.fl .u64)] [.one (.fl .addr)] (fun x => law_v4_t x.1)
theorem law_v4_ok : TrOk Tryz.prog 30 law_v4_con := by
 have h : loopsOf (codeOf Tryz.f30) = [] := by kernel_rfl
 refine con_ok law_v4_envOk Tryz.func30 (bodyOk h lsNil) [.one (.fl .u64)] [.one (.fl .addr)] _ (fun x => ?_)
 kernel_rfl
noncomputable def law_net_env : Env := mkEnv ty fnB [(30, law_v4_con)] []
theorem law_net_envOk : EnvOk Tryz.prog law_net_env := envOk tyOk fn_ok (callsCons law_v4_ok callsNil) _
noncomputable def law_net_con : Con := con [.one (.fl .u64), .one (.fl .int)] [.one (.fl .pfx)] (fun x => law_net_t x.1 x.2.1)
theorem law_net_ok : TrOk Tryz.prog 54 law_net_con := by
 have h : loopsOf (codeOf Tryz.f54) = [] := by kernel_rfl
 refine con_ok law_net_envOk Tryz.func54 (bodyOk h lsNil) [.one (.fl .u64), .one (.fl .int)] [.one (.fl .pfx)] _ (fun x => ?_)
 kernel_rfl
noncomputable def law_some_env : Env := mkEnv ty fnB [(54, law_net_con), (30, law_v4_con)] []
theorem law_some_envOk : EnvOk Tryz.prog law_some_env := envOk tyOk fn_ok (callsCons law_net_ok (callsCons law_v4_ok callsNil)) _
noncomputable def law_some_con : Con := con [] [.one (.row .op 32)] (fun x => law_some_t)
theorem law_some_ok : TrOk Tryz.prog 29 law_some_con := by
 have h : loopsOf (codeOf Tryz.f29) = [] := by kernel_rfl
 refine con_ok law_some_envOk Tryz.func29 (bodyOk h lsNil) [] [.one (.row .op 32)] _ (fun x => ?_)
 kernel_rfl
def R_SameLeases_L4_S : LoopS := { n := 26, base := 2, head := { keep := [0, 1, 5], vals := [.one (.cst (.row 0)), .one (.cst (.row 1)), .one (.fl .int)], objs := [.row .lease 42 false, .row .lease 42 false] }, exits := [⟨none, { keep := [4], vals := [.one (.fl .bool)], objs := [.row .lease 42 false, .row .lease 42 false] }⟩, ⟨some 0, { keep := [], vals := [], objs := [.row .lease 42 false, .row .lease 42 false] }⟩] }
noncomputable def R_SameLeases_env : Env := mkEnv ty fnB [] [(4, (loopTr R_SameLeases_L4_S (loopN R_SameLeases_L4 FUEL)))]
theorem R_SameLeases_envOk : EnvOk Tryz.prog R_SameLeases_env := envOk tyOk fn_ok callsNil _
theorem R_SameLeases_L4_ok : LOk Tryz.prog (nthLoop (codeOf Tryz.f47) 0) (loopTr R_SameLeases_L4_S (loopN R_SameLeases_L4 FUEL)) := by
 have h : loopsOf (nthLoop (codeOf Tryz.f47) 0) = [] := by kernel_rfl
 refine loop_ok R_SameLeases_envOk (loopsOk h lsNil) R_SameLeases_L4_S R_SameLeases_L4 FUEL (fun rec x => ?_)
 kernel_rfl
noncomputable def R_SameLeases_con : Con := con [.one (.row .lease 42), .one (.row .lease 42)] [.one (.fl .bool)] (fun x => R_SameLeases_t x.1 x.2.1)
theorem R_SameLeases_ok : TrOk Tryz.prog 47 R_SameLeases_con := by
 have h : loopsOf (codeOf Tryz.f47) = [(nthLoop (codeOf Tryz.f47) 0)] := by kernel_rfl
 refine con_ok R_SameLeases_envOk Tryz.func47 (bodyOk h (lsCons (one_loop (t := (loopTr R_SameLeases_L4_S (loopN R_SameLeases_L4 FUEL))) (by kernel_rfl) R_SameLeases_L4_ok) lsNil)) [.one (.row .lease 42), .one (.row .lease 42)] [.one (.fl .bool)] _ (fun x => ?_)
 kernel_rfl
def R_SameAddrs_L4_S : LoopS := { n := 26, base := 2, head := { keep := [0, 1, 5], vals := [.one (.cst (.row 0)), .one (.cst (.row 1)), .one (.fl .int)], objs := [.row .addr 28 false, .row .addr 28 false] }, exits := [⟨none, { keep := [4], vals := [.one (.fl .bool)], objs := [.row .addr 28 false, .row .addr 28 false] }⟩, ⟨some 0, { keep := [], vals := [], objs := [.row .addr 28 false, .row .addr 28 false] }⟩] }
noncomputable def R_SameAddrs_env : Env := mkEnv ty fnB [] [(4, (loopTr R_SameAddrs_L4_S (loopN R_SameAddrs_L4 FUEL)))]
theorem R_SameAddrs_envOk : EnvOk Tryz.prog R_SameAddrs_env := envOk tyOk fn_ok callsNil _
theorem R_SameAddrs_L4_ok : LOk Tryz.prog (nthLoop (codeOf Tryz.f48) 0) (loopTr R_SameAddrs_L4_S (loopN R_SameAddrs_L4 FUEL)) := by
 have h : loopsOf (nthLoop (codeOf Tryz.f48) 0) = [] := by kernel_rfl
 refine loop_ok R_SameAddrs_envOk (loopsOk h lsNil) R_SameAddrs_L4_S R_SameAddrs_L4 FUEL (fun rec x => ?_)
 kernel_rfl
noncomputable def R_SameAddrs_con : Con := con [.one (.row .addr 28), .one (.row .addr 28)] [.one (.fl .bool)] (fun x => R_SameAddrs_t x.1 x.2.1)
theorem R_SameAddrs_ok : TrOk Tryz.prog 48 R_SameAddrs_con := by
 have h : loopsOf (codeOf Tryz.f48) = [(nthLoop (codeOf Tryz.f48) 0)] := by kernel_rfl
 refine con_ok R_SameAddrs_envOk Tryz.func48 (bodyOk h (lsCons (one_loop (t := (loopTr R_SameAddrs_L4_S (loopN R_SameAddrs_L4 FUEL))) (by kernel_rfl) R_SameAddrs_L4_ok) lsNil)) [.one (.row .addr 28), .one (.row .addr 28)] [.one (.fl .bool)] _ (fun x => ?_)
 kernel_rfl
def R_SameState_L4_S : LoopS := { n := 64, base := 6, head := { keep := [2, 3, 5], vals := [.one (.cst (.ptr 6 0)), .one (.cst (.ptr 7 0)), .one (.fl .int)], objs := [.bag .addr 28 false false, .nest .pfx 0 46 false, .row .lease 42 false, .bag .addr 28 false false, .nest .pfx 3 46 false, .row .lease 42 false, .blk [.cst (.row 1), .cst (.row 2), .fl .int] 25 true, .blk [.cst (.row 4), .cst (.row 5), .fl .int] 25 true] }, exits := [⟨none, { keep := [4], vals := [.one (.fl .bool)], objs := [.bag .addr 28 false false, .nest .pfx 0 46 false, .row .lease 42 false, .bag .addr 28 false false, .nest .pfx 3 46 false, .row .lease 42 false] }⟩, ⟨some 0, { keep := [], vals := [], objs := [.bag .addr 28 false false, .nest .pfx 0 46 false, .row .lease 42 false, .bag .addr 28 false false, .nest .pfx 3 46 false, .row .lease 42 false] }⟩] }
noncomputable def R_SameState_env : Env := mkEnv ty fnB [(47, R_SameLeases_con), (48, R_SameAddrs_con)] [(4, (loopTr R_SameState_L4_S (loopN R_SameState_L4 FUEL)))]
theorem R_SameState_envOk : EnvOk Tryz.prog R_SameState_env := envOk tyOk fn_ok (callsCons R_SameLeases_ok (callsCons R_SameAddrs_ok callsNil)) _
theorem R_SameState_L4_ok : LOk Tryz.prog (nthLoop (codeOf Tryz.f16) 0) (loopTr R_SameState_L4_S (loopN R_SameState_L4 FUEL)) := by
 have h : loopsOf (nthLoop (codeOf Tryz.f16) 0) = [] := by kernel_rfl
 refine loop_ok R_SameState_envOk (loopsOk h lsNil) R_SameState_L4_S R_SameState_L4 FUEL (fun rec x => ?_)
 kernel_rfl
noncomputable def R_SameState_con : Con := con [.agg [.nest .pfx .addr 46 28 true, .row .lease 42, .fl .int], .agg [.nest .pfx .addr 46 28 true, .row .lease 42, .fl .int]] [.one (.fl .bool)] (fun x => R_SameState_t x.1.1 x.1.2.1 x.1.2.2.1 x.2.1.1 x.2.1.2.1 x.2.1.2.2.1)
theorem R_SameState_ok : TrOk Tryz.prog 16 R_SameState_con := by
 have h : loopsOf (codeOf Tryz.f16) = [(nthLoop (codeOf Tryz.f16) 0)] := by kernel_rfl
 refine con_ok R_SameState_envOk Tryz.func16 (bodyOk h (lsCons (one_loop (t := (loopTr R_SameState_L4_S (loopN R_SameState_L4 FUEL))) (by kernel_rfl) R_SameState_L4_ok) lsNil)) [.agg [.nest .pfx .addr 46 28 true, .row .lease 42, .fl .int], .agg [.nest .pfx .addr 46 28 true, .row .lease 42, .fl .int]] [.one (.fl .bool)] _ (fun x => ?_)
 kernel_rfl
end Go.Proofs.YtbajhmdekihagaaGreat
