/-
  Parts: Ub Uc Sl Ud Ue Ty Hd Wk.
-/
import Derived.Test.YtjncjiegmnicbabGreatRows
import Derived.WalkKit
import Derived.ProofKit
import Derived.Lib.Walk
import Derived.Lib.SliceRun
import Derived.Lib.JoinLaws
import Derived.Lib.AppendZeros
import Derived.Lib.AppendZerosOnto
import Derived.Lib.Overlaps
import Derived.Laws.Externs
import Derived.Laws.IdiomCopy
import Derived.Laws.AppendOwn
import Derived.Shelf.Spec.SlicesInsertGrow
import Derived.Test.YtjncjiegmnicbabGreatVa4
set_option linter.unusedVariables false
set_option linter.unusedSimpArgs false
namespace Go.Ma
open Go
structure COk (now ep h u : Int) (l : List En) (a b : Int) (x y : List En) : Prop where
 time : 0 ≤ now ∧ now ≤ 9999
 disk : chkDisk ep h u l = 0
 n1 : chkNode ep l a x = 0
 n2 : chkNode ep l b y = 0
 ne : ¬ (a ≠ 0 ∧ a = b)
 o1 : ¬ (a ≠ 0 ∧ a = ep ∧ h ≠ 1)
 o2 : ¬ (b ≠ 0 ∧ b = ep ∧ h ≠ 2)
theorem chkC_iff {now ep h u : Int} {l : List En} {a b : Int} {x y : List En} : chkC now ep h u l [a, b] [x, y] = 0 ↔ COk now ep h u l a b x y := by
 have e0 : ([x, y] : List (List En)).getD 0 [] = x := rfl
 have e1 : ([x, y] : List (List En)).getD 1 [] = y := rfl
 unfold chkC chkN
 simp only [e0, e1]
 cases hb : betw now 0 9999
 ·rw [if_pos rfl]
  exact ⟨(fun hh => by cases hh), fun hh => by rw [betw_iff.2 hh.time] at hb; cases hb⟩
 rw [if_neg (by simp)]
 by_cases h2 : chkDisk ep h u l = 0
 rotate_left
 ·rw [if_pos h2]; exact ⟨fun hh => absurd hh h2, fun hh => absurd hh.disk h2⟩
 rw [if_neg (fun hh => hh h2)]
 by_cases h3 : chkNode ep l a x = 0
 rotate_left
 ·rw [if_pos h3]; exact ⟨fun hh => absurd hh h3, fun hh => absurd hh.n1 h3⟩
 rw [if_neg (fun hh => hh h3)]
 by_cases h4 : chkNode ep l b y = 0
 rotate_left
 ·rw [if_pos h4]; exact ⟨fun hh => absurd hh h4, fun hh => absurd hh.n2 h4⟩
 rw [if_neg (fun hh => hh h4)]
 by_cases h5 : a ≠ 0 ∧ a = b
 ·rw [if_pos h5]; exact ⟨(fun hh => by cases hh), fun hh => absurd h5 hh.ne⟩
 rw [if_neg h5]
 by_cases h6 : a ≠ 0 ∧ a = ep ∧ h ≠ 1
 ·rw [if_pos h6]; exact ⟨(fun hh => by cases hh), fun hh => absurd h6 hh.o1⟩
 rw [if_neg h6]
 by_cases h7 : b ≠ 0 ∧ b = ep ∧ h ≠ 2
 ·rw [if_pos h7]; exact ⟨(fun hh => by cases hh), fun hh => absurd h7 hh.o2⟩
 rw [if_neg h7]
 exact ⟨fun _ => ⟨betw_iff.1 hb, h2, h3, h4, h5, h6, h7⟩, fun _ => rfl⟩
theorem chkC_two {now ep h u : Int} {l : List En} {es : List Int} {cs : List (List En)} (hlen : cs.length = es.length) (hc : chkC now ep h u l es cs = 0) : ∃ a b x y, es = [a, b] ∧ cs = [x, y] ∧ COk now ep h u l a b x y := by
 have h2 : lenL es = 2 := by
  by_cases hb : betw now 0 9999 = true
  ·by_cases hd : chkDisk ep h u l = 0
   ·by_cases h3 : lenL es = 2
    ·exact h3
    ·rw [chkC_no hb hd h3] at hc; cases hc
   ·unfold chkC at hc; rw [if_neg (by simp [hb]), if_pos hd] at hc; exact absurd hc hd
  ·unfold chkC at hc; rw [if_pos (by simpa using hb)] at hc; cases hc
 obtain ⟨a, b, rfl⟩ := two_of h2
 match cs, hlen with
 | [x, y], _ => exact ⟨a, b, x, y, rfl, rfl, chkC_iff.1 hc⟩
theorem node_ok {ep : Int} {l : List En} {e : Int} {c : List En} (h : chkNode ep l e c = 0) : 0 ≤ e ∧ e ≤ ep ∧ chkLog c = 0 ∧ beginsB c l = true := by
 unfold chkNode at h
 cases hb : betw e 0 ep
 ·rw [hb, if_pos rfl] at h; cases h
 rw [hb, if_neg (by simp)] at h
 by_cases h1 : chkLog c = 0
 rotate_left
 ·rw [if_pos h1] at h; exact absurd h h1
 rw [if_neg (fun hh => hh h1)] at h
 cases hg : beginsB c l
 ·rw [hg, if_pos rfl] at h; cases h
 obtain ⟨g1, g2⟩ := betw_iff.1 hb
 exact ⟨g1, g2, h1, rfl⟩
theorem formE_ok {now : Int} {x : Ev} (h : formE now x = 0) : betw x.kind 1 5 = true ∧ (x.kind = 1 → x.who = 0 ∧ 0 ≤ x.n ∧ x.n ≤ 9999 - now) ∧ (x.kind ≠ 1 → x.who = 1 ∨ x.who = 2) ∧ (x.kind = 4 → 0 ≤ x.n ∧ x.n ≤ 30) ∧ (x.kind ≠ 1 → x.kind ≠ 4 → x.n = 0) := by
 unfold formE evF at h
 cases hk : betw x.kind 1 5
 ·rw [hk] at h; cases h
 rw [hk] at h
 simp only [Bool.not_true, cond_false] at h
 cases h1 : ((decide (x.kind = 1) && !decide (x.who = 0)) || (!decide (x.kind = 1) && !decide (x.kind = 4) && !decide (x.n = 0)) || (!decide (x.kind = 3) && !eqOq x.op noOq))
 rotate_left
 ·rw [h1] at h; cases h
 rw [h1, cond_false] at h
 cases h2 : ((!decide (x.kind = 1) && !betw x.who 1 2) || (decide (x.kind = 4) && !betw x.n 0 30) || (decide (x.kind = 1) && !betw x.n 0 (9999 - now)))
 rotate_left
 ·rw [h2] at h; cases h
 simp only [Bool.or_eq_false_iff, Bool.and_eq_false_iff, Bool.not_eq_false', decide_eq_false_iff_not, decide_eq_true_eq] at h1 h2
 obtain ⟨⟨a1, a2⟩, _⟩ := h1
 obtain ⟨⟨b1, b2⟩, b3⟩ := h2
 refine ⟨rfl, fun k => ?_, fun k => ?_, fun k => ?_, fun k k4 => ?_⟩
 ·have c1 := a1.resolve_left (fun hh => hh k)
  have c2 := betw_iff.1 (b3.resolve_left (fun hh => hh k))
  exact ⟨c1, c2⟩
 ·have c1 := betw_iff.1 (b1.resolve_left k)
  omega
 ·exact betw_iff.1 (b2.resolve_left (fun hh => hh k))
 ·rcases a2 with (a2 | a2) | a2
  ·exact absurd a2 k
  ·exact absurd a2 k4
  ·exact a2
def noCl : CluV := (0, 0, 0, 0, [], ([], []), ())
def mkCl (now : Int) (d : Dk) (a b : Int) (x y : List En) : CluV := (now, d.1, d.2.1, d.2.2.1, d.2.2.2.1, ([a, b], [x, y]), ())
def evDo (now ep h u : Int) (l : List En) (a b : Int) (x y : List En) (e : Ev) : CluV × Bool :=
 if e.kind = 1 then (mkCl (now + e.n) (ep, h, u, l, ()) a b x y, true)
 else if e.kind = 2 then
  if (acqOf ep h u l e.who now).2.1 = 0 then (mkCl now (acqOf ep h u l e.who now).1 (if e.who = 1 then (acqOf ep h u l e.who now).1.1 else a) (if e.who = 1 then b else (acqOf ep h u l e.who now).1.1) x y, true)
  else (mkCl now (ep, h, u, l, ()) a b x y, false)
 else if e.kind = 3 then
  if (putOf ep h u l (if e.who = 1 then a else b) e.op).2.1 = 0 then (mkCl now (putOf ep h u l (if e.who = 1 then a else b) e.op).1 a b x y, true)
  else (mkCl now (ep, h, u, l, ()) a b x y, false)
 else if e.kind = 4 then (mkCl now (ep, h, u, l, ()) a b (if e.who = 1 then x ++ behindOf x l e.n else x) (if e.who = 1 then y else y ++ behindOf y l e.n), true)
 else (mkCl now (ep, h, u, l, ()) (if e.who = 1 then 0 else a) (if e.who = 1 then b else 0) (if e.who = 1 then [] else x) (if e.who = 1 then y else []), true)
abbrev DoC := CluV × Bool × Int × Unit
def errC (e : Int) : DoC := (noCl, false, e, ())
def doC (now ep h u : Int) (l : List En) (es : List Int) (cs : List (List En)) (e : Ev) : DoC :=
 if chkC now ep h u l es cs ≠ 0 then errC (chkC now ep h u l es cs) else if formE now e ≠ 0 then errC (formE now e) else
 match es, cs with
 | [a, b], [x, y] => ((evDo now ep h u l a b x y e).1, (evDo now ep h u l a b x y e).2, 0, ())
 | _, _ => errC 1
theorem rm0 (a : Int) : room (lenL ([] : List Int)) (lenL [a]) = true := rfl
theorem rm1 (a b : Int) : room (lenL [a]) (lenL [b]) = true := rfl
theorem rm2 (a b : Int) : room (lenL ([] : List Int)) (lenL [a, b]) = true := rfl
theorem pd0 : padL ([] : List Int).length ([] : List (List En)) = [] := rfl
theorem pd1 (a : Int) (x : List En) : padL [a].length [x] = [x] := rfl
theorem pd2 (a b : Int) (x y : List En) : padL [a, b].length [x, y] = [x, y] := rfl
theorem ap1 (a b : Int) : [a] ++ [b] = [a, b] := rfl
theorem ap2 (x y : List En) : [x] ++ [y] = [x, y] := rfl
theorem gx0 (x y : List En) : getL [x, y] 0 = x := rfl
theorem gx1 (x y : List En) : getL [x, y] 1 = y := rfl
theorem st0 (a b v : Int) : seti [a, b] 0 v = [v, b] := rfl
theorem st1 (a b v : Int) : seti [a, b] 1 v = [a, v] := rfl
theorem sx0 (x y z : List En) : seti [x, y] 0 z = [z, y] := rfl
theorem sx1 (x y z : List En) : seti [x, y] 1 z = [x, z] := rfl
theorem ox0 (x y : List En) : outL [x, y] 0 = [[], y] := rfl
theorem ox1 (x y : List En) : outL [x, y] 1 = [x, []] := rfl
abbrev DOwn := List En × List (List En) × List Int × (Int × Int × Int × Int × Unit) × (Ev × Unit) × (Int × Int × Int × Int × Unit) × List En × List (List En) × List Int × (Int × Int × Int × Int × Unit) × List En × List Int × List (List En) × Unit
theorem own_loop {now ep h u n1 e1 h1 u1 : Int} {l l1 : List En} {a b : Int} {x y : List En} (hx : x.length ≤ 30) (hy : y.length ≤ 30) (e : Ev) :
  loopN zq18 FUEL (((), (), (lenL [a, b], ()), (0, ()), ()), ((l, [x, y], [a, b], (now, ep, h, u, ()), (e, ()), (0, 0, 0, 0, ()), [], [], [], (n1, e1, h1, u1, ()), l1, [], [], ()) : DOwn)) =
   some (((), ()), ((l, [x, y], [a, b], (now, ep, h, u, ()), (e, ()), (0, 0, 0, 0, ()), [], [], [], (n1, e1, h1, u1, ()), l1, [a, b], [x, y], ()) : DOwn)) := by
 obtain ⟨N, hN⟩ := fuel3
 have cx : zq66 x = some (x, ()) := clone_eq (by omega)
 have cy : zq66 y = some (y, ()) := clone_eq (by omega)
 rw [hN, loopN_succ]
 simp only [zq18, dL0, d02, br_true, iL0, req_true, g20, bind_s, gx0, cx, dup_eq, both_self, e01, ok1, rm0, List.nil_append, pd0]
 rw [loopN_succ]
 simp only [zq18, dL1, d12, br_true, iL1, req_true, g21, bind_s, gx1, cy, dup_eq, both_self, e11, ok2, rm1, pd1, ap1, ap2]
 rw [loopN_succ]
 simp only [zq18, dL2, d22, br_false]
theorem begins_le {a b : List En} (h : beginsB a b = true) : a.length ≤ b.length := begins_len h
theorem cluster_Do_eq (now ep h u : Int) {l : List En} (hl : logIn l) (es : List Int) {cs : List (List En)} (hc : ∀ c ∈ cs, logIn c) (hlen : cs.length = es.length) {e : Ev} (he : e.In) : cluster_Do_t now ep h u l (es, cs) e = some (doC now ep h u l es cs e) := by
 unfold cluster_Do_t
 rw [cluster_Check_eq now ep h u hl es hc, bind_s]
 unfold doC
 by_cases h0 : chkC now ep h u l es cs = 0
 rotate_left
 ·rw [decide_eq_false h0, br_false, Bool.not_false, br_true, if_pos h0]; rfl
 obtain ⟨a, b, x, y, rfl, rfl, ok⟩ := chkC_two hlen h0
 rw [decide_eq_true h0, br_true, if_neg (fun hh => hh h0), cluster_form_eq ok.time.1 ok.time.2, bind_s]
 by_cases hf : formE now e = 0
 rotate_left
 ·rw [decide_eq_false hf, Bool.not_false, br_true, if_pos hf]; rfl
 obtain ⟨d1, _, _, _, d5, _⟩ := chkDisk_ok ok.disk
 have hll := chkLog_len d5
 obtain ⟨_, _, x1, x2⟩ := node_ok ok.n1
 obtain ⟨_, _, y1, y2⟩ := node_ok ok.n2
 have hxl := chkLog_len x1
 have hyl := chkLog_len y1
 have hxb := begins_le x2
 have hyb := begins_le y2
 obtain ⟨f1, f2, f3, f4, _⟩ := formE_ok hf
 obtain ⟨t1, t2⟩ := ok.time
 rw [decide_eq_true hf, Bool.not_true, br_false, if_neg (fun hh => hh hf), fence_Own_eq ep h u (by omega), bind_s, own_loop hxl hyl, bind_s]
 simp only
 unfold evDo
 by_cases k1 : e.kind = 1
 ·obtain ⟨_, n1, n2⟩ := f2 k1
  rw [decide_eq_true k1, br_true, if_pos k1, req_of (i64ok_of (by omega) (by omega))]
  rfl
 rw [decide_eq_false k1, br_false, if_neg k1]
 have hw := f3 k1
 rw [req_of (i64ok_of (by omega) (by omega))]
 have hz : ∀ z : Int, decide (z = z) = true := fun z => decide_eq_true rfl
 have z0 : decide ((0 : Int) ≤ 0) = true := rfl
 have z1 : decide ((0 : Int) ≤ 1) = true := rfl
 rcases hw with hw | hw
 ·have hi : e.who - 1 = 0 := by omega
  simp only [hi, iL0, req_true, g20, bind_s, gx0, st0, sx0, ox0, pd2, dup_eq, hz, z0]
  simp only [if_pos hw]
  by_cases k2 : e.kind = 2
  ·rw [decide_eq_true k2, br_true, if_pos k2, fence_Get_eq ep h u (by omega) _ _ d1.1 d1.2 t1 t2, bind_s]
   by_cases h4 : (acqOf ep h u l e.who now).2.1 = 0
   ·rw [decide_eq_true h4, br_true, br_true, if_pos h4]; rfl
   ·rw [decide_eq_false h4, br_false, br_false, if_neg h4]; rfl
  rw [decide_eq_false k2, br_false, if_neg k2]
  by_cases k3 : e.kind = 3
  ·rw [decide_eq_true k3, br_true, if_pos k3, fence_Put_eq ep h u hll _ he.2.2.2, bind_s]
   by_cases h4 : (putOf ep h u l a e.op).2.1 = 0
   ·rw [decide_eq_true h4, br_true, if_pos h4]; rfl
   ·rw [decide_eq_false h4, br_false, if_neg h4]; rfl
  rw [decide_eq_false k3, br_false, if_neg k3]
  by_cases k4 : e.kind = 4
  ·obtain ⟨n1, n2⟩ := f4 k4
   rw [decide_eq_true k4, br_true, if_pos k4, ship_Behind_eq hxl hll hxb n1 n2, bind_s]
   have hbl : (behindOf x l e.n).length ≤ 30 := by unfold behindOf; rw [List.length_take]; omega
   rw [req_of (room_of (zq53 _) (zq53 _) (by unfold lenL; simp only; omega))]
   rfl
  rw [decide_eq_false k4, br_false, if_neg k4, decide_eq_true (show e.kind = 5 by have := betw_iff.1 f1; omega), br_true]
  rfl
 ·have hi : e.who - 1 = 1 := by omega
  have hw1 : ¬ e.who = 1 := by omega
  simp only [hi, iL1, req_true, g21, bind_s, gx1, st1, sx1, ox1, pd2, dup_eq, hz, z1]
  simp only [if_neg hw1]
  by_cases k2 : e.kind = 2
  ·rw [decide_eq_true k2, br_true, if_pos k2, fence_Get_eq ep h u (by omega) _ _ d1.1 d1.2 t1 t2, bind_s]
   by_cases h4 : (acqOf ep h u l e.who now).2.1 = 0
   ·rw [decide_eq_true h4, br_true, br_true, if_pos h4]; rfl
   ·rw [decide_eq_false h4, br_false, br_false, if_neg h4]; rfl
  rw [decide_eq_false k2, br_false, if_neg k2]
  by_cases k3 : e.kind = 3
  ·rw [decide_eq_true k3, br_true, if_pos k3, fence_Put_eq ep h u hll _ he.2.2.2, bind_s]
   by_cases h4 : (putOf ep h u l b e.op).2.1 = 0
   ·rw [decide_eq_true h4, br_true, if_pos h4]; rfl
   ·rw [decide_eq_false h4, br_false, if_neg h4]; rfl
  rw [decide_eq_false k3, br_false, if_neg k3]
  by_cases k4 : e.kind = 4
  ·obtain ⟨n1, n2⟩ := f4 k4
   rw [decide_eq_true k4, br_true, if_pos k4, ship_Behind_eq hyl hll hyb n1 n2, bind_s]
   have hbl : (behindOf y l e.n).length ≤ 30 := by unfold behindOf; rw [List.length_take]; omega
   rw [req_of (room_of (zq53 _) (zq53 _) (by unfold lenL; simp only; omega))]
   rfl
  rw [decide_eq_false k4, br_false, if_neg k4, decide_eq_true (show e.kind = 5 by have := betw_iff.1 f1; omega), br_true]
  rfl
theorem R_AcquireOf_eq {ep h u : Int} (l : List En) (who now : Int) (h0 : 0 ≤ ep) (h1 : ep ≤ 999) (n0 : 0 ≤ now) (n1 : now ≤ 9999) : R_AcquireOf_t ep h u l who now = some (acqOf ep h u l who now) := by
 unfold R_AcquireOf_t
 rw [acq_ref l who now h1, br_sb, bind_s, req_of (i64ok_of (by omega) (by omega)), req_of (i64ok_of (by omega) (by omega))]
 have e1 : (bif !decide (h = 0) then decide (u ≥ now) else false) = (!decide (h = 0) && decide (u ≥ now)) := by cases decide (h = 0) <;> rfl
 rw [e1]
 simp only
 generalize (!decide (h = 0) && decide (u ≥ now)) = held
 cases held
 ·simp only [br_false, bind_s, Bool.false_eq_true, false_and, if_false, if_true, Bool.not_false, br_true]
  by_cases k : ep + 1 > 999
  ·rw [decide_eq_true k, br_true, if_pos k]; rfl
  ·rw [decide_eq_false k, br_false, if_neg k]
 ·simp only [br_true, bind_s, true_and, Bool.not_true, br_false, Bool.true_eq_false, if_false]
  by_cases k : h = who
  ·rw [decide_eq_true k, Bool.not_true, br_false, if_neg (fun hh => hh k)]
   have : ¬ ep > 999 := by omega
   rw [decide_eq_false this, br_false, if_neg this, req_of (i64ok_of (by omega) (by omega))]
  ·rw [decide_eq_false k, Bool.not_false, br_true, if_pos k]; rfl
theorem R_EventOf_eq {now ep h u : Int} {l : List En} {a b : Int} {x y : List En} (ok : COk now ep h u l a b x y) {e : Ev} (he : e.In) (hf : formE now e = 0) : R_EventOf_t now ep h u l ([a, b], [x, y]) e = some ((evDo now ep h u l a b x y e).1, (evDo now ep h u l a b x y e).2, ()) := by
 obtain ⟨d1, _, _, _, d5, _⟩ := chkDisk_ok ok.disk
 have hll := chkLog_len d5
 obtain ⟨_, _, x1, x2⟩ := node_ok ok.n1
 obtain ⟨_, _, y1, y2⟩ := node_ok ok.n2
 have hxl := chkLog_len x1
 have hyl := chkLog_len y1
 have hxb := begins_le x2
 have hyb := begins_le y2
 obtain ⟨f1, f2, f3, f4, _⟩ := formE_ok hf
 obtain ⟨t1, t2⟩ := ok.time
 have hwb : -9223372036854775807 ≤ e.who := by
  by_cases k1 : e.kind = 1
  ·have := (f2 k1).1; omega
  ·have := f3 k1; omega
 have hwb2 : e.who ≤ 2 := by
  by_cases k1 : e.kind = 1
  ·have := (f2 k1).1; omega
  ·have := f3 k1; omega
 unfold R_EventOf_t evDo
 simp only [List.nil_append, rm2, req_true, pd0]
 rw [req_of (i64ok_of (by omega) (by omega))]
 by_cases k1 : e.kind = 1
 ·obtain ⟨_, n1, n2⟩ := f2 k1
  rw [decide_eq_true k1, br_true, if_pos k1, req_of (i64ok_of (by omega) (by omega))]
  rfl
 rw [decide_eq_false k1, br_false, if_neg k1]
 have hw := f3 k1
 have rx : ∀ c : List En, c.length ≤ 30 → room (lenL ([] : List En)) (lenL c) = true := fun c hc => room_of (zq53 _) (zq53 _) (by unfold lenL; simp; omega)
 rcases hw with hw | hw
 ·have hi : e.who - 1 = 0 := by omega
  simp only [hi, iL0, req_true, g20, bind_s, gx0, st0, sx0, pd2, dup_eq, rx x hxl, both_self]
  simp only [if_pos hw]
  by_cases k2 : e.kind = 2
  ·rw [decide_eq_true k2, br_true, if_pos k2, R_AcquireOf_eq l _ _ d1.1 d1.2 t1 t2, bind_s]
   by_cases h4 : (acqOf ep h u l e.who now).2.1 = 0
   ·rw [decide_eq_true h4, Bool.not_true, br_false, if_pos h4]; rfl
   ·rw [decide_eq_false h4, Bool.not_false, br_true, if_neg h4]; rfl
  rw [decide_eq_false k2, br_false, if_neg k2]
  by_cases k3 : e.kind = 3
  ·rw [decide_eq_true k3, br_true, if_pos k3, R_WriteOf_eq ep h u hll _ he.2.2.2, bind_s]
   by_cases h4 : (putOf ep h u l a e.op).2.1 = 0
   ·rw [decide_eq_true h4, Bool.not_true, br_false, if_pos h4]; rfl
   ·rw [decide_eq_false h4, Bool.not_false, br_true, if_neg h4]; rfl
  rw [decide_eq_false k3, br_false, if_neg k3]
  by_cases k4 : e.kind = 4
  ·obtain ⟨n1, n2⟩ := f4 k4
   have hbl : (behindOf x l e.n).length ≤ 30 := by unfold behindOf; rw [List.length_take]; omega
   have r2 : room (lenL x) (lenL (behindOf x l e.n)) = true := room_of (zq53 _) (zq53 _) (by unfold lenL; omega)
   rw [decide_eq_true k4, br_true, if_pos k4]
   simp only [R_BehindOf_eq hxl hll hxb n1 n2, bind_s, r2, req_true, both_self]
   rfl
  rw [decide_eq_false k4, br_false, if_neg k4, decide_eq_true (show e.kind = 5 by have := betw_iff.1 f1; omega), br_true]
  rfl
 ·have hi : e.who - 1 = 1 := by omega
  have hw1 : ¬ e.who = 1 := by omega
  simp only [hi, iL1, req_true, g21, bind_s, gx1, st1, sx1, pd2, dup_eq, rx y hyl, both_self]
  simp only [if_neg hw1]
  by_cases k2 : e.kind = 2
  ·rw [decide_eq_true k2, br_true, if_pos k2, R_AcquireOf_eq l _ _ d1.1 d1.2 t1 t2, bind_s]
   by_cases h4 : (acqOf ep h u l e.who now).2.1 = 0
   ·rw [decide_eq_true h4, Bool.not_true, br_false, if_pos h4]; rfl
   ·rw [decide_eq_false h4, Bool.not_false, br_true, if_neg h4]; rfl
  rw [decide_eq_false k2, br_false, if_neg k2]
  by_cases k3 : e.kind = 3
  ·rw [decide_eq_true k3, br_true, if_pos k3, R_WriteOf_eq ep h u hll _ he.2.2.2, bind_s]
   by_cases h4 : (putOf ep h u l b e.op).2.1 = 0
   ·rw [decide_eq_true h4, Bool.not_true, br_false, if_pos h4]; rfl
   ·rw [decide_eq_false h4, Bool.not_false, br_true, if_neg h4]; rfl
  rw [decide_eq_false k3, br_false, if_neg k3]
  by_cases k4 : e.kind = 4
  ·obtain ⟨n1, n2⟩ := f4 k4
   have hbl : (behindOf y l e.n).length ≤ 30 := by unfold behindOf; rw [List.length_take]; omega
   have r2 : room (lenL y) (lenL (behindOf y l e.n)) = true := room_of (zq53 _) (zq53 _) (by unfold lenL; omega)
   rw [decide_eq_true k4, br_true, if_pos k4]
   simp only [R_BehindOf_eq hyl hll hyb n1 n2, bind_s, r2, req_true, both_self]
   rfl
  rw [decide_eq_false k4, br_false, if_neg k4, decide_eq_true (show e.kind = 5 by have := betw_iff.1 f1; omega), br_true]
  rfl
end Go.Ma
namespace Go.Ma
open Go
abbrev CS := Int × Dk × Int × Int × List En × List En
def clOf (s : CS) : CluV := mkCl s.1 s.2.1 s.2.2.1 s.2.2.2.1 s.2.2.2.2.1 s.2.2.2.2.2
def evS (s : CS) (e : Ev) : CS × Bool :=
 if e.kind = 1 then ((s.1 + e.n, s.2), true)
 else if e.kind = 2 then
  if (acqOf s.2.1.1 s.2.1.2.1 s.2.1.2.2.1 s.2.1.2.2.2.1 e.who s.1).2.1 = 0 then
   ((s.1, (acqOf s.2.1.1 s.2.1.2.1 s.2.1.2.2.1 s.2.1.2.2.2.1 e.who s.1).1, if e.who = 1 then (acqOf s.2.1.1 s.2.1.2.1 s.2.1.2.2.1 s.2.1.2.2.2.1 e.who s.1).1.1 else s.2.2.1, if e.who = 1 then s.2.2.2.1 else (acqOf s.2.1.1 s.2.1.2.1 s.2.1.2.2.1 s.2.1.2.2.2.1 e.who s.1).1.1, s.2.2.2.2), true)
  else (s, false)
 else if e.kind = 3 then
  if (putOf s.2.1.1 s.2.1.2.1 s.2.1.2.2.1 s.2.1.2.2.2.1 (if e.who = 1 then s.2.2.1 else s.2.2.2.1) e.op).2.1 = 0 then ((s.1, (putOf s.2.1.1 s.2.1.2.1 s.2.1.2.2.1 s.2.1.2.2.2.1 (if e.who = 1 then s.2.2.1 else s.2.2.2.1) e.op).1, s.2.2), true)
  else (s, false)
 else if e.kind = 4 then ((s.1, s.2.1, s.2.2.1, s.2.2.2.1, if e.who = 1 then s.2.2.2.2.1 ++ behindOf s.2.2.2.2.1 s.2.1.2.2.2.1 e.n else s.2.2.2.2.1, if e.who = 1 then s.2.2.2.2.2 else s.2.2.2.2.2 ++ behindOf s.2.2.2.2.2 s.2.1.2.2.2.1 e.n), true)
 else ((s.1, s.2.1, if e.who = 1 then 0 else s.2.2.1, if e.who = 1 then s.2.2.2.1 else 0, if e.who = 1 then [] else s.2.2.2.2.1, if e.who = 1 then s.2.2.2.2.2 else []), true)
theorem evDo_eq (now ep h u : Int) (l : List En) (a b : Int) (x y : List En) (e : Ev) : evDo now ep h u l a b x y e = (clOf (evS (now, (ep, h, u, l, ()), a, b, x, y) e).1, (evS (now, (ep, h, u, l, ()), a, b, x, y) e).2) := by
 unfold evDo evS
 by_cases k1 : e.kind = 1
 ·simp only [if_pos k1]; rfl
 by_cases k2 : e.kind = 2
 ·by_cases h0 : (acqOf ep h u l e.who now).2.1 = 0
  ·simp only [if_neg k1, if_pos k2, if_pos h0]; rfl
  ·simp only [if_neg k1, if_pos k2, if_neg h0]; rfl
 by_cases k3 : e.kind = 3
 ·by_cases h0 : (putOf ep h u l (if e.who = 1 then a else b) e.op).2.1 = 0
  ·simp only [if_neg k1, if_neg k2, if_pos k3, if_pos h0]; rfl
  ·simp only [if_neg k1, if_neg k2, if_pos k3, if_neg h0]; rfl
 by_cases k4 : e.kind = 4
 ·simp only [if_neg k1, if_neg k2, if_neg k3, if_pos k4]; rfl
 ·simp only [if_neg k1, if_neg k2, if_neg k3, if_neg k4]; rfl
def COkS (s : CS) : Prop := COk s.1 s.2.1.1 s.2.1.2.1 s.2.1.2.2.1 s.2.1.2.2.2.1 s.2.2.1 s.2.2.2.1 s.2.2.2.2.1 s.2.2.2.2.2 ∧ logIn s.2.1.2.2.2.1
theorem node_of {ep : Int} {l : List En} {e : Int} {c : List En} (h0 : 0 ≤ e) (h1 : e ≤ ep) (h2 : chkLog c = 0) (h3 : beginsB c l = true) : chkNode ep l e c = 0 := by
 unfold chkNode
 rw [betw_iff.2 ⟨h0, h1⟩, if_neg (by simp), if_neg (fun hh => hh h2), h3, if_neg (by simp)]
theorem begins_more {c l m : List En} (h : beginsB c l = true) : beginsB c (l ++ m) = true := by
 have h1 := begins_len h
 have h2 := begins_eq h
 unfold beginsB
 rw [decide_eq_true (show c.length ≤ (l ++ m).length by simp; omega), List.take_append_of_le_length h1, ← h2]
 simp
theorem begins_nil (l : List En) : beginsB [] l = true := by unfold beginsB; simp
theorem begins_in {c l : List En} (h : beginsB c l = true) (hl : logIn l) : logIn c := by
 rw [begins_eq h]; exact take_in hl _
theorem ship_on {x l : List En} (hb : beginsB x l = true) {n : Int} (n0 : 0 ≤ n) : x ++ behindOf x l n = l.take (x.length + n.toNat) := by
 have hk := begins_len hb
 have h1 := (behind_take l x.length hk n.toNat).2
 have e := begins_eq hb
 unfold behindOf
 rw [← e] at h1
 exact h1
theorem beginsB_takes (l : List En) (k : Nat) : beginsB (l.take k) l = true := by
 by_cases hk : k ≤ l.length
 ·have := beginsB_take (l := l) hk (Nat.le_refl _)
  rwa [List.take_length] at this
 ·rw [List.take_of_length_le (by omega)]
  have := beginsB_app l []
  rwa [List.append_nil] at this
theorem put_ok {ep h u : Int} {l : List En} {e : Int} {o : Oq} (h0 : (putOf ep h u l e o).2.1 = 0) : e ≠ 0 ∧ e = ep ∧ (moreOf l e o).2.1 = 0 ∧ (putOf ep h u l e o).1 = (ep, h, u, l ++ [⟨lenL l + 1, e, o⟩], ()) := by
 unfold putOf at h0 ⊢
 split at h0
 ·cases h0
 rename_i h2
 split at h0
 ·rename_i h3; exact absurd h0 h3
 rename_i h3
 have h3' := Decidable.not_not.1 h3
 refine ⟨by omega, by omega, h3', ?_⟩
 rw [if_neg h2, if_neg h3, (more_ok h3').2.2.2.2]
theorem acq_done {ep h u : Int} {l : List En} {who now : Int} (h0 : (acqOf ep h u l who now).2.1 = 0) : (overL h u now = true ∨ h = who) ∧ (overL h u now = true → ep ≠ 999) ∧ (acqOf ep h u l who now).1 = (if overL h u now = true then ep + 1 else ep, who, now + 10, l, ()) := by
 unfold acqOf at h0 ⊢
 split at h0
 ·cases h0
 rename_i h1
 split at h0
 ·cases h0
 rename_i h2
 refine ⟨?_, fun ho he => h2 ⟨ho, he⟩, by rw [if_neg h1, if_neg h2]⟩
 cases hov : overL h u now
 ·right
  by_cases hw : h = who
  ·exact hw
  ·exact absurd ⟨hov, hw⟩ h1
 ·exact .inl rfl
structure Step (s s' : CS) (e : Ev) : Prop where
 ok : COkS s'
 time : s.1 ≤ s'.1
 epoch : s.2.1.1 ≤ s'.2.1.1
 log : beginsB s.2.1.2.2.2.1 s'.2.1.2.2.2.1 = true
 same : e.kind ≠ 3 → s'.2.1.2.2.2.1 = s.2.1.2.2.2.1
theorem beginsB_self (l : List En) : beginsB l l = true := by
 have := beginsB_app l []
 rwa [List.append_nil] at this
theorem step_ev {s : CS} (hs : COkS s) {e : Ev} (he : e.In) (hf : formE s.1 e = 0) : Step s (evS s e).1 e := by
 obtain ⟨now, ⟨ep, h, u, l, _⟩, a, b, x, y⟩ := s
 obtain ⟨ok, hl⟩ := hs
 simp only at ok hl hf
 obtain ⟨d1, d2, d3, d4, d5, d6⟩ := chkDisk_ok ok.disk
 obtain ⟨a0, a1, x1, x2⟩ := node_ok ok.n1
 obtain ⟨b0, b1, y1, y2⟩ := node_ok ok.n2
 obtain ⟨f1, f2, f3, f4, _⟩ := formE_ok hf
 obtain ⟨t1, t2⟩ := ok.time
 have o1 := ok.o1
 have o2 := ok.o2
 have one := ok.ne
 have self : Step (now, (ep, h, u, l, ()), a, b, x, y) (now, (ep, h, u, l, ()), a, b, x, y) e := ⟨⟨ok, hl⟩, Int.le_refl _, Int.le_refl _, beginsB_self l, fun _ => rfl⟩
 unfold evS
 by_cases k1 : e.kind = 1
 ·obtain ⟨_, n1, n2⟩ := f2 k1
  rw [if_pos k1]
  exact ⟨⟨⟨by simp only; omega, ok.disk, ok.n1, ok.n2, ok.ne, ok.o1, ok.o2⟩, hl⟩, by simp only; omega, Int.le_refl _, beginsB_self l, fun _ => rfl⟩
 rw [if_neg k1]
 have hw := f3 k1
 by_cases k2 : e.kind = 2
 ·rw [if_pos k2]
  by_cases h0 : (acqOf ep h u l e.who now).2.1 = 0
  rotate_left
  ·simp only [if_neg h0]; exact self
  simp only [if_pos h0]
  obtain ⟨g1, g2, g3⟩ := acq_done h0
  rw [g3]
  have hd := acq_disk ok.disk (show 1 ≤ e.who ∧ e.who ≤ 2 by omega) ok.time g1 g2
  have hep : (overL h u now = true ∧ (if overL h u now = true then ep + 1 else ep) = ep + 1) ∨ (h = e.who ∧ (if overL h u now = true then ep + 1 else ep) = ep) := by
   cases hov : overL h u now
   ·right
    rw [hov] at g1
    exact ⟨g1.resolve_left (by simp), by simp⟩
   ·left; simp
  generalize hE : (if overL h u now = true then ep + 1 else ep) = E at hd hep
  have hle : ep ≤ E := by omega
  refine ⟨⟨?_, hl⟩, Int.le_refl _, hle, beginsB_self l, fun _ => rfl⟩
  simp only
  rcases hw with hw | hw
  ·rw [if_pos hw, if_pos hw]
   exact ⟨ok.time, hd, node_of (by omega) (Int.le_refl _) x1 x2, node_of b0 (by omega) y1 y2, by omega, by omega, by omega⟩
  ·have hw1 : ¬ e.who = 1 := by omega
   rw [if_neg hw1, if_neg hw1]
   exact ⟨ok.time, hd, node_of a0 (by omega) x1 x2, node_of (by omega) (Int.le_refl _) y1 y2, by omega, by omega, by omega⟩
 rw [if_neg k2]
 by_cases k3 : e.kind = 3
 ·rw [if_pos k3]
  by_cases h0 : (putOf ep h u l (if e.who = 1 then a else b) e.op).2.1 = 0
  rotate_left
  ·simp only [if_neg h0]; exact self
  simp only [if_pos h0]
  obtain ⟨g1, g2, g3, g4⟩ := put_ok h0
  rw [g4]
  have hm : (moreOf l ep e.op).2.1 = 0 := by rw [← g2]; exact g3
  rw [g2]
  refine ⟨⟨⟨ok.time, write_disk ok.disk hm, node_of a0 a1 x1 (begins_more x2), node_of b0 b1 y1 (begins_more y2), ok.ne, ok.o1, ok.o2⟩, ?_⟩, Int.le_refl _, Int.le_refl _, beginsB_app _ _, fun hh => absurd k3 hh⟩
  exact app1_in hl (by have := chkLog_len d5; unfold lenL; constructor <;> omega) (by constructor <;> omega) he.2.2.2
 rw [if_neg k3]
 by_cases k4 : e.kind = 4
 ·obtain ⟨n1, n2⟩ := f4 k4
  rw [if_pos k4]
  refine ⟨⟨?_, hl⟩, Int.le_refl _, Int.le_refl _, beginsB_self l, fun _ => rfl⟩
  simp only
  rcases hw with hw | hw
  ·rw [if_pos hw, if_pos hw, ship_on x2 n1]
   exact ⟨ok.time, ok.disk, node_of a0 a1 (chkLog_take d5 _) (beginsB_takes l _), ok.n2, ok.ne, ok.o1, ok.o2⟩
  ·have hw1 : ¬ e.who = 1 := by omega
   rw [if_neg hw1, if_neg hw1, ship_on y2 n1]
   exact ⟨ok.time, ok.disk, ok.n1, node_of b0 b1 (chkLog_take d5 _) (beginsB_takes l _), ok.ne, ok.o1, ok.o2⟩
 rw [if_neg k4]
 have hnil : chkNode ep l 0 [] = 0 := node_of (Int.le_refl _) d1.1 rfl (begins_nil l)
 refine ⟨⟨?_, hl⟩, Int.le_refl _, Int.le_refl _, beginsB_self l, fun _ => rfl⟩
 simp only
 rcases hw with hw | hw
 ·simp only [if_pos hw]
  exact ⟨ok.time, ok.disk, hnil, ok.n2, by omega, by omega, ok.o2⟩
 ·have hw1 : ¬ e.who = 1 := by omega
  simp only [if_neg hw1]
  exact ⟨ok.time, ok.disk, ok.n1, hnil, by omega, ok.o1, by omega⟩
end Go.Ma
namespace Go.Ma
open Go
end Go.Ma
namespace Go.Ma
open Go
theorem beqI (a : Int) : (!decide (a = a)) = false := by rw [decide_eq_true rfl]; rfl
theorem same_two {now ep h u : Int} {l : List En} {a b : Int} {x y : List En} (hl : l.length < 9223372036854775808) (hx : x.length < 9223372036854775808) (hy : y.length < 9223372036854775808) : R_SameCluster_t now ep h u l ([a, b], [x, y]) now ep h u l ([a, b], [x, y]) = some (true, ()) := by
 obtain ⟨N, hN⟩ := fuel3
 unfold R_SameCluster_t
 rw [R_SameDisk_eq ep h u ep h u l hl, beqI, br_false, bind_s, decide_eq_true rfl, Bool.not_true, bind_s, br_false, beqI, bind_s, br_false, hN, loopN_succ]
 have ex : R_SameLog_t x x = some (true, ()) := by rw [R_SameLog_eq hx, decide_eq_true rfl]
 have ey : R_SameLog_t y y = some (true, ()) := by rw [R_SameLog_eq hy, decide_eq_true rfl]
 simp only [R_SameCluster_L4, dL0, br_true, iL0, req_true, g20, bind_s, gx0, ex, e01, ok1, beqI, br_false, Bool.not_true]
 rw [loopN_succ]
 simp only [R_SameCluster_L4, dL1, br_true, iL1, req_true, g21, bind_s, gx1, ey, e11, ok2, beqI, br_false, Bool.not_true]
 rw [loopN_succ]
 simp only [R_SameCluster_L4, dL2, br_false]
 rfl
theorem same_no : R_SameCluster_t 0 0 0 0 [] ([], []) 0 0 0 0 [] ([], []) = some (true, ()) := by
 obtain ⟨N, hN⟩ := fuel3
 unfold R_SameCluster_t
 rw [R_SameDisk_eq 0 0 0 0 0 0 [] (by decide), beqI, br_false, bind_s, decide_eq_true rfl, Bool.not_true, bind_s, br_false, beqI, bind_s, br_false, hN, loopN_succ]
 rfl
theorem COkS.len {s : CS} (hs : COkS s) : s.2.1.2.2.2.1.length ≤ 30 ∧ s.2.2.2.2.1.length ≤ 30 ∧ s.2.2.2.2.2.length ≤ 30 := by
 obtain ⟨_, _, _, _, d5, _⟩ := chkDisk_ok hs.1.disk
 exact ⟨chkLog_len d5, chkLog_len (node_ok hs.1.n1).2.2.1, chkLog_len (node_ok hs.1.n2).2.2.1⟩
theorem COkS.logs {s : CS} (hs : COkS s) : logIn s.2.2.2.2.1 ∧ logIn s.2.2.2.2.2 := ⟨begins_in (node_ok hs.1.n1).2.2.2 hs.2, begins_in (node_ok hs.1.n2).2.2.2 hs.2⟩
theorem COkS.chk {s : CS} (hs : COkS s) : chkC s.1 s.2.1.1 s.2.1.2.1 s.2.1.2.2.1 s.2.1.2.2.2.1 [s.2.2.1, s.2.2.2.1] [s.2.2.2.2.1, s.2.2.2.2.2] = 0 := chkC_iff.2 hs.1
theorem COkS.cs {s : CS} (hs : COkS s) : ∀ c ∈ [s.2.2.2.2.1, s.2.2.2.2.2], logIn c := fun c hc => by
 simp only [List.mem_cons, List.not_mem_nil, or_false] at hc
 rcases hc with rfl | rfl
 ·exact hs.logs.1
 ·exact hs.logs.2
theorem same_cl {s : CS} (hs : COkS s) : R_SameCluster_t s.1 s.2.1.1 s.2.1.2.1 s.2.1.2.2.1 s.2.1.2.2.2.1 ([s.2.2.1, s.2.2.2.1], [s.2.2.2.2.1, s.2.2.2.2.2]) s.1 s.2.1.1 s.2.1.2.1 s.2.1.2.2.1 s.2.1.2.2.2.1 ([s.2.2.1, s.2.2.2.1], [s.2.2.2.2.1, s.2.2.2.2.2]) = some (true, ()) := by
 obtain ⟨h1, h2, h3⟩ := hs.len
 exact same_two (by omega) (by omega) (by omega)
theorem check_cl {s : CS} (hs : COkS s) : cluster_Check_t s.1 s.2.1.1 s.2.1.2.1 s.2.1.2.2.1 s.2.1.2.2.2.1 ([s.2.2.1, s.2.2.2.1], [s.2.2.2.2.1, s.2.2.2.2.2]) = some (0, ()) := by
 rw [cluster_Check_eq _ _ _ _ hs.2 _ hs.cs, hs.chk]
theorem do_cl {s : CS} (hs : COkS s) {e : Ev} (he : e.In) : cluster_Do_t s.1 s.2.1.1 s.2.1.2.1 s.2.1.2.2.1 s.2.1.2.2.2.1 ([s.2.2.1, s.2.2.2.1], [s.2.2.2.2.1, s.2.2.2.2.2]) e = some (if formE s.1 e ≠ 0 then errC (formE s.1 e) else (clOf (evS s e).1, (evS s e).2, 0, ())) := by
 rw [cluster_Do_eq _ _ _ _ hs.2 _ hs.cs rfl he]
 unfold doC
 rw [if_neg (fun hh => hh hs.chk)]
 simp only [evDo_eq]
theorem ev_cl {s : CS} (hs : COkS s) {e : Ev} (he : e.In) (hf : formE s.1 e = 0) : R_EventOf_t s.1 s.2.1.1 s.2.1.2.1 s.2.1.2.2.1 s.2.1.2.2.2.1 ([s.2.2.1, s.2.2.2.1], [s.2.2.2.2.1, s.2.2.2.2.2]) e = some (clOf (evS s e).1, (evS s e).2, ()) := by
 rw [R_EventOf_eq hs.1 he hf]
 simp only [evDo_eq]
def seenC (now ep h u : Int) (l : List En) (es : List Int) (cs : List (List En)) (who : Int) : StV × Int × Unit :=
 if chkC now ep h u l es cs ≠ 0 then (noSt, chkC now ep h u l es cs, ()) else if betw who 1 2 = false then (noSt, 3, ()) else (replayS noSt (getL cs (who - 1)), 0, ())
theorem cluster_Seen_eq (now ep h u : Int) {l : List En} (hl : logIn l) (es : List Int) {cs : List (List En)} (hc : ∀ c ∈ cs, logIn c) (hlen : cs.length = es.length) (who : Int) : cluster_Seen_t now ep h u l (es, cs) who = some (seenC now ep h u l es cs who) := by
 unfold cluster_Seen_t seenC
 rw [cluster_Check_eq now ep h u hl es hc, bind_s]
 by_cases h0 : chkC now ep h u l es cs = 0
 rotate_left
 ·rw [decide_eq_false h0, br_false, bind_s, br_false, Bool.not_false, br_true, if_pos h0]; rfl
 obtain ⟨a, b, x, y, rfl, rfl, ok⟩ := chkC_two hlen h0
 rw [decide_eq_true h0, br_true, cluster_within_eq, bind_s, bind_s, Bool.not_true, if_neg (fun hh => hh h0)]
 cases hb : betw who 1 2
 ·rfl
 obtain ⟨w1, w2⟩ := betw_iff.1 hb
 have hw : who = 1 ∨ who = 2 := by omega
 have hx := chkLog_len (node_ok ok.n1).2.2.1
 have hy := chkLog_len (node_ok ok.n2).2.2.1
 have ix : logIn x := hc x (by simp)
 have iy : logIn y := hc y (by simp)
 simp only [Bool.not_true, br_false]
 rw [if_neg (by simp), req_of (i64ok_of (by omega) (by omega))]
 rcases hw with rfl | rfl
 ·rw [show (1 : Int) - 1 = 0 from rfl]
  simp only [iL0, req_true, g20, bind_s, gx0, log_All_eq ix hx]
 ·rw [show (2 : Int) - 1 = 1 from rfl]
  simp only [iL1, req_true, g21, bind_s, gx1, log_All_eq iy hy]
def runC : CS → List Bool → List Ev → Int × CS × List Bool
 | s, out, [] => (0, s, out)
 | s, out, e :: r => if formE s.1 e ≠ 0 then (formE s.1 e, s, out) else runC (evS s e).1 (out ++ [(evS s e).2]) r
def cs0 : CS := (0, (0, 0, 0, [], ()), 0, 0, [], [])
theorem cs0_ok : COkS cs0 := ⟨chkC_iff.1 (by decide +kernel), fun e he => by cases he⟩
theorem runC_ok : ∀ (r : List Ev) (s : CS) (out : List Bool), COkS s → (∀ e ∈ r, e.In) → COkS (runC s out r).2.1 ∧ ((runC s out r).1 = 0 → (runC s out r).2.2.length = out.length + r.length)
 | [], s, out, hs, _ => ⟨hs, fun _ => rfl⟩
 | e :: r, s, out, hs, hr => by
  unfold runC
  by_cases hf : formE s.1 e = 0
  ·rw [if_neg (fun hh => hh hf)]
   obtain ⟨h1, h2⟩ := runC_ok r (evS s e).1 (out ++ [(evS s e).2]) (step_ev hs (hr e List.mem_cons_self) hf).ok fun x hx => hr x (List.mem_cons_of_mem _ hx)
   exact ⟨h1, fun h => by rw [h2 h]; simp; omega⟩
  ·rw [if_pos hf]
   exact ⟨hs, fun h => absurd h hf⟩
abbrev RunA := List Ev × (Int × Int × Int × Int × Unit) × (Int × Int × Int × Int × Unit) × List Bool × List En × List Int × List En × List Int × List (List En) × List (List En) × Unit
def runOutA (l : List Ev) (z : Int × CS × List Bool) : (((Unit) × (Unit) × (Int × Unit) × Unit) × (List Ev × (Int × Int × Int × Int × Unit) × List Bool × List En × List Int × List (List En) × Unit)) ⊕ (((Unit) × (Unit) × (Unit) × Unit) × RunA) :=
 if z.1 ≠ 0 then Sum.inl (((), (), (z.1, ()), ()), (l, (0, 0, 0, 0, ()), [], [], [], [], ()))
 else Sum.inr (((), (), (), ()), (l, (0, 0, 0, 0, ()), (z.2.1.1, z.2.1.2.1.1, z.2.1.2.1.2.1, z.2.1.2.1.2.2.1, ()), z.2.2, [], [], z.2.1.2.1.2.2.2.1, [z.2.1.2.2.1, z.2.1.2.2.2.1], [], [z.2.1.2.2.2.2.1, z.2.1.2.2.2.2.2], ()))
theorem run_loop {l : List Ev} (hl : l.length ≤ 40) (hin : ∀ e ∈ l, e.In) : ∀ (N i : Nat) (s : CS) (out : List Bool), COkS s → i ≤ l.length → l.length - i < N → out.length ≤ i →
  loopN cluster_Run_L6 N (((), (), (), (), (lenL l, ()), ((i : Int), ()), ()), ((l, (0, 0, 0, 0, ()), (s.1, s.2.1.1, s.2.1.2.1, s.2.1.2.2.1, ()), out, [], [], s.2.1.2.2.2.1, [s.2.2.1, s.2.2.2.1], [], [s.2.2.2.2.1, s.2.2.2.2.2], ()) : RunA)) = some (runOutA l (runC s out (l.drop i)))
 | 0, _, _, _, _, _, hN, _ => by omega
 | N + 1, i, s, out, hs, hi, hN, ho => by
  rw [loopN_succ]
  by_cases h : i < l.length
  rotate_left
  ·simp only [cluster_Run_L6]
   rw [decide_eq_false (show ¬ (i : Int) < lenL l by unfold lenL; omega), br_false, List.drop_of_length_le (by omega)]
   rfl
  obtain ⟨e, he⟩ : ∃ e, l[i]? = some e := ⟨_, List.getElem?_eq_getElem h⟩
  have hei := hin e (List.mem_of_getElem? he)
  rw [drop_cons he]
  simp only [cluster_Run_L6]
  rw [decide_eq_true (show (i : Int) < lenL l by unfold lenL; omega), br_true, req_of (zq30 (by omega) (by unfold lenL; omega)), geti_at he, bind_s, do_cl hs hei, bind_s]
  unfold runC
  by_cases hf : formE s.1 e = 0
  rotate_left
  ·rw [if_pos hf, if_pos hf]
   have h1 : ¬ (errC (formE s.1 e)).2.2.1 = 0 := hf
   rw [decide_eq_false h1, Bool.not_false, br_true]
   unfold runOutA
   rw [if_pos hf]
   rfl
  rw [if_neg (fun hh => hh hf), if_neg (fun hh => hh hf)]
  simp only [decide_true, Bool.not_true, br_false]
  rw [req_of (room_of (zq53 _) (zq53 _) (by unfold lenL; simp; omega)), req_of (i64ok_of (by omega) (by omega)), show ((i : Int) + 1) = ((i + 1 : Nat) : Int) by omega]
  exact run_loop hl hin N (i + 1) (evS s e).1 (out ++ [(evS s e).2]) (step_ev hs hei hf).ok (by omega) (by omega) (by simp; omega)
def runT (l : List Ev) : CluV × List Bool × Int × Unit :=
 if l.length > 40 then (noCl, [], 2, ()) else if (runC cs0 [] l).1 ≠ 0 then (noCl, [], (runC cs0 [] l).1, ()) else (clOf (runC cs0 [] l).2.1, (runC cs0 [] l).2.2, 0, ())
theorem cluster_Run_eq {l : List Ev} (hin : ∀ e ∈ l, e.In) : cluster_Run_t l = some (runT l) := by
 unfold cluster_Run_t runT
 by_cases h : l.length > 40
 ·rw [decide_eq_true (show lenL l > 40 by unfold lenL; omega), br_true, if_pos h]; rfl
 rw [decide_eq_false (show ¬ lenL l > 40 by unfold lenL; omega), br_false, if_neg h]
 have := run_loop (l := l) (by omega) hin FUEL 0 cs0 [] cs0_ok (Nat.zero_le _) (by unfold FUEL; omega) (Nat.le_refl _)
 rw [List.drop_zero] at this
 have this : loopN cluster_Run_L6 FUEL (((), (), (), (), (lenL l, ()), (0, ()), ()), ((l, (0, 0, 0, 0, ()), (0, 0, 0, 0, ()), [], [], [], [], [0, 0], [], [[], []], ()) : RunA)) = _ := this
 unfold cluster_New_t
 rw [bind_s, this, bind_s]
 unfold runOutA
 by_cases h0 : (runC cs0 [] l).1 = 0
 ·rw [if_neg (fun hh => hh h0), if_neg (fun hh => hh h0)]; rfl
 ·rw [if_pos h0, if_pos h0]; rfl
abbrev RunB := List Ev × Unit × (Int × Int × Int × Int × Unit) × (Int × Int × Int × Int × Unit) × List Bool × List En × List Int × List En × List Int × List (List En) × List (List En) × Unit
def runOutB (l : List Ev) (z : Int × CS × List Bool) : (((Unit) × (Unit) × (Int × Unit) × Unit) × (List Ev × Unit × (Int × Int × Int × Int × Unit) × List Bool × List En × List Int × List (List En) × Unit)) ⊕ (((Unit) × (Unit) × (Unit) × Unit) × RunB) :=
 if z.1 ≠ 0 then Sum.inl (((), (), (z.1, ()), ()), (l, (), (0, 0, 0, 0, ()), [], [], [], [], ()))
 else Sum.inr (((), (), (), ()), (l, (), (0, 0, 0, 0, ()), (z.2.1.1, z.2.1.2.1.1, z.2.1.2.1.2.1, z.2.1.2.1.2.2.1, ()), z.2.2, [], [], z.2.1.2.1.2.2.2.1, [z.2.1.2.2.1, z.2.1.2.2.2.1], [], [z.2.1.2.2.2.2.1, z.2.1.2.2.2.2.2], ()))
theorem rrun_loop {l : List Ev} (hl : l.length ≤ 40) (hin : ∀ e ∈ l, e.In) : ∀ (N i : Nat) (s : CS) (out : List Bool), COkS s → i ≤ l.length → l.length - i < N → out.length ≤ i →
  loopN R_RunOf_L6 N (((), (), (), (), ((i : Int), ()), ()), ((l, (), (0, 0, 0, 0, ()), (s.1, s.2.1.1, s.2.1.2.1, s.2.1.2.2.1, ()), out, [], [], s.2.1.2.2.2.1, [s.2.2.1, s.2.2.2.1], [], [s.2.2.2.2.1, s.2.2.2.2.2], ()) : RunB)) = some (runOutB l (runC s out (l.drop i)))
 | 0, _, _, _, _, _, hN, _ => by omega
 | N + 1, i, s, out, hs, hi, hN, ho => by
  rw [loopN_succ]
  by_cases h : i < l.length
  rotate_left
  ·simp only [R_RunOf_L6]
   rw [decide_eq_false (show ¬ (i : Int) < lenL l by unfold lenL; omega), br_false, List.drop_of_length_le (by omega)]
   rfl
  obtain ⟨e, he⟩ : ∃ e, l[i]? = some e := ⟨_, List.getElem?_eq_getElem h⟩
  have hei := hin e (List.mem_of_getElem? he)
  have r1 : inRange (i : Int) (lenL l) = true := zq30 (by omega) (by unfold lenL; omega)
  rw [drop_cons he]
  simp only [R_RunOf_L6]
  rw [decide_eq_true (show (i : Int) < lenL l by unfold lenL; omega), br_true, req_of r1, req_of r1, geti_at he, bind_s, R_CheckEvent_eq hs.1.time.1 hs.1.time.2, bind_s]
  unfold runC
  by_cases hf : formE s.1 e = 0
  rotate_left
  ·rw [if_pos hf]
   rw [decide_eq_false hf, Bool.not_false, br_true]
   unfold runOutB
   rw [if_pos hf]
  rw [if_neg (fun hh => hh hf), decide_eq_true hf, Bool.not_true, br_false, bind_s, dup_eq, ev_cl hs hei hf, bind_s]
  rw [req_of (room_of (zq53 _) (zq53 _) (by unfold lenL; simp; omega)), req_of (i64ok_of (by omega) (by omega)), show ((i : Int) + 1) = ((i + 1 : Nat) : Int) by omega]
  exact rrun_loop hl hin N (i + 1) (evS s e).1 (out ++ [(evS s e).2]) (step_ev hs hei hf).ok (by omega) (by omega) (by simp; omega)
theorem R_RunOf_eq {l : List Ev} (hin : ∀ e ∈ l, e.In) : R_RunOf_t l = some (runT l) := by
 unfold R_RunOf_t runT
 by_cases h : l.length > 40
 ·rw [decide_eq_true (show lenL l > 40 by unfold lenL; omega), br_true, if_pos h]; rfl
 rw [decide_eq_false (show ¬ lenL l > 40 by unfold lenL; omega), br_false, if_neg h]
 have := rrun_loop (l := l) (by omega) hin FUEL 0 cs0 [] cs0_ok (Nat.zero_le _) (by unfold FUEL; omega) (Nat.le_refl _)
 rw [List.drop_zero] at this
 have this : loopN R_RunOf_L6 FUEL (((), (), (), (), (0, ()), ()), ((l, (), (0, 0, 0, 0, ()), (0, 0, 0, 0, ()), [], [], [], [], [0, 0], [], [[], []], ()) : RunB)) = _ := this
 rw [this, bind_s]
 unfold runOutB
 by_cases h0 : (runC cs0 [] l).1 = 0
 ·rw [if_neg (fun hh => hh h0), if_neg (fun hh => hh h0)]; rfl
 ·rw [if_pos h0, if_pos h0]; rfl
theorem clusterIs_eq {s : CS} (hs : COkS s) : law_clusterIs_t s.1 s.2.1.1 s.2.1.2.1 s.2.1.2.2.1 s.2.1.2.2.2.1 ([s.2.2.1, s.2.2.2.1], [s.2.2.2.2.1, s.2.2.2.2.2]) 0 0 s.1 s.2.1.1 s.2.1.2.1 s.2.1.2.2.1 s.2.1.2.2.2.1 ([s.2.2.1, s.2.2.2.1], [s.2.2.2.2.1, s.2.2.2.2.2]) = some (true, ()) := by
 unfold law_clusterIs_t
 rw [decide_eq_true rfl, Bool.not_true, br_false, br_true, same_cl hs]
 rfl
theorem clusterIs_no {e : Int} (he : e ≠ 0) (now ep h u : Int) (l : List En) (ns : List Int × List (List En)) : law_clusterIs_t 0 0 0 0 [] ([], []) e e now ep h u l ns = some (true, ()) := by
 unfold law_clusterIs_t
 rw [decide_eq_false he, Bool.not_false, br_true, decide_eq_true rfl, br_true, same_no]
 rfl
def evs : List Ev := [⟨2, 1, 0, noOq⟩, ⟨3, 1, 0, op1⟩, ⟨1, 0, 11, noOq⟩, ⟨2, 2, 0, noOq⟩, ⟨3, 1, 0, op2⟩, ⟨4, 2, 5, noOq⟩, ⟨3, 2, 0, op3⟩]
theorem events_eq : law_events_t = some (evs, ()) := rfl
theorem noOq_in : noOq.In := ⟨⟨by decide, by decide⟩, noPf_in, noAd_in, strIn_empty, ⟨by decide, by decide⟩, ⟨by decide, by decide⟩⟩
theorem evs_in : ∀ e ∈ evs, e.In := fun e he => by
 simp only [evs, List.mem_cons, List.not_mem_nil, or_false] at he
 rcases he with rfl | rfl | rfl | rfl | rfl | rfl | rfl
 all_goals refine ⟨⟨by decide, by decide⟩, ⟨by decide, by decide⟩, ⟨by decide, by decide⟩, ?_⟩
 ·exact noOq_in
 ·exact op_in.1
 ·exact noOq_in
 ·exact noOq_in
 ·exact op_in.2.1
 ·exact noOq_in
 ·exact op_in.2.2
def csE : CS := (runC cs0 [] evs).2.1
theorem run_evs : (runC cs0 [] evs).1 = 0 := by decide +kernel
theorem run_done : (runC cs0 [] evs).2.2 = [true, true, true, true, false, true, true] := by decide +kernel
theorem csE_ok : COkS csE := (runC_ok evs cs0 [] cs0_ok evs_in).1
theorem csE_log : lenL csE.2.1.2.2.2.1 = 2 := by decide +kernel
theorem csE_ep : csE.2.1.1 = 2 := by decide +kernel
theorem csE_seen : lenL (replayS noSt csE.2.2.2.2.2).1.1 = 1 := by decide +kernel
theorem new_chk : cluster_Check_t 0 0 0 0 [] ([0, 0], [[], []]) = some (0, ()) := check_cl cs0_ok
theorem clusterBegun_eq : law_clusterBegun_t = some (true, ()) := by
 have e1 : cluster_Run_t evs = some (clOf csE, [true, true, true, true, false, true, true], 0, ()) := by
  rw [cluster_Run_eq evs_in]
  unfold runT
  rw [if_neg (by decide), if_neg (fun hh => hh run_evs), run_done]
  rfl
 have e2 : cluster_Seen_t csE.1 csE.2.1.1 csE.2.1.2.1 csE.2.1.2.2.1 csE.2.1.2.2.2.1 ([csE.2.2.1, csE.2.2.2.1], [csE.2.2.2.2.1, csE.2.2.2.2.2]) 2 = some (replayS noSt csE.2.2.2.2.2, 0, ()) := by
  rw [cluster_Seen_eq _ _ _ _ csE_ok.2 _ csE_ok.cs rfl]
  unfold seenC
  rw [if_neg (fun hh => hh csE_ok.chk), if_neg (by decide)]
  rfl
 have e3 := check_cl csE_ok
 unfold law_clusterBegun_t
 rw [events_eq, bind_s, e1, bind_s]
 show (cluster_Seen_t csE.1 csE.2.1.1 csE.2.1.2.1 csE.2.1.2.2.1 csE.2.1.2.2.2.1 ([csE.2.2.1, csE.2.2.2.1], [csE.2.2.2.2.1, csE.2.2.2.2.2]) 2).bind _ = _
 rw [e2, bind_s]
 unfold cluster_New_t
 simp only [bind_s, decide_true, Bool.not_true, br_false]
 rw [new_chk, bind_s]
 simp only [decide_true, Bool.not_true, br_false]
 rw [show lenL [true, true, true, true, false, true, true] = 7 from rfl, decide_eq_true rfl, Bool.not_true, br_false]
 show (cluster_Check_t csE.1 csE.2.1.1 csE.2.1.2.1 csE.2.1.2.2.1 csE.2.1.2.2.2.1 ([csE.2.2.1, csE.2.2.2.1], [csE.2.2.2.2.1, csE.2.2.2.2.2])).bind _ = _
 rw [e3, bind_s]
 simp only [decide_true, Bool.not_true, br_false]
 show (req true <| (some true).bind fun p9 => (br p9 (req true <| (some false).bind fun p10 => some (!p10)) (some false)).bind fun c10 => (br c10 (req true <| (some true).bind fun p11 => some p11) (some false)).bind fun c11 => (br c11 (some (decide (lenL csE.2.1.2.2.2.1 = 2))) (some false)).bind fun c12 => (br c12 (some (decide (csE.2.1.1 = 2))) (some false)).bind fun c13 => (br c13 (some (decide (lenL (replayS noSt csE.2.2.2.2.2).1.1 = 1))) (some false)).bind fun c14 => some (c14, ())) = _
 rw [csE_log, csE_ep, csE_seen]
 rfl
end Go.Ma
namespace Go.Ma
open Go
theorem runs_loop (l : List Ev) {bs : List Bool} (hb : bs.length < 9223372036854775808) : loopN zq31 FUEL (((), (), (0, ()), ()), (l, bs, bs, ())) = some (Sum.inr ((), (l, ()))) := by
 have := loop_up (step := zq31) (fun i => (((), (), ((i : Int), ()), ()), (l, bs, bs, ()))) bs.length (fun _ => some (Sum.inr ((), (l, ())))) (fun rec i hi hr => ?_) (fun rec => ?_) FUEL 0 (Nat.zero_le _) (fuel_gt (by omega))
 ·rw [show ((0 : Nat) : Int) = 0 from rfl] at this
  exact this
 ·obtain ⟨x, hx⟩ : ∃ e, bs[i]? = some e := ⟨_, List.getElem?_eq_getElem hi⟩
  have r1 : inRange (i : Int) (lenL bs) = true := zq30 (by omega) (by unfold lenL; omega)
  simp only [zq31]
  simp only [r1, req_true, geti_at hx, bind_s, beqB_eq]
  rw [decide_eq_true (show (i : Int) < lenL bs by unfold lenL; omega), br_true, Bool.not_true, br_false, req_of (i64ok_of (by omega) (by omega)), show ((i : Int) + 1) = ((i + 1 : Nat) : Int) by omega, hr]
 ·simp only [zq31]
  rw [decide_eq_false (show ¬ (bs.length : Int) < lenL bs by unfold lenL; omega), br_false]
theorem ClusterRuns_eq {l : List Ev} (hin : ∀ e ∈ l, e.In) : law_ClusterRuns_t l = some (true, ()) := by
 unfold law_ClusterRuns_t
 rw [cluster_Run_eq hin, bind_s, R_RunOf_eq hin, bind_s, clusterBegun_eq, bind_s]
 have fin : ∀ bs : List Bool, bs.length < 9223372036854775808 → ((loopN zq31 FUEL (((()), (()), (0, ()), ()), (l, bs, bs, ()))).bind fun y6 => sumC y6 (fun y7 => some (y7.1.1.1, ())) (fun _ => some (true, ()))) = some (true, ()) := fun bs hb => by rw [runs_loop l hb]; rfl
 unfold runT
 by_cases h : l.length > 40
 ·have e4 : law_clusterIs_t 0 0 0 0 [] ([], []) 2 2 0 0 0 0 [] ([], []) = some (true, ()) := clusterIs_no (by decide) 0 0 0 0 [] ([], [])
  rw [if_pos h]
  simp only [noCl, e4, Bool.not_true, br_false, bind_s, decide_true]
  exact fin [] (by decide)
 rw [if_neg h]
 by_cases h0 : (runC cs0 [] l).1 = 0
 rotate_left
 ·rw [if_pos h0]
  have e4 : law_clusterIs_t 0 0 0 0 [] ([], []) (runC cs0 [] l).1 (runC cs0 [] l).1 0 0 0 0 [] ([], []) = some (true, ()) := clusterIs_no h0 0 0 0 0 [] ([], [])
  simp only [noCl, e4, Bool.not_true, br_false, bind_s, decide_true]
  exact fin [] (by decide)
 ·rw [if_neg (fun hh => hh h0)]
  obtain ⟨hok, hlen⟩ := runC_ok l cs0 [] cs0_ok hin
  have hlen := hlen h0
  generalize runC cs0 [] l = z at hok hlen ⊢
  have e4 : law_clusterIs_t (clOf z.2.1).1 (clOf z.2.1).2.1 (clOf z.2.1).2.2.1 (clOf z.2.1).2.2.2.1 (clOf z.2.1).2.2.2.2.1 (clOf z.2.1).2.2.2.2.2.1 0 0 (clOf z.2.1).1 (clOf z.2.1).2.1 (clOf z.2.1).2.2.1 (clOf z.2.1).2.2.2.1 (clOf z.2.1).2.2.2.2.1 (clOf z.2.1).2.2.2.2.2.1 = some (true, ()) := clusterIs_eq hok
  simp only [e4, Bool.not_true, br_false, bind_s, decide_true]
  exact fin _ (by rw [hlen]; simp; omega)
end Go.Ma
namespace Go.Proofs.YtjncjiegmnicbabGreat
open Go Go.Ma
def noTi : TI := { known := false, kind := .other, agg := false, size := 0, zero := [], fields := [], elem := 0 }
def ti_1 : TI := { kind := .other, agg := false, size := 1, zero := [.nilFunc], fields := [], elem := 0, bytes := 8, eq := false, k := none }
def ti_2 : TI := { kind := (.int .i64), agg := false, size := 1, zero := [.int .i64 0], fields := [], elem := 0, bytes := 8, eq := false, k := some .int }
def ti_3 : TI := ti_2
def ti_4 : TI := { kind := .bool, agg := false, size := 1, zero := [.bool false], fields := [], elem := 0, bytes := 1, eq := false, k := some .bool }
def ti_5 : TI := { kind := (.int .u8), agg := false, size := 1, zero := [.int .u8 0], fields := [], elem := 0, bytes := 1, eq := false, k := some .u8 }
def ti_6 : TI := ti_5
def ti_7 : TI := { kind := .struct, agg := true, size := 4, zero := [.int .i64 0, .int .i64 0, .bool false, .int .u8 0], fields := [(0, 2), (1, 3), (2, 4), (3, 6)], elem := 0, bytes := 24, eq := false, k := none }
def ti_8 : TI := ti_7
def ti_9 : TI := { kind := .str, agg := false, size := 1, zero := [.string .empty], fields := [], elem := 0, bytes := 16, eq := false, k := some .str }
def ti_10 : TI := ti_9
def ti_11 : TI := ti_9
def ti_12 : TI := { kind := (.int .u64), agg := false, size := 1, zero := [.int .u64 0], fields := [], elem := 0, bytes := 8, eq := false, k := some .u64 }
def ti_13 : TI := { kind := .struct, agg := true, size := 2, zero := [.string .empty, .int .u64 0], fields := [(0, 9), (1, 12)], elem := 0, bytes := 24, eq := false, k := none }
def ti_14 : TI := ti_13
def ti_15 : TI := { kind := .other, agg := false, size := 1, zero := [.pointer none], fields := [], elem := 0, bytes := 8, eq := false, k := none }
def ti_16 : TI := ti_15
def ti_17 : TI := ti_15
def ti_18 : TI := { kind := .struct, agg := true, size := 1, zero := [.pointer none], fields := [(0, 17)], elem := 0, bytes := 8, eq := false, k := none }
def ti_19 : TI := ti_18
def ti_20 : TI := { kind := .other, agg := false, size := 1, zero := [.nilIface], fields := [], elem := 0, bytes := 16, eq := false, k := none }
def ti_21 : TI := { kind := (.int .i32), agg := false, size := 1, zero := [.int .i32 0], fields := [], elem := 0, bytes := 4, eq := false, k := none }
def ti_22 : TI := { kind := .struct, agg := true, size := 2, zero := [.int .i64 0, .int .i64 0], fields := [(0, 3), (1, 3)], elem := 0, bytes := 16, eq := false, k := none }
def ti_23 : TI := { kind := .struct, agg := true, size := 2, zero := [.int .i64 0, .int .i64 0], fields := [(0, 3), (1, 3)], elem := 0, bytes := 16, eq := true, k := none }
def ti_24 : TI := { kind := .slice, agg := false, size := 1, zero := [.slice none 0 0], fields := [], elem := 68, bytes := 24, eq := false, k := none, sl := [(0, .inl .entry, 68)] }
def ti_25 : TI := { kind := .struct, agg := true, size := 4, zero := [.int .i64 0, .int .i64 0, .int .i64 0, .slice none 0 0], fields := [(0, 3), (1, 23), (3, 24)], elem := 0, bytes := 48, eq := false, k := none, sl := [(3, .inl .entry, 68)] }
def ti_26 : TI := ti_25
def ti_27 : TI := { kind := .slice, agg := false, size := 1, zero := [.slice none 0 0], fields := [], elem := 56, bytes := 24, eq := false, k := none, sl := [(0, .inr (.int, .entry, 68), 56)] }
def ti_28 : TI := { kind := .struct, agg := true, size := 6, zero := [.int .i64 0, .int .i64 0, .int .i64 0, .int .i64 0, .slice none 0 0, .slice none 0 0], fields := [(0, 3), (1, 26), (5, 27)], elem := 0, bytes := 80, eq := false, k := none, sl := [(4, .inl .entry, 68), (5, .inr (.int, .entry, 68), 56)] }
def ti_29 : TI := ti_28
def ti_30 : TI := ti_12
def ti_31 : TI := { kind := .struct, agg := true, size := 3, zero := [.bool false, .int .u64 0, .int .u64 0], fields := [(0, 4), (1, 30), (2, 30)], elem := 0, bytes := 24, eq := false, k := none }
def ti_32 : TI := { kind := .struct, agg := true, size := 3, zero := [.bool false, .int .u64 0, .int .u64 0], fields := [(0, 4), (1, 30), (2, 30)], elem := 0, bytes := 24, eq := true, k := some .addr }
def ti_33 : TI := { kind := .struct, agg := true, size := 4, zero := [.bool false, .int .u64 0, .int .u64 0, .int .i64 0], fields := [(0, 32), (3, 3)], elem := 0, bytes := 32, eq := false, k := none }
def ti_34 : TI := { kind := .struct, agg := true, size := 4, zero := [.bool false, .int .u64 0, .int .u64 0, .int .i64 0], fields := [(0, 32), (3, 3)], elem := 0, bytes := 32, eq := true, k := some .pfx }
def ti_35 : TI := { kind := .struct, agg := true, size := 11, zero := [.int .i64 0, .bool false, .int .u64 0, .int .u64 0, .int .i64 0, .bool false, .int .u64 0, .int .u64 0, .string .empty, .int .i64 0, .int .i64 0], fields := [(0, 3), (1, 34), (5, 32), (8, 9), (9, 3), (10, 3)], elem := 0, bytes := 96, eq := false, k := none }
def ti_36 : TI := { kind := .struct, agg := true, size := 11, zero := [.int .i64 0, .bool false, .int .u64 0, .int .u64 0, .int .i64 0, .bool false, .int .u64 0, .int .u64 0, .string .empty, .int .i64 0, .int .i64 0], fields := [(0, 3), (1, 34), (5, 32), (8, 9), (9, 3), (10, 3)], elem := 0, bytes := 96, eq := true, k := some .op }
def ti_37 : TI := { kind := .struct, agg := true, size := 14, zero := [.int .i64 0, .int .i64 0, .int .i64 0, .int .i64 0, .bool false, .int .u64 0, .int .u64 0, .int .i64 0, .bool false, .int .u64 0, .int .u64 0, .string .empty, .int .i64 0, .int .i64 0], fields := [(0, 3), (1, 3), (2, 3), (3, 36)], elem := 0, bytes := 120, eq := false, k := none }
def ti_38 : TI := { kind := .struct, agg := true, size := 14, zero := [.int .i64 0, .int .i64 0, .int .i64 0, .int .i64 0, .bool false, .int .u64 0, .int .u64 0, .int .i64 0, .bool false, .int .u64 0, .int .u64 0, .string .empty, .int .i64 0, .int .i64 0], fields := [(0, 3), (1, 3), (2, 3), (3, 36)], elem := 0, bytes := 120, eq := true, k := some .event }
def ti_39 : TI := ti_2
def ti_41 : TI := ti_1
def ti_42 : TI := { kind := .slice, agg := false, size := 1, zero := [.slice none 0 0], fields := [], elem := 116, bytes := 24, eq := false, k := none, sl := [(0, .inr (.pfx, .addr, 32), 116)] }
def ti_43 : TI := { kind := .slice, agg := false, size := 1, zero := [.slice none 0 0], fields := [], elem := 127, bytes := 24, eq := false, k := none, sl := [(0, .inl .lease, 127)] }
def ti_44 : TI := { kind := .struct, agg := true, size := 3, zero := [.slice none 0 0, .slice none 0 0, .int .i64 0], fields := [(0, 42), (1, 43), (2, 3)], elem := 0, bytes := 56, eq := false, k := none, sl := [(0, .inr (.pfx, .addr, 32), 116), (1, .inl .lease, 127)] }
def ti_45 : TI := ti_44
def ti_47 : TI := ti_1
def ti_48 : TI := ti_1
def ti_49 : TI := ti_1
def ti_51 : TI := ti_1
def ti_52 : TI := { kind := .slice, agg := false, size := 1, zero := [.slice none 0 0], fields := [], elem := 32, bytes := 24, eq := false, k := none, sl := [(0, .inl .addr, 32)] }
def ti_54 : TI := ti_1
def ti_55 : TI := { kind := .struct, agg := true, size := 2, zero := [.int .i64 0, .slice none 0 0], fields := [(0, 3), (1, 24)], elem := 0, bytes := 32, eq := false, k := none, nk := some (.int, .entry, 68), sl := [(1, .inl .entry, 68)] }
def ti_56 : TI := ti_55
def ti_57 : TI := ti_1
def ti_58 : TI := ti_1
def ti_59 : TI := ti_1
def ti_60 : TI := ti_1
def ti_61 : TI := { kind := .slice, agg := false, size := 1, zero := [.slice none 0 0], fields := [], elem := 38, bytes := 24, eq := false, k := none, sl := [(0, .inl .event, 38)] }
def ti_62 : TI := { kind := .slice, agg := false, size := 1, zero := [.slice none 0 0], fields := [], elem := 4, bytes := 24, eq := false, k := none, sl := [(0, .inl .bool, 4)] }
def ti_64 : TI := ti_1
def ti_65 : TI := ti_1
def ti_66 : TI := ti_1
def ti_67 : TI := { kind := .struct, agg := true, size := 13, zero := [.int .i64 0, .int .i64 0, .int .i64 0, .bool false, .int .u64 0, .int .u64 0, .int .i64 0, .bool false, .int .u64 0, .int .u64 0, .string .empty, .int .i64 0, .int .i64 0], fields := [(0, 3), (1, 3), (2, 36)], elem := 0, bytes := 112, eq := false, k := none }
def ti_68 : TI := { kind := .struct, agg := true, size := 13, zero := [.int .i64 0, .int .i64 0, .int .i64 0, .bool false, .int .u64 0, .int .u64 0, .int .i64 0, .bool false, .int .u64 0, .int .u64 0, .string .empty, .int .i64 0, .int .i64 0], fields := [(0, 3), (1, 3), (2, 36)], elem := 0, bytes := 112, eq := true, k := some .entry }
def ti_69 : TI := ti_1
def ti_70 : TI := ti_1
def ti_71 : TI := ti_1
def ti_73 : TI := ti_1
def ti_74 : TI := ti_1
def ti_75 : TI := ti_1
def ti_77 : TI := ti_1
def ti_78 : TI := ti_1
def ti_80 : TI := ti_1
def ti_82 : TI := ti_1
def ti_83 : TI := { kind := .slice, agg := false, size := 1, zero := [.slice none 0 0], fields := [], elem := 36, bytes := 24, eq := false, k := none, sl := [(0, .inl .op, 36)] }
def ti_84 : TI := ti_1
def ti_86 : TI := ti_1
def ti_87 : TI := ti_1
def ti_88 : TI := ti_1
def ti_89 : TI := ti_1
def ti_90 : TI := ti_1
def ti_91 : TI := ti_1
def ti_92 : TI := ti_15
def ti_93 : TI := ti_1
def ti_94 : TI := ti_1
def ti_95 : TI := { kind := .struct, agg := true, size := 6, zero := [.int .i64 0, .int .i64 0, .int .i64 0, .int .i64 0, .slice none 0 0, .slice none 0 0], fields := [(0, 29)], elem := 0, bytes := 80, eq := false, k := none, sl := [(4, .inl .entry, 68), (5, .inr (.int, .entry, 68), 56)] }
def ti_96 : TI := ti_95
def ti_97 : TI := ti_1
def ti_98 : TI := ti_1
def ti_99 : TI := ti_1
def ti_100 : TI := ti_1
def ti_101 : TI := ti_1
def ti_102 : TI := ti_1
def ti_104 : TI := ti_1
def ti_105 : TI := ti_1
def ti_106 : TI := ti_1
def ti_107 : TI := ti_1
def ti_108 : TI := ti_1
def ti_109 : TI := ti_1
def ti_110 : TI := ti_1
def ti_111 : TI := ti_1
def ti_112 : TI := ti_1
def ti_113 : TI := ti_1
def ti_114 : TI := ti_1
def ti_115 : TI := { kind := .struct, agg := true, size := 5, zero := [.bool false, .int .u64 0, .int .u64 0, .int .i64 0, .slice none 0 0], fields := [(0, 34), (4, 52)], elem := 0, bytes := 56, eq := false, k := none, nk := some (.pfx, .addr, 32), sl := [(4, .inl .addr, 32)] }
def ti_116 : TI := ti_115
def ti_117 : TI := ti_1
def ti_118 : TI := ti_1
def ti_119 : TI := ti_1
def ti_120 : TI := { kind := .slice, agg := false, size := 1, zero := [.slice none 0 0], fields := [], elem := 24, bytes := 24, eq := false, k := none }
def ti_121 : TI := ti_1
def ti_122 : TI := ti_1
def ti_123 : TI := ti_1
def ti_124 : TI := ti_1
def ti_125 : TI := ti_1
def ti_126 : TI := { kind := .struct, agg := true, size := 5, zero := [.bool false, .int .u64 0, .int .u64 0, .string .empty, .int .i64 0], fields := [(0, 32), (3, 9), (4, 3)], elem := 0, bytes := 48, eq := false, k := none }
def ti_127 : TI := { kind := .struct, agg := true, size := 5, zero := [.bool false, .int .u64 0, .int .u64 0, .string .empty, .int .i64 0], fields := [(0, 32), (3, 9), (4, 3)], elem := 0, bytes := 48, eq := true, k := some .lease }
def ti_128 : TI := ti_1
def ti_129 : TI := ti_1
def ti_130 : TI := ti_1
def ti_131 : TI := ti_1
def ti_132 : TI := ti_1
def ti_133 : TI := ti_1
def ti_134 : TI := ti_15
def ti_135 : TI := ti_1
def ti_136 : TI := ti_15
def ti_137 : TI := { kind := .struct, agg := true, size := 4, zero := [.slice none 0 0, .slice none 0 0, .int .i64 0, .slice none 0 0], fields := [(0, 45), (3, 52)], elem := 0, bytes := 80, eq := false, k := none, sl := [(0, .inr (.pfx, .addr, 32), 116), (1, .inl .lease, 127), (3, .inl .addr, 32)] }
def ti_138 : TI := ti_137
def ti_139 : TI := ti_1
def ti_140 : TI := ti_1
def ti_141 : TI := ti_1
def ti_142 : TI := ti_1
def ti_143 : TI := ti_1
def ti_145 : TI := ti_1
def ti_146 : TI := ti_1
def ti_147 : TI := ti_1
def ti_148 : TI := ti_1
def ti_149 : TI := ti_1
def ti_150 : TI := ti_1
def ti_151 : TI := ti_1
def ti_152 : TI := ti_1
def ti_153 : TI := ti_1
def ti_154 : TI := ti_1
def ti_155 : TI := ti_1
def ti_156 : TI := ti_1
def ti_157 : TI := ti_1
def ti_158 : TI := ti_1
def ti_159 : TI := { kind := .other, agg := false, size := 1, zero := [.map none], fields := [], elem := 0, bytes := 8, eq := false, k := none }
def ti_160 : TI := ti_1
def ti_161 : TI := ti_1
def ti_162 : TI := ti_15
def ti_163 : TI := { kind := .struct, agg := true, size := 4, zero := [.int .i64 0, .int .i64 0, .int .i64 0, .slice none 0 0], fields := [(0, 26)], elem := 0, bytes := 48, eq := false, k := none, sl := [(3, .inl .entry, 68)] }
def ti_164 : TI := ti_163
def ti_165 : TI := ti_1
def ti_166 : TI := ti_1
def ti_168 : TI := ti_1
def ti_169 : TI := ti_1
def ti_170 : TI := { kind := .slice, agg := false, size := 1, zero := [.slice none 0 0], fields := [], elem := 5, bytes := 24, eq := false, k := none, sl := [(0, .inl .u8, 5)] }
def ti_171 : TI := ti_15
def ti_172 : TI := ti_1
def ti_173 : TI := { kind := .struct, agg := true, size := 3, zero := [.slice none 0 0, .slice none 0 0, .int .i64 0], fields := [(0, 45)], elem := 0, bytes := 56, eq := false, k := none, sl := [(0, .inr (.pfx, .addr, 32), 116), (1, .inl .lease, 127)] }
def ti_174 : TI := ti_173
def ti_176 : TI := ti_1
def ti_177 : TI := ti_1
def ti_178 : TI := ti_1
def ti_179 : TI := ti_1
def ti_180 : TI := ti_1
def ti_181 : TI := ti_1
def ti_182 : TI := ti_1
def ti_183 : TI := ti_1
def ti_184 : TI := ti_1
def ti_185 : TI := ti_1
def ti_187 : TI := ti_1
def ti_188 : TI := ti_1
def ti_189 : TI := ti_1
def ti_190 : TI := ti_15
def ti_191 : TI := ti_1
def ti_192 : TI := ti_1
def ti_193 : TI := ti_1
def ti_194 : TI := ti_1
def ti_195 : TI := ti_1
def ti_196 : TI := ti_1
def ti_197 : TI := ti_1
def ti_198 : TI := ti_12
def ti_199 : TI := ti_1
def ti_200 : TI := ti_1
def ti_201 : TI := ti_1
def ti_202 : TI := ti_15
def ti_203 : TI := { kind := .struct, agg := true, size := 6, zero := [.bool false, .int .u64 0, .int .u64 0, .int .i64 0, .slice none 0 0, .slice none 0 0], fields := [(0, 116), (5, 43)], elem := 0, bytes := 80, eq := false, k := none, sl := [(4, .inl .addr, 32), (5, .inl .lease, 127)] }
def ti_204 : TI := ti_203
def ti_205 : TI := ti_1
def ti_206 : TI := ti_1
def ti_207 : TI := ti_1
def ti_208 : TI := ti_1
def ti_209 : TI := ti_1
def ti_210 : TI := ti_1
def ti_211 : TI := ti_1
def ti_212 : TI := ti_1
def ti_213 : TI := ti_1
def ti_214 : TI := ti_1
def ti_215 : TI := ti_2
def ti_217 : TI := ti_1
def ti_218 : TI := ti_1
def ti_219 : TI := ti_1
def ti_220 : TI := ti_1
def ti_221 : TI := ti_1
def ti_222 : TI := { kind := (.int .u32), agg := false, size := 1, zero := [.int .u32 0], fields := [], elem := 0, bytes := 4, eq := false, k := none }
def ti_223 : TI := ti_1
def ti_224 : TI := ti_1
def ti_225 : TI := ti_1
def ti_226 : TI := ti_1
def ti_227 : TI := ti_12
def ti_228 : TI := ti_1
def ti_229 : TI := ti_1
def ti_230 : TI := ti_1
def ti_231 : TI := ti_15
def ti_232 : TI := ti_1
def ti_233 : TI := ti_1
def ti_234 : TI := ti_1
def ti_235 : TI := ti_15
def ti_237 : TI := ti_1
def ti_238 : TI := ti_1
def ti_239 : TI := { kind := .struct, agg := true, size := 4, zero := [.pointer none, .pointer none, .pointer none, .string .empty], fields := [(0, 17), (1, 17), (2, 17), (3, 9)], elem := 0, bytes := 40, eq := false, k := none }
def ti_240 : TI := ti_239
def ti_241 : TI := { kind := .other, agg := true, size := 0, zero := [], fields := [], elem := 16, bytes := 0, eq := false, k := none }
def ti_242 : TI := { kind := .struct, agg := true, size := 0, zero := [], fields := [(0, 241)], elem := 0, bytes := 0, eq := false, k := none }
def ti_243 : TI := ti_242
def ti_244 : TI := ti_1
def ti_245 : TI := ti_5
def ti_246 : TI := ti_5
def ti_247 : TI := ti_1
def ti_248 : TI := ti_15
def ti_249 : TI := ti_21
def ti_250 : TI := ti_21
def ti_251 : TI := { kind := .struct, agg := true, size := 11, zero := [.int .u64 0, .int .u64 0, .int .u32 0, .int .u8 0, .int .u8 0, .int .u8 0, .int .u8 0, .nilFunc, .pointer none, .int .i32 0, .int .i32 0], fields := [(0, 12), (1, 12), (2, 222), (3, 245), (4, 5), (5, 5), (6, 246), (7, 247), (8, 248), (9, 249), (10, 250)], elem := 0, bytes := 48, eq := false, k := none }
def ti_252 : TI := ti_251
def ti_253 : TI := ti_15
def ty (t : Nat) : TI := bif Nat.blt t 256 then (bif Nat.blt t 128 then (bif Nat.blt t 64 then (bif Nat.blt t 32 then (bif Nat.blt t 16 then (bif Nat.blt t 8 then (bif Nat.blt t 4 then (bif Nat.blt t 2 then (bif Nat.blt t 1 then noTi else ti_1) else (bif Nat.blt t 3 then ti_2 else ti_3)) else (bif Nat.blt t 6 then (bif Nat.blt t 5 then ti_4 else ti_5) else (bif Nat.blt t 7 then ti_6 else ti_7))) else (bif Nat.blt t 12 then (bif Nat.blt t 10 then (bif Nat.blt t 9 then ti_8 else ti_9) else (bif Nat.blt t 11 then ti_10 else ti_11)) else (bif Nat.blt t 14 then (bif Nat.blt t 13 then ti_12 else ti_13) else (bif Nat.blt t 15 then ti_14 else ti_15)))) else (bif Nat.blt t 24 then (bif Nat.blt t 20 then (bif Nat.blt t 18 then (bif Nat.blt t 17 then ti_16 else ti_17) else (bif Nat.blt t 19 then ti_18 else ti_19)) else (bif Nat.blt t 22 then (bif Nat.blt t 21 then ti_20 else ti_21) else (bif Nat.blt t 23 then ti_22 else ti_23))) else (bif Nat.blt t 28 then (bif Nat.blt t 26 then (bif Nat.blt t 25 then ti_24 else ti_25) else (bif Nat.blt t 27 then ti_26 else ti_27)) else (bif Nat.blt t 30 then (bif Nat.blt t 29 then ti_28 else ti_29) else (bif Nat.blt t 31 then ti_30 else ti_31))))) else (bif Nat.blt t 48 then (bif Nat.blt t 40 then (bif Nat.blt t 36 then (bif Nat.blt t 34 then (bif Nat.blt t 33 then ti_32 else ti_33) else (bif Nat.blt t 35 then ti_34 else ti_35)) else (bif Nat.blt t 38 then (bif Nat.blt t 37 then ti_36 else ti_37) else (bif Nat.blt t 39 then ti_38 else ti_39))) else (bif Nat.blt t 44 then (bif Nat.blt t 42 then (bif Nat.blt t 41 then noTi else ti_41) else (bif Nat.blt t 43 then ti_42 else ti_43)) else (bif Nat.blt t 46 then (bif Nat.blt t 45 then ti_44 else ti_45) else (bif Nat.blt t 47 then noTi else ti_47)))) else (bif Nat.blt t 56 then (bif Nat.blt t 52 then (bif Nat.blt t 50 then (bif Nat.blt t 49 then ti_48 else ti_49) else (bif Nat.blt t 51 then noTi else ti_51)) else (bif Nat.blt t 54 then (bif Nat.blt t 53 then ti_52 else noTi) else (bif Nat.blt t 55 then ti_54 else ti_55))) else (bif Nat.blt t 60 then (bif Nat.blt t 58 then (bif Nat.blt t 57 then ti_56 else ti_57) else (bif Nat.blt t 59 then ti_58 else ti_59)) else (bif Nat.blt t 62 then (bif Nat.blt t 61 then ti_60 else ti_61) else (bif Nat.blt t 63 then ti_62 else noTi)))))) else (bif Nat.blt t 96 then (bif Nat.blt t 80 then (bif Nat.blt t 72 then (bif Nat.blt t 68 then (bif Nat.blt t 66 then (bif Nat.blt t 65 then ti_64 else ti_65) else (bif Nat.blt t 67 then ti_66 else ti_67)) else (bif Nat.blt t 70 then (bif Nat.blt t 69 then ti_68 else ti_69) else (bif Nat.blt t 71 then ti_70 else ti_71))) else (bif Nat.blt t 76 then (bif Nat.blt t 74 then (bif Nat.blt t 73 then noTi else ti_73) else (bif Nat.blt t 75 then ti_74 else ti_75)) else (bif Nat.blt t 78 then (bif Nat.blt t 77 then noTi else ti_77) else (bif Nat.blt t 79 then ti_78 else noTi)))) else (bif Nat.blt t 88 then (bif Nat.blt t 84 then (bif Nat.blt t 82 then (bif Nat.blt t 81 then ti_80 else noTi) else (bif Nat.blt t 83 then ti_82 else ti_83)) else (bif Nat.blt t 86 then (bif Nat.blt t 85 then ti_84 else noTi) else (bif Nat.blt t 87 then ti_86 else ti_87))) else (bif Nat.blt t 92 then (bif Nat.blt t 90 then (bif Nat.blt t 89 then ti_88 else ti_89) else (bif Nat.blt t 91 then ti_90 else ti_91)) else (bif Nat.blt t 94 then (bif Nat.blt t 93 then ti_92 else ti_93) else (bif Nat.blt t 95 then ti_94 else ti_95))))) else (bif Nat.blt t 112 then (bif Nat.blt t 104 then (bif Nat.blt t 100 then (bif Nat.blt t 98 then (bif Nat.blt t 97 then ti_96 else ti_97) else (bif Nat.blt t 99 then ti_98 else ti_99)) else (bif Nat.blt t 102 then (bif Nat.blt t 101 then ti_100 else ti_101) else (bif Nat.blt t 103 then ti_102 else noTi))) else (bif Nat.blt t 108 then (bif Nat.blt t 106 then (bif Nat.blt t 105 then ti_104 else ti_105) else (bif Nat.blt t 107 then ti_106 else ti_107)) else (bif Nat.blt t 110 then (bif Nat.blt t 109 then ti_108 else ti_109) else (bif Nat.blt t 111 then ti_110 else ti_111)))) else (bif Nat.blt t 120 then (bif Nat.blt t 116 then (bif Nat.blt t 114 then (bif Nat.blt t 113 then ti_112 else ti_113) else (bif Nat.blt t 115 then ti_114 else ti_115)) else (bif Nat.blt t 118 then (bif Nat.blt t 117 then ti_116 else ti_117) else (bif Nat.blt t 119 then ti_118 else ti_119))) else (bif Nat.blt t 124 then (bif Nat.blt t 122 then (bif Nat.blt t 121 then ti_120 else ti_121) else (bif Nat.blt t 123 then ti_122 else ti_123)) else (bif Nat.blt t 126 then (bif Nat.blt t 125 then ti_124 else ti_125) else (bif Nat.blt t 127 then ti_126 else ti_127))))))) else (bif Nat.blt t 192 then (bif Nat.blt t 160 then (bif Nat.blt t 144 then (bif Nat.blt t 136 then (bif Nat.blt t 132 then (bif Nat.blt t 130 then (bif Nat.blt t 129 then ti_128 else ti_129) else (bif Nat.blt t 131 then ti_130 else ti_131)) else (bif Nat.blt t 134 then (bif Nat.blt t 133 then ti_132 else ti_133) else (bif Nat.blt t 135 then ti_134 else ti_135))) else (bif Nat.blt t 140 then (bif Nat.blt t 138 then (bif Nat.blt t 137 then ti_136 else ti_137) else (bif Nat.blt t 139 then ti_138 else ti_139)) else (bif Nat.blt t 142 then (bif Nat.blt t 141 then ti_140 else ti_141) else (bif Nat.blt t 143 then ti_142 else ti_143)))) else (bif Nat.blt t 152 then (bif Nat.blt t 148 then (bif Nat.blt t 146 then (bif Nat.blt t 145 then noTi else ti_145) else (bif Nat.blt t 147 then ti_146 else ti_147)) else (bif Nat.blt t 150 then (bif Nat.blt t 149 then ti_148 else ti_149) else (bif Nat.blt t 151 then ti_150 else ti_151))) else (bif Nat.blt t 156 then (bif Nat.blt t 154 then (bif Nat.blt t 153 then ti_152 else ti_153) else (bif Nat.blt t 155 then ti_154 else ti_155)) else (bif Nat.blt t 158 then (bif Nat.blt t 157 then ti_156 else ti_157) else (bif Nat.blt t 159 then ti_158 else ti_159))))) else (bif Nat.blt t 176 then (bif Nat.blt t 168 then (bif Nat.blt t 164 then (bif Nat.blt t 162 then (bif Nat.blt t 161 then ti_160 else ti_161) else (bif Nat.blt t 163 then ti_162 else ti_163)) else (bif Nat.blt t 166 then (bif Nat.blt t 165 then ti_164 else ti_165) else (bif Nat.blt t 167 then ti_166 else noTi))) else (bif Nat.blt t 172 then (bif Nat.blt t 170 then (bif Nat.blt t 169 then ti_168 else ti_169) else (bif Nat.blt t 171 then ti_170 else ti_171)) else (bif Nat.blt t 174 then (bif Nat.blt t 173 then ti_172 else ti_173) else (bif Nat.blt t 175 then ti_174 else noTi)))) else (bif Nat.blt t 184 then (bif Nat.blt t 180 then (bif Nat.blt t 178 then (bif Nat.blt t 177 then ti_176 else ti_177) else (bif Nat.blt t 179 then ti_178 else ti_179)) else (bif Nat.blt t 182 then (bif Nat.blt t 181 then ti_180 else ti_181) else (bif Nat.blt t 183 then ti_182 else ti_183))) else (bif Nat.blt t 188 then (bif Nat.blt t 186 then (bif Nat.blt t 185 then ti_184 else ti_185) else (bif Nat.blt t 187 then noTi else ti_187)) else (bif Nat.blt t 190 then (bif Nat.blt t 189 then ti_188 else ti_189) else (bif Nat.blt t 191 then ti_190 else ti_191)))))) else (bif Nat.blt t 224 then (bif Nat.blt t 208 then (bif Nat.blt t 200 then (bif Nat.blt t 196 then (bif Nat.blt t 194 then (bif Nat.blt t 193 then ti_192 else ti_193) else (bif Nat.blt t 195 then ti_194 else ti_195)) else (bif Nat.blt t 198 then (bif Nat.blt t 197 then ti_196 else ti_197) else (bif Nat.blt t 199 then ti_198 else ti_199))) else (bif Nat.blt t 204 then (bif Nat.blt t 202 then (bif Nat.blt t 201 then ti_200 else ti_201) else (bif Nat.blt t 203 then ti_202 else ti_203)) else (bif Nat.blt t 206 then (bif Nat.blt t 205 then ti_204 else ti_205) else (bif Nat.blt t 207 then ti_206 else ti_207)))) else (bif Nat.blt t 216 then (bif Nat.blt t 212 then (bif Nat.blt t 210 then (bif Nat.blt t 209 then ti_208 else ti_209) else (bif Nat.blt t 211 then ti_210 else ti_211)) else (bif Nat.blt t 214 then (bif Nat.blt t 213 then ti_212 else ti_213) else (bif Nat.blt t 215 then ti_214 else ti_215))) else (bif Nat.blt t 220 then (bif Nat.blt t 218 then (bif Nat.blt t 217 then noTi else ti_217) else (bif Nat.blt t 219 then ti_218 else ti_219)) else (bif Nat.blt t 222 then (bif Nat.blt t 221 then ti_220 else ti_221) else (bif Nat.blt t 223 then ti_222 else ti_223))))) else (bif Nat.blt t 240 then (bif Nat.blt t 232 then (bif Nat.blt t 228 then (bif Nat.blt t 226 then (bif Nat.blt t 225 then ti_224 else ti_225) else (bif Nat.blt t 227 then ti_226 else ti_227)) else (bif Nat.blt t 230 then (bif Nat.blt t 229 then ti_228 else ti_229) else (bif Nat.blt t 231 then ti_230 else ti_231))) else (bif Nat.blt t 236 then (bif Nat.blt t 234 then (bif Nat.blt t 233 then ti_232 else ti_233) else (bif Nat.blt t 235 then ti_234 else ti_235)) else (bif Nat.blt t 238 then (bif Nat.blt t 237 then noTi else ti_237) else (bif Nat.blt t 239 then ti_238 else ti_239)))) else (bif Nat.blt t 248 then (bif Nat.blt t 244 then (bif Nat.blt t 242 then (bif Nat.blt t 241 then ti_240 else ti_241) else (bif Nat.blt t 243 then ti_242 else ti_243)) else (bif Nat.blt t 246 then (bif Nat.blt t 245 then ti_244 else ti_245) else (bif Nat.blt t 247 then ti_246 else ti_247))) else (bif Nat.blt t 252 then (bif Nat.blt t 250 then (bif Nat.blt t 249 then ti_248 else ti_249) else (bif Nat.blt t 251 then ti_250 else ti_251)) else (bif Nat.blt t 254 then (bif Nat.blt t 253 then ti_252 else ti_253) else (bif Nat.blt t 255 then noTi else noTi)))))))) else noTi
theorem ty_dflt (t : Nat) (h : 256 ≤ t) : ty t = noTi := by
 have e : Nat.blt t 256 = false := by
  cases hb : Nat.blt t 256
  ·rfl
  ·have := Nat.le_of_ble_eq_true hb
   omega
 unfold ty
 rw [e]
 rfl
def tyKnown : List Nat := [1, 2, 3, 4, 5, 6, 7, 8, 9, 10, 11, 12, 13, 14, 15, 16, 17, 18, 19, 20, 21, 22, 23, 24, 25, 26, 27, 28, 29, 30, 31, 32, 33, 34, 35, 36, 37, 38, 39, 41, 42, 43, 44, 45, 47, 48, 49, 51, 52, 54, 55, 56, 57, 58, 59, 60, 61, 62, 64, 65, 66, 67, 68, 69, 70, 71, 73, 74, 75, 77, 78, 80, 82, 83, 84, 86, 87, 88, 89, 90, 91, 92, 93, 94, 95, 96, 97, 98, 99, 100, 101, 102, 104, 105, 106, 107, 108, 109, 110, 111, 112, 113, 114, 115, 116, 117, 118, 119, 120, 121, 122, 123, 124, 125, 126, 127, 128, 129, 130, 131, 132, 133, 134, 135, 136, 137, 138, 139, 140, 141, 142, 143, 145, 146, 147, 148, 149, 150, 151, 152, 153, 154, 155, 156, 157, 158, 159, 160, 161, 162, 163, 164, 165, 166, 168, 169, 170, 171, 172, 173, 174, 176, 177, 178, 179, 180, 181, 182, 183, 184, 185, 187, 188, 189, 190, 191, 192, 193, 194, 195, 196, 197, 198, 199, 200, 201, 202, 203, 204, 205, 206, 207, 208, 209, 210, 211, 212, 213, 214, 215, 217, 218, 219, 220, 221, 222, 223, 224, 225, 226, 227, 228, 229, 230, 231, 232, 233, 234, 235, 237, 238, 239, 240, 241, 242, 243, 244, 245, 246, 247, 248, 249, 250, 251, 252, 253]
theorem ty_list : tyKnown.map (fun t => ({ ty t with eq := false, k := none, nk := none, sl := [] } : TI)) = tyKnown.map (tiOf Tryz.prog) := by kernel_rfl
theorem ty_in : (List.range 256).all (fun t => !(ty t).known || tyKnown.contains t) = true := by kernel_rfl
theorem ty_fact (t : Nat) (h : (ty t).known = true) : TyFact Tryz.prog t (ty t) := by
 refine tyFact_of h ?_
 have hlt : t < 256 := by
  rcases Nat.lt_or_ge t 256 with h' | h'
  ·exact h'
  ·have : (ty t) = noTi := ty_dflt t h'
   rw [this] at h
   cases h
 have h1 := List.all_eq_true.1 ty_in t (List.mem_range.2 hlt)
 rw [h] at h1
 have hmem : t ∈ tyKnown := by simpa using h1
 have := List.map_inj_left.1 ty_list t hmem
 exact this
theorem eq_23 : StructEq Tryz.prog 23 (ty 23).zero := structEq ty_fact 23 (ty 23).zero (by kernel_rfl) (by kernel_rfl) (by kernel_rfl)
theorem eq_32 : StructEq Tryz.prog 32 (ty 32).zero := structEq ty_fact 32 (ty 32).zero (by kernel_rfl) (by kernel_rfl) (by kernel_rfl)
theorem eq_34 : StructEq Tryz.prog 34 (ty 34).zero := structEq ty_fact 34 (ty 34).zero (by kernel_rfl) (by kernel_rfl) (by kernel_rfl)
theorem eq_36 : StructEq Tryz.prog 36 (ty 36).zero := structEq ty_fact 36 (ty 36).zero (by kernel_rfl) (by kernel_rfl) (by kernel_rfl)
theorem eq_38 : StructEq Tryz.prog 38 (ty 38).zero := structEq ty_fact 38 (ty 38).zero (by kernel_rfl) (by kernel_rfl) (by kernel_rfl)
theorem eq_68 : StructEq Tryz.prog 68 (ty 68).zero := structEq ty_fact 68 (ty 68).zero (by kernel_rfl) (by kernel_rfl) (by kernel_rfl)
theorem eq_127 : StructEq Tryz.prog 127 (ty 127).zero := structEq ty_fact 127 (ty 127).zero (by kernel_rfl) (by kernel_rfl) (by kernel_rfl)
def tyEqs : List Nat := [23, 32, 34, 36, 38, 68, 127]
theorem eq_in : (List.range 256).all (fun t => !(ty t).eq || tyEqs.contains t) = true := by kernel_rfl
theorem ty_eq (t : Nat) (h : (ty t).eq = true) : StructEq Tryz.prog t (ty t).zero := by
 have hlt : t < 256 := by
  rcases Nat.lt_or_ge t 256 with h' | h'
  ·exact h'
  ·rw [ty_dflt t h'] at h
   cases h
 have h1 := List.all_eq_true.1 eq_in t (List.mem_range.2 hlt)
 rw [h] at h1
 have hmem : t ∈ tyEqs := by simpa using h1
 simp only [tyEqs, List.mem_cons, List.not_mem_nil, or_false] at hmem
 rcases hmem with rfl | rfl | rfl | rfl | rfl | rfl | rfl
 ·exact eq_23
 ·exact eq_32
 ·exact eq_34
 ·exact eq_36
 ·exact eq_38
 ·exact eq_68
 ·exact eq_127
theorem tyOk : TOk Tryz.prog ty := ⟨ty_fact, ty_eq, by kernel_rfl⟩
def fnExt : List Nat := [0, 1, 156, 158, 172, 200, 201, 202, 203, 204, 205, 206, 207, 208, 209, 210, 211, 212, 213, 214, 215]
def fnB (f : Nat) : Bool := decide (f < 216) && !fnExt.contains f
theorem fn_all : (List.range 216).all (fun f => !fnB f || (match Tryz.prog.funcs[f]? with | some fn => fn.body.isSome && !(fn.name == "runtime.NumGoroutine") | none => false)) = true := by kernel_rfl
theorem fn_ok (f : Nat) (h : fnB f = true) : HasBody Tryz.prog f := by
 have hlt : f < 216 := by
  unfold fnB at h
  simp only [Bool.and_eq_true, decide_eq_true_eq] at h
  exact h.1
 have h1 := List.all_eq_true.1 fn_all f (List.mem_range.2 hlt)
 rw [h] at h1
 simp only [Bool.not_true, Bool.false_or] at h1
 unfold HasBody
 cases hf : Tryz.prog.funcs[f]? with
 | none => rw [hf] at h1; cases h1
 | some fn =>
  rw [hf] at h1
  simp only [Bool.and_eq_true, Bool.not_eq_true'] at h1
  exact ⟨fn, rfl, h1.1, h1.2⟩
end Go.Proofs.YtjncjiegmnicbabGreat
namespace Go.Proofs.YtjncjiegmnicbabGreat
open Go Go.Ma Go.RowKit Go.Lib Go.Proofs
theorem run_copy_n {P : Program} (w : World) (dT sT ty elem : TypeId) (s : Nat) (b o dLen dCap : Nat) (a : Addr) (sLen sCap q : Nat) (cs : List Value)
  (hu : P.underlying dT = some (.slice elem)) (hs : (P.info? elem).map (·.size) = some s) (hq : q = Nat.min sLen dLen) (hn : cs.length = q * s)
  (hsrc : ∀ j v, cs[j]? = some v → w.cell? (a.add j) = some v) (hc : ∀ j, j < cs.length → (w.cell? ⟨b, o + j, none⟩).isSome = true) (hf : ∀ j, j < cs.length → w.frozen? ⟨b, o + j, none⟩ = false) (h1 : ∀ v ∈ cs, v.oneCell' = true) :
  (Builtin.copy_ #[dT, sT] ty #[.slice (some ⟨b, o, none⟩) dLen dCap, .slice (some a) sLen sCap]).run P w = .ok (goInt q) (w.setCells b o cs) := by
 have hl := run_loadCells_list (P := P) w a cs hsrc
 have hst := run_storeCells_cells (P := P) b o cs 0 w (by simpa using hc) (by simpa using hf) h1
 cases hq' : P.info? elem with
 | none => simp [hq'] at hs
 | some i =>
  have hi : i.size = s := by simpa [hq'] using hs
  rw [hn] at hl
  subst hi
  simp [Builtin.copy_, run_underlying hu, Builtin.lenOf, Builtin.firstCells, sizeOf, typeInfo, hq', ← hq, hl, hst]
theorem infoOf_yardarm_api_Lease : (Tryz.prog.info? 127).map (fun i => (i.zero.map (·.cells.size), i.size, i.bytes)) = some (some 5, 5, 48) := by kernel_rfl
theorem zq62 (w : World) : (Go.sizeOf 127).run Tryz.prog w = .ok 5 w := by kernel_rfl
theorem mixed_all : Tryz.prog.follows .mixedOrders = true := by kernel_rfl
set_option maxHeartbeats 4000000 in
set_option maxRecDepth 100000 in
/-- There is room, i < len(s): in place. -/
theorem ins_shift (b off n c i vb voff m vc : Nat) (cs vs : List Value) (w : World) (hi : i < n) (hm : 0 < m) (hroom : n + m ≤ c) (hc63 : c ≤ 9223372036854775807) (hvb : vb ≠ b)
  (hcl : cs.length = n * 5) (hvl : vs.length = m * 5)
  (hcs : ∀ j v, cs[j]? = some v → w.cell? ⟨b, off + j, none⟩ = some v) (hsp : ∀ j, j < (n + m) * 5 → (w.cell? ⟨b, off + j, none⟩).isSome = true) (hfz : ∀ j, j < (n + m) * 5 → w.frozen? ⟨b, off + j, none⟩ = false)
  (hvs : ∀ j v, vs[j]? = some v → w.cell? ⟨vb, voff + j, none⟩ = some v) (h1c : ∀ v ∈ cs, v.oneCell' = true) (h1v : ∀ v ∈ vs, v.oneCell' = true)
  (tA tB : TypeId) (kA kB : Nat) (hsa : w.shape? vb = some (tA, kA)) (hsb : w.shape? b = some (tB, kB)) (hkB : kB ≠ 0) (hfa : w.frozen? ⟨vb, voff, none⟩ = false) (hfe : w.frozen? ⟨vb, kA, none⟩ = false) :
  Calls Tryz.prog 165 #[.slice (some ⟨b, off, none⟩) n c, .int .i64 i, .slice (some ⟨vb, voff, none⟩) m vc] w fun e w' =>
   e = .returned (.slice (some ⟨b, off, none⟩) (n + m) c) ∧ w' = (w.drew.setCells b (off + (i + m) * 5) (cs.drop (i * 5))).setCells b (off + i * 5) vs := by
 have u30 := run_underlying Tryz.underlying43
 have z49 := zq62
 have hz1 : ¬ ((m : Int) = 0) := by omega
 have hz2 : ¬ ((i : Int) = (n : Int)) := by omega
 have hsz : (Tryz.prog.info? 127).map (·.size) = some 5 := by
  obtain ⟨i0, hi0, hz⟩ := Option.map_eq_some_iff.1 infoOf_yardarm_api_Lease
  simp only [Prod.mk.injEq] at hz
  rw [hi0]; simp [hz.2.1]
 have hov : ∀ lb cb, (callFunc 172 #[.slice (some ⟨vb, voff, none⟩) m vc, .slice (some ⟨b, off + (i + m) * 5, none⟩) lb cb]).run Tryz.prog w = .ok (.value (.bool false)) w := fun lb cb => by
  rw [run_callFunc_extern Tryz.func172 (by kernel_rfl) (by kernel_rfl) (by kernel_rfl) (e := Extern.SlicesOverlaps.overlaps #[43, 43] #[4]) (by kernel_rfl),
   Lib.run_overlaps_apart w 43 4 127 Tryz.underlying43 5 zq62 ⟨vb, voff, none⟩ ⟨b, off + (i + m) * 5, none⟩ m vc lb cb hvb tA tB kA kB hsa hsb hkB hfa hfe]
  rfl
 have hdl : (cs.drop (i * 5)).length = (n - i) * 5 := by rw [List.length_drop, hcl]; omega
 have mixed := mixed_all
 have hw1 : IntKind.i64.wrap ((i : Int) + (m : Int)) = (i : Int) + (m : Int) := by rw [IntKind.wrap_i64]; omega
 have hb1 : (0 : Int) ≤ (i : Int) + (m : Int) := by omega
 have hin : i ≤ n := by omega
 have htn : ((i : Int) + (m : Int)).toNat = i + m := by omega
 have hb2 : ¬ (c = i + m) := by omega
 have hb3 : (i : Int) ≤ (n : Int) + (m : Int) := by omega
 have hb4 : ¬ (c = i) := by omega
 have hcp1 : ∀ ty dc sc, (Builtin.copy_ #[43, 43] ty #[.slice (some ⟨b, off + (i + m) * 5, none⟩) (n + m - (i + m)) dc, .slice (some ⟨b, off + i * 5, none⟩) (n + m - i) sc]).run Tryz.prog w.drew = .ok (goInt ((n - i : Nat) : Int)) (w.drew.setCells b (off + (i + m) * 5) (cs.drop (i * 5))) := fun ty dc sc =>
  run_copy_n w.drew _ _ ty 127 5 b (off + (i + m) * 5) (n + m - (i + m)) dc ⟨b, off + i * 5, none⟩ (n + m - i) sc (n - i) (cs.drop (i * 5)) Tryz.underlying43 hsz (by simp only [Nat.min_def]; split <;> omega) hdl
   (fun j v hj => by rw [Addr.add_lit, Nat.add_assoc]; exact hcs (i * 5 + j) v (by rwa [List.getElem?_drop] at hj))
   (fun j hj => by rw [Nat.add_assoc]; exact hsp _ (by omega)) (fun j hj => by rw [Nat.add_assoc]; exact hfz _ (by omega)) (fun v hv => h1c v (List.mem_of_mem_drop hv))
 obtain ⟨W1, hW1⟩ : ∃ W1, W1 = w.drew.setCells b (off + (i + m) * 5) (cs.drop (i * 5)) := ⟨_, rfl⟩
 have hsp1 : ∀ k, k < (n + m) * 5 → (W1.cell? ⟨b, off + k, none⟩).isSome = true := fun k hk => by
  rw [hW1]
  exact isSome_setCells b _ _ _ (fun j hj => by rw [Nat.add_assoc]; exact hsp _ (by omega)) _ (hsp k hk)
 have hcp2 : ∀ (W : World), (∀ x, W.cell? x = W1.cell? x) → (∀ x, W.frozen? x = W1.frozen? x) → ∀ ty dc, (Builtin.copy_ #[43, 43] ty #[.slice (some ⟨b, off + i * 5, none⟩) (n + m - i) dc, .slice (some ⟨vb, voff, none⟩) m vc]).run Tryz.prog W = .ok (goInt m) (W.setCells b (off + i * 5) vs) := fun W hWc hWf ty dc =>
  run_copy_n W _ _ ty 127 5 b (off + i * 5) (n + m - i) dc ⟨vb, voff, none⟩ m vc m vs Tryz.underlying43 hsz (by simp only [Nat.min_def]; split <;> omega) hvl
   (fun j v hj => by
    rw [Addr.add_lit, hWc, hW1, World.cell?_setCells_out b _ _ _ _ (fun h _ => absurd h hvb)]
    exact hvs j v hj)
   (fun j hj => by rw [hWc, Nat.add_assoc]; exact hsp1 _ (by omega)) (fun j hj => by rw [hWf, hW1, World.frozen?_setCells, Nat.add_assoc]; exact hfz _ (by omega)) h1v
 rw [← hW1] at hcp1
 go_enter Tryz.func165, Tryz.ntmps165
 go_wp2_with (simp only [hov])
 go_region_law_o (refine step_copy_runI rfl _ _ 43 43 rfl _ _ (by simp [Act.eval, Act.put]) (by simp [Act.eval, Act.put]) (hcp1 _ _ _) ?_)
 go_wp2_with (at_builtin; refine wpList_copy_runI _ rfl _ _ 43 43 rfl _ _ rfl rfl (hcp2 _ (fun _ => rfl) (fun _ => rfl) _ _) ?_)
 go_ret
 first | exact ⟨rfl, rfl⟩ | exact ⟨rfl, by rw [hW1]⟩
set_option maxHeartbeats 4000000 in
set_option maxRecDepth 100000 in
/-- i < len(s), no room: a new row. -/
theorem ins_grow (b off n c i vb voff m vc : Nat) (cs vs : List Value) (z : Value) (hz0 : (Tryz.prog.info? 127).map (·.zero) = some (some z)) (w : World) (hi : i < n) (hm : 0 < m) (hnc : n ≤ c) (hroom : c < n + m) (hbig : (n + m) * 48 ≤ 140737488355328)
  (hcl : cs.length = n * 5) (hvl : vs.length = m * 5)
  (hcs : ∀ j v, cs[j]? = some v → w.cell? ⟨b, off + j, none⟩ = some v)
  (hvs : ∀ j v, vs[j]? = some v → w.cell? ⟨vb, voff + j, none⟩ = some v) (h1c : ∀ v ∈ cs, v.oneCell' = true) (h1v : ∀ v ∈ vs, v.oneCell' = true) :
  Calls Tryz.prog 165 #[.slice (some ⟨b, off, none⟩) n c, .int .i64 i, .slice (some ⟨vb, voff, none⟩) m vc] w fun e w' =>
   e = .returned (.slice (some ⟨w.heap.size, 0, none⟩) (n + m) (grownCap w (n + m) c 127)) ∧
   w' = (((w.alloc (.cells ((cs.take (i * 5)).toArray ++ Builtin.zeroCells z.cells (n + m - i) ++ Builtin.zeroCells z.cells (grownCap w (n + m) c 127 - (n + m))) 127)).drew.setCells w.heap.size (i * 5) vs).drew).setCells w.heap.size ((i + m) * 5) (cs.drop (i * 5)) := by
 have u30 := run_underlying Tryz.underlying43
 have z49 := zq62
 have mixed := mixed_all
 obtain ⟨i0, hi0, hz⟩ := Option.map_eq_some_iff.1 infoOf_yardarm_api_Lease
 simp only [Prod.mk.injEq] at hz
 obtain ⟨hzc, hzs, hzb⟩ := hz
 have hz0 : i0.zero = some z := by rw [hi0] at hz0; simpa using hz0
 have hzc : z.cells.size = 5 := by rw [hz0] at hzc; simpa using hzc
 have hz1 : ¬ ((m : Int) = 0) := by omega
 have hz2 : ¬ ((i : Int) = (n : Int)) := by omega
 have hz3 : (c : Int) < (n : Int) + (m : Int) := by omega
 have hsz : (Tryz.prog.info? 127).map (·.size) = some 5 := by rw [hi0]; simp [hzs]
 have hbw : b < w.heap.size := block_lt_of_cell (hcs 0 _ (List.getElem?_eq_getElem (by omega)))
 have hvw : vb < w.heap.size := block_lt_of_cell (hvs 0 _ (List.getElem?_eq_getElem (by omega)))
 have hkk : (n : Int) + (m : Int) - (i : Int) = ((n + m - i : Nat) : Int) := by omega
 have hik : i + (n + m - i) = n + m := by omega
 have hold : (Builtin.firstCells i0.size i (.slice (some ⟨b, off, none⟩) i c)).run Tryz.prog w.drew = .ok (cs.take (i * 5)).toArray w.drew := by
  rw [hzs]
  exact run_firstCells_some w.drew 5 i ⟨b, off, none⟩ i c (cs.take (i * 5)) (by rw [List.length_take]; omega) (fun j v hj => by
   rw [Addr.add_lit]
   rw [List.getElem?_take] at hj
   split at hj
   ·exact hcs j v hj
   ·cases hj)
 have hrz : ∀ ty, (Builtin.append_ #[43, 3] ty #[.slice (some ⟨b, off, none⟩) i c, .int .i64 ((n : Int) + (m : Int) - (i : Int))]).run Tryz.prog w =
   .ok (.slice (some ⟨w.heap.size, 0, none⟩) (n + m) (grownCap w (n + m) c 127)) (w.drew.alloc (.cells ((cs.take (i * 5)).toArray ++ Builtin.zeroCells z.cells (n + m - i) ++ Builtin.zeroCells z.cells (grownCap w (n + m) c 127 - (n + m))) 127)) := fun ty => by
  have h := Lib.run_append_grow_zeros w 43 3 ty 127 i0 z .i64 .i64 Tryz.underlying43 Tryz.underlying3 hi0 hz0 (some ⟨b, off, none⟩) i c (cs.take (i * 5)) hold (n + m - i) (by omega) (by omega) (by omega) (by omega) (by rw [hzb]; omega) (by rw [hzb, hik]; exact growslice_fits hroom hbig)
  rw [hik] at h
  rw [hkk]
  exact h
 obtain ⟨G, hG⟩ : ∃ G, G = grownCap w (n + m) c 127 := ⟨_, rfl⟩
 obtain ⟨ROW, hROW⟩ : ∃ ROW : Array Value, ROW = (cs.take (i * 5)).toArray ++ Builtin.zeroCells z.cells (n + m - i) ++ Builtin.zeroCells z.cells (G - (n + m)) := ⟨_, rfl⟩
 rw [← hG] at hrz ⊢
 rw [← hROW] at hrz ⊢
 have hRl : (n + m) * 5 ≤ ROW.size := by
  rw [hROW]
  simp [Builtin.zeroCells, hzc]
  omega
 obtain ⟨W1, hW1⟩ : ∃ W1, W1 = w.drew.alloc (.cells ROW 127) := ⟨_, rfl⟩
 rw [← hW1] at hrz
 have hN : ∀ j, j < (n + m) * 5 → (W1.cell? ⟨w.heap.size, j, none⟩).isSome = true := fun j hj => by
  rw [hW1, World.cell?_alloc_at (w := w.drew) ROW _ w.heap.size j rfl, Array.getElem?_eq_getElem (by omega)]; rfl
 have hNf : ∀ j, W1.frozen? ⟨w.heap.size, j, none⟩ = false := fun j => by rw [hW1]; exact World.frozen?_alloc_at (w := w.drew) ROW _ w.heap.size j rfl
 have hOb : ∀ j v, w.cell? ⟨b, j, none⟩ = some v → W1.cell? ⟨b, j, none⟩ = some v := fun j v h => by rw [hW1, World.cell?_alloc_past (w := w.drew) _ b j hbw]; exact h
 have hOv : ∀ j v, w.cell? ⟨vb, j, none⟩ = some v → W1.cell? ⟨vb, j, none⟩ = some v := fun j v h => by rw [hW1, World.cell?_alloc_past (w := w.drew) _ vb j hvw]; exact h
 have hcpA : ∀ (W : World), (∀ x, W.cell? x = W1.cell? x) → (∀ x, W.frozen? x = W1.frozen? x) → ∀ ty dc, (Builtin.copy_ #[43, 43] ty #[.slice (some ⟨w.heap.size, i * 5, none⟩) (n + m - i) dc, .slice (some ⟨vb, voff, none⟩) m vc]).run Tryz.prog W = .ok (goInt (m : Int)) (W.setCells w.heap.size (i * 5) vs) := fun W hWc hWf ty dc =>
  run_copy_n W _ _ ty 127 5 w.heap.size (i * 5) (n + m - i) dc ⟨vb, voff, none⟩ m vc m vs Tryz.underlying43 hsz (by simp only [Nat.min_def]; split <;> omega) hvl
   (fun j v hj => by rw [Addr.add_lit, hWc]; exact hOv _ v (hvs j v hj))
   (fun j hj => by rw [hWc]; exact hN _ (by omega)) (fun j hj => by rw [hWf]; exact hNf _) h1v
 have hGn : n + m ≤ G := by rw [hG]; exact grownCap_ge w _ _ _
 have hG63 : G ≤ 9223372036854775807 := by
  have := grownCap_le_maxLen w (n + m) c 127 (by unfold maxLen; omega)
  rw [← hG] at this
  unfold maxLen at this
  omega
 have hGi : ¬ (G = i) := by omega
 have hGim : ¬ (G = i + m) := by omega
 have hci : ¬ (c = i) := by omega
 have hbN : b ≠ w.heap.size := by omega
 have hdl : (cs.drop (i * 5)).length = (n - i) * 5 := by rw [List.length_drop, hcl]; omega
 have hcpB : ∀ (W : World), (∀ x, W.cell? x = (W1.setCells w.heap.size (i * 5) vs).cell? x) → (∀ x, W.frozen? x = (W1.setCells w.heap.size (i * 5) vs).frozen? x) → ∀ ty dc sc, (Builtin.copy_ #[43, 43] ty #[.slice (some ⟨w.heap.size, (i + m) * 5, none⟩) (n + m - (i + m)) dc, .slice (some ⟨b, off + i * 5, none⟩) (n - i) sc]).run Tryz.prog W = .ok (goInt ((n - i : Nat) : Int)) (W.setCells w.heap.size ((i + m) * 5) (cs.drop (i * 5))) := fun W hWc hWf ty dc sc =>
  run_copy_n W _ _ ty 127 5 w.heap.size ((i + m) * 5) (n + m - (i + m)) dc ⟨b, off + i * 5, none⟩ (n - i) sc (n - i) (cs.drop (i * 5)) Tryz.underlying43 hsz (by simp only [Nat.min_def]; split <;> omega) hdl
   (fun j v hj => by
    rw [Addr.add_lit, hWc, World.cell?_setCells_out _ _ _ _ _ (fun h _ => absurd h hbN), Nat.add_assoc]
    exact hOb _ v (hcs (i * 5 + j) v (by rwa [List.getElem?_drop] at hj)))
   (fun j hj => by rw [hWc]; exact isSome_setCells _ _ _ _ (fun t ht => hN _ (by omega)) _ (hN _ (by omega)))
   (fun j hj => by rw [hWf, World.frozen?_setCells]; exact hNf _) (fun v hv => h1c v (List.mem_of_mem_drop hv))
 subst hW1
 have hE1 : ∀ x, ((w.alloc (.cells ROW 127)).drew).cell? x = (w.drew.alloc (.cells ROW 127)).cell? x := fun x => rfl
 have hE2 : ∀ x, ((w.alloc (.cells ROW 127)).drew).frozen? x = (w.drew.alloc (.cells ROW 127)).frozen? x := fun x => rfl
 have hF1 : ∀ x, (((w.alloc (.cells ROW 127)).drew.setCells w.heap.size (i * 5) vs).drew).cell? x = ((w.drew.alloc (.cells ROW 127)).setCells w.heap.size (i * 5) vs).cell? x := fun x => rfl
 have hF2 : ∀ x, (((w.alloc (.cells ROW 127)).drew.setCells w.heap.size (i * 5) vs).drew).frozen? x = ((w.drew.alloc (.cells ROW 127)).setCells w.heap.size (i * 5) vs).frozen? x := fun x => rfl
 have hw1 : IntKind.i64.wrap ((i : Int) + (m : Int)) = (i : Int) + (m : Int) := by rw [IntKind.wrap_i64]; omega
 have hb1 : (0 : Int) ≤ (i : Int) + (m : Int) := by omega
 have hin : i ≤ n := by omega
 have htn : ((i : Int) + (m : Int)).toNat = i + m := by omega
 have hb3 : (i : Int) ≤ (n : Int) := by omega
 clear hkk hik hold hROW hG hRl
 go_enter Tryz.func165, Tryz.ntmps165
 go_wp2_with (first
  | (at_builtin; refine Lib.wpList_append_run _ rfl _ _ _ _ rfl _ _ rfl rfl _ _ (hrz _) ?_)
  | (at_builtin; refine wpList_copy_runI _ rfl _ _ 43 43 rfl _ _ rfl rfl (hcpA _ hE1 hE2 _ _) ?_)
  | (at_builtin; refine wpList_copy_runI _ rfl _ _ 43 43 rfl _ _ rfl rfl (hcpB _ (fun _ => rfl) (fun _ => rfl) _ _ _) ?_))
 go_region_law_o (refine step_copy_runI rfl _ _ 43 43 rfl (.slice (some ⟨w.heap.size, (i + m) * 5, none⟩) (n + m - (i + m)) (G - (i + m))) (.slice (some ⟨b, off + i * 5, none⟩) (n - i) (c - i)) (by simp [Act.eval, Act.put]) (by simp [Act.eval, Act.put]) (hcpB _ hF1 hF2 3 (G - (i + m)) (c - i)) ?_)
 go_wp2
 go_ret
 exact ⟨rfl, rfl⟩
set_option maxHeartbeats 4000000 in
set_option maxRecDepth 100000 in
/-- At the end: whatever append does. -/
theorem ins_end (v : Value) (base : Option Addr) (n c : Nat) (vb vc m : Nat) (v' : Value) (w w' : World) (hm : 0 < m) (hnc : n ≤ c)
  (hrun : ∀ ty, (Builtin.append_ #[43, 43] ty #[.slice base n c, .slice (some ⟨vb, 0, none⟩) m vc]).run Tryz.prog w = .ok v' w') (hsl : ∃ A N C, v' = .slice A N C) (hnil : base = none → n = 0) :
  Calls Tryz.prog 165 #[.slice base n c, .int .i64 n, .slice (some ⟨vb, 0, none⟩) m vc] w fun e w2 => e = .returned v' ∧ w2 = w' := by
 have u30 := run_underlying Tryz.underlying43
 have z49 := zq62
 have mixed := mixed_all
 have hz1 : ¬ ((m : Int) = 0) := by omega
 obtain ⟨A, N, C, rfl⟩ := hsl
 go_enter Tryz.func165, Tryz.ntmps165
 cases base with
 | none =>
  have h0 := hnil rfl
  subst h0
  go_wp2_with (at_builtin; refine Lib.wpList_append_run _ rfl _ _ _ _ rfl _ _ rfl rfl _ _ (hrun _) ?_)
  all_goals (go_ret; exact ⟨rfl, rfl⟩)
 | some a =>
  obtain ⟨ab, ao, asp⟩ := a
  go_wp2_with (at_builtin; refine Lib.wpList_append_run _ rfl _ _ _ _ rfl _ _ rfl rfl _ _ (hrun _) ?_)
  all_goals (go_ret; exact ⟨rfl, rfl⟩)
theorem ins_cells {arr : Array Value} {n i : Nat} {cs xs : List Value} (hi : i < n) (hcl : cs.length = n * 5) (hxl : xs.length = 5) (hsz : (n + 1) * 5 ≤ arr.size) (h0 : ∀ q, q < i * 5 → arr[q]? = cs[q]?) :
  (setArr (setArr arr ((i + 1) * 5) (cs.drop (i * 5))) (i * 5) xs).toList.take ((n + 1) * 5) = cs.take (i * 5) ++ xs ++ cs.drop (i * 5) ∧
  (setArr (setArr arr (i * 5) xs) ((i + 1) * 5) (cs.drop (i * 5))).toList.take ((n + 1) * 5) = cs.take (i * 5) ++ xs ++ cs.drop (i * 5) := by
 have hdl : (cs.drop (i * 5)).length = (n - i) * 5 := by rw [List.length_drop, hcl]; omega
 have hrhs : ∀ q : Nat, (cs.take (i * 5) ++ xs ++ cs.drop (i * 5))[q]? = if q < i * 5 then cs[q]? else if q < (i + 1) * 5 then xs[q - i * 5]? else (cs.drop (i * 5))[q - (i + 1) * 5]? := by
  intro q
  rw [List.append_assoc, List.getElem?_append, List.length_take, Nat.min_eq_left (by omega)]
  split
  ·rw [List.getElem?_take, if_pos (by assumption)]
  ·rw [List.getElem?_append, hxl]
   by_cases hq : q < (i + 1) * 5
   ·rw [if_pos (by omega), if_pos hq]
   ·rw [if_neg (by omega), if_neg hq]
    congr 1
    omega
 constructor
 ·apply List.ext_getElem?
  intro q
  rw [hrhs, List.getElem?_take]
  by_cases hq : q < (n + 1) * 5
  ·rw [if_pos hq, Array.getElem?_toList, setArr_get _ _ _ _ (by rw [zq60]; omega)]
   by_cases h1 : q < i * 5
   ·rw [if_neg (by omega), if_pos h1, setArr_get _ _ _ _ (by omega), if_neg (by omega), h0 q h1]
   ·rw [if_neg h1]
    by_cases h2 : q < (i + 1) * 5
    ·rw [if_pos (by omega), if_pos h2]
    ·rw [if_neg (by omega), if_neg h2, setArr_get _ _ _ _ (by omega), if_pos (by omega)]
  ·rw [if_neg hq, if_neg (by omega), if_neg (by omega), List.getElem?_eq_none (by omega)]
 ·apply List.ext_getElem?
  intro q
  rw [hrhs, List.getElem?_take]
  by_cases hq : q < (n + 1) * 5
  ·rw [if_pos hq, Array.getElem?_toList, setArr_get _ _ _ _ (by rw [zq60]; omega)]
   by_cases h1 : q < i * 5
   ·rw [if_neg (by omega), if_pos h1, setArr_get _ _ _ _ (by omega), if_neg (by omega), h0 q h1]
   ·rw [if_neg h1]
    by_cases h2 : q < (i + 1) * 5
    ·rw [if_neg (by omega), if_pos h2, setArr_get _ _ _ _ (by omega), if_pos (by omega)]
    ·rw [if_pos (by omega), if_neg h2]
  ·rw [if_neg hq, if_neg (by omega), if_neg (by omega), List.getElem?_eq_none (by omega)]
theorem ins_main (base : Nat) (w : World) (v u : Value) (n i : Nat) (cs xs : List Value) (h1 : w.ownsRow base 127 5 v n cs) (h2 : w.ownsRow base 127 5 u 1 xs) (hap : ∀ b, v.ownBlock = some b → u.ownBlock ≠ some b) (hc1 : ∀ x ∈ cs, oneC x = true) (hc2 : ∀ x ∈ xs, oneC x = true)
  (hbase : base ≤ w.heap.size) (hin : i ≤ n) (hbig : n + 1 ≤ 274877906944) :
  Calls Tryz.prog 165 #[v, .int .i64 (i : Int), u] w fun r w' => ∃ v', r = .returned v' ∧ w'.ownsRow base 127 5 v' (n + 1) (cs.take (i * 5) ++ xs ++ cs.drop (i * 5)) ∧ w.grownBy w' v.ownBlock ∧ (∀ b, v'.ownBlock = some b → v.ownBlock = some b ∨ w.heap.size ≤ b) := by
 obtain ⟨i0, hi0, hz⟩ := Option.map_eq_some_iff.1 infoOf_yardarm_api_Lease
 simp only [Prod.mk.injEq] at hz
 obtain ⟨hzc, hzs, hzb⟩ := hz
 obtain ⟨z, hz0, hzc⟩ := Option.map_eq_some_iff.1 hzc
 have hcl := h1.1
 have hxl : xs.length = 5 := by have := h2.1; omega
 rcases h2.2 with ⟨_, h0⟩ | ⟨vb, vc, curv, rfl, hvbase, hvheap, hvc, hvcm, hvsz, hvtake⟩
 ·cases h0
 have hvs : ∀ j x, xs[j]? = some x → w.cell? ⟨vb, 0 + j, none⟩ = some x := by
  intro j x hj
  rw [Nat.zero_add, zq15 hvheap, ← Array.getElem?_toList]
  rw [← hvtake, List.getElem?_take] at hj
  split at hj
  ·exact hj
  ·cases hj
 have h1v : ∀ x ∈ xs, x.oneCell' = true := fun x hx => oneC_cell' (hc2 x hx)
 have h1c : ∀ x ∈ cs, x.oneCell' = true := fun x hx => oneC_cell' (hc1 x hx)
 by_cases hine : i = n
 ·subst hine
  have htd : cs.take (i * 5) ++ xs ++ cs.drop (i * 5) = cs ++ xs := by rw [List.take_of_length_le (by omega), List.drop_of_length_le (by omega), List.append_nil]
  rw [htd]
  have hown5 : w.ownsRow base 127 i0.size v i cs := by rw [hzs]; exact h1
  obtain ⟨v', w', hrun, hown', hgb, hblk⟩ := append_own (P := Tryz.prog) w base 43 0 127 i0 z Tryz.underlying43 hi0 hz0 (by rw [hzs]; exact hzc) (by omega) v i cs hown5 (some ⟨vb, 0, none⟩) 1 vc xs (by rw [hzs]; omega) (by simp)
   (fun ad had j x hj => by
    cases had
    rw [add_zero_addr]
    exact hvs j x hj) h1v (by unfold maxLen; omega) (by rw [hzb]; omega) hbase
  have hrun' : ∀ ty, (Builtin.append_ #[43, 43] ty #[v, .slice (some ⟨vb, 0, none⟩) 1 vc]).run Tryz.prog w = .ok v' w' := fun ty => by
   rw [← hrun]
   rfl
  rw [hzs] at hown'
  have hsl : ∃ A N C, v' = .slice A N C := by
   rcases hown'.2 with ⟨h, _⟩ | ⟨g, cp, cur, h, _⟩
   ·exact ⟨_, _, _, h⟩
   ·exact ⟨_, _, _, h⟩
  have hv : ∃ A c, v = .slice A i c ∧ i ≤ c ∧ (A = none → i = 0) := by
   rcases h1.2 with ⟨h, h0⟩ | ⟨g, cp, cur, h, _, _, hc, _⟩
   ·exact ⟨none, 0, by rw [h, h0], by omega, fun _ => h0⟩
   ·exact ⟨_, cp, h, hc, fun h => by cases h⟩
  obtain ⟨A, c, rfl, hc, hnil⟩ := hv
  refine (ins_end (.slice A i c) A i c vb vc 1 v' w w' (by omega) hc hrun' hsl hnil).mono ?_
  rintro e w2 ⟨rfl, rfl⟩
  exact ⟨v', rfl, hown', hgb, hblk⟩
 ·have hi : i < n := by omega
  rcases h1.2 with ⟨_, h0⟩ | ⟨g, cap, cur, rfl, hgbase, hgheap, hnc, hcm, hgsz, hgtake⟩
  ·omega
  have hvbg : vb ≠ g := fun e => hap g rfl (by rw [e]; rfl)
  have hcs : ∀ j x, cs[j]? = some x → w.cell? ⟨g, 0 + j, none⟩ = some x := by
   intro j x hj
   rw [Nat.zero_add, zq15 hgheap, ← Array.getElem?_toList]
   rw [← hgtake, List.getElem?_take] at hj
   split at hj
   ·exact hj
   ·cases hj
  by_cases hroom : n + 1 ≤ cap
  ·refine (ins_shift g 0 n cap i vb 0 1 vc cs xs w hi (by omega) hroom (by unfold maxLen at hcm; omega) hvbg hcl (by omega) hcs
    (fun j hj => by rw [Nat.zero_add, zq15 hgheap, Array.getElem?_eq_getElem (by omega)]; rfl) (fun j hj => by simp [World.frozen?, hgheap]) hvs h1c h1v 127 127 curv.size cur.size
    (by simp [World.shape?, hvheap]) (by simp [World.shape?, hgheap]) (by omega) (by simp [World.frozen?, hvheap]) (by simp [World.frozen?, hvheap])).mono ?_
   rintro e w' ⟨rfl, rfl⟩
   have hg0 : w.drew.heap[g]? = some (.cells cur 127 (0, 0)) := hgheap
   obtain ⟨a1, a2, a3, a4, a5, a6⟩ := zq61 w.drew g (0 + (i + 1) * 5) (cs.drop (i * 5)) cur 127 (0, 0) hg0
   obtain ⟨b1, b2, b3, b4, b5, b6⟩ := zq61 _ g (0 + i * 5) xs _ 127 (0, 0) a1
   have hdl : (cs.drop (i * 5)).length = (n - i) * 5 := by rw [List.length_drop, hcl]; omega
   refine ⟨_, rfl, ⟨?_, .inr ⟨g, cap, _, rfl, hgbase, b1, hroom, hcm, by rw [zq60, zq60]; exact hgsz, ?_⟩⟩, ⟨b4.trans a4, b5.trans a5, b6.trans a6, by rw [b3, a3]; exact Nat.le_refl _, fun k hk hne => ?_⟩, fun b hb => .inl hb⟩
   ·simp only [List.length_append, List.length_take, hdl, hxl]; omega
   ·rw [Nat.zero_add, Nat.zero_add]
    refine (ins_cells hi hcl hxl (by omega) fun q hq => ?_).1
    rw [← hgtake, List.getElem?_take, if_pos (by omega), Array.getElem?_toList]
   ·have hkg : k ≠ g := fun e => hne (by rw [e]; rfl)
    exact (b2 k hkg).trans (a2 k hkg)
  ·refine (ins_grow g 0 n cap i vb 0 1 vc cs xs z (by rw [hi0]; simp [hz0]) w hi (by omega) hnc (by omega) (by omega) hcl (by omega) hcs hvs h1c h1v).mono ?_
   rintro e w' ⟨rfl, rfl⟩
   obtain ⟨G, hG⟩ : ∃ G, G = grownCap w (n + 1) cap 127 := ⟨_, rfl⟩
   have hGn : n + 1 ≤ G := by rw [hG]; exact grownCap_ge w _ _ _
   have hG63 : G ≤ maxLen := by rw [hG]; exact grownCap_le_maxLen w (n + 1) cap 127 (by unfold maxLen; omega)
   rw [← hG]
   obtain ⟨ROW, hROW⟩ : ∃ ROW : Array Value, ROW = (cs.take (i * 5)).toArray ++ Builtin.zeroCells z.cells (n + 1 - i) ++ Builtin.zeroCells z.cells (G - (n + 1)) := ⟨_, rfl⟩
   rw [← hROW]
   have hRs : ROW.size = G * 5 := by
    rw [hROW]
    simp [Builtin.zeroCells, hzc]
    omega
   have hR0 : ∀ q, q < i * 5 → ROW[q]? = cs[q]? := fun q hq => by
    rw [hROW, Array.append_assoc, Array.getElem?_append_left (by simp; omega)]
    simp only [List.getElem?_toArray, List.getElem?_take, if_pos hq]
   have hh : ((w.alloc (.cells ROW 127)).drew).heap[w.heap.size]? = some (.cells ROW 127 (0, 0)) := by
    show (w.heap.push _)[w.heap.size]? = _
    exact Array.getElem?_push_size
   obtain ⟨a1, a2, a3, a4, a5, a6⟩ := zq61 _ w.heap.size (i * 5) xs ROW 127 (0, 0) hh
   have a1' : (((w.alloc (.cells ROW 127)).drew.setCells w.heap.size (i * 5) xs).drew).heap[w.heap.size]? = _ := a1
   obtain ⟨b1, b2, b3, b4, b5, b6⟩ := zq61 _ w.heap.size ((i + 1) * 5) (cs.drop (i * 5)) _ 127 (0, 0) a1'
   have hdl : (cs.drop (i * 5)).length = (n - i) * 5 := by rw [List.length_drop, hcl]; omega
   have hold : ∀ k, k < w.heap.size → ((w.alloc (.cells ROW 127)).drew).heap[k]? = w.heap[k]? := fun k hk => by
    show (w.heap.push _)[k]? = _
    rw [Array.getElem?_push, if_neg (by omega)]
   refine ⟨_, rfl, ⟨?_, .inr ⟨w.heap.size, G, _, rfl, hbase, b1, hGn, hG63, by rw [zq60, zq60]; exact hRs, ?_⟩⟩, ⟨b4.trans a4, b5.trans a5, b6.trans a6, ?_, fun k hk hne => ?_⟩, fun b hb => .inr ?_⟩
   ·simp only [List.length_append, List.length_take, hdl, hxl]; omega
   ·exact (ins_cells hi hcl hxl (by omega) hR0).2
   ·rw [b3]
    show w.heap.size ≤ ((w.alloc (.cells ROW 127)).drew.setCells w.heap.size (i * 5) xs).heap.size
    rw [a3]
    show w.heap.size ≤ (w.heap.push _).size
    simp
   ·exact ((b2 k (by omega)).trans (a2 k (by omega))).trans (hold k hk)
   ·cases hb
    exact Nat.le_refl _
noncomputable def slices_Insert___api_Lease_api_Lease__con : Con := insCon .lease 127
theorem slices_Insert___api_Lease_api_Lease__ok : TrOk Tryz.prog 165 slices_Insert___api_Lease_api_Lease__con := ins_ok .lease 127 ins_main
end Go.Proofs.YtjncjiegmnicbabGreat
namespace Go.Proofs.YtjncjiegmnicbabGreat
open Go Go.Ma
noncomputable def cluster_within_env : Env := mkEnv ty fnB [] []
theorem cluster_within_envOk : EnvOk Tryz.prog cluster_within_env := envOk tyOk fn_ok callsNil _
noncomputable def cluster_within_con : Con := con [.one (.fl .int), .one (.fl .int), .one (.fl .int)] [.one (.fl .bool)] (fun x => zq19 x.1 x.2.1 x.2.2.1)
theorem cluster_within_ok : TrOk Tryz.prog 42 cluster_within_con := by
 have h : loopsOf (codeOf Tryz.f42) = [] := by kernel_rfl
 refine con_ok cluster_within_envOk Tryz.func42 (bodyOk h lsNil) _ _ _ (fun x => ?_)
 kernel_rfl
noncomputable def fence_within_env : Env := mkEnv ty fnB [] []
theorem fence_within_envOk : EnvOk Tryz.prog fence_within_env := envOk tyOk fn_ok callsNil _
noncomputable def fence_within_con : Con := con [.one (.fl .int), .one (.fl .int), .one (.fl .int)] [.one (.fl .bool)] (fun x => fence_within_t x.1 x.2.1 x.2.2.1)
theorem fence_within_ok : TrOk Tryz.prog 79 fence_within_con := by
 have h : loopsOf (codeOf Tryz.f79) = [] := by kernel_rfl
 refine con_ok fence_within_envOk Tryz.func79 (bodyOk h lsNil) _ _ _ (fun x => ?_)
 kernel_rfl
noncomputable def log_epoch_env : Env := mkEnv ty fnB [] []
theorem log_epoch_envOk : EnvOk Tryz.prog log_epoch_env := envOk tyOk fn_ok callsNil _
noncomputable def log_epoch_con : Con := con [.one (.fl .int)] [.one (.fl .bool)] (fun x => log_epoch_t x.1)
theorem log_epoch_ok : TrOk Tryz.prog 102 log_epoch_con := by
 have h : loopsOf (codeOf Tryz.f102) = [] := by kernel_rfl
 refine con_ok log_epoch_envOk Tryz.func102 (bodyOk h lsNil) _ _ _ (fun x => ?_)
 kernel_rfl
noncomputable def state_within_env : Env := mkEnv ty fnB [] []
theorem state_within_envOk : EnvOk Tryz.prog state_within_env := envOk tyOk fn_ok callsNil _
noncomputable def state_within_con : Con := con [.one (.fl .int), .one (.fl .int), .one (.fl .int)] [.one (.fl .bool)] (fun x => state_within_t x.1 x.2.1 x.2.2.1)
theorem state_within_ok : TrOk Tryz.prog 75 state_within_con := by
 have h : loopsOf (codeOf Tryz.f75) = [] := by kernel_rfl
 refine con_ok state_within_envOk Tryz.func75 (bodyOk h lsNil) _ _ _ (fun x => ?_)
 kernel_rfl
noncomputable def state_extra_env : Env := mkEnv ty fnB [] []
theorem state_extra_envOk : EnvOk Tryz.prog state_extra_env := envOk tyOk fn_ok callsNil _
noncomputable def state_extra_con : Con := con [.one (.fl .op)] [.one (.fl .bool)] (fun x => state_extra_t x.1)
theorem state_extra_ok : TrOk Tryz.prog 108 state_extra_con := by
 have h : loopsOf (codeOf Tryz.f108) = [] := by kernel_rfl
 refine con_ok state_extra_envOk Tryz.func108 (bodyOk h lsNil) _ _ _ (fun x => ?_)
 kernel_rfl
noncomputable def addr_Check_env : Env := mkEnv ty fnB [] []
theorem addr_Check_envOk : EnvOk Tryz.prog addr_Check_env := envOk tyOk fn_ok callsNil _
noncomputable def addr_Check_con : Con := con [.one (.fl .addr)] [.one (.fl .int)] (fun x => addr_Check_t x.1)
theorem addr_Check_ok : TrOk Tryz.prog 111 addr_Check_con := by
 have h : loopsOf (codeOf Tryz.f111) = [] := by kernel_rfl
 refine con_ok addr_Check_envOk Tryz.func111 (bodyOk h lsNil) _ _ _ (fun x => ?_)
 kernel_rfl
noncomputable def prefix_Wide_env : Env := mkEnv ty fnB [] []
theorem prefix_Wide_envOk : EnvOk Tryz.prog prefix_Wide_env := envOk tyOk fn_ok callsNil _
noncomputable def prefix_Wide_con : Con := con [.one (.fl .addr)] [.one (.fl .int)] (fun x => prefix_Wide_t x.1)
theorem prefix_Wide_ok : TrOk Tryz.prog 129 prefix_Wide_con := by
 have h : loopsOf (codeOf Tryz.f129) = [] := by kernel_rfl
 refine con_ok prefix_Wide_envOk Tryz.func129 (bodyOk h lsNil) _ _ _ (fun x => ?_)
 kernel_rfl
noncomputable def prefix_mask_env : Env := mkEnv ty fnB [(129, prefix_Wide_con)] []
theorem prefix_mask_envOk : EnvOk Tryz.prog prefix_mask_env := envOk tyOk fn_ok (callsCons prefix_Wide_ok callsNil) _
noncomputable def prefix_mask_con : Con := con [.one (.fl .addr), .one (.fl .int)] [.one (.fl .addr)] (fun x => prefix_mask_t x.1 x.2.1)
theorem prefix_mask_ok : TrOk Tryz.prog 141 prefix_mask_con := by
 have h : loopsOf (codeOf Tryz.f141) = [] := by kernel_rfl
 refine con_ok prefix_mask_envOk Tryz.func141 (bodyOk h lsNil) _ _ _ (fun x => ?_)
 kernel_rfl
noncomputable def prefix_Cut_env : Env := mkEnv ty fnB [(141, prefix_mask_con)] []
theorem prefix_Cut_envOk : EnvOk Tryz.prog prefix_Cut_env := envOk tyOk fn_ok (callsCons prefix_mask_ok callsNil) _
noncomputable def prefix_Cut_con : Con := con [.one (.fl .addr), .one (.fl .int)] [.one (.fl .addr)] (fun x => prefix_Cut_t x.1 x.2.1)
theorem prefix_Cut_ok : TrOk Tryz.prog 130 prefix_Cut_con := by
 have h : loopsOf (codeOf Tryz.f130) = [] := by kernel_rfl
 refine con_ok prefix_Cut_envOk Tryz.func130 (bodyOk h lsNil) _ _ _ (fun x => ?_)
 kernel_rfl
noncomputable def prefix_Check_env : Env := mkEnv ty fnB [(111, addr_Check_con), (129, prefix_Wide_con), (130, prefix_Cut_con)] []
theorem prefix_Check_envOk : EnvOk Tryz.prog prefix_Check_env := envOk tyOk fn_ok (callsCons addr_Check_ok (callsCons prefix_Wide_ok (callsCons prefix_Cut_ok callsNil))) _
noncomputable def prefix_Check_con : Con := con [.one (.fl .pfx)] [.one (.fl .int)] (fun x => prefix_Check_t x.1)
theorem prefix_Check_ok : TrOk Tryz.prog 109 prefix_Check_con := by
 have h : loopsOf (codeOf Tryz.f109) = [] := by kernel_rfl
 refine con_ok prefix_Check_envOk Tryz.func109 (bodyOk h lsNil) _ _ _ (fun x => ?_)
 kernel_rfl
noncomputable def lease_Narrow_env : Env := mkEnv ty fnB [(129, prefix_Wide_con)] []
theorem lease_Narrow_envOk : EnvOk Tryz.prog lease_Narrow_env := envOk tyOk fn_ok (callsCons prefix_Wide_ok callsNil) _
noncomputable def lease_Narrow_con : Con := con [.one (.fl .pfx)] [.one (.fl .bool)] (fun x => lease_Narrow_t x.1)
theorem lease_Narrow_ok : TrOk Tryz.prog 110 lease_Narrow_con := by
 have h : loopsOf (codeOf Tryz.f110) = [] := by kernel_rfl
 refine con_ok lease_Narrow_envOk Tryz.func110 (bodyOk h lsNil) _ _ _ (fun x => ?_)
 kernel_rfl
noncomputable def lease_within_env : Env := mkEnv ty fnB [] []
theorem lease_within_envOk : EnvOk Tryz.prog lease_within_env := envOk tyOk fn_ok callsNil _
noncomputable def lease_within_con : Con := con [.one (.fl .int), .one (.fl .int), .one (.fl .int)] [.one (.fl .bool)] (fun x => lease_within_t x.1 x.2.1 x.2.2.1)
theorem lease_within_ok : TrOk Tryz.prog 117 lease_within_con := by
 have h : loopsOf (codeOf Tryz.f117) = [] := by kernel_rfl
 refine con_ok lease_within_envOk Tryz.func117 (bodyOk h lsNil) _ _ _ (fun x => ?_)
 kernel_rfl
def lease_Who_L2_S : LoopS := { n := 33, base := 0, head := { keep := [0, 6, 7], vals := [.one (.fl .str), .one (.fl .int), .one (.fl .int)], objs := [] }, exits := [⟨none, { keep := [2], vals := [.one (.fl .bool)], objs := [] }⟩, ⟨some 0, { keep := [0], vals := [.one (.fl .str)], objs := [] }⟩] }
noncomputable def lease_Who_env : Env := mkEnv ty fnB [(117, lease_within_con)] [(2, (loopTr lease_Who_L2_S (loopN lease_Who_L2 FUEL)))]
theorem lease_Who_envOk : EnvOk Tryz.prog lease_Who_env := envOk tyOk fn_ok (callsCons lease_within_ok callsNil) _
theorem lease_Who_L2_ok : LOk Tryz.prog (nthLoop (codeOf Tryz.f112) 0) (loopTr lease_Who_L2_S (loopN lease_Who_L2 FUEL)) := by
 have h : loopsOf (nthLoop (codeOf Tryz.f112) 0) = [] := by kernel_rfl
 refine loop_ok lease_Who_envOk (loopsOk h lsNil) lease_Who_L2_S lease_Who_L2 FUEL (fun rec x => ?_)
 kernel_rfl
noncomputable def lease_Who_con : Con := con [.one (.fl .str)] [.one (.fl .bool)] (fun x => lease_Who_t x.1)
theorem lease_Who_ok : TrOk Tryz.prog 112 lease_Who_con := by
 have h : loopsOf (codeOf Tryz.f112) = [(nthLoop (codeOf Tryz.f112) 0)] := by kernel_rfl
 refine con_ok lease_Who_envOk Tryz.func112 (bodyOk h (lsCons (one_loop (t := (loopTr lease_Who_L2_S (loopN lease_Who_L2 FUEL))) (by kernel_rfl) lease_Who_L2_ok) lsNil)) _ _ _ (fun x => ?_)
 kernel_rfl
noncomputable def state_Form_env : Env := mkEnv ty fnB [(75, state_within_con), (108, state_extra_con), (109, prefix_Check_con), (110, lease_Narrow_con), (111, addr_Check_con), (112, lease_Who_con)] []
theorem state_Form_envOk : EnvOk Tryz.prog state_Form_env := envOk tyOk fn_ok (callsCons state_within_ok (callsCons state_extra_ok (callsCons prefix_Check_ok (callsCons lease_Narrow_ok (callsCons addr_Check_ok (callsCons lease_Who_ok callsNil)))))) _
noncomputable def state_Form_con : Con := con [.one (.fl .op)] [.one (.fl .int)] (fun x => state_Form_t x.1)
theorem state_Form_ok : TrOk Tryz.prog 71 state_Form_con := by
 have h : loopsOf (codeOf Tryz.f71) = [] := by kernel_rfl
 refine con_ok state_Form_envOk Tryz.func71 (bodyOk h lsNil) _ _ _ (fun x => ?_)
 kernel_rfl
def log_Check_L4_S : LoopS := { n := 48, base := 1, head := { keep := [0, 9, 10, 11], vals := [.one (.cst (.row 0)), .one (.cst (.row 0)), .one (.fl .int), .one (.fl .int)], objs := [.row .entry 68 false] }, exits := [⟨none, { keep := [2], vals := [.one (.fl .int)], objs := [.row .entry 68 false] }⟩, ⟨some 0, { keep := [], vals := [], objs := [.row .entry 68 false] }⟩] }
noncomputable def log_Check_env : Env := mkEnv ty fnB [(102, log_epoch_con), (71, state_Form_con)] [(4, (loopTr log_Check_L4_S (loopN log_Check_L4 FUEL)))]
theorem log_Check_envOk : EnvOk Tryz.prog log_Check_env := envOk tyOk fn_ok (callsCons log_epoch_ok (callsCons state_Form_ok callsNil)) _
theorem log_Check_L4_ok : LOk Tryz.prog (nthLoop (codeOf Tryz.f57) 0) (loopTr log_Check_L4_S (loopN log_Check_L4 FUEL)) := by
 have h : loopsOf (nthLoop (codeOf Tryz.f57) 0) = [] := by kernel_rfl
 refine loop_ok log_Check_envOk (loopsOk h lsNil) log_Check_L4_S log_Check_L4 FUEL (fun rec x => ?_)
 kernel_rfl
noncomputable def log_Check_con : Con := con [.one (.row .entry 68)] [.one (.fl .int)] (fun x => log_Check_t x.1)
theorem log_Check_ok : TrOk Tryz.prog 57 log_Check_con := by
 have h : loopsOf (codeOf Tryz.f57) = [(nthLoop (codeOf Tryz.f57) 0)] := by kernel_rfl
 refine con_ok log_Check_envOk Tryz.func57 (bodyOk h (lsCons (one_loop (t := (loopTr log_Check_L4_S (loopN log_Check_L4 FUEL))) (by kernel_rfl) log_Check_L4_ok) lsNil)) _ _ _ (fun x => ?_)
 kernel_rfl
noncomputable def fence_Check_1_env : Env := mkEnv ty fnB [] []
theorem fence_Check_1_envOk : EnvOk Tryz.prog fence_Check_1_env := envOk tyOk fn_ok callsNil _
noncomputable def fence_Check_1_con : Con := con [.one (.fl .entry), .ref [.fl .int, .fl .int, .fl .int, .row .entry 68] 26] [.one (.fl .bool)] (fun x => fence_Check_1_t x.1 x.2.1.1 x.2.1.2.1 x.2.1.2.2.1 x.2.1.2.2.2.1)
theorem fence_Check_1_ok : TrOk Tryz.prog 101 fence_Check_1_con := by
 have h : loopsOf (codeOf Tryz.f101) = [] := by kernel_rfl
 refine con_ok fence_Check_1_envOk Tryz.func101 (bodyOk h lsNil) _ _ _ (fun x => ?_)
 kernel_rfl
def zq24 : LoopS := { n := 19, base := 2, head := { keep := [0, 1, 7, 8], vals := [.one (.cst (.row 0)), .one (.cst (.fn 101 [.ptr 1 0])), .one (.fl .int), .one (.fl .int)], objs := [.row .entry 68 false, .blk [.fl .int, .fl .int, .fl .int, .cst (.row 0)] 26 true] }, exits := [⟨none, { keep := [4], vals := [.one (.fl .int)], objs := [.row .entry 68 false, .blk [.fl .int, .fl .int, .fl .int, .cst (.row 0)] 26 true] }⟩, ⟨some 0, { keep := [], vals := [], objs := [.row .entry 68 false, .blk [.fl .int, .fl .int, .fl .int, .cst (.row 0)] 26 true] }⟩] }
noncomputable def zq26 : Env := mkEnv ty fnB [(101, fence_Check_1_con)] [(2, (loopTr zq24 (loopN zq23 FUEL)))]
theorem zq27 : EnvOk Tryz.prog zq26 := envOk tyOk fn_ok (callsCons fence_Check_1_ok callsNil) _
theorem zq25 : LOk Tryz.prog (nthLoop (codeOf Tryz.f126) 0) (loopTr zq24 (loopN zq23 FUEL)) := by
 have h : loopsOf (nthLoop (codeOf Tryz.f126) 0) = [] := by kernel_rfl
 refine loop_ok zq27 (loopsOk h lsNil) zq24 zq23 FUEL (fun rec x => ?_)
 kernel_rfl
theorem zq28 : TrOk Tryz.prog 126 (inlCon zq26 Tryz.f126) := by
 have h : loopsOf (codeOf Tryz.f126) = [(nthLoop (codeOf Tryz.f126) 0)] := by kernel_rfl
 exact inl_ok zq27 Tryz.func126 (bodyOk h (lsCons (one_loop (t := (loopTr zq24 (loopN zq23 FUEL))) (by kernel_rfl) zq25) lsNil))
noncomputable def zq22 : Env := mkEnv ty fnB [(126, (inlCon zq26 Tryz.f126))] []
theorem fence_Check_slices_ContainsFunc___api_Entry_api_Entry__envOk : EnvOk Tryz.prog zq22 := envOk tyOk fn_ok (callsCons zq28 callsNil) _
theorem fence_Check_slices_ContainsFunc___api_Entry_api_Entry__inl : TrOk Tryz.prog 100 (inlCon zq22 Tryz.f100) := by
 have h : loopsOf (codeOf Tryz.f100) = [] := by kernel_rfl
 exact inl_ok fence_Check_slices_ContainsFunc___api_Entry_api_Entry__envOk Tryz.func100 (bodyOk h lsNil)
noncomputable def fence_Check_env : Env := mkEnv ty fnB [(79, fence_within_con), (57, log_Check_con), (100, (inlCon zq22 Tryz.f100))] []
theorem fence_Check_envOk : EnvOk Tryz.prog fence_Check_env := envOk tyOk fn_ok (callsCons fence_within_ok (callsCons log_Check_ok (callsCons fence_Check_slices_ContainsFunc___api_Entry_api_Entry__inl callsNil))) _
noncomputable def fence_Check_con : Con := con [.agg [.fl .int, .fl .int, .fl .int, .row .entry 68]] [.one (.fl .int)] (fun x => fence_Check_t x.1.1 x.1.2.1 x.1.2.2.1 x.1.2.2.2.1)
theorem fence_Check_ok : TrOk Tryz.prog 54 fence_Check_con := by
 have h : loopsOf (codeOf Tryz.f54) = [] := by kernel_rfl
 refine con_ok fence_Check_envOk Tryz.func54 (bodyOk h lsNil) _ _ _ (fun x => ?_)
 kernel_rfl
noncomputable def log_Is_1_env : Env := mkEnv ty fnB [] []
theorem log_Is_1_envOk : EnvOk Tryz.prog log_Is_1_env := envOk tyOk fn_ok callsNil _
noncomputable def log_Is_1_con : Con := con [.one (.fl .entry), .one (.fl .entry)] [.one (.fl .bool)] (fun x => log_Is_1_t x.1 x.2.1)
theorem log_Is_1_ok : TrOk Tryz.prog 106 log_Is_1_con := by
 have h : loopsOf (codeOf Tryz.f106) = [] := by kernel_rfl
 refine con_ok log_Is_1_envOk Tryz.func106 (bodyOk h lsNil) _ _ _ (fun x => ?_)
 kernel_rfl
def zq55 : LoopS := { n := 32, base := 3, head := { keep := [1, 2, 15, 16, 17], vals := [.one (.cst (.row 2)), .one (.cst (.fn 106 [])), .one (.cst (.row 0)), .one (.fl .int), .one (.fl .int)], objs := [.row .entry 68 false, .row .entry 68 false, .row .entry 68 false] }, exits := [⟨none, { keep := [6], vals := [.one (.fl .bool)], objs := [.row .entry 68 false, .row .entry 68 false, .row .entry 68 false] }⟩, ⟨some 0, { keep := [], vals := [], objs := [.row .entry 68 false, .row .entry 68 false, .row .entry 68 false] }⟩] }
noncomputable def zq57 : Env := mkEnv ty fnB [(106, log_Is_1_con)] [(4, (loopTr zq55 (loopN zq54 FUEL)))]
theorem zq58 : EnvOk Tryz.prog zq57 := envOk tyOk fn_ok (callsCons log_Is_1_ok callsNil) _
theorem zq56 : LOk Tryz.prog (nthLoop (codeOf Tryz.f105) 0) (loopTr zq55 (loopN zq54 FUEL)) := by
 have h : loopsOf (nthLoop (codeOf Tryz.f105) 0) = [] := by kernel_rfl
 refine loop_ok zq58 (loopsOk h lsNil) zq55 zq54 FUEL (fun rec x => ?_)
 kernel_rfl
theorem zq59 : TrOk Tryz.prog 105 (inlCon zq57 Tryz.f105) := by
 have h : loopsOf (codeOf Tryz.f105) = [(nthLoop (codeOf Tryz.f105) 0)] := by kernel_rfl
 exact inl_ok zq58 Tryz.func105 (bodyOk h (lsCons (one_loop (t := (loopTr zq55 (loopN zq54 FUEL))) (by kernel_rfl) zq56) lsNil))
noncomputable def log_Is_env : Env := mkEnv ty fnB [(105, (inlCon zq57 Tryz.f105))] []
theorem log_Is_envOk : EnvOk Tryz.prog log_Is_env := envOk tyOk fn_ok (callsCons zq59 callsNil) _
noncomputable def log_Is_con : Con := con [.one (.row .entry 68), .one (.row .entry 68)] [.one (.fl .bool)] (fun x => log_Is_t x.1 x.2.1)
theorem log_Is_ok : TrOk Tryz.prog 68 log_Is_con := by
 have h : loopsOf (codeOf Tryz.f68) = [] := by kernel_rfl
 refine con_ok log_Is_envOk Tryz.func68 (bodyOk h lsNil) _ _ _ (fun x => ?_)
 kernel_rfl
noncomputable def cluster_node_env : Env := mkEnv ty fnB [(42, cluster_within_con), (57, log_Check_con), (68, log_Is_con)] []
theorem cluster_node_envOk : EnvOk Tryz.prog cluster_node_env := envOk tyOk fn_ok (callsCons cluster_within_ok (callsCons log_Check_ok (callsCons log_Is_ok callsNil))) _
noncomputable def cluster_node_con : Con := con [.agg [.fl .int, .fl .int, .fl .int, .fl .int, .row .entry 68, .nest .int .entry 56 68 true], .agg [.fl .int, .row .entry 68]] [.one (.fl .int)] (fun x => cluster_node_t x.1.1 x.1.2.1 x.1.2.2.1 x.1.2.2.2.1 x.1.2.2.2.2.1 x.1.2.2.2.2.2.1 x.2.1.1 x.2.1.2.1)
theorem cluster_node_ok : TrOk Tryz.prog 55 cluster_node_con := by
 have h : loopsOf (codeOf Tryz.f55) = [] := by kernel_rfl
 refine con_ok cluster_node_envOk Tryz.func55 (bodyOk h lsNil) _ _ _ (fun x => ?_)
 kernel_rfl
def cluster_Check_L9_S : LoopS := { n := 85, base := 3, head := { keep := [1, 26, 27, 28], vals := [.one (.cst (.ptr 3 0)), .one (.cst (.row 2)), .one (.fl .int), .one (.fl .int)], objs := [.row .entry 68 false, .bag .entry 68 false false, .nest .int 1 56 false, .blk [.fl .int, .fl .int, .fl .int, .fl .int, .cst (.row 0), .cst (.row 2)] 29 true] }, exits := [⟨none, { keep := [2], vals := [.one (.fl .int)], objs := [.row .entry 68 false, .bag .entry 68 false false, .nest .int 1 56 false] }⟩, ⟨some 0, { keep := [1], vals := [.one (.cst (.ptr 3 0))], objs := [.row .entry 68 false, .bag .entry 68 false false, .nest .int 1 56 false, .blk [.fl .int, .fl .int, .fl .int, .fl .int, .cst (.row 0), .cst (.row 2)] 29 true] }⟩] }
def cluster_Check_L19_S : LoopS := { n := 85, base := 3, head := { keep := [1, 57, 58, 59], vals := [.one (.cst (.ptr 3 0)), .one (.cst (.row 2)), .one (.fl .int), .one (.fl .int)], objs := [.row .entry 68 false, .bag .entry 68 false false, .nest .int 1 56 false, .blk [.fl .int, .fl .int, .fl .int, .fl .int, .cst (.row 0), .cst (.row 2)] 29 true] }, exits := [⟨none, { keep := [2], vals := [.one (.fl .int)], objs := [.row .entry 68 false, .bag .entry 68 false false, .nest .int 1 56 false] }⟩, ⟨some 2, { keep := [], vals := [], objs := [.row .entry 68 false, .bag .entry 68 false false, .nest .int 1 56 false] }⟩] }
noncomputable def cluster_Check_env : Env := mkEnv ty fnB [(42, cluster_within_con), (54, fence_Check_con), (55, cluster_node_con)] [(9, (loopTr cluster_Check_L9_S (loopN cluster_Check_L9 FUEL))), (19, (loopTr cluster_Check_L19_S (loopN zq16 FUEL)))]
theorem cluster_Check_envOk : EnvOk Tryz.prog cluster_Check_env := envOk tyOk fn_ok (callsCons cluster_within_ok (callsCons fence_Check_ok (callsCons cluster_node_ok callsNil))) _
theorem cluster_Check_L19_ok : LOk Tryz.prog (nthLoop (codeOf Tryz.f16) 1) (loopTr cluster_Check_L19_S (loopN zq16 FUEL)) := by
 have h : loopsOf (nthLoop (codeOf Tryz.f16) 1) = [] := by kernel_rfl
 refine loop_ok cluster_Check_envOk (loopsOk h lsNil) cluster_Check_L19_S zq16 FUEL (fun rec x => ?_)
 kernel_rfl
theorem cluster_Check_L9_ok : LOk Tryz.prog (nthLoop (codeOf Tryz.f16) 0) (loopTr cluster_Check_L9_S (loopN cluster_Check_L9 FUEL)) := by
 have h : loopsOf (nthLoop (codeOf Tryz.f16) 0) = [] := by kernel_rfl
 refine loop_ok cluster_Check_envOk (loopsOk h lsNil) cluster_Check_L9_S cluster_Check_L9 FUEL (fun rec x => ?_)
 kernel_rfl
noncomputable def cluster_Check_con : Con := con [.agg [.fl .int, .fl .int, .fl .int, .fl .int, .row .entry 68, .nest .int .entry 56 68 true]] [.one (.fl .int)] (fun x => cluster_Check_t x.1.1 x.1.2.1 x.1.2.2.1 x.1.2.2.2.1 x.1.2.2.2.2.1 x.1.2.2.2.2.2.1)
theorem cluster_Check_ok : TrOk Tryz.prog 16 cluster_Check_con := by
 have h : loopsOf (codeOf Tryz.f16) = [(nthLoop (codeOf Tryz.f16) 0), (nthLoop (codeOf Tryz.f16) 1)] := by kernel_rfl
 refine con_ok cluster_Check_envOk Tryz.func16 (bodyOk h (lsCons (one_loop (t := (loopTr cluster_Check_L9_S (loopN cluster_Check_L9 FUEL))) (by kernel_rfl) cluster_Check_L9_ok) (lsCons (one_loop (t := (loopTr cluster_Check_L19_S (loopN zq16 FUEL))) (by kernel_rfl) cluster_Check_L19_ok) lsNil))) _ _ _ (fun x => ?_)
 kernel_rfl
noncomputable def cluster_form_env : Env := mkEnv ty fnB [(42, cluster_within_con)] []
theorem cluster_form_envOk : EnvOk Tryz.prog cluster_form_env := envOk tyOk fn_ok (callsCons cluster_within_ok callsNil) _
noncomputable def cluster_form_con : Con := con [.one (.fl .int), .one (.fl .event)] [.one (.fl .int)] (fun x => cluster_form_t x.1 x.2.1)
theorem cluster_form_ok : TrOk Tryz.prog 39 cluster_form_con := by
 have h : loopsOf (codeOf Tryz.f39) = [] := by kernel_rfl
 refine con_ok cluster_form_envOk Tryz.func39 (bodyOk h lsNil) _ _ _ (fun x => ?_)
 kernel_rfl
noncomputable def slices_Clone___api_Entry_api_Entry__env : Env := mkEnv ty fnB [] []
theorem slices_Clone___api_Entry_api_Entry__envOk : EnvOk Tryz.prog slices_Clone___api_Entry_api_Entry__env := envOk tyOk fn_ok callsNil _
noncomputable def zq64 : Con := con [.one (.row .entry 68)] [.one (.row .entry 68)] (fun x => zq66 x.1)
theorem zq65 : TrOk Tryz.prog 87 zq64 := by
 have h : loopsOf (codeOf Tryz.f87) = [] := by kernel_rfl
 refine con_ok slices_Clone___api_Entry_api_Entry__envOk Tryz.func87 (bodyOk h lsNil) _ _ _ (fun x => ?_)
 kernel_rfl
noncomputable def fence_Own_env : Env := mkEnv ty fnB [(87, zq64)] []
theorem fence_Own_envOk : EnvOk Tryz.prog fence_Own_env := envOk tyOk fn_ok (callsCons zq65 callsNil) _
noncomputable def fence_Own_con : Con := con [.agg [.fl .int, .fl .int, .fl .int, .row .entry 68]] [.agg [.fl .int, .fl .int, .fl .int, .row .entry 68]] (fun x => fence_Own_t x.1.1 x.1.2.1 x.1.2.2.1 x.1.2.2.2.1)
theorem fence_Own_ok : TrOk Tryz.prog 86 fence_Own_con := by
 have h : loopsOf (codeOf Tryz.f86) = [] := by kernel_rfl
 refine con_ok fence_Own_envOk Tryz.func86 (bodyOk h lsNil) _ _ _ (fun x => ?_)
 kernel_rfl
noncomputable def zq29 : Env := mkEnv ty fnB [] []
theorem fence_Get___fence_keeper__acquire_envOk : EnvOk Tryz.prog zq29 := envOk tyOk fn_ok callsNil _
theorem fence_Get___fence_keeper__acquire_inl : TrOk Tryz.prog 122 (inlCon zq29 Tryz.f122) := by
 have h : loopsOf (codeOf Tryz.f122) = [] := by kernel_rfl
 exact inl_ok fence_Get___fence_keeper__acquire_envOk Tryz.func122 (bodyOk h lsNil)
noncomputable def fence_Get_env : Env := mkEnv ty fnB [(86, fence_Own_con), (122, (inlCon zq29 Tryz.f122))] []
theorem fence_Get_envOk : EnvOk Tryz.prog fence_Get_env := envOk tyOk fn_ok (callsCons fence_Own_ok (callsCons fence_Get___fence_keeper__acquire_inl callsNil)) _
noncomputable def fence_Get_con : Con := con [.agg [.fl .int, .fl .int, .fl .int, .row .entry 68], .one (.fl .int), .one (.fl .int)] [.agg [.fl .int, .fl .int, .fl .int, .row .entry 68], .one (.fl .int)] (fun x => fence_Get_t x.1.1 x.1.2.1 x.1.2.2.1 x.1.2.2.2.1 x.2.1 x.2.2.1)
theorem fence_Get_ok : TrOk Tryz.prog 80 fence_Get_con := by
 have h : loopsOf (codeOf Tryz.f80) = [] := by kernel_rfl
 refine con_ok fence_Get_envOk Tryz.func80 (bodyOk h lsNil) _ _ _ (fun x => ?_)
 kernel_rfl
noncomputable def log_More_env : Env := mkEnv ty fnB [(102, log_epoch_con), (71, state_Form_con), (87, zq64)] []
theorem log_More_envOk : EnvOk Tryz.prog log_More_env := envOk tyOk fn_ok (callsCons log_epoch_ok (callsCons state_Form_ok (callsCons zq65 callsNil))) _
noncomputable def log_More_con : Con := con [.one (.row .entry 68), .one (.fl .int), .one (.fl .op)] [.one (.row .entry 68), .one (.fl .int)] (fun x => log_More_t x.1 x.2.1 x.2.2.1)
theorem log_More_ok : TrOk Tryz.prog 83 log_More_con := by
 have h : loopsOf (codeOf Tryz.f83) = [] := by kernel_rfl
 refine con_ok log_More_envOk Tryz.func83 (bodyOk h lsNil) _ _ _ (fun x => ?_)
 kernel_rfl
noncomputable def fence_Put_env : Env := mkEnv ty fnB [(83, log_More_con)] []
theorem fence_Put_envOk : EnvOk Tryz.prog fence_Put_env := envOk tyOk fn_ok (callsCons log_More_ok callsNil) _
noncomputable def fence_Put_con : Con := con [.agg [.fl .int, .fl .int, .fl .int, .row .entry 68], .one (.fl .int), .one (.fl .op)] [.agg [.fl .int, .fl .int, .fl .int, .row .entry 68], .one (.fl .int)] (fun x => fence_Put_t x.1.1 x.1.2.1 x.1.2.2.1 x.1.2.2.2.1 x.2.1 x.2.2.1)
theorem fence_Put_ok : TrOk Tryz.prog 81 fence_Put_con := by
 have h : loopsOf (codeOf Tryz.f81) = [] := by kernel_rfl
 refine con_ok fence_Put_envOk Tryz.func81 (bodyOk h lsNil) _ _ _ (fun x => ?_)
 kernel_rfl
noncomputable def ship_Behind_env : Env := mkEnv ty fnB [(87, zq64)] []
theorem ship_Behind_envOk : EnvOk Tryz.prog ship_Behind_env := envOk tyOk fn_ok (callsCons zq65 callsNil) _
noncomputable def ship_Behind_con : Con := con [.one (.row .entry 68), .one (.row .entry 68), .one (.fl .int)] [.one (.row .entry 68)] (fun x => ship_Behind_t x.1 x.2.1 x.2.2.1)
theorem ship_Behind_ok : TrOk Tryz.prog 84 ship_Behind_con := by
 have h : loopsOf (codeOf Tryz.f84) = [] := by kernel_rfl
 refine con_ok ship_Behind_envOk Tryz.func84 (bodyOk h lsNil) _ _ _ (fun x => ?_)
 kernel_rfl
noncomputable def zq17 : Env := mkEnv ty fnB [] []
theorem cluster_Do___cluster_doer__do___cluster_doer__disk_envOk : EnvOk Tryz.prog zq17 := envOk tyOk fn_ok callsNil _
theorem cluster_Do___cluster_doer__do___cluster_doer__disk_inl : TrOk Tryz.prog 88 (inlCon zq17 Tryz.f88) := by
 have h : loopsOf (codeOf Tryz.f88) = [] := by kernel_rfl
 exact inl_ok cluster_Do___cluster_doer__do___cluster_doer__disk_envOk Tryz.func88 (bodyOk h lsNil)
noncomputable def cluster_Do___cluster_doer__do_env : Env := mkEnv ty fnB [(80, fence_Get_con), (88, (inlCon zq17 Tryz.f88)), (81, fence_Put_con), (84, ship_Behind_con)] []
theorem cluster_Do___cluster_doer__do_envOk : EnvOk Tryz.prog cluster_Do___cluster_doer__do_env := envOk tyOk fn_ok (callsCons fence_Get_ok (callsCons cluster_Do___cluster_doer__do___cluster_doer__disk_inl (callsCons fence_Put_ok (callsCons ship_Behind_ok callsNil)))) _
theorem cluster_Do___cluster_doer__do_inl : TrOk Tryz.prog 41 (inlCon cluster_Do___cluster_doer__do_env Tryz.f41) := by
 have h : loopsOf (codeOf Tryz.f41) = [] := by kernel_rfl
 exact inl_ok cluster_Do___cluster_doer__do_envOk Tryz.func41 (bodyOk h lsNil)
def cluster_Do_cluster_own_L3_S : LoopS := { n := 40, base := 9, head := { keep := [3, 15, 16, 17], vals := [.one (.cst (.ptr 9 0)), .one (.cst (.row 2)), .one (.fl .int), .one (.fl .int)], objs := [.row .entry 68 false, .bag .entry 68 false false, .nest .int 1 56 false, .blk [.fl .int, .fl .int, .fl .int, .fl .int, .cst (.row 0), .cst (.row 2)] 29 true, .blk [.fl .event] 38 true, .blk [.fl .int, .fl .int, .fl .int, .fl .int, .cst (.row 6), .cst (.row 8)] 29 true, .row .entry 68 true, .bag .entry 68 true true, .nest .int 7 56 true, .blk [.fl .int, .fl .int, .fl .int, .fl .int, .cst (.row 10), .cst (.row 11)] 96 true, .row .entry 68 true, .nest .int 12 56 true, .bag .entry 68 true true] }, exits := [⟨some 0, { keep := [3], vals := [.one (.cst (.ptr 9 0))], objs := [.row .entry 68 false, .bag .entry 68 false false, .nest .int 1 56 false, .blk [.fl .int, .fl .int, .fl .int, .fl .int, .cst (.row 0), .cst (.row 2)] 29 true, .blk [.fl .event] 38 true, .blk [.fl .int, .fl .int, .fl .int, .fl .int, .cst (.row 6), .cst (.row 8)] 29 true, .row .entry 68 true, .bag .entry 68 true true, .nest .int 7 56 true, .blk [.fl .int, .fl .int, .fl .int, .fl .int, .cst (.row 10), .cst (.row 11)] 96 true, .row .entry 68 true, .nest .int 12 56 true, .bag .entry 68 true true] }⟩] }
noncomputable def cluster_Do_cluster_own_env : Env := mkEnv ty fnB [(86, fence_Own_con), (87, zq64)] [(3, (loopTr cluster_Do_cluster_own_L3_S (loopN zq18 FUEL)))]
theorem cluster_Do_cluster_own_envOk : EnvOk Tryz.prog cluster_Do_cluster_own_env := envOk tyOk fn_ok (callsCons fence_Own_ok (callsCons zq65 callsNil)) _
theorem cluster_Do_cluster_own_L3_ok : LOk Tryz.prog (nthLoop (codeOf Tryz.f40) 0) (loopTr cluster_Do_cluster_own_L3_S (loopN zq18 FUEL)) := by
 have h : loopsOf (nthLoop (codeOf Tryz.f40) 0) = [] := by kernel_rfl
 refine loop_ok cluster_Do_cluster_own_envOk (loopsOk h lsNil) cluster_Do_cluster_own_L3_S zq18 FUEL (fun rec x => ?_)
 kernel_rfl
theorem cluster_Do_cluster_own_inl : TrOk Tryz.prog 40 (inlCon cluster_Do_cluster_own_env Tryz.f40) := by
 have h : loopsOf (codeOf Tryz.f40) = [(nthLoop (codeOf Tryz.f40) 0)] := by kernel_rfl
 exact inl_ok cluster_Do_cluster_own_envOk Tryz.func40 (bodyOk h (lsCons (one_loop (t := (loopTr cluster_Do_cluster_own_L3_S (loopN zq18 FUEL))) (by kernel_rfl) cluster_Do_cluster_own_L3_ok) lsNil))
noncomputable def cluster_Do_env : Env := mkEnv ty fnB [(16, cluster_Check_con), (39, cluster_form_con), (41, (inlCon cluster_Do___cluster_doer__do_env Tryz.f41)), (40, (inlCon cluster_Do_cluster_own_env Tryz.f40))] []
theorem cluster_Do_envOk : EnvOk Tryz.prog cluster_Do_env := envOk tyOk fn_ok (callsCons cluster_Check_ok (callsCons cluster_form_ok (callsCons cluster_Do___cluster_doer__do_inl (callsCons cluster_Do_cluster_own_inl callsNil)))) _
noncomputable def cluster_Do_con : Con := con [.agg [.fl .int, .fl .int, .fl .int, .fl .int, .row .entry 68, .nest .int .entry 56 68 true], .one (.fl .event)] [.agg [.fl .int, .fl .int, .fl .int, .fl .int, .row .entry 68, .nest .int .entry 56 68 true], .one (.fl .bool), .one (.fl .int)] (fun x => cluster_Do_t x.1.1 x.1.2.1 x.1.2.2.1 x.1.2.2.2.1 x.1.2.2.2.2.1 x.1.2.2.2.2.2.1 x.2.1)
theorem cluster_Do_ok : TrOk Tryz.prog 9 cluster_Do_con := by
 have h : loopsOf (codeOf Tryz.f9) = [] := by kernel_rfl
 refine con_ok cluster_Do_envOk Tryz.func9 (bodyOk h lsNil) _ _ _ (fun x => ?_)
 kernel_rfl
noncomputable def slices_Clone___api_Lease_api_Lease__env : Env := mkEnv ty fnB [] []
theorem slices_Clone___api_Lease_api_Lease__envOk : EnvOk Tryz.prog slices_Clone___api_Lease_api_Lease__env := envOk tyOk fn_ok callsNil _
noncomputable def zq67 : Con := con [.one (.row .lease 127)] [.one (.row .lease 127)] (fun x => zq68 x.1)
theorem slices_Clone___api_Lease_api_Lease__ok : TrOk Tryz.prog 134 zq67 := by
 have h : loopsOf (codeOf Tryz.f134) = [] := by kernel_rfl
 refine con_ok slices_Clone___api_Lease_api_Lease__envOk Tryz.func134 (bodyOk h lsNil) _ _ _ (fun x => ?_)
 kernel_rfl
noncomputable def slices_Clone___api_Addr_api_Addr__env : Env := mkEnv ty fnB [] []
theorem slices_Clone___api_Addr_api_Addr__envOk : EnvOk Tryz.prog slices_Clone___api_Addr_api_Addr__env := envOk tyOk fn_ok callsNil _
noncomputable def slices_Clone___api_Addr_api_Addr__con : Con := con [.one (.row .addr 32)] [.one (.row .addr 32)] (fun x => zq63 x.1)
theorem slices_Clone___api_Addr_api_Addr__ok : TrOk Tryz.prog 135 slices_Clone___api_Addr_api_Addr__con := by
 have h : loopsOf (codeOf Tryz.f135) = [] := by kernel_rfl
 refine con_ok slices_Clone___api_Addr_api_Addr__envOk Tryz.func135 (bodyOk h lsNil) _ _ _ (fun x => ?_)
 kernel_rfl
def state_Own_L3_S : LoopS := { n := 32, base := 3, head := { keep := [2, 3, 13, 14, 15], vals := [.one (.cst (.ptr 3 0)), .one (.cst (.ptr 4 0)), .one (.cst (.row 1)), .one (.fl .int), .one (.fl .int)], objs := [.bag .addr 32 false false, .nest .pfx 0 116 false, .row .lease 127 false, .blk [.cst (.row 5), .cst (.row 6), .fl .int] 45 true, .blk [.cst (.row 7), .cst (.row 8), .fl .int] 45 true, .nest .pfx 9 116 true, .row .lease 127 true, .nest .pfx 10 116 true, .row .lease 127 true, .bag .addr 32 true true, .bag .addr 32 true true] }, exits := [⟨some 0, { keep := [2, 3], vals := [.one (.cst (.ptr 3 0)), .one (.cst (.ptr 4 0))], objs := [.bag .addr 32 false false, .nest .pfx 0 116 false, .row .lease 127 false, .blk [.cst (.row 5), .cst (.row 6), .fl .int] 45 true, .blk [.cst (.row 7), .cst (.row 8), .fl .int] 45 true, .nest .pfx 9 116 true, .row .lease 127 true, .nest .pfx 10 116 true, .row .lease 127 true, .bag .addr 32 true true, .bag .addr 32 true true] }⟩] }
noncomputable def state_Own_env : Env := mkEnv ty fnB [(134, zq67), (135, slices_Clone___api_Addr_api_Addr__con)] [(3, (loopTr state_Own_L3_S (loopN state_Own_L3 FUEL)))]
theorem state_Own_envOk : EnvOk Tryz.prog state_Own_env := envOk tyOk fn_ok (callsCons slices_Clone___api_Lease_api_Lease__ok (callsCons slices_Clone___api_Addr_api_Addr__ok callsNil)) _
theorem state_Own_L3_ok : LOk Tryz.prog (nthLoop (codeOf Tryz.f127) 0) (loopTr state_Own_L3_S (loopN state_Own_L3 FUEL)) := by
 have h : loopsOf (nthLoop (codeOf Tryz.f127) 0) = [] := by kernel_rfl
 refine loop_ok state_Own_envOk (loopsOk h lsNil) state_Own_L3_S state_Own_L3 FUEL (fun rec x => ?_)
 kernel_rfl
noncomputable def state_Own_con : Con := con [.agg [.nest .pfx .addr 116 32 true, .row .lease 127, .fl .int]] [.agg [.nest .pfx .addr 116 32 true, .row .lease 127, .fl .int]] (fun x => state_Own_t x.1.1 x.1.2.1 x.1.2.2.1)
theorem state_Own_ok : TrOk Tryz.prog 127 state_Own_con := by
 have h : loopsOf (codeOf Tryz.f127) = [(nthLoop (codeOf Tryz.f127) 0)] := by kernel_rfl
 refine con_ok state_Own_envOk Tryz.func127 (bodyOk h (lsCons (one_loop (t := (loopTr state_Own_L3_S (loopN state_Own_L3 FUEL))) (by kernel_rfl) state_Own_L3_ok) lsNil)) _ _ _ (fun x => ?_)
 kernel_rfl
noncomputable def prefix_Holds_env : Env := mkEnv ty fnB [(130, prefix_Cut_con)] []
theorem prefix_Holds_envOk : EnvOk Tryz.prog prefix_Holds_env := envOk tyOk fn_ok (callsCons prefix_Cut_ok callsNil) _
noncomputable def prefix_Holds_con : Con := con [.one (.fl .pfx), .one (.fl .addr)] [.one (.fl .bool)] (fun x => prefix_Holds_t x.1 x.2.1)
theorem prefix_Holds_ok : TrOk Tryz.prog 113 prefix_Holds_con := by
 have h : loopsOf (codeOf Tryz.f113) = [] := by kernel_rfl
 refine con_ok prefix_Holds_envOk Tryz.func113 (bodyOk h lsNil) _ _ _ (fun x => ?_)
 kernel_rfl
noncomputable def prefix_Over_env : Env := mkEnv ty fnB [(113, prefix_Holds_con)] []
theorem prefix_Over_envOk : EnvOk Tryz.prog prefix_Over_env := envOk tyOk fn_ok (callsCons prefix_Holds_ok callsNil) _
noncomputable def prefix_Over_con : Con := con [.one (.fl .pfx), .one (.fl .pfx)] [.one (.fl .bool)] (fun x => prefix_Over_t x.1 x.2.1)
theorem prefix_Over_ok : TrOk Tryz.prog 115 prefix_Over_con := by
 have h : loopsOf (codeOf Tryz.f115) = [] := by kernel_rfl
 refine con_ok prefix_Over_envOk Tryz.func115 (bodyOk h lsNil) _ _ _ (fun x => ?_)
 kernel_rfl
noncomputable def prefix_Meet_env : Env := mkEnv ty fnB [(115, prefix_Over_con)] []
theorem prefix_Meet_envOk : EnvOk Tryz.prog prefix_Meet_env := envOk tyOk fn_ok (callsCons prefix_Over_ok callsNil) _
noncomputable def prefix_Meet_con : Con := con [.one (.fl .pfx), .one (.fl .pfx)] [.one (.fl .bool)] (fun x => prefix_Meet_t x.1 x.2.1)
theorem prefix_Meet_ok : TrOk Tryz.prog 74 prefix_Meet_con := by
 have h : loopsOf (codeOf Tryz.f74) = [] := by kernel_rfl
 refine con_ok prefix_Meet_envOk Tryz.func74 (bodyOk h lsNil) _ _ _ (fun x => ?_)
 kernel_rfl
noncomputable def m_state_doer__pool_1_env : Env := mkEnv ty fnB [(74, prefix_Meet_con)] []
theorem m_state_doer__pool_1_envOk : EnvOk Tryz.prog m_state_doer__pool_1_env := envOk tyOk fn_ok (callsCons prefix_Meet_ok callsNil) _
noncomputable def m_state_doer__pool_1_con : Con := con [.agg [.fl .pfx, .row .addr 32], .ref [.fl .pfx] 34] [.one (.fl .bool)] (fun x => m_state_doer__pool_1_t x.1.1 x.1.2.1 x.2.1.1)
theorem m_state_doer__pool_1_ok : TrOk Tryz.prog 143 m_state_doer__pool_1_con := by
 have h : loopsOf (codeOf Tryz.f143) = [] := by kernel_rfl
 refine con_ok m_state_doer__pool_1_envOk Tryz.func143 (bodyOk h lsNil) _ _ _ (fun x => ?_)
 kernel_rfl
noncomputable def addr_Order_1_env : Env := mkEnv ty fnB [] []
theorem addr_Order_1_envOk : EnvOk Tryz.prog addr_Order_1_env := envOk tyOk fn_ok callsNil _
noncomputable def addr_Order_1_con : Con := con [.one (.fl .u64), .one (.fl .u64)] [.one (.fl .int)] (fun x => addr_Order_1_t x.1 x.2.1)
theorem addr_Order_1_ok : TrOk Tryz.prog 131 addr_Order_1_con := by
 have h : loopsOf (codeOf Tryz.f131) = [] := by kernel_rfl
 refine con_ok addr_Order_1_envOk Tryz.func131 (bodyOk h lsNil) _ _ _ (fun x => ?_)
 kernel_rfl
noncomputable def addr_Order_env : Env := mkEnv ty fnB [(131, addr_Order_1_con)] []
theorem addr_Order_envOk : EnvOk Tryz.prog addr_Order_env := envOk tyOk fn_ok (callsCons addr_Order_1_ok callsNil) _
noncomputable def addr_Order_con : Con := con [.one (.fl .addr), .one (.fl .addr)] [.one (.fl .int)] (fun x => addr_Order_t x.1 x.2.1)
theorem addr_Order_ok : TrOk Tryz.prog 114 addr_Order_con := by
 have h : loopsOf (codeOf Tryz.f114) = [] := by kernel_rfl
 refine con_ok addr_Order_envOk Tryz.func114 (bodyOk h lsNil) _ _ _ (fun x => ?_)
 kernel_rfl
noncomputable def prefix_Order_env : Env := mkEnv ty fnB [(114, addr_Order_con)] []
theorem prefix_Order_envOk : EnvOk Tryz.prog prefix_Order_env := envOk tyOk fn_ok (callsCons addr_Order_ok callsNil) _
noncomputable def prefix_Order_con : Con := con [.one (.fl .pfx), .one (.fl .pfx)] [.one (.fl .int)] (fun x => prefix_Order_t x.1 x.2.1)
theorem prefix_Order_ok : TrOk Tryz.prog 73 prefix_Order_con := by
 have h : loopsOf (codeOf Tryz.f73) = [] := by kernel_rfl
 refine con_ok prefix_Order_envOk Tryz.func73 (bodyOk h lsNil) _ _ _ (fun x => ?_)
 kernel_rfl
noncomputable def m_state_doer__pool_2_env : Env := mkEnv ty fnB [(73, prefix_Order_con)] []
theorem m_state_doer__pool_2_envOk : EnvOk Tryz.prog m_state_doer__pool_2_env := envOk tyOk fn_ok (callsCons prefix_Order_ok callsNil) _
noncomputable def m_state_doer__pool_2_con : Con := con [.agg [.fl .pfx, .row .addr 32], .one (.fl .pfx)] [.one (.fl .int)] (fun x => zq14 x.1.1 x.1.2.1 x.2.1)
theorem m_state_doer__pool_2_ok : TrOk Tryz.prog 145 m_state_doer__pool_2_con := by
 have h : loopsOf (codeOf Tryz.f145) = [] := by kernel_rfl
 refine con_ok m_state_doer__pool_2_envOk Tryz.func145 (bodyOk h lsNil) _ _ _ (fun x => ?_)
 kernel_rfl
noncomputable def state_poolOf_1_env : Env := mkEnv ty fnB [(113, prefix_Holds_con)] []
theorem state_poolOf_1_envOk : EnvOk Tryz.prog state_poolOf_1_env := envOk tyOk fn_ok (callsCons prefix_Holds_ok callsNil) _
noncomputable def state_poolOf_1_con : Con := con [.agg [.fl .pfx, .row .addr 32], .ref [.fl .addr] 32] [.one (.fl .bool)] (fun x => state_poolOf_1_t x.1.1 x.1.2.1 x.2.1.1)
theorem state_poolOf_1_ok : TrOk Tryz.prog 119 state_poolOf_1_con := by
 have h : loopsOf (codeOf Tryz.f119) = [] := by kernel_rfl
 refine con_ok state_poolOf_1_envOk Tryz.func119 (bodyOk h lsNil) _ _ _ (fun x => ?_)
 kernel_rfl
def zq103 : LoopS := { n := 19, base := 5, head := { keep := [0, 1, 7, 8], vals := [.one (.cst (.row 1)), .one (.cst (.fn 119 [.ptr 4 0])), .one (.fl .int), .one (.fl .int)], objs := [.bag .addr 32 false false, .nest .pfx 0 116 false, .row .lease 127 false, .blk [.cst (.row 1), .cst (.row 2), .fl .int] 45 true, .blk [.fl .addr] 32 true] }, exits := [⟨none, { keep := [4], vals := [.one (.fl .int)], objs := [.bag .addr 32 false false, .nest .pfx 0 116 false, .row .lease 127 false, .blk [.cst (.row 1), .cst (.row 2), .fl .int] 45 true, .blk [.fl .addr] 32 true] }⟩, ⟨some 0, { keep := [], vals := [], objs := [.bag .addr 32 false false, .nest .pfx 0 116 false, .row .lease 127 false, .blk [.cst (.row 1), .cst (.row 2), .fl .int] 45 true, .blk [.fl .addr] 32 true] }⟩] }
noncomputable def zq104 : Env := mkEnv ty fnB [(119, state_poolOf_1_con)] [(2, (loopTr zq103 (loopN zq102 FUEL)))]
theorem zq105 : EnvOk Tryz.prog zq104 := envOk tyOk fn_ok (callsCons state_poolOf_1_ok callsNil) _
theorem state_poolOf_slices_IndexFunc___api_Pool_api_Pool__L2_ok : LOk Tryz.prog (nthLoop (codeOf Tryz.f118) 0) (loopTr zq103 (loopN zq102 FUEL)) := by
 have h : loopsOf (nthLoop (codeOf Tryz.f118) 0) = [] := by kernel_rfl
 refine loop_ok zq105 (loopsOk h lsNil) zq103 zq102 FUEL (fun rec x => ?_)
 kernel_rfl
theorem state_poolOf_slices_IndexFunc___api_Pool_api_Pool__inl : TrOk Tryz.prog 118 (inlCon zq104 Tryz.f118) := by
 have h : loopsOf (codeOf Tryz.f118) = [(nthLoop (codeOf Tryz.f118) 0)] := by kernel_rfl
 exact inl_ok zq105 Tryz.func118 (bodyOk h (lsCons (one_loop (t := (loopTr zq103 (loopN zq102 FUEL))) (by kernel_rfl) state_poolOf_slices_IndexFunc___api_Pool_api_Pool__L2_ok) lsNil))
noncomputable def state_poolOf_env : Env := mkEnv ty fnB [(118, (inlCon zq104 Tryz.f118))] []
theorem state_poolOf_envOk : EnvOk Tryz.prog state_poolOf_env := envOk tyOk fn_ok (callsCons state_poolOf_slices_IndexFunc___api_Pool_api_Pool__inl callsNil) _
noncomputable def state_poolOf_con : Con := con [.agg [.nest .pfx .addr 116 32 true, .row .lease 127, .fl .int], .one (.fl .addr)] [.one (.fl .int)] (fun x => state_poolOf_t x.1.1 x.1.2.1 x.1.2.2.1 x.2.1)
theorem state_poolOf_ok : TrOk Tryz.prog 77 state_poolOf_con := by
 have h : loopsOf (codeOf Tryz.f77) = [] := by kernel_rfl
 refine con_ok state_poolOf_envOk Tryz.func77 (bodyOk h lsNil) _ _ _ (fun x => ?_)
 kernel_rfl
noncomputable def m_state_doer__find_1_env : Env := mkEnv ty fnB [] []
theorem m_state_doer__find_1_envOk : EnvOk Tryz.prog m_state_doer__find_1_env := envOk tyOk fn_ok callsNil _
noncomputable def m_state_doer__find_1_con : Con := con [.one (.fl .lease), .ref [.fl .str] 9] [.one (.fl .bool)] (fun x => m_state_doer__find_1_t x.1 x.2.1.1)
theorem m_state_doer__find_1_ok : TrOk Tryz.prog 160 m_state_doer__find_1_con := by
 have h : loopsOf (codeOf Tryz.f160) = [] := by kernel_rfl
 refine con_ok m_state_doer__find_1_envOk Tryz.func160 (bodyOk h lsNil) _ _ _ (fun x => ?_)
 kernel_rfl
def zq11 : LoopS := { n := 19, base := 5, head := { keep := [0, 1, 7, 8], vals := [.one (.cst (.row 3)), .one (.cst (.fn 160 [.ptr 4 0])), .one (.fl .int), .one (.fl .int)], objs := [.blk [.cst (.row 2), .cst (.row 3), .fl .int] 174 false, .bag .addr 32 false false, .nest .pfx 1 116 false, .row .lease 127 false, .blk [.fl .str] 9 true] }, exits := [⟨none, { keep := [4], vals := [.one (.fl .int)], objs := [.blk [.cst (.row 2), .cst (.row 3), .fl .int] 174 false, .bag .addr 32 false false, .nest .pfx 1 116 false, .row .lease 127 false, .blk [.fl .str] 9 true] }⟩, ⟨some 0, { keep := [], vals := [], objs := [.blk [.cst (.row 2), .cst (.row 3), .fl .int] 174 false, .bag .addr 32 false false, .nest .pfx 1 116 false, .row .lease 127 false, .blk [.fl .str] 9 true] }⟩] }
noncomputable def zq12 : Env := mkEnv ty fnB [(160, m_state_doer__find_1_con)] [(2, (loopTr zq11 (loopN zq10 FUEL)))]
theorem zq13 : EnvOk Tryz.prog zq12 := envOk tyOk fn_ok (callsCons m_state_doer__find_1_ok callsNil) _
theorem m_state_doer__find_slices_IndexFunc___api_Lease_api_Lease__L2_ok : LOk Tryz.prog (nthLoop (codeOf Tryz.f132) 0) (loopTr zq11 (loopN zq10 FUEL)) := by
 have h : loopsOf (nthLoop (codeOf Tryz.f132) 0) = [] := by kernel_rfl
 refine loop_ok zq13 (loopsOk h lsNil) zq11 zq10 FUEL (fun rec x => ?_)
 kernel_rfl
theorem m_state_doer__find_slices_IndexFunc___api_Lease_api_Lease__inl : TrOk Tryz.prog 132 (inlCon zq12 Tryz.f132) := by
 have h : loopsOf (codeOf Tryz.f132) = [(nthLoop (codeOf Tryz.f132) 0)] := by kernel_rfl
 exact inl_ok zq13 Tryz.func132 (bodyOk h (lsCons (one_loop (t := (loopTr zq11 (loopN zq10 FUEL))) (by kernel_rfl) m_state_doer__find_slices_IndexFunc___api_Lease_api_Lease__L2_ok) lsNil))
noncomputable def m_state_doer__find_env : Env := mkEnv ty fnB [(132, (inlCon zq12 Tryz.f132))] []
theorem m_state_doer__find_envOk : EnvOk Tryz.prog m_state_doer__find_env := envOk tyOk fn_ok (callsCons m_state_doer__find_slices_IndexFunc___api_Lease_api_Lease__inl callsNil) _
noncomputable def m_state_doer__find_con : Con := con [.ref [.nest .pfx .addr 116 32 true, .row .lease 127, .fl .int] 174, .one (.fl .str)] [.one (.fl .int)] (fun x => m_state_doer__find_t x.1.1 x.1.2.1 x.1.2.2.1 x.2.1)
theorem m_state_doer__find_ok : TrOk Tryz.prog 149 m_state_doer__find_con := by
 have h : loopsOf (codeOf Tryz.f149) = [] := by kernel_rfl
 refine con_ok m_state_doer__find_envOk Tryz.func149 (bodyOk h lsNil) _ _ _ (fun x => ?_)
 kernel_rfl
noncomputable def lease_Live_1_env : Env := mkEnv ty fnB [] []
theorem lease_Live_1_envOk : EnvOk Tryz.prog lease_Live_1_env := envOk tyOk fn_ok callsNil _
noncomputable def lease_Live_1_con : Con := con [.one (.fl .lease), .ref [.fl .int] 3] [.one (.fl .bool)] (fun x => lease_Live_1_t x.1 x.2.1.1)
theorem lease_Live_1_ok : TrOk Tryz.prog 155 lease_Live_1_con := by
 have h : loopsOf (codeOf Tryz.f155) = [] := by kernel_rfl
 refine con_ok lease_Live_1_envOk Tryz.func155 (bodyOk h lsNil) _ _ _ (fun x => ?_)
 kernel_rfl
def zq37 : LoopS := { n := 19, base := 5, head := { keep := [0, 1, 7, 8], vals := [.one (.cst (.row 3)), .one (.cst (.fn 155 [.ptr 1 0])), .one (.fl .int), .one (.fl .int)], objs := [.row .lease 127 false, .blk [.fl .int] 3 true, .row .lease 127 true, .row .lease 127 true, .row .lease 127 true] }, exits := [⟨none, { keep := [4], vals := [.one (.fl .int)], objs := [.row .lease 127 false, .blk [.fl .int] 3 true, .row .lease 127 true, .row .lease 127 true, .row .lease 127 true] }⟩, ⟨some 0, { keep := [], vals := [], objs := [.row .lease 127 false, .blk [.fl .int] 3 true, .row .lease 127 true, .row .lease 127 true, .row .lease 127 true] }⟩] }
noncomputable def zq39 : Env := mkEnv ty fnB [(155, lease_Live_1_con)] [(2, (loopTr zq37 (loopN zq36 FUEL)))]
theorem zq40 : EnvOk Tryz.prog zq39 := envOk tyOk fn_ok (callsCons lease_Live_1_ok callsNil) _
theorem zq38 : LOk Tryz.prog (nthLoop (codeOf Tryz.f132) 0) (loopTr zq37 (loopN zq36 FUEL)) := by
 have h : loopsOf (nthLoop (codeOf Tryz.f132) 0) = [] := by kernel_rfl
 refine loop_ok zq40 (loopsOk h lsNil) zq37 zq36 FUEL (fun rec x => ?_)
 kernel_rfl
theorem zq41 : TrOk Tryz.prog 132 (inlCon zq39 Tryz.f132) := by
 have h : loopsOf (codeOf Tryz.f132) = [(nthLoop (codeOf Tryz.f132) 0)] := by kernel_rfl
 exact inl_ok zq40 Tryz.func132 (bodyOk h (lsCons (one_loop (t := (loopTr zq37 (loopN zq36 FUEL))) (by kernel_rfl) zq38) lsNil))
def zq33 : LoopS := { n := 42, base := 4, head := { keep := [0, 1, 5, 6], vals := [.one (.cst (.row 3)), .one (.cst (.fn 155 [.ptr 1 0])), .one (.fl .int), .one (.fl .int)], objs := [.row .lease 127 false, .blk [.fl .int] 3 true, .row .lease 127 true, .row .lease 127 true] }, exits := [⟨some 0, { keep := [0, 5], vals := [.one (.cst (.row 3)), .one (.fl .int)], objs := [.row .lease 127 false, .blk [.fl .int] 3 true, .row .lease 127 true, .row .lease 127 true] }⟩] }
noncomputable def zq34 : Env := mkEnv ty fnB [(155, lease_Live_1_con), (132, (inlCon zq39 Tryz.f132))] [(5, (loopTr zq33 (loopN zq32 FUEL)))]
theorem zq35 : EnvOk Tryz.prog zq34 := envOk tyOk fn_ok (callsCons lease_Live_1_ok (callsCons zq41 callsNil)) _
theorem lease_Live_slices_DeleteFunc___api_Lease_api_Lease__L5_ok : LOk Tryz.prog (nthLoop (codeOf Tryz.f154) 0) (loopTr zq33 (loopN zq32 FUEL)) := by
 have h : loopsOf (nthLoop (codeOf Tryz.f154) 0) = [] := by kernel_rfl
 refine loop_ok zq35 (loopsOk h lsNil) zq33 zq32 FUEL (fun rec x => ?_)
 kernel_rfl
theorem lease_Live_slices_DeleteFunc___api_Lease_api_Lease__inl : TrOk Tryz.prog 154 (inlCon zq34 Tryz.f154) := by
 have h : loopsOf (codeOf Tryz.f154) = [(nthLoop (codeOf Tryz.f154) 0)] := by kernel_rfl
 exact inl_ok zq35 Tryz.func154 (bodyOk h (lsCons (one_loop (t := (loopTr zq33 (loopN zq32 FUEL))) (by kernel_rfl) lease_Live_slices_DeleteFunc___api_Lease_api_Lease__L5_ok) lsNil))
noncomputable def lease_Live_env : Env := mkEnv ty fnB [(134, zq67), (154, (inlCon zq34 Tryz.f154))] []
theorem lease_Live_envOk : EnvOk Tryz.prog lease_Live_env := envOk tyOk fn_ok (callsCons slices_Clone___api_Lease_api_Lease__ok (callsCons lease_Live_slices_DeleteFunc___api_Lease_api_Lease__inl callsNil)) _
noncomputable def lease_Live_con : Con := con [.one (.row .lease 127), .one (.fl .int)] [.one (.row .lease 127)] (fun x => lease_Live_t x.1 x.2.1)
theorem lease_Live_ok : TrOk Tryz.prog 140 lease_Live_con := by
 have h : loopsOf (codeOf Tryz.f140) = [] := by kernel_rfl
 refine con_ok lease_Live_envOk Tryz.func140 (bodyOk h lsNil) _ _ _ (fun x => ?_)
 kernel_rfl
noncomputable def lease_Raw_1_env : Env := mkEnv ty fnB [] []
theorem lease_Raw_1_envOk : EnvOk Tryz.prog lease_Raw_1_env := envOk tyOk fn_ok callsNil _
noncomputable def lease_Raw_1_con : Con := con [.one (.fl .lease), .ref [.fl .str] 9] [.one (.fl .bool)] (fun x => lease_Raw_1_t x.1 x.2.1.1)
theorem lease_Raw_1_ok : TrOk Tryz.prog 161 lease_Raw_1_con := by
 have h : loopsOf (codeOf Tryz.f161) = [] := by kernel_rfl
 refine con_ok lease_Raw_1_envOk Tryz.func161 (bodyOk h lsNil) _ _ _ (fun x => ?_)
 kernel_rfl
noncomputable def prefix_Last_env : Env := mkEnv ty fnB [(141, prefix_mask_con)] []
theorem prefix_Last_envOk : EnvOk Tryz.prog prefix_Last_env := envOk tyOk fn_ok (callsCons prefix_mask_ok callsNil) _
noncomputable def prefix_Last_con : Con := con [.one (.fl .pfx)] [.one (.fl .addr)] (fun x => prefix_Last_t x.1)
theorem prefix_Last_ok : TrOk Tryz.prog 187 prefix_Last_con := by
 have h : loopsOf (codeOf Tryz.f187) = [] := by kernel_rfl
 refine con_ok prefix_Last_envOk Tryz.func187 (bodyOk h lsNil) _ _ _ (fun x => ?_)
 kernel_rfl
noncomputable def addr_After_env : Env := mkEnv ty fnB [] []
theorem addr_After_envOk : EnvOk Tryz.prog addr_After_env := envOk tyOk fn_ok callsNil _
noncomputable def addr_After_con : Con := con [.one (.fl .addr)] [.one (.fl .addr), .one (.fl .bool)] (fun x => addr_After_t x.1)
theorem addr_After_ok : TrOk Tryz.prog 188 addr_After_con := by
 have h : loopsOf (codeOf Tryz.f188) = [] := by kernel_rfl
 refine con_ok addr_After_envOk Tryz.func188 (bodyOk h lsNil) _ _ _ (fun x => ?_)
 kernel_rfl
def zq71 : LoopS := { n := 19, base := 1, head := { keep := [0, 3, 7, 8], vals := [.one (.cst (.row 0)), .one (.cst (.ptr 1 0)), .one (.fl .int), .one (.fl .int)], objs := [.row .addr 32 false, .blk [.fl .addr] 32 true] }, exits := [⟨none, { keep := [4], vals := [.one (.fl .int)], objs := [.row .addr 32 false] }⟩, ⟨some 0, { keep := [], vals := [], objs := [.row .addr 32 false] }⟩] }
noncomputable def slices_Index___api_Addr_api_Addr__env : Env := mkEnv ty fnB [] [(2, (loopTr zq71 (loopN zq70 FUEL)))]
theorem slices_Index___api_Addr_api_Addr__envOk : EnvOk Tryz.prog slices_Index___api_Addr_api_Addr__env := envOk tyOk fn_ok callsNil _
theorem slices_Index___api_Addr_api_Addr__L2_ok : LOk Tryz.prog (nthLoop (codeOf Tryz.f197) 0) (loopTr zq71 (loopN zq70 FUEL)) := by
 have h : loopsOf (nthLoop (codeOf Tryz.f197) 0) = [] := by kernel_rfl
 refine loop_ok slices_Index___api_Addr_api_Addr__envOk (loopsOk h lsNil) zq71 zq70 FUEL (fun rec x => ?_)
 kernel_rfl
noncomputable def slices_Index___api_Addr_api_Addr__con : Con := con [.one (.row .addr 32), .one (.fl .addr)] [.one (.fl .int)] (fun x => zq72 x.1 x.2.1)
theorem slices_Index___api_Addr_api_Addr__ok : TrOk Tryz.prog 197 slices_Index___api_Addr_api_Addr__con := by
 have h : loopsOf (codeOf Tryz.f197) = [(nthLoop (codeOf Tryz.f197) 0)] := by kernel_rfl
 refine con_ok slices_Index___api_Addr_api_Addr__envOk Tryz.func197 (bodyOk h (lsCons (one_loop (t := (loopTr zq71 (loopN zq70 FUEL))) (by kernel_rfl) slices_Index___api_Addr_api_Addr__L2_ok) lsNil)) _ _ _ (fun x => ?_)
 kernel_rfl
noncomputable def slices_Contains___api_Addr_api_Addr__env : Env := mkEnv ty fnB [(197, slices_Index___api_Addr_api_Addr__con)] []
theorem slices_Contains___api_Addr_api_Addr__envOk : EnvOk Tryz.prog slices_Contains___api_Addr_api_Addr__env := envOk tyOk fn_ok (callsCons slices_Index___api_Addr_api_Addr__ok callsNil) _
noncomputable def slices_Contains___api_Addr_api_Addr__con : Con := con [.one (.row .addr 32), .one (.fl .addr)] [.one (.fl .bool)] (fun x => zq69 x.1 x.2.1)
theorem slices_Contains___api_Addr_api_Addr__ok : TrOk Tryz.prog 189 slices_Contains___api_Addr_api_Addr__con := by
 have h : loopsOf (codeOf Tryz.f189) = [] := by kernel_rfl
 refine con_ok slices_Contains___api_Addr_api_Addr__envOk Tryz.func189 (bodyOk h lsNil) _ _ _ (fun x => ?_)
 kernel_rfl
noncomputable def m_lease_book__taken_1_env : Env := mkEnv ty fnB [] []
theorem m_lease_book__taken_1_envOk : EnvOk Tryz.prog m_lease_book__taken_1_env := envOk tyOk fn_ok callsNil _
noncomputable def m_lease_book__taken_1_con : Con := con [.one (.fl .lease), .ref [.fl .addr] 32] [.one (.fl .bool)] (fun x => m_lease_book__taken_1_t x.1 x.2.1.1)
theorem m_lease_book__taken_1_ok : TrOk Tryz.prog 190 m_lease_book__taken_1_con := by
 have h : loopsOf (codeOf Tryz.f190) = [] := by kernel_rfl
 refine con_ok m_lease_book__taken_1_envOk Tryz.func190 (bodyOk h lsNil) _ _ _ (fun x => ?_)
 kernel_rfl
def zq5 : LoopS := { n := 19, base := 4, head := { keep := [0, 1, 7, 8], vals := [.one (.cst (.row 2)), .one (.cst (.fn 190 [.ptr 3 0])), .one (.fl .int), .one (.fl .int)], objs := [.blk [.fl .bool, .fl .u64, .fl .u64, .fl .int, .cst (.row 1), .cst (.row 2)] 204 false, .row .addr 32 false, .row .lease 127 false, .blk [.fl .addr] 32 false] }, exits := [⟨none, { keep := [4], vals := [.one (.fl .int)], objs := [.blk [.fl .bool, .fl .u64, .fl .u64, .fl .int, .cst (.row 1), .cst (.row 2)] 204 false, .row .addr 32 false, .row .lease 127 false, .blk [.fl .addr] 32 false] }⟩, ⟨some 0, { keep := [], vals := [], objs := [.blk [.fl .bool, .fl .u64, .fl .u64, .fl .int, .cst (.row 1), .cst (.row 2)] 204 false, .row .addr 32 false, .row .lease 127 false, .blk [.fl .addr] 32 false] }⟩] }
noncomputable def zq7 : Env := mkEnv ty fnB [(190, m_lease_book__taken_1_con)] [(2, (loopTr zq5 (loopN zq4 FUEL)))]
theorem zq8 : EnvOk Tryz.prog zq7 := envOk tyOk fn_ok (callsCons m_lease_book__taken_1_ok callsNil) _
theorem zq6 : LOk Tryz.prog (nthLoop (codeOf Tryz.f132) 0) (loopTr zq5 (loopN zq4 FUEL)) := by
 have h : loopsOf (nthLoop (codeOf Tryz.f132) 0) = [] := by kernel_rfl
 refine loop_ok zq8 (loopsOk h lsNil) zq5 zq4 FUEL (fun rec x => ?_)
 kernel_rfl
theorem zq9 : TrOk Tryz.prog 132 (inlCon zq7 Tryz.f132) := by
 have h : loopsOf (codeOf Tryz.f132) = [(nthLoop (codeOf Tryz.f132) 0)] := by kernel_rfl
 exact inl_ok zq8 Tryz.func132 (bodyOk h (lsCons (one_loop (t := (loopTr zq5 (loopN zq4 FUEL))) (by kernel_rfl) zq6) lsNil))
noncomputable def zq1 : Env := mkEnv ty fnB [(132, (inlCon zq7 Tryz.f132))] []
theorem zq2 : EnvOk Tryz.prog zq1 := envOk tyOk fn_ok (callsCons zq9 callsNil) _
theorem zq3 : TrOk Tryz.prog 120 (flCon zq1 Tryz.f120 [.one (.fl .bool)]) := by
 have h : loopsOf (codeOf Tryz.f120) = [] := by kernel_rfl
 exact flCon_ok zq2 Tryz.func120 (bodyOk h lsNil) [.one (.fl .bool)] rfl
noncomputable def m_lease_book__taken_env : Env := mkEnv ty fnB [(189, slices_Contains___api_Addr_api_Addr__con), (120, (flCon zq1 Tryz.f120 [.one (.fl .bool)]))] []
theorem m_lease_book__taken_envOk : EnvOk Tryz.prog m_lease_book__taken_env := envOk tyOk fn_ok (callsCons slices_Contains___api_Addr_api_Addr__ok (callsCons zq3 callsNil)) _
noncomputable def m_lease_book__taken_con : Con := con [.ref [.fl .pfx, .row .addr 32, .row .lease 127] 204, .one (.fl .addr)] [.one (.fl .bool)] (fun x => m_lease_book__taken_t x.1.1 x.1.2.1 x.1.2.2.1 x.2.1)
theorem m_lease_book__taken_ok : TrOk Tryz.prog 171 m_lease_book__taken_con := by
 have h : loopsOf (codeOf Tryz.f171) = [] := by kernel_rfl
 refine con_ok m_lease_book__taken_envOk Tryz.func171 (bodyOk h lsNil) _ _ _ (fun x => ?_)
 kernel_rfl
noncomputable def lease_Raw_2_env : Env := mkEnv ty fnB [(114, addr_Order_con)] []
theorem lease_Raw_2_envOk : EnvOk Tryz.prog lease_Raw_2_env := envOk tyOk fn_ok (callsCons addr_Order_ok callsNil) _
noncomputable def lease_Raw_2_con : Con := con [.one (.fl .lease), .one (.fl .lease)] [.one (.fl .int)] (fun x => lease_Raw_2_t x.1 x.2.1)
theorem lease_Raw_2_ok : TrOk Tryz.prog 164 lease_Raw_2_con := by
 have h : loopsOf (codeOf Tryz.f164) = [] := by kernel_rfl
 refine con_ok lease_Raw_2_envOk Tryz.func164 (bodyOk h lsNil) _ _ _ (fun x => ?_)
 kernel_rfl
noncomputable def R_between_env : Env := mkEnv ty fnB [] []
theorem R_between_envOk : EnvOk Tryz.prog R_between_env := envOk tyOk fn_ok callsNil _
noncomputable def R_between_con : Con := con [.one (.fl .int), .one (.fl .int), .one (.fl .int)] [.one (.fl .bool)] (fun x => R_between_t x.1 x.2.1 x.2.2.1)
theorem R_between_ok : TrOk Tryz.prog 44 R_between_con := by
 have h : loopsOf (codeOf Tryz.f44) = [] := by kernel_rfl
 refine con_ok R_between_envOk Tryz.func44 (bodyOk h lsNil) _ _ _ (fun x => ?_)
 kernel_rfl
noncomputable def R_CheckAddr_env : Env := mkEnv ty fnB [] []
theorem R_CheckAddr_envOk : EnvOk Tryz.prog R_CheckAddr_env := envOk tyOk fn_ok callsNil _
noncomputable def R_CheckAddr_con : Con := con [.one (.fl .addr)] [.one (.fl .int)] (fun x => R_CheckAddr_t x.1)
theorem R_CheckAddr_ok : TrOk Tryz.prog 61 R_CheckAddr_con := by
 have h : loopsOf (codeOf Tryz.f61) = [] := by kernel_rfl
 refine con_ok R_CheckAddr_envOk Tryz.func61 (bodyOk h lsNil) _ _ _ (fun x => ?_)
 kernel_rfl
noncomputable def R_wide_env : Env := mkEnv ty fnB [] []
theorem R_wide_envOk : EnvOk Tryz.prog R_wide_env := envOk tyOk fn_ok callsNil _
noncomputable def R_wide_con : Con := con [.one (.fl .addr)] [.one (.fl .int)] (fun x => R_wide_t x.1)
theorem R_wide_ok : TrOk Tryz.prog 103 R_wide_con := by
 have h : loopsOf (codeOf Tryz.f103) = [] := by kernel_rfl
 refine con_ok R_wide_envOk Tryz.func103 (bodyOk h lsNil) _ _ _ (fun x => ?_)
 kernel_rfl
def R_Bits_L3_S : LoopS := { n := 42, base := 0, head := { keep := [1, 3, 4], vals := [.one (.cst (.ptr 0 0)), .one (.cst (.row 1)), .one (.fl .int)], objs := [.blk [.fl .addr] 32 true, .row .u8 5 true] }, exits := [⟨some 0, { keep := [1, 3], vals := [.one (.cst (.ptr 0 0)), .one (.cst (.row 1))], objs := [.blk [.fl .addr] 32 true, .row .u8 5 true] }⟩] }
def R_Bits_L7_S : LoopS := { n := 42, base := 0, head := { keep := [1, 3, 5], vals := [.one (.cst (.ptr 0 0)), .one (.cst (.row 1)), .one (.fl .int)], objs := [.blk [.fl .addr] 32 true, .row .u8 5 true] }, exits := [⟨some 2, { keep := [1, 3], vals := [.one (.cst (.ptr 0 0)), .one (.cst (.row 1))], objs := [.blk [.fl .addr] 32 true, .row .u8 5 true] }⟩] }
noncomputable def R_Bits_env : Env := mkEnv ty fnB [] [(3, (loopTr R_Bits_L3_S (loopN R_Bits_L3 FUEL))), (7, (loopTr R_Bits_L7_S (loopN R_Bits_L7 FUEL)))]
theorem R_Bits_envOk : EnvOk Tryz.prog R_Bits_env := envOk tyOk fn_ok callsNil _
theorem R_Bits_L7_ok : LOk Tryz.prog (nthLoop (codeOf Tryz.f104) 1) (loopTr R_Bits_L7_S (loopN R_Bits_L7 FUEL)) := by
 have h : loopsOf (nthLoop (codeOf Tryz.f104) 1) = [] := by kernel_rfl
 refine loop_ok R_Bits_envOk (loopsOk h lsNil) R_Bits_L7_S R_Bits_L7 FUEL (fun rec x => ?_)
 kernel_rfl
theorem R_Bits_L3_ok : LOk Tryz.prog (nthLoop (codeOf Tryz.f104) 0) (loopTr R_Bits_L3_S (loopN R_Bits_L3 FUEL)) := by
 have h : loopsOf (nthLoop (codeOf Tryz.f104) 0) = [] := by kernel_rfl
 refine loop_ok R_Bits_envOk (loopsOk h lsNil) R_Bits_L3_S R_Bits_L3 FUEL (fun rec x => ?_)
 kernel_rfl
noncomputable def R_Bits_con : Con := con [.one (.fl .addr)] [.one (.fl .str)] (fun x => R_Bits_t x.1)
theorem R_Bits_ok : TrOk Tryz.prog 104 R_Bits_con := by
 have h : loopsOf (codeOf Tryz.f104) = [(nthLoop (codeOf Tryz.f104) 0), (nthLoop (codeOf Tryz.f104) 1)] := by kernel_rfl
 refine con_ok R_Bits_envOk Tryz.func104 (bodyOk h (lsCons (one_loop (t := (loopTr R_Bits_L3_S (loopN R_Bits_L3 FUEL))) (by kernel_rfl) R_Bits_L3_ok) (lsCons (one_loop (t := (loopTr R_Bits_L7_S (loopN R_Bits_L7 FUEL))) (by kernel_rfl) R_Bits_L7_ok) lsNil))) _ _ _ (fun x => ?_)
 kernel_rfl
def R_CheckPrefix_L8_S : LoopS := { n := 34, base := 0, head := { keep := [4, 5], vals := [.one (.fl .str), .one (.fl .int)], objs := [] }, exits := [⟨none, { keep := [2], vals := [.one (.fl .int)], objs := [] }⟩, ⟨some 0, { keep := [], vals := [], objs := [] }⟩] }
noncomputable def R_CheckPrefix_env : Env := mkEnv ty fnB [(61, R_CheckAddr_con), (103, R_wide_con), (44, R_between_con), (104, R_Bits_con)] [(8, (loopTr R_CheckPrefix_L8_S (loopN R_CheckPrefix_L8 FUEL)))]
theorem R_CheckPrefix_envOk : EnvOk Tryz.prog R_CheckPrefix_env := envOk tyOk fn_ok (callsCons R_CheckAddr_ok (callsCons R_wide_ok (callsCons R_between_ok (callsCons R_Bits_ok callsNil)))) _
theorem R_CheckPrefix_L8_ok : LOk Tryz.prog (nthLoop (codeOf Tryz.f59) 0) (loopTr R_CheckPrefix_L8_S (loopN R_CheckPrefix_L8 FUEL)) := by
 have h : loopsOf (nthLoop (codeOf Tryz.f59) 0) = [] := by kernel_rfl
 refine loop_ok R_CheckPrefix_envOk (loopsOk h lsNil) R_CheckPrefix_L8_S R_CheckPrefix_L8 FUEL (fun rec x => ?_)
 kernel_rfl
noncomputable def R_CheckPrefix_con : Con := con [.one (.fl .pfx)] [.one (.fl .int)] (fun x => R_CheckPrefix_t x.1)
theorem R_CheckPrefix_ok : TrOk Tryz.prog 59 R_CheckPrefix_con := by
 have h : loopsOf (codeOf Tryz.f59) = [(nthLoop (codeOf Tryz.f59) 0)] := by kernel_rfl
 refine con_ok R_CheckPrefix_envOk Tryz.func59 (bodyOk h (lsCons (one_loop (t := (loopTr R_CheckPrefix_L8_S (loopN R_CheckPrefix_L8 FUEL))) (by kernel_rfl) R_CheckPrefix_L8_ok) lsNil)) _ _ _ (fun x => ?_)
 kernel_rfl
noncomputable def R_IsNarrow_env : Env := mkEnv ty fnB [(103, R_wide_con)] []
theorem R_IsNarrow_envOk : EnvOk Tryz.prog R_IsNarrow_env := envOk tyOk fn_ok (callsCons R_wide_ok callsNil) _
noncomputable def R_IsNarrow_con : Con := con [.one (.fl .pfx)] [.one (.fl .bool)] (fun x => R_IsNarrow_t x.1)
theorem R_IsNarrow_ok : TrOk Tryz.prog 60 R_IsNarrow_con := by
 have h : loopsOf (codeOf Tryz.f60) = [] := by kernel_rfl
 refine con_ok R_IsNarrow_envOk Tryz.func60 (bodyOk h lsNil) _ _ _ (fun x => ?_)
 kernel_rfl
def R_IsWho_L2_S : LoopS := { n := 27, base := 0, head := { keep := [0, 3], vals := [.one (.fl .str), .one (.fl .int)], objs := [] }, exits := [⟨none, { keep := [2], vals := [.one (.fl .bool)], objs := [] }⟩, ⟨some 0, { keep := [0], vals := [.one (.fl .str)], objs := [] }⟩] }
noncomputable def R_IsWho_env : Env := mkEnv ty fnB [(44, R_between_con)] [(2, (loopTr R_IsWho_L2_S (loopN R_IsWho_L2 FUEL)))]
theorem R_IsWho_envOk : EnvOk Tryz.prog R_IsWho_env := envOk tyOk fn_ok (callsCons R_between_ok callsNil) _
theorem R_IsWho_L2_ok : LOk Tryz.prog (nthLoop (codeOf Tryz.f62) 0) (loopTr R_IsWho_L2_S (loopN R_IsWho_L2 FUEL)) := by
 have h : loopsOf (nthLoop (codeOf Tryz.f62) 0) = [] := by kernel_rfl
 refine loop_ok R_IsWho_envOk (loopsOk h lsNil) R_IsWho_L2_S R_IsWho_L2 FUEL (fun rec x => ?_)
 kernel_rfl
noncomputable def R_IsWho_con : Con := con [.one (.fl .str)] [.one (.fl .bool)] (fun x => R_IsWho_t x.1)
theorem R_IsWho_ok : TrOk Tryz.prog 62 R_IsWho_con := by
 have h : loopsOf (codeOf Tryz.f62) = [(nthLoop (codeOf Tryz.f62) 0)] := by kernel_rfl
 refine con_ok R_IsWho_envOk Tryz.func62 (bodyOk h (lsCons (one_loop (t := (loopTr R_IsWho_L2_S (loopN R_IsWho_L2 FUEL))) (by kernel_rfl) R_IsWho_L2_ok) lsNil)) _ _ _ (fun x => ?_)
 kernel_rfl
noncomputable def R_CheckOp_env : Env := mkEnv ty fnB [(44, R_between_con), (59, R_CheckPrefix_con), (60, R_IsNarrow_con), (61, R_CheckAddr_con), (62, R_IsWho_con)] []
theorem R_CheckOp_envOk : EnvOk Tryz.prog R_CheckOp_env := envOk tyOk fn_ok (callsCons R_between_ok (callsCons R_CheckPrefix_ok (callsCons R_IsNarrow_ok (callsCons R_CheckAddr_ok (callsCons R_IsWho_ok callsNil))))) _
noncomputable def R_CheckOp_con : Con := con [.one (.fl .op)] [.one (.fl .int)] (fun x => R_CheckOp_t x.1)
theorem R_CheckOp_ok : TrOk Tryz.prog 22 R_CheckOp_con := by
 have h : loopsOf (codeOf Tryz.f22) = [] := by kernel_rfl
 refine con_ok R_CheckOp_envOk Tryz.func22 (bodyOk h lsNil) _ _ _ (fun x => ?_)
 kernel_rfl
def R_SameLog_L4_S : LoopS := { n := 26, base := 2, head := { keep := [0, 1, 5], vals := [.one (.cst (.row 0)), .one (.cst (.row 1)), .one (.fl .int)], objs := [.row .entry 68 false, .row .entry 68 false] }, exits := [⟨none, { keep := [4], vals := [.one (.fl .bool)], objs := [.row .entry 68 false, .row .entry 68 false] }⟩, ⟨some 0, { keep := [], vals := [], objs := [.row .entry 68 false, .row .entry 68 false] }⟩] }
noncomputable def R_SameLog_env : Env := mkEnv ty fnB [] [(4, (loopTr R_SameLog_L4_S (loopN R_SameLog_L4 FUEL)))]
theorem R_SameLog_envOk : EnvOk Tryz.prog R_SameLog_env := envOk tyOk fn_ok callsNil _
theorem R_SameLog_L4_ok : LOk Tryz.prog (nthLoop (codeOf Tryz.f67) 0) (loopTr R_SameLog_L4_S (loopN R_SameLog_L4 FUEL)) := by
 have h : loopsOf (nthLoop (codeOf Tryz.f67) 0) = [] := by kernel_rfl
 refine loop_ok R_SameLog_envOk (loopsOk h lsNil) R_SameLog_L4_S R_SameLog_L4 FUEL (fun rec x => ?_)
 kernel_rfl
noncomputable def R_SameLog_con : Con := con [.one (.row .entry 68), .one (.row .entry 68)] [.one (.fl .bool)] (fun x => R_SameLog_t x.1 x.2.1)
theorem R_SameLog_ok : TrOk Tryz.prog 67 R_SameLog_con := by
 have h : loopsOf (codeOf Tryz.f67) = [(nthLoop (codeOf Tryz.f67) 0)] := by kernel_rfl
 refine con_ok R_SameLog_envOk Tryz.func67 (bodyOk h (lsCons (one_loop (t := (loopTr R_SameLog_L4_S (loopN R_SameLog_L4 FUEL))) (by kernel_rfl) R_SameLog_L4_ok) lsNil)) _ _ _ (fun x => ?_)
 kernel_rfl
noncomputable def R_CheckEvent_env : Env := mkEnv ty fnB [(44, R_between_con)] []
theorem R_CheckEvent_envOk : EnvOk Tryz.prog R_CheckEvent_env := envOk tyOk fn_ok (callsCons R_between_ok callsNil) _
noncomputable def R_CheckEvent_con : Con := con [.one (.fl .int), .one (.fl .event)] [.one (.fl .int)] (fun x => R_CheckEvent_t x.1 x.2.1)
theorem R_CheckEvent_ok : TrOk Tryz.prog 12 R_CheckEvent_con := by
 have h : loopsOf (codeOf Tryz.f12) = [] := by kernel_rfl
 refine con_ok R_CheckEvent_envOk Tryz.func12 (bodyOk h lsNil) _ _ _ (fun x => ?_)
 kernel_rfl
noncomputable def R_AcquireOf_env : Env := mkEnv ty fnB [] []
theorem R_AcquireOf_envOk : EnvOk Tryz.prog R_AcquireOf_env := envOk tyOk fn_ok callsNil _
noncomputable def R_AcquireOf_con : Con := lcon [.agg [.fl .int, .fl .int, .fl .int, .row .entry 68], .one (.fl .int), .one (.fl .int)] [.agg [.fl .int, .fl .int, .fl .int, .row .entry 68], .one (.fl .int)] (fun x => R_AcquireOf_t x.1.1 x.1.2.1 x.1.2.2.1 x.1.2.2.2.1 x.2.1 x.2.2.1)
theorem R_AcquireOf_ok : TrOk Tryz.prog 48 R_AcquireOf_con := by
 have h : loopsOf (codeOf Tryz.f48) = [] := by kernel_rfl
 refine lcon_ok R_AcquireOf_envOk Tryz.func48 (bodyOk h lsNil) _ _ rfl rfl _ (fun x => ?_)
 kernel_rfl
noncomputable def R_AddOf_env : Env := mkEnv ty fnB [(44, R_between_con), (22, R_CheckOp_con)] []
theorem R_AddOf_envOk : EnvOk Tryz.prog R_AddOf_env := envOk tyOk fn_ok (callsCons R_between_ok (callsCons R_CheckOp_ok callsNil)) _
noncomputable def R_AddOf_con : Con := con [.one (.row .entry 68), .one (.fl .int), .one (.fl .op)] [.one (.row .entry 68), .one (.fl .int)] (fun x => R_AddOf_t x.1 x.2.1 x.2.2.1)
theorem R_AddOf_ok : TrOk Tryz.prog 90 R_AddOf_con := by
 have h : loopsOf (codeOf Tryz.f90) = [] := by kernel_rfl
 refine con_ok R_AddOf_envOk Tryz.func90 (bodyOk h lsNil) _ _ _ (fun x => ?_)
 kernel_rfl
noncomputable def R_WriteOf_env : Env := mkEnv ty fnB [(90, R_AddOf_con)] []
theorem R_WriteOf_envOk : EnvOk Tryz.prog R_WriteOf_env := envOk tyOk fn_ok (callsCons R_AddOf_ok callsNil) _
noncomputable def R_WriteOf_con : Con := con [.agg [.fl .int, .fl .int, .fl .int, .row .entry 68], .one (.fl .int), .one (.fl .op)] [.agg [.fl .int, .fl .int, .fl .int, .row .entry 68], .one (.fl .int)] (fun x => R_WriteOf_t x.1.1 x.1.2.1 x.1.2.2.1 x.1.2.2.2.1 x.2.1 x.2.2.1)
theorem R_WriteOf_ok : TrOk Tryz.prog 49 R_WriteOf_con := by
 have h : loopsOf (codeOf Tryz.f49) = [] := by kernel_rfl
 refine con_ok R_WriteOf_envOk Tryz.func49 (bodyOk h lsNil) _ _ _ (fun x => ?_)
 kernel_rfl
def R_BehindOf_L3_S : LoopS := { n := 33, base := 2, head := { keep := [0, 1, 2, 7, 8], vals := [.one (.cst (.row 0)), .one (.cst (.row 1)), .one (.fl .int), .one (.cst (.row 2)), .one (.fl .int)], objs := [.row .entry 68 false, .row .entry 68 false, .row .entry 68 true] }, exits := [⟨some 0, { keep := [7], vals := [.one (.cst (.row 2))], objs := [.row .entry 68 false, .row .entry 68 false, .row .entry 68 true] }⟩] }
noncomputable def R_BehindOf_env : Env := mkEnv ty fnB [] [(3, (loopTr R_BehindOf_L3_S (loopN R_BehindOf_L3 FUEL)))]
theorem R_BehindOf_envOk : EnvOk Tryz.prog R_BehindOf_env := envOk tyOk fn_ok callsNil _
theorem R_BehindOf_L3_ok : LOk Tryz.prog (nthLoop (codeOf Tryz.f50) 0) (loopTr R_BehindOf_L3_S (loopN R_BehindOf_L3 FUEL)) := by
 have h : loopsOf (nthLoop (codeOf Tryz.f50) 0) = [] := by kernel_rfl
 refine loop_ok R_BehindOf_envOk (loopsOk h lsNil) R_BehindOf_L3_S R_BehindOf_L3 FUEL (fun rec x => ?_)
 kernel_rfl
noncomputable def R_BehindOf_con : Con := con [.one (.row .entry 68), .one (.row .entry 68), .one (.fl .int)] [.one (.row .entry 68)] (fun x => R_BehindOf_t x.1 x.2.1 x.2.2.1)
theorem R_BehindOf_ok : TrOk Tryz.prog 50 R_BehindOf_con := by
 have h : loopsOf (codeOf Tryz.f50) = [(nthLoop (codeOf Tryz.f50) 0)] := by kernel_rfl
 refine con_ok R_BehindOf_envOk Tryz.func50 (bodyOk h (lsCons (one_loop (t := (loopTr R_BehindOf_L3_S (loopN R_BehindOf_L3 FUEL))) (by kernel_rfl) R_BehindOf_L3_ok) lsNil)) _ _ _ (fun x => ?_)
 kernel_rfl
noncomputable def R_EventOf_env : Env := mkEnv ty fnB [(48, R_AcquireOf_con), (49, R_WriteOf_con), (50, R_BehindOf_con)] []
theorem R_EventOf_envOk : EnvOk Tryz.prog R_EventOf_env := envOk tyOk fn_ok (callsCons R_AcquireOf_ok (callsCons R_WriteOf_ok (callsCons R_BehindOf_ok callsNil))) _
noncomputable def R_EventOf_con : Con := lcon [.agg [.fl .int, .fl .int, .fl .int, .fl .int, .row .entry 68, .nest .int .entry 56 68 true], .one (.fl .event)] [.agg [.fl .int, .fl .int, .fl .int, .fl .int, .row .entry 68, .nest .int .entry 56 68 false], .one (.fl .bool)] (fun x => R_EventOf_t x.1.1 x.1.2.1 x.1.2.2.1 x.1.2.2.2.1 x.1.2.2.2.2.1 x.1.2.2.2.2.2.1 x.2.1)
theorem R_EventOf_ok : TrOk Tryz.prog 13 R_EventOf_con := by
 have h : loopsOf (codeOf Tryz.f13) = [] := by kernel_rfl
 refine lcon_ok R_EventOf_envOk Tryz.func13 (bodyOk h lsNil) _ _ rfl rfl _ (fun x => ?_)
 kernel_rfl
noncomputable def law_v4_env : Env := mkEnv ty fnB [] []
theorem law_v4_envOk : EnvOk Tryz.prog law_v4_env := envOk tyOk fn_ok callsNil _
noncomputable def law_v4_con : Con := con [.one (.fl .u64)] [.one (.fl .addr)] (fun x => law_v4_t x.1)
theorem law_v4_ok : TrOk Tryz.prog 58 law_v4_con := by
 have h : loopsOf (codeOf Tryz.f58) = [] := by kernel_rfl
 refine con_ok law_v4_envOk Tryz.func58 (bodyOk h lsNil) _ _ _ (fun x => ?_)
 kernel_rfl
noncomputable def law_net_env : Env := mkEnv ty fnB [(58, law_v4_con)] []
theorem law_net_envOk : EnvOk Tryz.prog law_net_env := envOk tyOk fn_ok (callsCons law_v4_ok callsNil) _
noncomputable def law_net_con : Con := con [.one (.fl .u64), .one (.fl .int)] [.one (.fl .pfx)] (fun x => law_net_t x.1 x.2.1)
theorem law_net_ok : TrOk Tryz.prog 82 law_net_con := by
 have h : loopsOf (codeOf Tryz.f82) = [] := by kernel_rfl
 refine con_ok law_net_envOk Tryz.func82 (bodyOk h lsNil) _ _ _ (fun x => ?_)
 kernel_rfl
noncomputable def law_some_env : Env := mkEnv ty fnB [(82, law_net_con), (58, law_v4_con)] []
theorem law_some_envOk : EnvOk Tryz.prog law_some_env := envOk tyOk fn_ok (callsCons law_net_ok (callsCons law_v4_ok callsNil)) _
noncomputable def law_some_con : Con := con [] [.one (.row .op 36)] (fun x => law_some_t)
theorem law_some_ok : TrOk Tryz.prog 33 law_some_con := by
 have h : loopsOf (codeOf Tryz.f33) = [] := by kernel_rfl
 refine con_ok law_some_envOk Tryz.func33 (bodyOk h lsNil) _ _ _ (fun x => ?_)
 kernel_rfl
noncomputable def law_events_env : Env := mkEnv ty fnB [(33, law_some_con)] []
theorem law_events_envOk : EnvOk Tryz.prog law_events_env := envOk tyOk fn_ok (callsCons law_some_ok callsNil) _
noncomputable def law_events_con : Con := con [] [.one (.row .event 38)] (fun x => law_events_t)
theorem law_events_ok : TrOk Tryz.prog 52 law_events_con := by
 have h : loopsOf (codeOf Tryz.f52) = [] := by kernel_rfl
 refine con_ok law_events_envOk Tryz.func52 (bodyOk h lsNil) _ _ _ (fun x => ?_)
 kernel_rfl
noncomputable def cluster_New_env : Env := mkEnv ty fnB [] []
theorem cluster_New_envOk : EnvOk Tryz.prog cluster_New_env := envOk tyOk fn_ok callsNil _
noncomputable def cluster_New_con : Con := con [] [.agg [.fl .int, .fl .int, .fl .int, .fl .int, .row .entry 68, .nest .int .entry 56 68 true]] (fun x => cluster_New_t)
theorem cluster_New_ok : TrOk Tryz.prog 53 cluster_New_con := by
 have h : loopsOf (codeOf Tryz.f53) = [] := by kernel_rfl
 refine con_ok cluster_New_envOk Tryz.func53 (bodyOk h lsNil) _ _ _ (fun x => ?_)
 kernel_rfl
def cluster_Run_L6_S : LoopS := { n := 42, base := 1, head := { keep := [2, 5, 6, 17, 18, 19], vals := [.one (.cst (.ptr 1 0)), .one (.cst (.ptr 2 0)), .one (.cst (.row 3)), .one (.cst (.row 0)), .one (.fl .int), .one (.fl .int)], objs := [.row .event 38 false, .blk [.fl .int, .fl .int, .fl .int, .fl .int, .cst (.row 4), .cst (.row 5)] 29 true, .blk [.fl .int, .fl .int, .fl .int, .fl .int, .cst (.row 6), .cst (.row 7)] 29 true, .row .bool 4 true, .row .entry 68 true, .nest .int 8 56 true, .row .entry 68 true, .nest .int 9 56 true, .bag .entry 68 true true, .bag .entry 68 true true] }, exits := [⟨none, { keep := [2, 3, 4], vals := [.one (.cst (.ptr 1 0)), .one (.cst (.row 2)), .one (.fl .int)], objs := [.row .event 38 false, .blk [.fl .int, .fl .int, .fl .int, .fl .int, .cst (.row 3), .cst (.row 4)] 29 true, .row .bool 4 true, .row .entry 68 true, .nest .int 5 56 true, .bag .entry 68 true true] }⟩, ⟨some 0, { keep := [2, 5, 6], vals := [.one (.cst (.ptr 1 0)), .one (.cst (.ptr 2 0)), .one (.cst (.row 3))], objs := [.row .event 38 false, .blk [.fl .int, .fl .int, .fl .int, .fl .int, .cst (.row 4), .cst (.row 5)] 29 true, .blk [.fl .int, .fl .int, .fl .int, .fl .int, .cst (.row 6), .cst (.row 7)] 29 true, .row .bool 4 true, .row .entry 68 true, .nest .int 8 56 true, .row .entry 68 true, .nest .int 9 56 true, .bag .entry 68 true true, .bag .entry 68 true true] }⟩] }
noncomputable def cluster_Run_env : Env := mkEnv ty fnB [(53, cluster_New_con), (9, cluster_Do_con)] [(6, (loopTr cluster_Run_L6_S (loopN cluster_Run_L6 FUEL)))]
theorem cluster_Run_envOk : EnvOk Tryz.prog cluster_Run_env := envOk tyOk fn_ok (callsCons cluster_New_ok (callsCons cluster_Do_ok callsNil)) _
theorem cluster_Run_L6_ok : LOk Tryz.prog (nthLoop (codeOf Tryz.f19) 0) (loopTr cluster_Run_L6_S (loopN cluster_Run_L6 FUEL)) := by
 have h : loopsOf (nthLoop (codeOf Tryz.f19) 0) = [] := by kernel_rfl
 refine loop_ok cluster_Run_envOk (loopsOk h lsNil) cluster_Run_L6_S cluster_Run_L6 FUEL (fun rec x => ?_)
 kernel_rfl
noncomputable def cluster_Run_con : Con := con [.one (.row .event 38)] [.agg [.fl .int, .fl .int, .fl .int, .fl .int, .row .entry 68, .nest .int .entry 56 68 true], .one (.row .bool 4), .one (.fl .int)] (fun x => cluster_Run_t x.1)
theorem cluster_Run_ok : TrOk Tryz.prog 19 cluster_Run_con := by
 have h : loopsOf (codeOf Tryz.f19) = [(nthLoop (codeOf Tryz.f19) 0)] := by kernel_rfl
 refine con_ok cluster_Run_envOk Tryz.func19 (bodyOk h (lsCons (one_loop (t := (loopTr cluster_Run_L6_S (loopN cluster_Run_L6 FUEL))) (by kernel_rfl) cluster_Run_L6_ok) lsNil)) _ _ _ (fun x => ?_)
 kernel_rfl
noncomputable def R_SameDisk_env : Env := mkEnv ty fnB [(67, R_SameLog_con)] []
theorem R_SameDisk_envOk : EnvOk Tryz.prog R_SameDisk_env := envOk tyOk fn_ok (callsCons R_SameLog_ok callsNil) _
noncomputable def R_SameDisk_con : Con := con [.agg [.fl .int, .fl .int, .fl .int, .row .entry 68], .agg [.fl .int, .fl .int, .fl .int, .row .entry 68]] [.one (.fl .bool)] (fun x => R_SameDisk_t x.1.1 x.1.2.1 x.1.2.2.1 x.1.2.2.2.1 x.2.1.1 x.2.1.2.1 x.2.1.2.2.1 x.2.1.2.2.2.1)
theorem R_SameDisk_ok : TrOk Tryz.prog 66 R_SameDisk_con := by
 have h : loopsOf (codeOf Tryz.f66) = [] := by kernel_rfl
 refine con_ok R_SameDisk_envOk Tryz.func66 (bodyOk h lsNil) _ _ _ (fun x => ?_)
 kernel_rfl
def R_SameCluster_L4_S : LoopS := { n := 64, base := 6, head := { keep := [2, 3, 5], vals := [.one (.cst (.ptr 6 0)), .one (.cst (.ptr 7 0)), .one (.fl .int)], objs := [.row .entry 68 false, .bag .entry 68 false false, .nest .int 1 56 false, .row .entry 68 false, .bag .entry 68 false false, .nest .int 4 56 false, .blk [.fl .int, .fl .int, .fl .int, .fl .int, .cst (.row 0), .cst (.row 2)] 29 true, .blk [.fl .int, .fl .int, .fl .int, .fl .int, .cst (.row 3), .cst (.row 5)] 29 true] }, exits := [⟨none, { keep := [4], vals := [.one (.fl .bool)], objs := [.row .entry 68 false, .bag .entry 68 false false, .nest .int 1 56 false, .row .entry 68 false, .bag .entry 68 false false, .nest .int 4 56 false] }⟩, ⟨some 0, { keep := [], vals := [], objs := [.row .entry 68 false, .bag .entry 68 false false, .nest .int 1 56 false, .row .entry 68 false, .bag .entry 68 false false, .nest .int 4 56 false] }⟩] }
noncomputable def R_SameCluster_env : Env := mkEnv ty fnB [(66, R_SameDisk_con), (67, R_SameLog_con)] [(4, (loopTr R_SameCluster_L4_S (loopN R_SameCluster_L4 FUEL)))]
theorem R_SameCluster_envOk : EnvOk Tryz.prog R_SameCluster_env := envOk tyOk fn_ok (callsCons R_SameDisk_ok (callsCons R_SameLog_ok callsNil)) _
theorem R_SameCluster_L4_ok : LOk Tryz.prog (nthLoop (codeOf Tryz.f25) 0) (loopTr R_SameCluster_L4_S (loopN R_SameCluster_L4 FUEL)) := by
 have h : loopsOf (nthLoop (codeOf Tryz.f25) 0) = [] := by kernel_rfl
 refine loop_ok R_SameCluster_envOk (loopsOk h lsNil) R_SameCluster_L4_S R_SameCluster_L4 FUEL (fun rec x => ?_)
 kernel_rfl
noncomputable def R_SameCluster_con : Con := con [.agg [.fl .int, .fl .int, .fl .int, .fl .int, .row .entry 68, .nest .int .entry 56 68 true], .agg [.fl .int, .fl .int, .fl .int, .fl .int, .row .entry 68, .nest .int .entry 56 68 true]] [.one (.fl .bool)] (fun x => R_SameCluster_t x.1.1 x.1.2.1 x.1.2.2.1 x.1.2.2.2.1 x.1.2.2.2.2.1 x.1.2.2.2.2.2.1 x.2.1.1 x.2.1.2.1 x.2.1.2.2.1 x.2.1.2.2.2.1 x.2.1.2.2.2.2.1 x.2.1.2.2.2.2.2.1)
theorem R_SameCluster_ok : TrOk Tryz.prog 25 R_SameCluster_con := by
 have h : loopsOf (codeOf Tryz.f25) = [(nthLoop (codeOf Tryz.f25) 0)] := by kernel_rfl
 refine con_ok R_SameCluster_envOk Tryz.func25 (bodyOk h (lsCons (one_loop (t := (loopTr R_SameCluster_L4_S (loopN R_SameCluster_L4 FUEL))) (by kernel_rfl) R_SameCluster_L4_ok) lsNil)) _ _ _ (fun x => ?_)
 kernel_rfl
noncomputable def law_clusterIs_env : Env := mkEnv ty fnB [(25, R_SameCluster_con)] []
theorem law_clusterIs_envOk : EnvOk Tryz.prog law_clusterIs_env := envOk tyOk fn_ok (callsCons R_SameCluster_ok callsNil) _
noncomputable def law_clusterIs_con : Con := con [.agg [.fl .int, .fl .int, .fl .int, .fl .int, .row .entry 68, .nest .int .entry 56 68 true], .one (.fl .int), .one (.fl .int), .agg [.fl .int, .fl .int, .fl .int, .fl .int, .row .entry 68, .nest .int .entry 56 68 true]] [.one (.fl .bool)] (fun x => law_clusterIs_t x.1.1 x.1.2.1 x.1.2.2.1 x.1.2.2.2.1 x.1.2.2.2.2.1 x.1.2.2.2.2.2.1 x.2.1 x.2.2.1 x.2.2.2.1.1 x.2.2.2.1.2.1 x.2.2.2.1.2.2.1 x.2.2.2.1.2.2.2.1 x.2.2.2.1.2.2.2.2.1 x.2.2.2.1.2.2.2.2.2.1)
theorem law_clusterIs_ok : TrOk Tryz.prog 17 law_clusterIs_con := by
 have h : loopsOf (codeOf Tryz.f17) = [] := by kernel_rfl
 refine con_ok law_clusterIs_envOk Tryz.func17 (bodyOk h lsNil) _ _ _ (fun x => ?_)
 kernel_rfl
def R_RunOf_L6_S : LoopS := { n := 52, base := 2, head := { keep := [0, 2, 5, 6, 7], vals := [.one (.cst (.row 0)), .one (.cst (.ptr 2 0)), .one (.cst (.ptr 3 0)), .one (.cst (.row 4)), .one (.fl .int)], objs := [.row .event 38 false, .ghost, .blk [.fl .int, .fl .int, .fl .int, .fl .int, .cst (.row 5), .cst (.row 6)] 29 true, .blk [.fl .int, .fl .int, .fl .int, .fl .int, .cst (.row 7), .cst (.row 8)] 29 true, .row .bool 4 true, .row .entry 68 true, .nest .int 9 56 true, .row .entry 68 false, .nest .int 10 56 false, .bag .entry 68 true true, .bag .entry 68 false false] }, exits := [⟨none, { keep := [2, 3, 4], vals := [.one (.cst (.ptr 2 0)), .one (.cst (.row 3)), .one (.fl .int)], objs := [.row .event 38 false, .ghost, .blk [.fl .int, .fl .int, .fl .int, .fl .int, .cst (.row 4), .cst (.row 5)] 29 true, .row .bool 4 true, .row .entry 68 true, .nest .int 6 56 true, .bag .entry 68 true true] }⟩, ⟨some 0, { keep := [2, 5, 6], vals := [.one (.cst (.ptr 2 0)), .one (.cst (.ptr 3 0)), .one (.cst (.row 4))], objs := [.row .event 38 false, .ghost, .blk [.fl .int, .fl .int, .fl .int, .fl .int, .cst (.row 5), .cst (.row 6)] 29 true, .blk [.fl .int, .fl .int, .fl .int, .fl .int, .cst (.row 7), .cst (.row 8)] 29 true, .row .bool 4 true, .row .entry 68 true, .nest .int 9 56 true, .row .entry 68 false, .nest .int 10 56 false, .bag .entry 68 true true, .bag .entry 68 false false] }⟩] }
noncomputable def R_RunOf_env : Env := mkEnv ty fnB [(12, R_CheckEvent_con), (13, (conS R_EventOf_con))] [(6, (loopTr R_RunOf_L6_S (loopN R_RunOf_L6 FUEL)))]
theorem R_RunOf_envOk : EnvOk Tryz.prog R_RunOf_env := envOk tyOk fn_ok (callsCons R_CheckEvent_ok (callsCons (conS_ok R_EventOf_ok) callsNil)) _
theorem R_RunOf_L6_ok : LOk Tryz.prog (nthLoop (codeOf Tryz.f20) 0) (loopTr R_RunOf_L6_S (loopN R_RunOf_L6 FUEL)) := by
 have h : loopsOf (nthLoop (codeOf Tryz.f20) 0) = [] := by kernel_rfl
 refine loop_ok R_RunOf_envOk (loopsOk h lsNil) R_RunOf_L6_S R_RunOf_L6 FUEL (fun rec x => ?_)
 kernel_rfl
noncomputable def R_RunOf_con : Con := lcon [.one (.row .event 38)] [.agg [.fl .int, .fl .int, .fl .int, .fl .int, .row .entry 68, .nest .int .entry 56 68 false], .one (.row .bool 4), .one (.fl .int)] (fun x => R_RunOf_t x.1)
theorem R_RunOf_ok : TrOk Tryz.prog 20 R_RunOf_con := by
 have h : loopsOf (codeOf Tryz.f20) = [(nthLoop (codeOf Tryz.f20) 0)] := by kernel_rfl
 refine lcon_ok R_RunOf_envOk Tryz.func20 (bodyOk h (lsCons (one_loop (t := (loopTr R_RunOf_L6_S (loopN R_RunOf_L6 FUEL))) (by kernel_rfl) R_RunOf_L6_ok) lsNil)) _ _ rfl rfl _ (fun x => ?_)
 kernel_rfl
end Go.Proofs.YtjncjiegmnicbabGreat
