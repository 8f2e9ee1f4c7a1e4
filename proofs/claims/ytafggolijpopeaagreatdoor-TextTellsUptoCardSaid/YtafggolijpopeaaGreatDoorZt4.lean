/-
  Parts: Zd Ze Li Lo Cf Ph Pi Pj Ha Pk Cb Cd Lm Pd Pe Pg Sa Cc Sb Sc Sd Se Sf Sg Sh Si Yb Va Vb Vc Vd Cg Lk Zg Zh Zi Zj Ty Hd Wk Hf Hg Ia Ib Ir Ic MaU Id Gf.
-/
import Derived.Lib.AtoiTie
import Derived.Lib.IndexLaws
import Derived.Test.YtafggolijpopeaaGreatDoorRows
import Derived.WalkKit
import Derived.ProofKit
import Derived.Lib.Walk
import Derived.Lib.SliceRun
import Derived.Lib.JoinLaws
import Derived.Lib.AppendZeros
import Derived.Lib.AppendZerosOnto
import Derived.Lib.Overlaps
import Derived.Laws.Externs
import Derived.Laws.IdiomCopy
import Derived.Laws.AppendOwn
import Derived.Shelf.Spec.SlicesInsertGrow
import Derived.RangeFuncNested
import Derived.RangeFuncBound
import Derived.RangeFuncCalls
import Derived.RangeFuncLeaves
import Derived.RangeFuncBox
import Derived.Shelf.Abstract
import Derived.Shelf.RegionOpen
import Derived.OwnWalkIn
import Derived.TacticsInMore
import Derived.LoopNIn
import Derived.LoopIn
import Derived.Maps.Own
import Derived.StringKeys
import Derived.Maps.OwnOps
import Derived.Maps.Views
import Derived.Shelf.SlicesQ.Load
import Derived.Deep.RegionLaw
import Derived.Shelf.SlSortCmp.WholeK
import Derived.Test.YtafggolijpopeaaGreatDoorProg
import Derived.Laws.IdiomStrings
import Derived.Deep.Cut
import Derived.Test.YtafggolijpopeaaGreatDoorZt3
set_option linter.unusedVariables false
set_option linter.unusedSimpArgs false
namespace Go.Ma
open Go
def grpsA (o : Option (List Int)) : ByteArray × Bool × Unit := match o with | some l => (ofBytes (bitsG l), true, ()) | none => (ByteArray.empty, false, ())
theorem groupsOf_loop (e : Bool) (l : List (List UInt8)) (hL : l.length ≤ 1048577) (hl : ∀ x ∈ l, x.length ≤ 1048576) : ∀ (N k : Nat) (out : List Int), l.length - k < N → k ≤ l.length → out.length ≤ 2 * k →
  loopN R_groupsOf_L6 N (((e, ()), (()), (ofBytes (bitsG out), ()), ((k : Int), ()), ()), (l.map ofBytes, ())) = some (match someL e l.length ((l.drop k).map ofBytes) k out with | some r => Sum.inr (((ofBytes (bitsG r), ()), ()), ()) | none => Sum.inl (((ByteArray.empty, ()), (false, ()), ()), ())) := by
 intro N
 induction N with
 | zero => intro k out h; omega
 | succ N ih =>
  intro k out hN hk ho
  have hlL : lenL (l.map ofBytes) = (l.length : Int) := by unfold lenL; rw [List.length_map]
  rw [zq7]
  simp only [R_groupsOf_L6, hlL]
  by_cases h : k = l.length
  ·rw [decide_eq_false (show ¬ (k : Int) < (l.length : Int) by omega), br_false, List.drop_of_length_le (by omega)]
   rfl
  ·obtain ⟨x, hx⟩ : ∃ x, l[k]? = some x := ⟨_, List.getElem?_eq_getElem (by omega)⟩
   have hx2 : (l.map ofBytes)[k]? = some (ofBytes x) := by rw [List.getElem?_map, hx]; rfl
   have hxl := hl x (List.mem_of_getElem? hx)
   have hxs : (ofBytes x).size ≤ 1048576 := by rw [ofBytes_size]; exact hxl
   rw [decide_eq_true (show (k : Int) < (l.length : Int) by omega), br_true, req_of (zq4 (by omega) (by omega)), geti_at hx2, bind_s, groupOf_t _ hxs, bind_s, zq8, drop_cons hx, List.map_cons, someL_step]
   have hdec : decide ((k : Int) = (l.length : Int) - 1) = decide (k + 1 = l.length) := decide_eq_decide.2 (by omega)
   unfold pieceR groupA
   cases hg : groupR x with
   | some n =>
    simp only [Bool.not_true, br_false, bind_s, catB]
    have hb : bitsG out ++ bitsTo n 15 16 = bitsG (out ++ [(n : Int)]) := by
     rw [bitsG_app, bitsG_cons, show bitsG [] = [] from rfl, List.append_nil]
     rfl
    rw [hb, req_of (roomB _ (by rw [bitsG_len]; simp; omega)), req_of (i64ok_of (by omega) (by omega)), show (k : Int) + 1 = ((k + 1 : Nat) : Int) by omega]
    exact ih (k + 1) _ (by omega) (by omega) (by simp; omega)
   | none =>
    simp only [Bool.not_false, br_true, bind_s, hdec]
    cases e with
    | false =>
     simp only [br_false, bind_s, Bool.false_and]
    | true =>
     simp only [br_true, Bool.true_and]
     rw [req_of (i64ok_of (by omega) (by omega)), bind_s]
     by_cases hk1 : k + 1 = l.length
     ·simp only [decide_eq_true hk1, br_true]
      rw [req_of (zq4 (by omega) (by omega)), fourOf_t _ hxs, bind_s, zq8]
      unfold fourA
      cases hv : fourV x with
      | none => rfl
      | some n =>
       simp only [Bool.not_true, br_false, Option.map_some, catB]
       have hb : bitsG out ++ bitsTo n 31 32 = bitsG (out ++ [((n / 65536 : Nat) : Int), ((n % 65536 : Nat) : Int)]) := by rw [bitsG_app, bits32]
       rw [hb, req_of (roomB _ (by rw [bitsG_len]; simp; omega)), req_of (i64ok_of (by omega) (by omega)), show (k : Int) + 1 = ((k + 1 : Nat) : Int) by omega]
       exact ih (k + 1) _ (by omega) (by omega) (by simp; omega)
     ·simp only [decide_eq_false hk1, br_false]
theorem groupsOf_t (s : ByteArray) (hs : s.size ≤ 1048576) (e : Bool) : R_groupsOf_t s e = some (grpsA (someF s e)) := by
 unfold R_groupsOf_t someF
 rw [strcmp_eql]
 by_cases h0 : s.size = 0
 ·have : s = ByteArray.empty := by
   rw [← ofBytes_data s]
   have : s.data.toList = [] := List.length_eq_zero_iff.1 (by rw [data_len]; exact h0)
   rw [this]
   rfl
  rw [if_pos h0, decide_eq_true this, br_true]
  rfl
 ·have hne : ¬ s = ByteArray.empty := fun h => h0 (by rw [h]; rfl)
  rw [if_neg h0, decide_eq_false hne, br_false]
  have hsp := splitAt_t 58 s hs
  rw [show ((58 : UInt8).toNat : Int) = 58 from rfl] at hsp
  rw [hsp, bind_s]
  have hL : (splL 58 [] s.data.toList).length ≤ 1048577 := by
   unfold splL
   have := splF_len 58 s.data.toList []
   rw [data_len] at this
   simp
   omega
  have := groupsOf_loop e (splL 58 [] s.data.toList) hL (fun x hx => by have := splL_size 58 s.data.toList [] x hx; rw [data_len] at this; simp at this; omega) FUEL 0 [] (fuel_gt (by omega)) (by omega) (by simp)
  rw [List.drop_zero, show bitsG [] = [] from rfl] at this
  simp only [empB] at this ⊢
  rw [show (0 : Int) = ((0 : Nat) : Int) from rfl, this, bind_s, splitOn_any, List.length_map]
  cases someL e (splL 58 [] s.data.toList).length ((splL 58 [] s.data.toList).map ofBytes) 0 [] with
  | none => rfl
  | some l => rfl
theorem someL_len (last : Bool) (len : Nat) : ∀ (l : List ByteArray) (i : Nat) (out r : List Int), someL last len l i out = some r → r.length ≤ out.length + 2 * l.length
 | [], i, out, r, h => by
  simp only [someL, Option.some.injEq] at h
  subst h
  omega
 | x :: l, i, out, r, h => by
  rw [someL] at h
  split at h
  ·cases hf : fourF x with
   | none => rw [hf] at h; cases h
   | some n =>
    rw [hf] at h
    have := someL_len last len l _ _ r h
    simp only [List.length_append, List.length_cons, List.length_nil] at this ⊢
    omega
  ·cases hf : partF x 16 4 65535 with
   | none => rw [hf] at h; cases h
   | some n =>
    rw [hf] at h
    have := someL_len last len l _ _ r h
    simp only [List.length_append, List.length_cons, List.length_nil] at this ⊢
    omega
theorem someF_len {s : ByteArray} {e : Bool} {r : List Int} (h : someF s e = some r) : r.length ≤ 2 * (s.size + 1) := by
 unfold someF at h
 split at h
 ·injection h with h
  subst h
  simp
 ·have h1 := someL_len e _ _ _ _ r h
  rw [splitOn_any, List.length_map] at h1
  have h2 := splF_len 58 s.data.toList []
  rw [data_len] at h2
  unfold splL at h1
  simp only [List.length_append, List.length_cons, List.length_nil] at h1
  omega
theorem mem_step {s : List UInt8} {i : Nat} {b : UInt8} (h : s[i]? = some b) : decide ((58 : UInt8) ∈ s.drop i) = (decide ((58 : UInt8) ∈ s.drop (i + 1)) || decide (b = 58)) := by
 rw [drop_cons h, Bool.eq_iff_iff, Bool.or_eq_true, decide_eq_true_iff, decide_eq_true_iff, decide_eq_true_iff, List.mem_cons]
 constructor
 ·rintro (h | h)
  ·exact .inr h.symm
  ·exact .inl h
 ·rintro (h | h)
  ·exact .inr h
  ·exact .inl h.symm
theorem byte58 (b : UInt8) : decide ((b.toNat : Int) = 58) = decide (b = 58) := by
 refine decide_eq_decide.2 ⟨fun h => UInt8.toNat_inj.1 ?_, fun h => by rw [h]; rfl⟩
 have : b.toNat = 58 := by omega
 rw [this]
 rfl
theorem parse_loop (s : ByteArray) (hs : s.size ≤ 1048576) (a : Ad) : loopN R_ParseOf_L3 FUEL (((s, ()), (()), (false, ()), ((-1), ()), ((lenS s) - 1, ()), ()), ((a, ()), ())) =
  some (((s, ()), (()), (decide ((58 : UInt8) ∈ s.data.toList), ()), (ccAt s.data.toList 0, ()), ()), ((a, ()), ())) := by
 have := loop_up (step := R_ParseOf_L3) (fun j => (((s, ()), (()), (decide ((58 : UInt8) ∈ s.data.toList.drop (s.size - j)), ()), (ccAt s.data.toList (s.size - j), ()), ((s.size : Int) - 1 - (j : Int), ()), ()), ((a, ()), ()))) s.size
  (fun _ => some (((s, ()), (()), (decide ((58 : UInt8) ∈ s.data.toList), ()), (ccAt s.data.toList 0, ()), ()), ((a, ()), ()))) (fun rec j hj hr => ?_) (fun rec => ?_) FUEL 0 (Nat.zero_le _) (fuel_gt (by omega))
 ·have hd : s.data.toList.drop (s.size - 0) = [] := List.drop_of_length_le (by rw [data_len]; omega)
  have hc : ccAt s.data.toList (s.size - 0) = -1 := by unfold ccAt; rw [hd]; rfl
  rw [hd, hc] at this
  rw [← this]
  unfold lenS
  congr 1
  simp
 ·obtain ⟨i, hi⟩ : ∃ i, i + j + 1 = s.size := ⟨s.size - j - 1, by omega⟩
  have e1 : s.size - j = i + 1 := by omega
  have e2 : s.size - (j + 1) = i := by omega
  have e3 : (s.size : Int) - 1 - (j : Int) = (i : Int) := by omega
  have e4 : (s.size : Int) - 1 - ((j + 1 : Nat) : Int) = (i : Int) - 1 := by omega
  simp only [e2, e4] at hr
  simp only [e1, e3, R_ParseOf_L3]
  obtain ⟨b, hb⟩ : ∃ b, s.data.toList[i]? = some b := ⟨_, List.getElem?_eq_getElem (by rw [data_len]; omega)⟩
  have hl : lenS s = (s.size : Int) := rfl
  have hin : inRange (i : Int) (lenS s) = true := zq4 (by omega) (by omega)
  have hcA := ccAt_step hb
  have hm := mem_step hb
  rw [decide_eq_true (show (i : Int) ≥ 0 by omega), br_true]
  simp only [hin, req_true, byteAt_eq hb, byte58, br_ss, bind_s]
  have hc1 : (bif decide ((58 : UInt8) ∈ s.data.toList.drop (i + 1)) then true else decide (b = 58)) = decide ((58 : UInt8) ∈ s.data.toList.drop i) := by
   rw [hm]
   cases decide ((58 : UInt8) ∈ s.data.toList.drop (i + 1)) <;> rfl
  rw [hc1, req_of (i64ok_of (by omega) (by omega))]
  by_cases hlast : i + 1 < s.size
  ·obtain ⟨c, hc⟩ : ∃ c, s.data.toList[i + 1]? = some c := ⟨_, List.getElem?_eq_getElem (by rw [data_len]; omega)⟩
   have hin2 : inRange ((i : Int) + 1) (lenS s) = true := zq4 (by omega) (by omega)
   have hbc : byteAt s ((i : Int) + 1) = (c.toNat : Int) := by
    rw [show (i : Int) + 1 = ((i + 1 : Nat) : Int) by omega]
    exact byteAt_eq hc
   rw [decide_eq_true (show (i : Int) + 1 < lenS s by omega)]
   simp only [cond_true]
   by_cases hbb : b = 58
   ·rw [decide_eq_true hbb, br_true, req_of (i64ok_of (by omega) (by omega)), hin2, req_true, hbc, byte58, bind_s]
    by_cases hcc : c = 58
    ·rw [decide_eq_true hcc, br_true, req_of (i64ok_of (by omega) (by omega)), ← hr, hcA, if_pos ⟨hbb, by rw [hc, hcc]⟩]
    ·rw [decide_eq_false hcc, br_false, req_of (i64ok_of (by omega) (by omega)), ← hr, hcA, if_neg (fun hh => hcc (by rw [hc] at hh; exact Option.some.inj hh.2))]
   ·rw [decide_eq_false hbb, br_false, bind_s, br_false, req_of (i64ok_of (by omega) (by omega)), ← hr, hcA, if_neg (fun hh => hbb hh.1)]
  ·have hnone : s.data.toList[i + 1]? = none := List.getElem?_eq_none (by rw [data_len]; omega)
   rw [decide_eq_false (show ¬ (i : Int) + 1 < lenS s by omega)]
   simp only [cond_false]
   rw [br_false, bind_s, br_false, req_of (i64ok_of (by omega) (by omega)), ← hr, hcA, if_neg (fun hh => by rw [hnone] at hh; cases hh.2)]
 ·have e3 : (s.size : Int) - 1 - (s.size : Int) = -1 := by omega
  simp only [R_ParseOf_L3, e3, Nat.sub_self, List.drop_zero]
  rw [decide_eq_false (by decide), br_false]
theorem pad_loop (b : List UInt8) (d : Ad) : ∀ (N : Nat) (a : List UInt8), 128 - (a.length + b.length) < N → a.length + b.length ≤ 128 →
  loopN R_ParseOf_L23 N (((()), (ofBytes a, ()), (ofBytes b, ()), ()), ((d, ()), ())) = some (((()), (ofBytes (a ++ List.replicate (128 - (a.length + b.length)) 48), ()), (ofBytes b, ()), ()), ((d, ()), ())) := by
 intro N
 induction N with
 | zero => intro a h; omega
 | succ N ih =>
  intro a hN ha
  rw [zq7]
  simp only [R_ParseOf_L23, lenB]
  rw [req_of (i64ok_of (by omega) (by omega))]
  by_cases h : a.length + b.length = 128
  ·rw [decide_eq_false (show ¬ ((a.length : Int) + (b.length : Int) < 128) by omega), br_false, show 128 - (a.length + b.length) = 0 by omega]
   simp
  ·have ec : catS (ofBytes a) (⟨#[48]⟩ : ByteArray) = ofBytes (a ++ [48]) := catB a [48]
   rw [decide_eq_true (show ((a.length : Int) + (b.length : Int) < 128) by omega), br_true, ec, req_of (roomB _ (by simp; omega)), ih (a ++ [48]) (by simp; omega) (by simp; omega)]
   have e : 128 - (a.length + b.length) = (128 - ((a ++ [48]).length + b.length)) + 1 := by simp; omega
   rw [e, List.replicate_succ, List.append_assoc]
   rfl
theorem AddrOf_four {n : Nat} (h : n < 4294967296) : R_AddrOf_t (ofBytes (bitsTo n 31 32)) = some (⟨false, 0, (n : Int)⟩, ()) := by
 have := R_AddrOf_eq (v := false) (n := n) (by show n < 2 ^ 32; omega)
 rw [show wid false = 32 from rfl] at this
 rw [this]
 refine congrArg (fun x : Ad => some (x, ())) ?_
 unfold ofNum
 have e1 : n / 18446744073709551616 = 0 := Nat.div_eq_of_lt (by omega)
 have e2 : n % 18446744073709551616 = n := Nat.mod_eq_of_lt (by omega)
 rw [e1, e2]
 rfl
def parsA (o : Option Ad) : Ad × Bool × Unit := match o with | some a => (a, true, ()) | none => (⟨false, 0, 0⟩, false, ())
theorem ParseOf_t (s : ByteArray) (hs : s.size ≤ 1048576) : R_ParseOf_t s = some (parsA (toldF s)) := by
 have hl : lenS s = (s.size : Int) := rfl
 have hcol : colonIn s = decide ((58 : UInt8) ∈ s.data.toList) := by
  unfold colonIn
  by_cases h : (58 : UInt8) ∈ s.data.toList
  ·rw [decide_eq_true h, decide_eq_true (byte_some h)]
  ·rw [decide_eq_false h, byte_none _ 58 h]
   rfl
 unfold R_ParseOf_t
 rw [req_of (i64ok_of (by omega) (by omega)), parse_loop s hs, bind_s]
 unfold toldF
 rw [hcol]
 simp only
 by_cases hc : (58 : UInt8) ∈ s.data.toList
 rotate_left
 ·rw [decide_eq_false hc, Bool.not_false, br_true, fourOf_t s hs, bind_s, if_neg (by decide), fourF_V]
  unfold fourA
  cases hv : fourV s.data.toList with
  | none => rfl
  | some n =>
   simp only [Bool.not_true, br_false, Option.map_some]
   rw [AddrOf_four (fourV_lt hv), bind_s]
   rfl
 rw [decide_eq_true hc, Bool.not_true, br_false, if_pos rfl]
 unfold sixteenF cut1 cut2 cut3
 rw [cut_cc]
 unfold ccAt
 rw [List.drop_zero]
 cases hcc : ccL s.data.toList with
 | none =>
  simp only [Bool.false_eq_true, if_false]
  rw [decide_eq_true (by decide), br_true, groupsOf_t s hs true, bind_s]
  unfold grpsA
  cases hF : someF s true with
  | none => rfl
  | some l =>
   simp only [Bool.not_true, br_false, lenB, bitsG_len]
   by_cases h8 : l.length = 8
   ·rw [if_pos h8, decide_eq_true (by omega), Bool.not_true, br_false, pack_bits (someF_bound hF) h8, bind_s]
    rfl
   ·rw [if_neg h8, decide_eq_false (by omega), Bool.not_false, br_true]
    rfl
 | some k =>
  have hk := ccL_len hcc
  rw [data_len] at hk
  simp only [if_true]
  have e0 : subS s 0 ((0 + k : Nat) : Int) = (⟨(s.data.toList.take k).toArray⟩ : ByteArray) := by
   have := subB s.data.toList 0 (0 + k)
   rw [ofBytes_data] at this
   rw [show (0 : Int) = ((0 : Nat) : Int) from rfl, this, Nat.zero_add, List.drop_zero]
   rfl
  have e2 : subS s (((0 + k : Nat) : Int) + 2) (lenS s) = (⟨(s.data.toList.drop (k + 2)).toArray⟩ : ByteArray) := by
   have := subB s.data.toList (k + 2) s.size
   rw [ofBytes_data] at this
   rw [show (((0 + k : Nat) : Int) + 2) = ((k + 2 : Nat) : Int) by omega, hl, this, List.take_of_length_le (by rw [data_len]; exact Nat.le_refl _)]
   rfl
  rw [e0, e2]
  have s1 : (⟨(s.data.toList.take k).toArray⟩ : ByteArray).size ≤ 1048576 := by
   show (ofBytes _).size ≤ _
   rw [ofBytes_size, List.length_take, data_len]
   omega
  have s2 : (⟨(s.data.toList.drop (k + 2)).toArray⟩ : ByteArray).size ≤ 1048576 := by
   show (ofBytes _).size ≤ _
   rw [ofBytes_size, List.length_drop, data_len]
   omega
  rw [decide_eq_false (show ¬ ((0 + k : Nat) : Int) < 0 by omega), br_false, groupsOf_t _ s1 false, bind_s]
  rw [req_of (by rw [Bool.and_eq_true, decide_eq_true_iff, decide_eq_true_iff]; omega), req_of (i64ok_of (by omega) (by omega)), req_of (by rw [Bool.and_eq_true, Bool.and_eq_true, decide_eq_true_iff, decide_eq_true_iff, decide_eq_true_iff]; omega), groupsOf_t _ s2 true, bind_s]
  generalize (⟨(s.data.toList.take k).toArray⟩ : ByteArray) = t1 at s1 ⊢
  generalize (⟨(s.data.toList.drop (k + 2)).toArray⟩ : ByteArray) = t2 at s2 ⊢
  unfold grpsA
  cases hF : someF t1 false with
  | none =>
   simp only [Bool.not_false, br_true, bind_s]
   rfl
  | some l =>
   cases hF2 : someF t2 true with
   | none =>
    simp only [Bool.not_true, Bool.not_false, br_false, br_true, bind_s]
    rfl
   | some m =>
    have q1 := someF_len hF
    have q2 := someF_len hF2
    simp only [Bool.not_true, br_false, bind_s, lenB, bitsG_len]
    rw [req_of (i64ok_of (by omega) (by omega)), bind_s]
    by_cases h7 : 7 < l.length + m.length
    ·rw [if_pos h7, decide_eq_true (by omega), br_true]
     rfl
    ·rw [if_neg h7, decide_eq_false (by omega), br_false]
     have hp := pad_loop (bitsG m) (⟨false, 0, 0⟩ : Ad) FUEL (bitsG l) (fuel_gt (by omega)) (by rw [bitsG_len, bitsG_len]; omega)
     rw [hp, bind_s]
     have hz : bitsG l ++ List.replicate (128 - ((bitsG l).length + (bitsG m).length)) 48 = bitsG (l ++ List.replicate (8 - l.length - m.length) 0) := by
      rw [bitsG_app, bitsG_zero, bitsG_len, bitsG_len]
      congr 2
      omega
     have h8 : (l ++ List.replicate (8 - l.length - m.length) (0 : Int) ++ m).length = 8 := by simp; omega
     simp only [hz, catB, ← bitsG_app]
     rw [req_of (roomB _ (by rw [bitsG_len, h8]; omega)), lenB, bitsG_len, h8]
     rw [decide_eq_true (by decide), Bool.not_true, br_false]
     rw [pack_bits (fun u hu => by
      rcases List.mem_append.1 hu with hu | hu
      ·rcases List.mem_append.1 hu with hu | hu
       ·exact someF_bound hF u hu
       ·rw [(List.mem_replicate.1 hu).2]
        exact ⟨by decide, by decide⟩
      ·exact someF_bound hF2 u hu) h8, bind_s]
     rfl
end Go.Ma
namespace Go.Ma
open Go
theorem gsA_len (a : Ad) : (gsA a).length = 8 := by simp [gsA]
theorem gsA_get (a : Ad) {i : Nat} (h : i < 8) : (gsA a)[i]? = some (gI a i) := by simp [gsA, h]
theorem row_z {a : Ad} (h : a.wf) {f : Nat} (hf : f ≤ 8) : addr_row_t a f = some (((zrow ((gsA a).drop f) : Nat) : Int), ()) := by
 obtain ⟨m, m1, m2, m3, m4⟩ := row_eq h hf
 rw [m4]
 have : zrow ((gsA a).drop f) = m := zrow_get (by rw [List.length_drop, gsA_len]; omega) (fun j hj => by rw [List.getElem?_drop, gsA_get a (by omega), m2 j hj]) (fun hl => by
  rw [List.length_drop, gsA_len] at hl
  rw [List.getElem?_drop, gsA_get a (by omega)]
  intro he
  exact m3 (by omega) (Option.some.inj he))
 rw [this]
theorem longest_z {a : Ad} (h : a.wf) : ∀ (N k i : Nat) (x : Int) (m : Nat), k < N → i + k = 8 →
  loopN zq1 N (((), (x, ()), ((m : Int), ()), ((i : Int), ()), ()), ((a, ()), ())) = some ((((lngF (gsA a) k i (x, m)).1, ()), (((lngF (gsA a) k i (x, m)).2 : Int), ()), ()), ()) := by
 intro N
 induction N with
 | zero => intro k i x m h; omega
 | succ N ih =>
  intro k i x m hk hi
  rw [zq7]
  simp only [zq1]
  cases k with
  | zero =>
   rw [decide_eq_false (show ¬ (i : Int) < 8 by omega), br_false]
   rfl
  | succ k =>
   rw [decide_eq_true (show (i : Int) < 8 by omega), br_true, row_z h (by omega), bind_s]
   simp only []
   unfold lngF
   simp only
   by_cases hz : m < zrow ((gsA a).drop i)
   ·rw [decide_eq_true (show ((zrow ((gsA a).drop i) : Nat) : Int) > (m : Int) by omega), br_true, if_pos hz, req_of (i64ok_of (by omega) (by omega)), show (i : Int) + 1 = ((i + 1 : Nat) : Int) by omega]
    exact ih k (i + 1) _ _ (by omega) (by omega)
   ·rw [decide_eq_false (show ¬ ((zrow ((gsA a).drop i) : Nat) : Int) > (m : Int) by omega), br_false, if_neg hz, req_of (i64ok_of (by omega) (by omega)), show (i : Int) + 1 = ((i + 1 : Nat) : Int) by omega]
    exact ih k (i + 1) _ _ (by omega) (by omega)
def lngA (a : Ad) : Int × Nat := lngF (gsA a) 8 0 (0, 1)
def text16 (a : Ad) : List UInt8 := if (lngA a).2 < 2 then joinG (gsA a) else joinG ((gsA a).take (lngA a).1.toNat) ++ [58, 58] ++ joinG ((gsA a).drop ((lngA a).1.toNat + (lngA a).2))
theorem lngA_at {a : Ad} (h : 2 ≤ (lngA a).2) : ∃ q : Nat, (lngA a).1 = (q : Int) ∧ Row0 a q (lngA a).2 := by
 obtain ⟨q, q1, q2, q3⟩ := lngF_at (gsA a) (gsA_len a) 8 0 0 1 (by omega) (by omega) (fun h => by omega) h
 refine ⟨q, q1, q2, fun j hj => ?_⟩
 have := zrow_zero (Nat.lt_of_lt_of_le hj q3)
 have h8 : (lngA a).2 = (lngF (gsA a) 8 0 (0, 1)).2 := rfl
 rw [List.getElem?_drop, gsA_get a (by omega)] at this
 exact Option.some.inj this
theorem Text_16 {a : Ad} (h : a.wf) (hv : a.v6 = true) : addr_Text_t a = some (ofBytes (text16 a), ()) := by
 rw [text_of6 hv]
 have hl := longest_z h FUEL 8 0 0 1 (fuel_gt (by omega)) (by omega)
 have hl : loopN zq1 FUEL (((), ((0 : Int), ()), ((1 : Int), ()), ((0 : Int), ()), ()), ((a, ()), ())) = some ((((lngA a).1, ()), (((lngA a).2 : Int), ()), ()), ()) := hl
 unfold addr_longest_t
 rw [hl, bind_s]
 simp only []
 unfold text16
 by_cases h2 : (lngA a).2 < 2
 ·rw [decide_eq_true (show ((lngA a).2 : Int) < 2 by omega), br_true, bind_s, textOf6_none h, if_pos h2]
  rfl
 ·obtain ⟨q, q1, q2⟩ := lngA_at (a := a) (by omega)
  rw [decide_eq_false (show ¬ ((lngA a).2 : Int) < 2 by omega), br_false, bind_s, if_neg h2, q1, textOf6_some h (by omega) q2, Int.toNat_natCast]
  rfl
def textA (a : Ad) : List UInt8 := if a.v6 then text16 a else text4 a.lo.toNat
theorem Text_A {a : Ad} (h : a.wf) : addr_Text_t a = some (ofBytes (textA a), ()) := by
 unfold textA
 cases hv : a.v6
 ·rw [text_v4 h hv]
  rfl
 ·rw [Text_16 h hv]
  rfl
theorem bits_sub {n top c i k : Nat} (h1 : i + k ≤ c) (h2 : c ≤ top + 1) : ((bitsTo n top c).take (i + k)).drop i = bitsTo (n / 2 ^ (top + 1 - i - k) % 2 ^ k) (k - 1) k := by
 apply List.ext_getElem?
 intro j
 rw [List.getElem?_drop, List.getElem?_take, bitsTo_get]
 by_cases hj : j < k
 ·rw [if_pos (by omega), if_pos (by omega), bitsTo_get, if_pos hj]
  refine congrArg some (bitV_congr ?_)
  rw [Nat.testBit_mod_two_pow, decide_eq_true (by omega), Bool.true_and, Nat.testBit_div_two_pow]
  congr 1
  omega
 ·rw [if_neg (by omega), bitsTo_get, if_neg hj]
theorem slice6 {a : Ad} (hv : a.v6 = true) {i : Nat} (hi : i < 8) : ((bitsA a).take (16 * i + 16)).drop (16 * i) = bitsTo (gI a i) 15 16 := by
 unfold bitsA gI
 rw [if_pos hv]
 by_cases h4 : i < 4
 ·rw [if_pos h4, List.take_append_of_le_length (by rw [zq2]; omega)]
  have := bits_sub (n := a.hi.toNat) (top := 63) (c := 64) (i := 16 * i) (k := 16) (by omega) (by omega)
  rw [this, show 63 + 1 - 16 * i - 16 = 48 - 16 * i by omega]
 ·rw [if_neg h4, List.take_append, List.take_of_length_le (by rw [zq2]; omega), zq2, List.drop_append, List.drop_of_length_le (by rw [zq2]; omega), List.nil_append, zq2]
  have := bits_sub (n := a.lo.toNat) (top := 63) (c := 64) (i := 16 * i - 64) (k := 16) (by omega) (by omega)
  rw [show 16 * i + 16 - 64 = 16 * i - 64 + 16 by omega, this, show 63 + 1 - (16 * i - 64) - 16 = 112 - 16 * i by omega]
theorem slice4 {a : Ad} (hv : a.v6 = false) : bitsA a = bitsTo a.lo.toNat 31 32 := by
 unfold bitsA
 rw [hv]
 simp only [Bool.false_eq_true, if_false]
 rw [List.drop_append, List.drop_of_length_le (by rw [zq2]; omega), List.nil_append, zq2]
 apply List.ext_getElem?
 intro j
 rw [List.getElem?_drop, bitsTo_get, bitsTo_get]
 by_cases hj : j < 32
 ·rw [if_pos (by omega), if_pos hj]
  congr 2
  omega
 ·rw [if_neg (by omega), if_neg hj]
def gsI (a : Ad) : List Int := (gsA a).map fun (g : Nat) => (g : Int)
theorem gsI_get (a : Ad) {i : Nat} (h : i < 8) : (gsI a)[i]? = some ((gI a i : Nat) : Int) := by
 unfold gsI
 rw [List.getElem?_map, gsA_get a h]
 rfl
theorem gsI_len (a : Ad) : (gsI a).length = 8 := by simp [gsI, gsA]
theorem fillG_loop {a : Ad} (hv : a.v6 = true) : loopN R_TextOf_L6 FUEL (((ofBytes (bitsA a), ()), (()), (0, ()), ()), (([0, 0, 0, 0, 0, 0, 0, 0] : List Int), ())) = some (((()), ()), (gsI a, ())) := by
 have hlen : lenS (ofBytes (bitsA a)) = 128 := by rw [lenB, bitsA_len, hv]; rfl
 have := loop_up (step := R_TextOf_L6) (fun i => (((ofBytes (bitsA a), ()), (()), ((i : Int), ()), ()), ((gsI a).take i ++ List.replicate (8 - i) 0, ()))) 8 (fun _ => some (((()), ()), (gsI a, ()))) (fun rec i hi hr => ?_) (fun rec => ?_) FUEL 0 (by omega) (fuel_gt (by omega))
 ·exact this
 ·have hl : ((gsI a).take i ++ List.replicate (8 - i) (0 : Int)).length = 8 := by rw [List.length_append, List.length_take, List.length_replicate, gsI_len]; omega
  have hget : ((gsI a).take i ++ List.replicate (8 - i) (0 : Int))[i]? = some 0 := by
   rw [List.getElem?_append_right (by rw [List.length_take, gsI_len]; omega), List.length_take, gsI_len, show i - min i 8 = 0 by omega]
   rw [show 8 - i = (7 - i) + 1 by omega]
   rfl
  have hsub : subS (ofBytes (bitsA a)) (16 * (i : Int)) (16 * (i : Int) + 16) = ofBytes (bitsTo (gI a i) 15 16) := by
   rw [show 16 * (i : Int) = ((16 * i : Nat) : Int) by omega, show ((16 * i : Nat) : Int) + 16 = ((16 * i + 16 : Nat) : Int) by omega, subB, slice6 hv hi]
  have hset : seti ((gsI a).take i ++ List.replicate (8 - i) (0 : Int)) (i : Int) ((gI a i : Nat) : Int) = (gsI a).take (i + 1) ++ List.replicate (8 - (i + 1)) 0 := by
   unfold seti
   have hlt : ((gsI a).take i).length = i := by rw [List.length_take, gsI_len]; omega
   rw [Int.toNat_natCast, List.set_append, if_neg (by rw [hlt]; omega), hlt, Nat.sub_self, show 8 - i = (8 - (i + 1)) + 1 by omega, List.replicate_succ, List.set_cons_zero, List.take_add_one, gsI_get a hi]
   simp
  simp only [R_TextOf_L6, hlen]
  rw [decide_eq_true (show (i : Int) < 8 by omega), br_true, req_of (i64ok_of (by omega) (by omega)), req_of (i64ok_of (by omega) (by omega)), req_of (i64ok_of (by omega) (by omega)), req_of (by rw [Bool.and_eq_true, Bool.and_eq_true, decide_eq_true_iff, decide_eq_true_iff, decide_eq_true_iff]; omega), hsub]
  have hn := numberOf_t (n := gI a i) (k := 16) (gI_lt a i) (by omega)
  rw [show 16 - 1 = 15 from rfl] at hn
  rw [hn, bind_s, hl, req_of (by rw [Bool.and_eq_true]; exact ⟨zq4 (by omega) (by omega), rfl⟩), geti_at hget, bind_s, req_of (i64ok_of (by omega) (by omega)), hset, show (i : Int) + 1 = ((i + 1 : Nat) : Int) by omega, hr]
 ·simp only [R_TextOf_L6]
  rw [decide_eq_false (show ¬ ((8 : Nat) : Int) < 8 by omega), br_false, List.take_of_length_le (by rw [gsI_len]; omega)]
  simp
theorem zrow_stop : ∀ {l : List Nat}, zrow l < l.length → l[zrow l]? ≠ some 0
 | [], h => by simp at h
 | g :: r, h => by
  unfold zrow at h ⊢
  by_cases hg : g = 0
  ·rw [if_pos hg] at h ⊢
   have := zrow_stop (l := r) (by simpa using h)
   simpa using this
  ·rw [if_neg hg]
   simp [hg]
theorem count_loop (a : Ad) (v0 v1 : Int) {f : Nat} (hf : f ≤ 8) : ∀ (N n : Nat), 8 - (f + n) < N → n ≤ zrow ((gsA a).drop f) →
  loopN R_TextOf_L14 N (((()), (v0, ()), (v1, ()), ((f : Int), ()), ((n : Int), ()), ()), (gsI a, ())) = some (((()), (v0, ()), (v1, ()), ((f : Int), ()), (((zrow ((gsA a).drop f) : Nat) : Int), ()), ()), (gsI a, ())) := by
 intro N
 induction N with
 | zero => intro n h; omega
 | succ N ih =>
  intro n hN hn
  have hz := zrow_le ((gsA a).drop f)
  rw [List.length_drop, gsA_len] at hz
  rw [zq7]
  simp only [R_TextOf_L14]
  rw [req_of (i64ok_of (by omega) (by omega))]
  by_cases h8 : f + n < 8
  ·rw [decide_eq_true (show (f : Int) + (n : Int) < 8 by omega), br_true, req_of (i64ok_of (by omega) (by omega)), gsI_len, req_of (by rw [Bool.and_eq_true]; exact ⟨zq4 (by omega) (by omega), rfl⟩), show (f : Int) + (n : Int) = ((f + n : Nat) : Int) by omega, geti_at (gsI_get a h8), bind_s, bind_s]
   by_cases hg : gI a (f + n) = 0
   ·have hlt : n < zrow ((gsA a).drop f) := by
     rcases Nat.lt_or_eq_of_le hn with h | h
     ·exact h
     ·exfalso
      refine zrow_stop (l := (gsA a).drop f) (by rw [List.length_drop, gsA_len]; omega) ?_
      rw [← h, List.getElem?_drop, gsA_get a h8, hg]
    rw [hg, decide_eq_true (by rfl), br_true, req_of (i64ok_of (by omega) (by omega)), show (n : Int) + 1 = ((n + 1 : Nat) : Int) by omega]
    exact ih (n + 1) (by omega) (by omega)
   ·have heq : n = zrow ((gsA a).drop f) := by
     rcases Nat.lt_or_eq_of_le hn with h | h
     ·exfalso
      have := zrow_zero h
      rw [List.getElem?_drop, gsA_get a h8] at this
      exact hg (Option.some.inj this)
     ·exact h
    rw [decide_eq_false (by omega), br_false, ← heq]
  ·have heq : n = zrow ((gsA a).drop f) := by omega
   rw [decide_eq_false (show ¬ (f : Int) + (n : Int) < 8 by omega), br_false, bind_s, br_false, ← heq]
theorem lngI_loop (a : Ad) : ∀ (N k i : Nat) (x : Int) (m : Nat), k < N → i + k = 8 →
  loopN R_TextOf_L11 N (((()), (x, ()), ((m : Int), ()), ((i : Int), ()), ()), (gsI a, ())) = some (((()), ((lngF (gsA a) k i (x, m)).1, ()), (((lngF (gsA a) k i (x, m)).2 : Int), ()), ()), (gsI a, ())) := by
 intro N
 induction N with
 | zero => intro k i x m h; omega
 | succ N ih =>
  intro k i x m hk hi
  rw [zq7]
  simp only [R_TextOf_L11]
  cases k with
  | zero =>
   rw [decide_eq_false (show ¬ (i : Int) < 8 by omega), br_false]
   rfl
  | succ k =>
   have hc := count_loop a x (m : Int) (f := i) (by omega) FUEL 0 (fuel_gt (by omega)) (by omega)
   rw [show ((0 : Nat) : Int) = 0 from rfl] at hc
   rw [decide_eq_true (show (i : Int) < 8 by omega), br_true, hc, bind_s]
   simp only []
   unfold lngF
   simp only
   by_cases hz : m < zrow ((gsA a).drop i)
   ·rw [decide_eq_true (show ((zrow ((gsA a).drop i) : Nat) : Int) > (m : Int) by omega), br_true, if_pos hz, req_of (i64ok_of (by omega) (by omega)), show (i : Int) + 1 = ((i + 1 : Nat) : Int) by omega]
    exact ih k (i + 1) _ _ (by omega) (by omega)
   ·rw [decide_eq_false (show ¬ ((zrow ((gsA a).drop i) : Nat) : Int) > (m : Int) by omega), br_false, if_neg hz, req_of (i64ok_of (by omega) (by omega)), show (i : Int) + 1 = ((i + 1 : Nat) : Int) by omega]
    exact ih k (i + 1) _ _ (by omega) (by omega)
def nextW (W : List UInt8) (g : Nat) : List UInt8 := (if W = [] ∨ W.getLast? = some 58 then W else W ++ [58]) ++ hex4 g
theorem text_step {a : Ad} {at_ m : Int} {W : List UInt8} (hW : W.length ≤ 1000) {i : Nat} (hi : i < 8) (hne : ¬ (i : Int) = at_) (rec : (((Unit) × (Int × Unit) × (Int × Unit) × (ByteArray × Unit) × (Int × Unit) × Unit) × (List Int × Unit)) → Option (((ByteArray × Unit) × Unit) × (Unit))) :
  R_TextOf_L20 rec (((()), (at_, ()), (m, ()), (ofBytes W, ()), ((i : Int), ()), ()), (gsI a, ())) = rec (((()), (at_, ()), (m, ()), (ofBytes (nextW W (gI a i)), ()), (((i + 1 : Nat) : Int), ()), ()), (gsI a, ())) := by
 have hg := gI_lt a i
 have hh := (hex4_read (gI a i) hg).2.2.1
 have ec : catS (ofBytes W) (⟨#[58]⟩ : ByteArray) = ofBytes (W ++ [58]) := catB W [58]
 simp only [R_TextOf_L20]
 rw [decide_eq_true (show (i : Int) < 8 by omega), br_true, decide_eq_false hne, br_false, strcmp_neq, empB, gsI_len]
 have hin : (inRange (i : Int) 8 && Nat.beq 8 8) = true := by rw [Bool.and_eq_true]; exact ⟨zq4 (by omega) (by omega), rfl⟩
 rw [hin, geti_at (gsI_get a hi)]
 simp only [req_true, bind_s, Digits_hex hg, ec, catB]
 rw [show (i : Int) + 1 = ((i + 1 : Nat) : Int) by omega]
 unfold nextW
 by_cases h0 : W = []
 ·rw [decide_eq_true (by rw [h0]), Bool.not_true, br_false, bind_s, br_false, if_pos (.inl h0), req_of (roomB _ (by simp; omega)), req_of (i64ok_of (by omega) (by omega))]
 ·rw [decide_eq_false (fun h => h0 (ofBytes_inj h)), Bool.not_false, br_true, lenB]
  have hpos : 0 < W.length := List.length_pos_iff.2 h0
  obtain ⟨b, hb⟩ : ∃ b, W[W.length - 1]? = some b := ⟨_, List.getElem?_eq_getElem (by omega)⟩
  have hlast : W.getLast? = some b := by rw [List.getLast?_eq_getElem?]; exact hb
  rw [req_of (i64ok_of (by omega) (by omega)), req_of (zq4 (by omega) (by omega)), show (W.length : Int) - 1 = ((W.length - 1 : Nat) : Int) by omega, get_byte hb, byte58, bind_s]
  by_cases h58 : b = 58
  ·rw [decide_eq_true h58, Bool.not_true, br_false, if_pos (.inr (by rw [hlast, h58])), req_of (roomB _ (by simp; omega)), req_of (i64ok_of (by omega) (by omega))]
  ·rw [decide_eq_false h58, Bool.not_false, br_true, if_neg (fun h => h.elim h0 (fun h => h58 (by rw [hlast] at h; exact Option.some.inj h))), req_of (roomB _ (by simp; omega)), req_of (roomB _ (by simp; omega)), req_of (i64ok_of (by omega) (by omega))]
def OpenT (P : List UInt8) : Prop := P = [] ∨ P.getLast? = some 58
theorem nextW_join {P : List UInt8} (hP : OpenT P) {Q : List Nat} (hQ : ∀ g ∈ Q, g < 65536) (g : Nat) : nextW (P ++ joinG Q) g = P ++ joinG (Q ++ [g]) := by
 rw [joinG_snoc]
 unfold nextW
 by_cases h0 : Q = []
 ·subst h0
  have hP' : P = [] ∨ P.getLast? = some 58 := hP
  rw [if_pos rfl, show joinG [] = [] from rfl, List.append_nil, if_pos hP']
 ·obtain ⟨l, b, hl, hb⟩ := joinG_last hQ h0
  rw [if_neg h0, if_neg, List.append_assoc, List.append_assoc]
  ·rfl
  ·rw [hl, ← List.append_assoc]
   rintro (h | h)
   ·simp at h
   ·rw [List.getLast?_append] at h
    simp at h
    exact hb h
theorem text_run {a : Ad} {at_ m : Int} {P : List UInt8} (hP : OpenT P) (hPl : P.length ≤ 100) (p : Nat) : ∀ (n i N : Nat), p ≤ i → i + n ≤ 8 → (∀ j, i ≤ j → j < i + n → ¬ (j : Int) = at_) →
  loopN R_TextOf_L20 (N + n) (((()), (at_, ()), (m, ()), (ofBytes (P ++ joinG (((gsA a).take i).drop p)), ()), ((i : Int), ()), ()), (gsI a, ())) = loopN R_TextOf_L20 N (((()), (at_, ()), (m, ()), (ofBytes (P ++ joinG (((gsA a).take (i + n)).drop p)), ()), (((i + n : Nat) : Int), ()), ()), (gsI a, ()))
 | 0, i, N, _, _, _ => rfl
 | n + 1, i, N, hp, hi, hne => by
  have hQ : ∀ g ∈ ((gsA a).take i).drop p, g < 65536 := fun g hg => gsA_lt a g (List.mem_of_mem_take (List.mem_of_mem_drop hg))
  have hl := joinG_len hQ
  have hl2 : (((gsA a).take i).drop p).length ≤ 8 := by rw [List.length_drop, List.length_take, gsA_len]; omega
  rw [show N + (n + 1) = (N + n) + 1 by omega, zq7, text_step (by rw [List.length_append]; omega) (by omega) (hne i (by omega) (by omega)), nextW_join hP hQ]
  have e : ((gsA a).take i).drop p ++ [gI a i] = ((gsA a).take (i + 1)).drop p := by
   rw [List.take_add_one, gsA_get a (by omega), List.drop_append_of_le_length (by rw [List.length_take, gsA_len]; omega)]
   rfl
  rw [e, text_run hP hPl p n (i + 1) N (by omega) (by omega) (fun j h1 h2 => hne j (by omega) (by omega)), show i + 1 + n = i + (n + 1) by omega]
theorem text_end {a : Ad} {at_ m : Int} {W : ByteArray} {N : Nat} : loopN R_TextOf_L20 (N + 1) (((()), (at_, ()), (m, ()), (W, ()), (((8 : Nat) : Int), ()), ()), (gsI a, ())) = some (((W, ()), ()), ()) := by
 rw [zq7]
 simp only [R_TextOf_L20]
 rw [decide_eq_false (show ¬ ((8 : Nat) : Int) < 8 by omega), br_false]
theorem fuel_split (k : Nat) (h : k < 1000) : ∃ K, FUEL = K + k := ⟨FUEL - k, by unfold FUEL; omega⟩
theorem text_loop {a : Ad} : loopN R_TextOf_L20 FUEL (((()), ((lngF (gsA a) 8 0 (-1, 1)).1, ()), (((lngF (gsA a) 8 0 (-1, 1)).2 : Int), ()), ((ByteArray.empty), ()), (0, ()), ()), (gsI a, ())) = some (((ofBytes (text16 a), ()), ()), ()) := by
 obtain ⟨t1, t2, t3, t4⟩ := lngF_two (gsA a) 8 0 0 (-1) 1 (by omega) (fun h => by omega)
 unfold text16
 unfold lngA
 by_cases h2 : (lngF (gsA a) 8 0 (0, 1)).2 < 2
 ·have e := (t3 (by omega)).2
  obtain ⟨K, hK⟩ := fuel_split 9 (by omega)
  have := text_run (a := a) (at_ := -1) (m := ((1 : Nat) : Int)) (P := []) (.inl rfl) (by simp) 0 8 0 (K + 1) (by omega) (by omega) (fun j _ _ => by omega)
  rw [text_end] at this
  rw [if_pos h2, e, hK]
  simp only [List.take_zero, List.drop_nil, List.drop_zero, List.nil_append] at this
  rw [show joinG [] = [] from rfl, List.take_of_length_le (by rw [gsA_len]; omega)] at this
  exact this
 ·obtain ⟨q, q1, q2, q3⟩ := lngF_at (gsA a) (gsA_len a) 8 0 0 1 (by omega) (by omega) (fun h => by omega) (by omega)
  rw [if_neg h2, ← t1, ← t4 (by omega), q1, Int.toNat_natCast]
  generalize (lngF (gsA a) 8 0 (0, 1)).2 = m at h2 q2 q3
  obtain ⟨K, hK⟩ := fuel_split (1 + (8 - (q + m)) + 1 + q) (by omega)
  have r1 := text_run (a := a) (at_ := (q : Int)) (m := (m : Int)) (P := []) (.inl rfl) (by simp) 0 q 0 (K + (1 + (8 - (q + m))) + 1) (by omega) (by omega) (fun j _ h => by omega)
  simp only [List.take_zero, List.drop_nil, List.drop_zero, List.nil_append, Nat.zero_add] at r1
  rw [show joinG [] = [] from rfl] at r1
  have hQ : ∀ g ∈ (gsA a).take q, g < 65536 := fun g hg => gsA_lt a g (List.mem_of_mem_take hg)
  have hl := joinG_len hQ
  have hl2 : ((gsA a).take q).length ≤ 8 := by rw [List.length_take, gsA_len]; omega
  have r2 : loopN R_TextOf_L20 (K + (1 + (8 - (q + m))) + 1) (((()), ((q : Int), ()), ((m : Int), ()), (ofBytes (joinG ((gsA a).take q)), ()), ((q : Int), ()), ()), (gsI a, ())) = loopN R_TextOf_L20 (K + (1 + (8 - (q + m)))) (((()), ((q : Int), ()), ((m : Int), ()), (ofBytes (joinG ((gsA a).take q) ++ [58, 58]), ()), (((q + m : Nat) : Int), ()), ()), (gsI a, ())) := by
   have ec : catS (ofBytes (joinG ((gsA a).take q))) (⟨#[58, 58]⟩ : ByteArray) = ofBytes (joinG ((gsA a).take q) ++ [58, 58]) := catB _ [58, 58]
   rw [zq7]
   simp only [R_TextOf_L20]
   rw [decide_eq_true (show (q : Int) < 8 by omega), br_true, show decide True = true from rfl, br_true, ec, req_of (roomB _ (by simp; omega)), req_of (i64ok_of (by omega) (by omega)), req_of (i64ok_of (by omega) (by omega)), req_of (i64ok_of (by omega) (by omega)), show (q : Int) + ((m : Int) - 1) + 1 = ((q + m : Nat) : Int) by omega]
  have hop : OpenT (joinG ((gsA a).take q) ++ [58, 58]) := .inr (by rw [List.getLast?_append]; rfl)
  have r3 := text_run (a := a) (at_ := (q : Int)) (m := (m : Int)) hop (by simp; omega) (q + m) (8 - (q + m)) (q + m) (K + 1) (by omega) (by omega) (fun j h1 h2 => by omega)
  rw [show q + m + (8 - (q + m)) = 8 by omega, text_end, List.drop_of_length_le (by rw [List.length_take]; omega), show joinG [] = [] from rfl, List.append_nil, show (gsA a).take 8 = gsA a from List.take_of_length_le (by rw [gsA_len]; omega)] at r3
  rw [hK, show K + (1 + (8 - (q + m)) + 1 + q) = K + (1 + (8 - (q + m))) + 1 + q by omega, empB]
  refine r1.trans (r2.trans ?_)
  rw [show K + (1 + (8 - (q + m))) = K + 1 + (8 - (q + m)) by omega]
  exact r3
theorem TextOf_16 {a : Ad} (h : a.In) (hv : a.v6 = true) : R_TextOf_t a = some (ofBytes (text16 a), ()) := by
 unfold R_TextOf_t
 rw [R_Bits_eq h, bind_s, hv, Bool.not_true, br_false, fillG_loop hv, bind_s]
 have hl := lngI_loop a FUEL 8 0 (-1) 1 (fuel_gt (by omega)) (by omega)
 rw [show ((0 : Nat) : Int) = 0 from rfl, show ((1 : Nat) : Int) = 1 from rfl] at hl
 rw [hl, bind_s]
 simp only []
 rw [text_loop, bind_s]
theorem TextOf_4 {a : Ad} (h : a.In) (hv : a.v6 = false) : R_TextOf_t a = some (ofBytes (text4 a.lo.toNat), ()) := by
 have hlen : lenS (ofBytes (bitsTo a.lo.toNat 31 32)) = 32 := by rw [lenB, zq2]; rfl
 have hs : ∀ i : Nat, i + 8 ≤ 32 → R_numberOf_t (subS (ofBytes (bitsTo a.lo.toNat 31 32)) (i : Int) ((i + 8 : Nat) : Int)) = some (((a.lo.toNat / 2 ^ (24 - i) % 256 : Nat) : Int), ()) := fun i hi => by
  rw [subB, bits_sub (n := a.lo.toNat) (top := 31) (c := 32) (i := i) (k := 8) hi (by omega), show 31 + 1 - i - 8 = 24 - i by omega]
  exact numberOf_t (n := a.lo.toNat / 2 ^ (24 - i) % 256) (k := 8) (Nat.mod_lt _ (by omega)) (by omega)
 have h0 := hs 0 (by omega)
 have h8 := hs 8 (by omega)
 have h16 := hs 16 (by omega)
 have h24 := hs 24 (by omega)
 have hd : ∀ n : Nat, n < 256 → R_Digits_t (n : Int) 10 = some (ofBytes (dec3 n), ()) := fun n hn => by rw [Digits_dec (by omega), dec3_eq _ (by omega)]
 have hl3 : ∀ n : Nat, n < 256 → (dec3 n).length ≤ 3 := fun n hn => (dec3_chars n (by omega)).2.1
 have b0 : a.lo.toNat / 2 ^ (24 - 0) % 256 < 256 := Nat.mod_lt _ (by omega)
 have b8 : a.lo.toNat / 2 ^ (24 - 8) % 256 < 256 := Nat.mod_lt _ (by omega)
 have b16 : a.lo.toNat / 2 ^ (24 - 16) % 256 < 256 := Nat.mod_lt _ (by omega)
 have b24 : a.lo.toNat / 2 ^ (24 - 24) % 256 < 256 := Nat.mod_lt _ (by omega)
 have e : text4 a.lo.toNat = dec3 (a.lo.toNat / 2 ^ (24 - 0) % 256) ++ [46] ++ dec3 (a.lo.toNat / 2 ^ (24 - 8) % 256) ++ [46] ++ dec3 (a.lo.toNat / 2 ^ (24 - 16) % 256) ++ [46] ++ dec3 (a.lo.toNat / 2 ^ (24 - 24) % 256) := by
  unfold text4
  rw [zq6, zq6, zq6, Lib.join_one]
  simp [Nat.div_one]
 unfold R_TextOf_t
 rw [R_Bits_eq h, bind_s, hv, Bool.not_false, br_true, slice4 hv]
 simp only [hlen]
 rw [e]
 generalize a.lo.toNat / 2 ^ (24 - 0) % 256 = n0 at *
 generalize a.lo.toNat / 2 ^ (24 - 8) % 256 = n1 at *
 generalize a.lo.toNat / 2 ^ (24 - 16) % 256 = n2 at *
 generalize a.lo.toNat / 2 ^ (24 - 24) % 256 = n3 at *
 have l0 := hl3 n0 b0
 have l1 := hl3 n1 b8
 have l2 := hl3 n2 b16
 have l3 := hl3 n3 b24
 have e46 : (⟨#[46]⟩ : ByteArray) = ofBytes [46] := rfl
 have h0 : R_numberOf_t (subS (ofBytes (bitsTo a.lo.toNat 31 32)) 0 8) = some ((n0 : Int), ()) := h0
 have h8 : R_numberOf_t (subS (ofBytes (bitsTo a.lo.toNat 31 32)) 8 16) = some ((n1 : Int), ()) := h8
 have h16 : R_numberOf_t (subS (ofBytes (bitsTo a.lo.toNat 31 32)) 16 24) = some ((n2 : Int), ()) := h16
 have h24 : R_numberOf_t (subS (ofBytes (bitsTo a.lo.toNat 31 32)) 24 32) = some ((n3 : Int), ()) := h24
 rw [req_of (by decide), h0, bind_s, hd n0 b0, bind_s, e46]
 simp only [catB]
 rw [req_of (roomB _ (by simp; omega)), req_of (by decide), h8, bind_s, hd n1 b8, bind_s]
 simp only [catB]
 rw [req_of (roomB _ (by simp; omega)), req_of (roomB _ (by simp; omega)), req_of (by decide), h16, bind_s, hd n2 b16, bind_s]
 simp only [catB]
 rw [req_of (roomB _ (by simp; omega)), req_of (roomB _ (by simp; omega)), req_of (by decide), h24, bind_s, hd n3 b24, bind_s]
 simp only [catB]
 rw [req_of (roomB _ (by simp; omega))]
theorem TextOf_t {a : Ad} (h : a.In) : R_TextOf_t a = some (ofBytes (textA a), ()) := by
 unfold textA
 cases hv : a.v6
 ·exact TextOf_4 h hv
 ·exact TextOf_16 h hv
end Go.Ma
namespace Go.Ma
open Go
end Go.Ma
namespace Go.Ma
open Go
end Go.Ma
namespace Go.Ma
open Go
end Go.Ma
namespace Go.Ma
open Go
end Go.Ma
namespace Go.Ma
open Go
end Go.Ma
namespace Go.Ma
open Go
end Go.Ma
namespace Go.Ma
open Go
end Go.Ma
namespace Go.Ma
open Go
end Go.Ma
namespace Go.Ma
open Go
end Go.Ma
namespace Go.Ma
open Go
end Go.Ma
namespace Go.Ma
open Go
structure Good (p : Pf) (m : List Ls) : Prop where
 ins : lsIn m
 chk : ∀ x ∈ m, chkLs x = 0
 held : ∀ x ∈ m, holds p x.ad = true
 asc : m.Pairwise fun x y => rank x.ad < rank y.ad
 whos : m.Pairwise fun x y => x.who ≠ y.who
structure Given (p : Pf) (kp : List Ad) (l : List Ls) (who : ByteArray) (now u : Int) (m : List Ls) (a : Ad) : Prop where
 good : Good p m
 alive : ∀ x ∈ m, now ≤ x.upto
 mine : (⟨a, who, u⟩ : Ls) ∈ m
 others : ∀ x ∈ l, now ≤ x.upto → x.who ≠ who → x ∈ m
 fresh : (∀ x ∈ l, now ≤ x.upto → x.who ≠ who) → ∀ x ∈ kp, x ≠ a
end Go.Ma
namespace Go.Ma
open Go
theorem state_within_eq (x a b : Int) : state_within_t x a b = some (betw x a b, ()) := by
 unfold state_within_t
 rw [br_ss, bind_s, betw_bif]
def extraO (o : Oq) : Bool :=
 bif (bif (bif (bif (bif !decide (o.kind = 1) then !(eqPf o.pf ⟨⟨false, 0, 0⟩, 0⟩) else false) then true else (bif !decide (o.kind = 2) then !(eqAd o.ad ⟨false, 0, 0⟩) else false))
  then true else (bif !decide (o.kind = 3) then (bif !decide (o.kind = 4) then strcmp .neq o.who ByteArray.empty else false) else false))
  then true else (bif !decide (o.kind = 3) then !decide (o.of_ = 0) else false))
  then true else (bif !decide (o.kind = 3) then (bif !decide (o.kind = 5) then !decide (o.n = 0) else false) else false)
def formO (o : Oq) : Int :=
 if betw o.kind 1 5 = false then 7 else if extraO o = true then 1
 else if o.kind = 1 then (if chkP o.pf ≠ 0 then chkP o.pf else if ((wid o.pf.ad.v6 : Nat) : Int) - o.pf.bits ≤ 4 then 0 else 2)
 else if o.kind = 2 then chkA o.ad
 else if o.kind < 5 ∧ whoOk o.who = false then 1
 else if o.kind = 3 ∧ (betw o.of_ 0 2 = false ∨ betw o.n 1 500 = false) then 3
 else if o.kind = 5 ∧ betw o.n 0 9999 = false then 3 else 0
theorem state_extra_eq (o : Oq) : state_extra_t o = some (extraO o, ()) := by
 unfold state_extra_t
 simp only [br_ss, bind_s]
 rfl
theorem state_Form_eq {o : Oq} (h : o.In) : state_Form_t o = some (formO o, ()) := by
 obtain ⟨_, hp, ha, hw, _, _⟩ := h
 unfold state_Form_t formO
 rw [state_within_eq, bind_s]
 cases hk : betw o.kind 1 5
 ·rfl
 obtain ⟨hk1, hk2⟩ := betw_iff.1 hk
 simp only [Bool.not_true, br_false, Bool.true_eq_false, if_false]
 rw [state_extra_eq, bind_s]
 cases extraO o
 rotate_left
 ·rfl
 simp only [br_false, Bool.false_eq_true, if_false]
 by_cases k1 : o.kind = 1
 ·rw [decide_eq_true k1, br_true, if_pos k1, prefix_Check_eq hp, bind_s]
  by_cases hc : chkP o.pf = 0
  ·simp only [hc, decide_true, Bool.not_true, br_false, ne_eq, not_true, if_false]
   rw [lease_Narrow_eq hc, bind_s]
   by_cases hn : ((wid o.pf.ad.v6 : Nat) : Int) - o.pf.bits ≤ 4 <;> simp [hn, br_true, br_false]
  ·simp [hc, br_true]
 rw [decide_eq_false k1, br_false, if_neg k1]
 by_cases k2 : o.kind = 2
 ·rw [decide_eq_true k2, br_true, if_pos k2, addr_Check_eq, bind_s]
 rw [decide_eq_false k2, br_false, if_neg k2]
 have who : ∀ (X : Bool → Option (Int × Unit)), ((lease_Who_t o.who).bind fun y => X y.1) = X (whoOk o.who) := fun X => by rw [lease_Who_eq hw, bind_s]
 by_cases k3 : o.kind = 3
 ·simp only [k3, decide_true, br_true, lease_Who_eq hw, bind_s, state_within_eq, br_ss]
  cases whoOk o.who <;> cases betw o.of_ 0 2 <;> cases betw o.n 1 500 <;> simp [br_true, br_false]
 ·simp only [k3, decide_false, br_false]
  by_cases k4 : o.kind = 4
  ·simp only [k4, lease_Who_eq hw, bind_s, state_within_eq, br_ss]
   cases whoOk o.who <;> simp [br_true, br_false]
  ·have k5 : o.kind = 5 := by omega
   simp only [k5, state_within_eq, bind_s]
   cases betw o.n 0 9999 <;> simp [br_true, br_false]
end Go.Ma
namespace Go.Ma
open Go
end Go.Ma
namespace Go.Ma
open Go
theorem R_CheckOp_eq {o : Oq} (h : o.In) : R_CheckOp_t o = some (formO o, ()) := by
 obtain ⟨_, hp, ha, hw, _, _⟩ := h
 unfold R_CheckOp_t formO
 rw [R_between_eq, bind_s]
 cases hk : betw o.kind 1 5
 ·rfl
 obtain ⟨hk1, hk2⟩ := betw_iff.1 hk
 simp only [Bool.not_true, br_false, Bool.true_eq_false, if_false, br_sb, bind_s]
 have e : ∀ a b : Option (Int × Unit), br (bif (bif (bif (bif (bif !decide (o.kind = 1) then !(eqPf o.pf ⟨⟨false, 0, 0⟩, 0⟩) else false) then true else (bif !decide (o.kind = 2) then !(eqAd o.ad ⟨false, 0, 0⟩) else false))
  then true else (bif !decide (o.kind = 3) then (bif !decide (o.kind = 4) then strcmp .neq o.who ByteArray.empty else false) else false))
  then true else (bif !decide (o.kind = 3) then !decide (o.of_ = 0) else false))
  then true else (bif !decide (o.kind = 3) then (bif !decide (o.kind = 5) then !decide (o.n = 0) else false) else false)) a b = br (extraO o) a b := fun _ _ => rfl
 rw [e]
 cases extraO o
 rotate_left
 ·rfl
 simp only [br_false, Bool.false_eq_true, if_false]
 by_cases k1 : o.kind = 1
 ·rw [decide_eq_true k1, br_true, if_pos k1, R_CheckPrefix_eq hp, bind_s]
  by_cases hc : chkP o.pf = 0
  ·simp only [hc, decide_true, br_true, ne_eq, not_true, if_false, R_IsNarrow_eq hc, bind_s]
   by_cases hn : ((wid o.pf.ad.v6 : Nat) : Int) - o.pf.bits ≤ 4 <;> simp [hn, br_true, br_false]
  ·simp only [hc, decide_false, br_false, bind_s, ne_eq, not_false_eq_true, if_true]
 rw [decide_eq_false k1, br_false, if_neg k1]
 by_cases k2 : o.kind = 2
 ·rw [decide_eq_true k2, br_true, if_pos k2, R_CheckAddr_eq ha, bind_s]
 rw [decide_eq_false k2, br_false, if_neg k2]
 by_cases k3 : o.kind = 3
 ·simp only [k3, decide_true, br_true, R_IsWho_eq hw, bind_s, R_between_eq, br_sb, show decide ((3 : Int) < 5) = true from rfl, show decide ((3 : Int) = 5) = false from rfl, br_false]
  cases whoOk o.who <;> cases betw o.of_ 0 2 <;> cases betw o.n 1 500 <;> simp [br_true, br_false]
 ·by_cases k4 : o.kind = 4
  ·simp only [k4, R_IsWho_eq hw, bind_s, show decide ((4 : Int) < 5) = true from rfl, show decide ((4 : Int) = 5) = false from rfl, show decide ((4 : Int) = 3) = false from rfl, br_false, br_true]
   cases whoOk o.who <;> simp [br_true, br_false]
  ·have k5 : o.kind = 5 := by omega
   simp only [k5, R_between_eq, bind_s, show decide ((5 : Int) < 5) = false from rfl, show decide ((5 : Int) = 5) = true from rfl, show decide ((5 : Int) = 3) = false from rfl, br_false, br_true]
   cases betw o.n 0 9999 <;> simp [br_true, br_false]
end Go.Ma
namespace Go.Ma
open Go
section
variable {α A R : Type}
end
def pfIn (l : List Pf) : Prop := ∀ p ∈ l, p.In ∧ chkP p = 0
def meets (p q : Pf) : Bool := over p q || over q p
end Go.Ma
namespace Go.Ma
open Go
end Go.Ma
namespace Go.Ma
open Go
def apartP (p q : Pf) : Prop := ordP p q < 0 ∧ meets p q = false
def kpIn (ks : List (List Ad)) : Prop := ∀ k ∈ ks, adIn k
end Go.Ma
namespace Go.Ma
open Go
end Go.Ma
namespace Go.Ma
open Go
structure StOk (ps : List Pf) (ks : List (List Ad)) (ls : List Ls) (now : Int) : Prop where
 pin : pfIn ps
 kin : kpIn ks
 lin : lsIn ls
 klen : ks.length = ps.length
 plen : ps.length ≤ 3
 pool : ∀ (i : Nat) (p : Pf), ps[i]? = some p → chkPool p (ks.getD i []) = 0
 pair : ps.Pairwise apartP
 time : betw now 0 9999 = true
 all : allC ls now = 0
 has : ∀ x ∈ ls, ∃ p ∈ ps, holds p x.ad = true
 upto : ∀ x ∈ ls, now ≤ x.upto
 who : ls.Pairwise fun x y => x.who ≠ y.who
end Go.Ma
namespace Go.Ma
open Go
section
variable {A R α : Type}
end
end Go.Ma
namespace Go.Ma
open Go
end Go.Ma
namespace Go.Ma
open Go
end Go.Ma
namespace Go.Ma
open Go
end Go.Ma
namespace Go.Ma
open Go
def sop1 : Oq := ⟨1, ⟨⟨false, 0, 8⟩, 30⟩, ⟨false, 0, 0⟩, ByteArray.empty, 0, 0⟩
def sop2 : Oq := ⟨2, ⟨⟨false, 0, 0⟩, 0⟩, ⟨false, 0, 8⟩, ByteArray.empty, 0, 0⟩
def sop3 : Oq := ⟨3, ⟨⟨false, 0, 0⟩, 0⟩, ⟨false, 0, 0⟩, ⟨#[120]⟩, 0, 10⟩
theorem noAd_in : (⟨false, 0, 0⟩ : Ad).In := ⟨⟨by decide, by decide⟩, by decide, by decide⟩
theorem noPf_in : (⟨⟨false, 0, 0⟩, 0⟩ : Pf).In := ⟨noAd_in, by decide, by decide⟩
theorem law_some_eq : law_some_t = some ([sop1, sop2, sop3], ()) := rfl
end Go.Ma
namespace Go.Ma
open Go
theorem decFrom_app : ∀ (l r : List UInt8) (acc : Nat), Lib.decFrom acc (l ++ r) = (Lib.decFrom acc l).bind fun m => Lib.decFrom m r
 | [], r, acc => rfl
 | b :: l, r, acc => by
  simp only [List.cons_append, Lib.decFrom]
  cases Lib.digitVal b with
  | none => rfl
  | some d => exact decFrom_app l r _
theorem digit_val (d : Nat) (h : d < 10) : Lib.digitVal (UInt8.ofNat (48 + d)) = some d := by
 have : ∀ d : Fin 10, Lib.digitVal (UInt8.ofNat (48 + d.val)) = some d.val := by decide
 exact this ⟨d, h⟩
theorem digit_big (d : Nat) (h : d < 10) : 48 ≤ (UInt8.ofNat (48 + d)).toNat ∧ (UInt8.ofNat (48 + d)).toNat ≤ 57 := by
 have : ∀ d : Fin 10, 48 ≤ (UInt8.ofNat (48 + d.val)).toNat ∧ (UInt8.ofNat (48 + d.val)).toNat ≤ 57 := by decide
 exact this ⟨d, h⟩
theorem decFrom_dec (u : Nat) : Lib.decFrom 0 (Lib.decDigits u) = some u := by
 induction u using Nat.strongRecOn with
 | ind u ih =>
  rw [Lib.decDigits]
  by_cases h : u < 10
  ·rw [dif_pos h]
   simp only [Lib.decFrom, digit_val u h, Nat.zero_mul, Nat.zero_add]
  ·rw [dif_neg h, decFrom_app, ih (u / 10) (by omega)]
   simp only [Option.bind_some, Lib.decFrom, digit_val (u % 10) (by omega)]
   congr 1
   omega
theorem dec_len : ∀ (k u : Nat), u < 10 ^ (k + 1) → (Lib.decDigits u).length ≤ k + 1
 | 0, u, h => by rw [Lib.decDigits, dif_pos (by simpa using h)]; simp
 | k + 1, u, h => by
  rw [Lib.decDigits]
  by_cases h1 : u < 10
  ·rw [dif_pos h1]; simp
  ·rw [dif_neg h1]
   have := dec_len k (u / 10) (by
    have : (10 : Nat) ^ (k + 1 + 1) = 10 ^ (k + 1) * 10 := by rw [Nat.pow_succ]
    omega)
   simp only [List.length_append, List.length_cons, List.length_nil]
   omega
theorem dec_chars (u : Nat) : ∀ c ∈ Lib.decDigits u, 48 ≤ c.toNat ∧ c.toNat ≤ 57 := by
 induction u using Nat.strongRecOn with
 | ind u ih =>
  rw [Lib.decDigits]
  by_cases h : u < 10
  ·rw [dif_pos h]
   intro c hc
   simp only [List.mem_singleton] at hc
   subst hc
   exact digit_big u h
  ·rw [dif_neg h]
   intro c hc
   rcases List.mem_append.1 hc with hc | hc
   ·exact ih (u / 10) (by omega) c hc
   ·simp only [List.mem_singleton] at hc
    subst hc
    exact digit_big (u % 10) (by omega)
theorem dec_no (u : Nat) (b : UInt8) (hb : b.toNat < 48) : b ∉ Lib.decDigits u := fun h => by
 have := (dec_chars u b h).1
 omega
theorem dec_ne (u : Nat) : ∃ b r, Lib.decDigits u = b :: r := by
 cases h : Lib.decDigits u with
 | cons b r => exact ⟨b, r, rfl⟩
 | nil =>
  rw [Lib.decDigits] at h
  split at h <;> simp at h
theorem atoi_dec (u : Nat) (h : u < 10000) : Lib.atoiAll (Lib.decDigits u) = .ok (u : Int) := by
 have hl := dec_len 3 u h
 rw [Lib.atoiAll_short _ (by omega)]
 have : Lib.atoi (Lib.decDigits u) = some (u : Int) := by
  obtain ⟨b, r, hb⟩ := dec_ne u
  have hc := dec_chars u b (by rw [hb]; simp)
  have hd := decFrom_dec u
  rw [hb] at hd ⊢
  have h1 : (b == 45) = false := beq_eq_false_iff_ne.2 fun e => by subst e; simp at hc
  have h2 : (b == 43) = false := beq_eq_false_iff_ne.2 fun e => by subst e; simp at hc
  simp only [Lib.atoi, h1, h2, Bool.false_eq_true, if_false, Lib.decNat, List.isEmpty_cons, hd, Option.map_some]
 rw [this]
 rfl
def Wd (l : List UInt8) : ByteArray := ⟨l.toArray⟩
theorem wd_list (l : List UInt8) : (Wd l).data.toList = l := by simp [Wd]
theorem wd_size (l : List UInt8) : (Wd l).size = l.length := by simp [Wd, ByteArray.size]
theorem itoa_any {u : Nat} (h : u < 1000000) : strconv_Itoa_t (u : Int) = some (Wd (Lib.decDigits u), ()) := by
 unfold strconv_Itoa_t
 rw [req_of (by rw [Bool.and_eq_true, decide_eq_true_iff, decide_eq_true_iff]; omega), Int.toNat_natCast]
 rfl
theorem digits_any {s : ByteArray} (hs : s.size ≤ 1073741824) : prefix_Digits_t s = some (digN s, digB s, ()) := by
 unfold prefix_Digits_t
 rw [req_of (Nat.ble_eq_true_of_le hs)]
theorem digN_in (s : ByteArray) : i64In (digN s) := by
 unfold digN
 cases h : Lib.atoiAll s.data.toList with
 | ok v =>
  obtain ⟨a, b⟩ := Lib.atoiAll_bounds h
  exact ⟨by show -9223372036854775808 ≤ v; omega, by show v < 9223372036854775808; omega⟩
 | range =>
  obtain ⟨a, b⟩ := Lib.atoiSat_bounds s.data.toList
  exact ⟨by show -9223372036854775808 ≤ Lib.atoiSat s.data.toList; omega, by show Lib.atoiSat s.data.toList < 9223372036854775808; omega⟩
 | _ => exact ⟨by show (-9223372036854775808 : Int) ≤ 0; omega, by show (0 : Int) < 9223372036854775808; omega⟩
theorem dig_back {u : Nat} (h : u < 10000) : digN (Wd (Lib.decDigits u)) = (u : Int) ∧ digB (Wd (Lib.decDigits u)) = true := by
 have hl := dec_len 3 u h
 constructor
 ·unfold digN
  rw [wd_list, atoi_dec u h]
 ·unfold digB
  rw [wd_list, atoi_dec u h]
  simp only
  rw [wd_size, decide_eq_true (show (0 : Int) ≤ (u : Int) by omega), decide_eq_true (show (Lib.decDigits u).length ≤ 4 by omega), Go.beq_toListBytes]
  simp [Wd]
theorem hex_no (g : Nat) (h : g < 65536) (b : UInt8) (hb : b.toNat < 48) : b ∉ hex4 g := fun hc => by
 have key : ∀ d : Nat, d < 16 → b ≠ hexD d := by
  have : ∀ d : Fin 16, 48 ≤ (hexD d.val).toNat := by decide
  intro d hd e
  have := this ⟨d, hd⟩
  rw [e] at hb
  simp only at this
  omega
 unfold hex4 at hc
 split at hc
 ·simp only [List.mem_singleton] at hc
  exact key _ (by omega) hc
 split at hc
 ·simp only [List.mem_cons, List.not_mem_nil, or_false] at hc
  rcases hc with hc | hc <;> exact key _ (by omega) hc
 split at hc
 ·simp only [List.mem_cons, List.not_mem_nil, or_false] at hc
  rcases hc with hc | hc | hc <;> exact key _ (by omega) hc
 ·simp only [List.mem_cons, List.not_mem_nil, or_false] at hc
  rcases hc with hc | hc | hc | hc <;> exact key _ (by omega) hc
theorem noB_join {gs : List Nat} (h : ∀ g ∈ gs, g < 65536) (b : UInt8) (hb : b.toNat < 48) : b ∉ joinG gs := fun hc => by
 unfold joinG at hc
 rcases join_mem 58 b _ hc with ⟨x, hx, h2⟩ | ⟨e, _⟩
 ·obtain ⟨g, hg, rfl⟩ := List.mem_map.1 hx
  exact hex_no g (h g hg) b hb h2
 ·subst e; simp at hb
theorem noB_six {a : Ad} {T : List UInt8} (h : Six a T) (b : UInt8) (hb : b.toNat < 48) : b ∉ T := by
 rcases h with rfl | ⟨x, m, _, _, rfl⟩
 ·exact noB_join (gsA_lt a) b hb
 ·intro hc
  rcases List.mem_append.1 hc with hc | hc
  ·rcases List.mem_append.1 hc with hc | hc
   ·exact noB_join (fun g hg => gsA_lt a g (List.mem_of_mem_take hg)) b hb hc
   ·simp only [List.mem_cons, List.not_mem_nil, or_false] at hc
    rcases hc with hc | hc <;> (subst hc; simp at hb)
  ·exact noB_join (fun g hg => gsA_lt a g (List.mem_of_mem_drop hg)) b hb hc
theorem noB_dec3 (n : Nat) (h : n < 1000) (b : UInt8) (hb : b.toNat < 46) : b ∉ dec3 n := fun hc => by
 rw [← dec3_eq n h] at hc
 have := (dec_chars n b hc).1
 omega
theorem noB_four (n : Nat) (b : UInt8) (hb : b.toNat < 46) : b ∉ text4 n := fun hc => by
 unfold text4 at hc
 rcases join_mem 46 b _ hc with ⟨x, hx, h2⟩ | ⟨e, _⟩
 ·simp only [List.mem_cons, List.not_mem_nil, or_false] at hx
  rcases hx with rfl | rfl | rfl | rfl <;> exact noB_dec3 _ (by omega) b hb h2
 ·subst e; simp at hb
theorem noT_four (n : Nat) : (47 : UInt8) ∉ text4 n := fun hc => by
 unfold text4 at hc
 rcases join_mem 46 47 _ hc with ⟨x, hx, h2⟩ | ⟨e, _⟩
 ·simp only [List.mem_cons, List.not_mem_nil, or_false] at hx
  rcases hx with rfl | rfl | rfl | rfl <;> exact ((dec3_chars _ (by omega)).2.2 _ h2).2.2 rfl
 ·exact absurd e (by decide)
theorem text_backW {a : Ad} (h : a.wf) (hc : chkA a = 0) : ∃ T : List UInt8, addr_Text_t a = some (Wd T, ()) ∧ addr_Parse_t (Wd T) = some (a, 0, ()) ∧ T.length ≤ 39 ∧ (47 : UInt8) ∉ T ∧ (32 : UInt8) ∉ T := by
 obtain ⟨T, t1, t2, t3⟩ := text_back h hc
 refine ⟨T, t1, ?_, t3, ?_⟩
 ·rw [addr_Parse_eq (by rw [wd_size]; omega)]
  unfold parseA
  rw [show (Wd T) = (⟨T.toArray⟩ : ByteArray) from rfl, t2]
 ·cases hv : a.v6
  ·have e := text_v4 h hv
   rw [t1] at e
   simp only [Option.some.injEq, Prod.mk.injEq, and_true] at e
   have e2 : T = text4 a.lo.toNat := by
    have := congrArg (fun s : ByteArray => s.data.toList) e
    simpa using this
   rw [e2]
   exact ⟨noT_four _, noB_four _ _ (by decide)⟩
  ·obtain ⟨T', e, h6⟩ := text6 h hv
   rw [t1] at e
   simp only [Option.some.injEq, Prod.mk.injEq, and_true] at e
   have e2 : T = T' := by
    have := congrArg (fun s : ByteArray => s.data.toList) e
    simpa using this
   rw [e2]
   exact ⟨noB_six h6 _ (by decide), noB_six h6 _ (by decide)⟩
theorem cut_at47 {T D : List UInt8} (hT : (47 : UInt8) ∉ T) (hl : T.length + D.length < 1000000000) : strings_Cut_t (Wd (T ++ 47 :: D)) (⟨#[47]⟩ : ByteArray) = some (Wd T, Wd D, true, ()) := by
 have hi : zq5 (Wd (T ++ 47 :: D)) (⟨#[47]⟩ : ByteArray) = some ((T.length : Int), ()) := by
  unfold zq5
  show some (Lib.indexByte (Wd (T ++ 47 :: D)).data.toList 47, ()) = _
  rw [wd_list, byte_first T D 47 hT]
 have hS : lenS (Wd (T ++ 47 :: D)) = (T.length : Int) + 1 + (D.length : Int) := by
  unfold lenS
  rw [wd_size]
  simp
  omega
 have h1 : lenS (⟨#[47]⟩ : ByteArray) = 1 := rfl
 have c1 : (true && decide ((T.length : Int) ≤ (T.length : Int) + 1 + (D.length : Int))) = true := by simp; omega
 have c2 : ((decide (0 ≤ (T.length : Int) + 1) && decide ((T.length : Int) + 1 ≤ (T.length : Int) + 1 + (D.length : Int))) && decide ((T.length : Int) + 1 + (D.length : Int) ≤ (T.length : Int) + 1 + (D.length : Int))) = true := by simp; omega
 unfold strings_Cut_t internal_stringslite_Cut_t
 rw [hi, bind_s, hS, h1]
 simp only
 rw [decide_eq_true (show (T.length : Int) ≥ 0 by omega), br_true, req_of c1, req_of (i64ok_of (by omega) (by omega)), req_of c2, bind_s]
 have e1 : subS (Wd (T ++ 47 :: D)) 0 (T.length : Int) = Wd T := by
  apply ByteArray.ext
  simp [subS, Wd, ByteArray.data_extract]
 have e2 : subS (Wd (T ++ 47 :: D)) ((T.length : Int) + 1) ((T.length : Int) + 1 + (D.length : Int)) = Wd D := by
  apply ByteArray.ext
  have q1 : ((T.length : Int) + 1).toNat = T.length + 1 := by omega
  have q2 : ((T.length : Int) + 1 + (D.length : Int)).toNat = T.length + 1 + D.length := by omega
  simp only [subS, Wd, ByteArray.data_extract, q1, q2]
  apply Array.ext'
  simp
 rw [e1, e2]
theorem prefix_back {p : Pf} (hp : p.In) (hc : chkP p = 0) : ∃ T : List UInt8, prefix_Text_t p = some (Wd T, ()) ∧ prefix_Parse_t (Wd T) = some (p, 0, ()) ∧ T.length ≤ 50 ∧ (32 : UInt8) ∉ T := by
 obtain ⟨T, t1, t2, t3, t4, t5⟩ := text_backW hp.1.wf (chkP_ad hc)
 obtain ⟨b0, b1⟩ := chkP_bits hc
 have hw := wid_le p.ad.v6
 obtain ⟨n, hn⟩ : ∃ n : Nat, p.bits = (n : Int) := ⟨p.bits.toNat, by omega⟩
 have hn2 : n < 10000 := by omega
 have d2 := dec_len 3 n hn2
 obtain ⟨g1, g2⟩ := dig_back hn2
 refine ⟨T ++ 47 :: Lib.decDigits n, ?_, ?_, ?_, ?_⟩
 ·unfold prefix_Text_t
  rw [t1, bind_s, hn]
  have ec : catS (Wd T) (⟨#[47]⟩ : ByteArray) = Wd (T ++ [47]) := cat_lists T [47]
  simp only [ec]
  rw [req_of (show roomS (Wd (T ++ [47])) = true from room_list (T ++ [47]) (by simp; omega)), itoa_any (by omega), bind_s]
  simp only [Wd, cat_lists]
  rw [req_of (room_list _ (by simp; omega)), List.append_assoc]
  rfl
 ·unfold prefix_Parse_t
  rw [cut_at47 t4 (by omega), bind_s]
  simp only
  rw [t2, bind_s, digits_any (by rw [wd_size]; omega), bind_s, g1, g2]
  have e : (⟨p.ad, (n : Int)⟩ : Pf) = p := by rw [← hn]
  simp only [decide_true, Bool.not_true, br_false, bind_s, e, prefix_Check_eq hp, hc]
 ·simp
  omega
 ·intro h
  rcases List.mem_append.1 h with h | h
  ·exact t5 h
  ·rcases List.mem_cons.1 h with h | h
   ·exact absurd h (by decide)
   ·exact dec_no n 32 (by decide) h
end Go.Ma
namespace Go.Ma
open Go
structure Bk where
 v : Bool
 f : Nat
 k : Nat
 deriving DecidableEq
def Bk.lo (b : Bk) : Nat := b.k * 2 ^ b.f
def Bk.hi (b : Bk) : Nat := (b.k + 1) * 2 ^ b.f
def Bk.has (b : Bk) (v : Bool) (n : Nat) : Prop := b.v = v ∧ b.lo ≤ n ∧ n < b.hi
def covB (l : List Bk) (v : Bool) (n : Nat) : Prop := ∃ b ∈ l, b.has v n
def sib (a b : Bk) : Prop := a.v = b.v ∧ a.f = b.f ∧ a.k % 2 = 0 ∧ b.k = a.k + 1
def befB (a b : Bk) : Prop := (a.v = false ∧ b.v = true) ∨ (a.v = b.v ∧ a.hi ≤ b.lo)
structure NormB (l : List Bk) : Prop where
 asc : l.Pairwise befB
 nos : ∀ a ∈ l, ∀ b ∈ l, ¬ sib a b
end Go.Ma
namespace Go.Ma
open Go
instance (a b : Bk) : Decidable (sib a b) := by unfold sib; exact inferInstance
structure StkB (rs : List Bk) : Prop where
 asc : rs.Pairwise fun a b => befB b a
 nos : ∀ a ∈ rs, ∀ b ∈ rs, ¬ sib a b
structure ShB (done rs : List Bk) : Prop where
 stk : StkB rs
 cov : ∀ v n, covB rs v n ↔ covB done v n
 low : ∀ t ∈ rs, ∃ q ∈ done, q.v = t.v ∧ q.lo = t.lo ∧ q.f ≤ t.f
end Go.Ma
namespace Go.Ma
open Go
end Go.Ma
namespace Go.Ma
open Go
theorem wid_top (v : Bool) : wid v ≤ 128 := by cases v <;> decide
end Go.Ma
namespace Go.Ma
open Go
end Go.Ma
namespace Go.Ma
open Go
end Go.Ma
namespace Go.Ma
open Go
def numR (l : List UInt8) : Option Nat := if 1 ≤ l.length ∧ l.length ≤ 4 then Lib.decFrom 0 l else none
theorem decFrom_lt : ∀ (l : List UInt8) (a n : Nat), Lib.decFrom a l = some n → n < (a + 1) * 10 ^ l.length
 | [], a, n, h => by
  simp only [Lib.decFrom, Option.some.injEq] at h
  subst h
  simp
 | c :: r, a, n, h => by
  rw [Lib.decFrom] at h
  cases hc : Lib.digitVal c with
  | none => rw [hc] at h; cases h
  | some d =>
   rw [hc] at h
   have h1 := decFrom_lt r _ n h
   have hd := (digitVal_some hc).1
   have : (a * 10 + d + 1) * 10 ^ r.length ≤ (a + 1) * 10 ^ (c :: r).length := by
    rw [List.length_cons, Nat.pow_succ, Nat.mul_comm (10 ^ r.length) 10, ← Nat.mul_assoc]
    exact Nat.mul_le_mul_right _ (by omega)
   omega
theorem numR_lt {l : List UInt8} {n : Nat} (h : numR l = some n) : n < 10000 := by
 unfold numR at h
 split at h
 ·rename_i hl
  have h1 := decFrom_lt l 0 n h
  have : 10 ^ l.length ≤ 10 ^ 4 := Nat.pow_le_pow_right (by omega) hl.2
  omega
 ·cases h
def numA (l : List UInt8) : Int × Bool × Unit := match numR l with | some n => ((n : Int), decide (Lib.decDigits n = l), ()) | none => (0, false, ())
theorem number_loop (s : ByteArray) (hs : s.size ≤ 4) : ∀ (N i a : Nat), s.size - i < N → i ≤ s.size → a < 10 ^ i →
  loopN R_NumberOf_L5 N (((s, ()), ((a : Int), ()), ((i : Int), ()), ()), ()) = some (match Lib.decFrom a (s.data.toList.drop i) with | some n => Sum.inr (((s, ()), ((n : Int), ()), ()), ()) | none => Sum.inl (((0, ()), (false, ()), ()), ())) := by
 intro N
 induction N with
 | zero => intro i a h; omega
 | succ N ih =>
  intro i a hN hi ha
  have hp : 10 ^ i ≤ 10 ^ 4 := Nat.pow_le_pow_right (by omega) (by omega)
  rw [zq7]
  simp only [R_NumberOf_L5]
  by_cases h : i = s.size
  ·rw [decide_eq_false (show ¬ (i : Int) < lenS s by unfold lenS; omega), br_false, List.drop_of_length_le (by rw [data_len]; omega)]
   rfl
  ·obtain ⟨b, hb⟩ : ∃ b, s.data.toList[i]? = some b := ⟨_, List.getElem?_eq_getElem (by rw [data_len]; omega)⟩
   have hin : inRange (i : Int) (lenS s) = true := zq4 (by omega) (by unfold lenS; omega)
   have hbl := b.toNat_lt
   have hpw : 10 ^ (i + 1) = 10 * 10 ^ i := by rw [Nat.pow_succ, Nat.mul_comm]
   rw [decide_eq_true (show (i : Int) < lenS s by unfold lenS; omega), br_true, hin, req_true, req_true, byteAt_eq hb, conv_byte, drop_cons hb, R_between_eq, bind_s, Lib.decFrom]
   unfold Lib.digitVal
   by_cases h1 : 48 ≤ b.toNat ∧ b.toNat ≤ 57
   ·rw [if_pos h1]
    simp only [show betw (b.toNat : Int) 48 57 = true from betw_iff.2 ⟨by omega, by omega⟩, Bool.not_true, br_false]
    rw [req_of (i64ok_of (by omega) (by omega)), req_of (i64ok_of (by omega) (by omega)), req_of (i64ok_of (by omega) (by omega)), req_of (i64ok_of (by omega) (by omega))]
    rw [show 10 * (a : Int) + (b.toNat : Int) - 48 = ((a * 10 + (b.toNat - 48) : Nat) : Int) by omega, show (i : Int) + 1 = ((i + 1 : Nat) : Int) by omega]
    exact ih (i + 1) _ (by omega) (by omega) (by omega)
   ·rw [if_neg h1]
    simp only [show betw (b.toNat : Int) 48 57 = false from Bool.eq_false_iff.2 fun hh => h1 (by have := betw_iff.1 hh; omega), Bool.not_false, br_true]
theorem NumberOf_t (s : ByteArray) : R_NumberOf_t s = some (numA s.data.toList) := by
 unfold R_NumberOf_t numA numR
 rw [R_between_eq, bind_s, data_len]
 by_cases h : 1 ≤ s.size ∧ s.size ≤ 4
 ·rw [if_pos h]
  have hb : betw (lenS s) 1 4 = true := betw_iff.2 ⟨by unfold lenS; omega, by unfold lenS; omega⟩
  have := number_loop s h.2 FUEL 0 0 (fuel_gt (by omega)) (by omega) (by decide)
  rw [List.drop_zero] at this
  simp only [hb, Bool.not_true, br_false]
  rw [show (0 : Int) = ((0 : Nat) : Int) from rfl, this, bind_s]
  cases hF : Lib.decFrom 0 s.data.toList with
  | none => rfl
  | some n =>
   have hn := decFrom_lt _ _ _ hF
   rw [data_len] at hn
   have hp : 10 ^ s.size ≤ 10 ^ 4 := Nat.pow_le_pow_right (by omega) h.2
   simp only [sumC]
   rw [Digits_dec (by omega), bind_s, strcmp_eql]
   have : decide (ofBytes (Lib.decDigits n) = s) = decide (Lib.decDigits n = s.data.toList) := by
    refine decide_eq_decide.2 ⟨fun h => by rw [← h, zq8], fun h => by rw [h, ofBytes_data]⟩
   rw [this]
 ·rw [if_neg h]
  have hb : betw (lenS s) 1 4 = false := Bool.eq_false_iff.2 fun hh => h (by have := betw_iff.1 hh; unfold lenS at this; omega)
  simp only [hb, Bool.not_false, br_true]
theorem atoi_from {l : List UInt8} {n : Nat} (h1 : 1 ≤ l.length) (h4 : l.length ≤ 4) (h : Lib.decFrom 0 l = some n) : Lib.atoiAll l = .ok (n : Int) := by
 rw [Lib.atoiAll_short _ (by omega)]
 have : Lib.atoi l = some (n : Int) := by
  cases l with
  | nil => simp at h1
  | cons b r =>
   have hb : 48 ≤ b.toNat := by
    rw [Lib.decFrom] at h
    cases hd : Lib.digitVal b with
    | none => rw [hd] at h; cases h
    | some d =>
     have := (digitVal_some hd).2.2
     omega
   have e1 : (b == 45) = false := beq_eq_false_iff_ne.2 fun e => by subst e; simp at hb
   have e2 : (b == 43) = false := beq_eq_false_iff_ne.2 fun e => by subst e; simp at hb
   simp only [Lib.atoi, e1, e2, Bool.false_eq_true, if_false, Lib.decNat, List.isEmpty_cons, h, Option.map_some]
 rw [this]
 rfl
theorem list_eq (s : ByteArray) (l : List UInt8) : ((⟨l.toArray⟩ : ByteArray) == s) = decide (l = s.data.toList) := by
 rw [Go.beq_toListBytes, Bool.eq_iff_iff, beq_iff_eq, decide_eq_true_iff]
 have e1 : (⟨l.toArray⟩ : ByteArray).toList = l := by rw [toList_data]
 rw [e1, toList_data]
theorem digits_num (s : ByteArray) : digB s = (numA s.data.toList).2.1 ∧ (digB s = true → digN s = (numA s.data.toList).1) := by
 have hl : s.data.toList.length = s.size := data_len s
 unfold numA numR digB digN
 rw [hl]
 by_cases h : 1 ≤ s.size ∧ s.size ≤ 4
 ·rw [if_pos h]
  cases hF : Lib.decFrom 0 s.data.toList with
  | some n =>
   rw [atoi_from (by omega) (by omega) hF]
   simp only [list_eq, Int.toNat_natCast]
   rw [decide_eq_true (show (0 : Int) ≤ (n : Int) by omega), decide_eq_true h.2]
   exact ⟨by simp, fun _ => by first | rfl | trivial⟩
  | none =>
   have key : ∀ v : Int, Lib.atoiAll s.data.toList = .ok v → ((decide (0 ≤ v) && (decide (s.size ≤ 4) && ((⟨(Lib.decDigits v.toNat).toArray⟩ : ByteArray) == s))) = false) := fun v _ => by
    rw [Bool.eq_false_iff]
    intro hh
    simp only [list_eq, Bool.and_eq_true, decide_eq_true_iff] at hh
    have := decFrom_dec v.toNat
    rw [hh.2.2, hF] at this
    cases this
   cases ha : Lib.atoiAll s.data.toList with
   | ok v =>
    have := key v ha
    simp only [this]
    exact ⟨trivial, fun h => (by cases h)⟩
   | _ => exact ⟨by first | rfl | trivial, fun h => (by cases h)⟩
 ·rw [if_neg h]
  cases ha : Lib.atoiAll s.data.toList with
  | ok v =>
   have : (decide (0 ≤ v) && (decide (s.size ≤ 4) && ((⟨(Lib.decDigits v.toNat).toArray⟩ : ByteArray) == s))) = false := by
    rw [Bool.eq_false_iff]
    intro hh
    simp only [list_eq, Bool.and_eq_true, decide_eq_true_iff] at hh
    obtain ⟨b, r, hb⟩ := dec_ne v.toNat
    rw [hh.2.2] at hb
    have : 1 ≤ s.size := by rw [← hl, hb]; simp
    omega
   simp only [this]
   exact ⟨trivial, fun h => (by cases h)⟩
  | _ => exact ⟨by first | rfl | trivial, fun h => (by cases h)⟩
def textP (p : Pf) : List UInt8 := textA p.ad ++ 47 :: Lib.decDigits p.bits.toNat
theorem textA_len {a : Ad} (h : a.wf) (hc : chkA a = 0) : (textA a).length ≤ 39 := by
 obtain ⟨T, t1, _, t3⟩ := text_back h hc
 have := Text_A h
 rw [t1] at this
 have e : ofBytes T = ofBytes (textA a) := by
  injection this with this
  injection this
 rw [← ofBytes_inj e]
 exact t3
theorem prefix_Text_P {p : Pf} (hp : p.In) (hc : chkP p = 0) : prefix_Text_t p = some (ofBytes (textP p), ()) := by
 obtain ⟨b0, b1⟩ := chkP_bits hc
 have hw := wid_top p.ad.v6
 obtain ⟨n, hn⟩ : ∃ n : Nat, p.bits = (n : Int) := ⟨p.bits.toNat, by omega⟩
 have hl := textA_len hp.1.wf (chkP_ad hc)
 have hd := dec_len 3 n (by omega)
 unfold prefix_Text_t textP
 rw [Text_A hp.1.wf, bind_s, hn]
 have ec : catS (ofBytes (textA p.ad)) (⟨#[47]⟩ : ByteArray) = ofBytes (textA p.ad ++ [47]) := catB _ [47]
 simp only [ec]
 rw [req_of (roomB _ (by simp; omega)), itoa_any (by omega), bind_s]
 simp only [show Wd (Lib.decDigits n) = ofBytes (Lib.decDigits n) from rfl, catB, Int.toNat_natCast]
 rw [req_of (roomB _ (by simp; omega)), List.append_assoc]
 rfl
theorem PrefixText_t {p : Pf} (hp : p.In) (hc : chkP p = 0) : R_PrefixText_t p = some (ofBytes (textP p), ()) := by
 obtain ⟨b0, b1⟩ := chkP_bits hc
 have hw := wid_top p.ad.v6
 obtain ⟨n, hn⟩ : ∃ n : Nat, p.bits = (n : Int) := ⟨p.bits.toNat, by omega⟩
 have hl := textA_len hp.1.wf (chkP_ad hc)
 have hd := dec_len 3 n (by omega)
 unfold R_PrefixText_t textP
 rw [TextOf_t hp.1, bind_s, hn]
 have ec : catS (ofBytes (textA p.ad)) (⟨#[47]⟩ : ByteArray) = ofBytes (textA p.ad ++ [47]) := catB _ [47]
 simp only [ec]
 rw [req_of (roomB _ (by simp; omega)), Digits_dec (by omega), bind_s]
 simp only [catB, Int.toNat_natCast]
 rw [req_of (roomB _ (by simp; omega)), List.append_assoc]
 rfl
def pz : Pf := ⟨⟨false, 0, 0⟩, 0⟩
def pfx2 (x y : List UInt8) : Pf × Int × Unit := match toldF (ofBytes x), numA y with
 | some a, (n, true, _) => if chkP ⟨a, n⟩ = 0 then (⟨a, n⟩, 0, ()) else (pz, chkP ⟨a, n⟩, ())
 | _, _ => (pz, 1, ())
def pfxA (l : List UInt8) : Pf × Int × Unit := match splL 47 [] l with
 | [x, y] => pfx2 x y
 | _ => (pz, 1, ())
theorem numA_in (l : List UInt8) : i64In (numA l).1 := by
 unfold numA
 cases h : numR l with
 | none => exact ⟨by show (-9223372036854775808 : Int) ≤ 0; omega, by show (0 : Int) < 9223372036854775808; omega⟩
 | some n =>
  have := numR_lt h
  exact ⟨by show -9223372036854775808 ≤ (n : Int); omega, by show (n : Int) < 9223372036854775808; omega⟩
theorem told_in {s : ByteArray} {a : Ad} (h : toldF s = some a) : a.In := by
 obtain ⟨h1, h2, h3, h4⟩ := (toldF_right h).1
 exact ⟨⟨h1, h2⟩, h3, h4⟩
theorem PrefixOf_t (s : ByteArray) (hs : s.size ≤ 1048576) : R_PrefixOf_t s = some (pfxA s.data.toList) := by
 have hsp := splitAt_t 47 s hs
 rw [show ((47 : UInt8).toNat : Int) = 47 from rfl] at hsp
 unfold R_PrefixOf_t pfxA
 rw [hsp, bind_s]
 have hsz : ∀ x ∈ splL 47 [] s.data.toList, x.length ≤ 1048576 := fun x hx => by
  have := splL_size 47 s.data.toList [] x hx
  rw [data_len] at this
  simp at this
  omega
 generalize splL 47 [] s.data.toList = l at hsz
 have hlen : decide (lenL (l.map ofBytes) = 2) = decide (l.length = 2) := decide_eq_decide.2 (by unfold lenL; rw [List.length_map]; omega)
 simp only [hlen]
 match l, hsz with
 | [], _ => rfl
 | [x], _ => rfl
 | x :: y :: z :: r, _ =>
  rw [decide_eq_false (by simp), Bool.not_false, br_true]
  rfl
 | [x, y], hsz =>
  have hx := hsz x (by simp)
  rw [decide_eq_true (by rfl), Bool.not_true, br_false]
  have e2 : lenL (List.map ofBytes [x, y]) = 2 := rfl
  have g0 : geti (List.map ofBytes [x, y]) 0 = some (ofBytes x) := rfl
  have g1 : geti (List.map ofBytes [x, y]) 1 = some (ofBytes y) := rfl
  rw [e2, req_of (by decide), g0, bind_s, ParseOf_t _ (by rw [ofBytes_size]; exact hx), bind_s, req_of (by decide), g1, bind_s, NumberOf_t, bind_s, zq8]
  simp only
  unfold pfx2 parsA
  cases ht : toldF (ofBytes x) with
  | none =>
   simp only [Bool.not_false, br_true, bind_s]
   rfl
  | some a =>
   have hn := numA_in y
   rcases hq : numA y with ⟨n, b, u⟩
   rw [hq] at hn
   simp only [Bool.not_true, br_false, bind_s]
   cases b
   ·simp only [Bool.not_false, br_true]
    rfl
   ·have hp : (⟨a, n⟩ : Pf).In := ⟨told_in ht, hn.1, hn.2⟩
    simp only [Bool.not_true, br_false, R_CheckPrefix_eq hp, bind_s]
    by_cases h0 : chkP ⟨a, n⟩ = 0
    ·rw [if_pos h0, h0]
     rfl
    ·rw [if_neg h0, decide_eq_false h0]
     rfl
theorem first47 : ∀ {l : List UInt8}, (47 : UInt8) ∈ l → ∃ x y, l = x ++ 47 :: y ∧ (47 : UInt8) ∉ x
 | [], h => by simp at h
 | c :: r, h => by
  by_cases hc : c = 47
  ·subst hc
   exact ⟨[], r, rfl, by simp⟩
  ·have : (47 : UInt8) ∈ r := by
    rcases List.mem_cons.1 h with h | h
    ·exact absurd h.symm hc
    ·exact h
   obtain ⟨x, y, rfl, hx⟩ := first47 this
   refine ⟨c :: x, y, rfl, ?_⟩
   intro hm
   rcases List.mem_cons.1 hm with hm | hm
   ·exact hc hm.symm
   ·exact hx hm
theorem splL_first (c : UInt8) : ∀ (x w y : List UInt8), c ∉ x → splL c w (x ++ c :: y) = (w ++ x) :: splL c [] y
 | [], w, y, _ => by rw [List.nil_append, splL_hit, List.append_nil]
 | a :: x, w, y, h => by
  have h1 : a ≠ c := fun e => h (by simp [e])
  rw [List.cons_append, splL_miss h1, splL_first c x _ y (fun e => h (by simp [e])), List.append_assoc]
  rfl
theorem cut_none47 {s : ByteArray} (h : (47 : UInt8) ∉ s.data.toList) : strings_Cut_t s (⟨#[47]⟩ : ByteArray) = some (s, ByteArray.empty, false, ()) := by
 have hi : zq5 s (⟨#[47]⟩ : ByteArray) = some (Lib.indexByte s.data.toList 47, ()) := rfl
 unfold strings_Cut_t internal_stringslite_Cut_t
 rw [hi, bind_s, byte_none _ 47 h]
 rfl
theorem num47 {y : List UInt8} (h : (47 : UInt8) ∈ y) : (numA y).2.1 = false := by
 unfold numA
 cases hn : numR y with
 | none => rfl
 | some n =>
  simp only
  rw [decide_eq_false_iff_not]
  intro e
  rw [← e] at h
  exact dec_no n 47 (by decide) h
theorem prefix_Parse_A (s : ByteArray) (hs : s.size ≤ 1048576) : prefix_Parse_t s = some (pfxA s.data.toList) := by
 unfold prefix_Parse_t
 by_cases hm : (47 : UInt8) ∈ s.data.toList
 ·obtain ⟨x, y, e, hx⟩ := first47 hm
  have hsz : x.length + 1 + y.length = s.size := by
   rw [← data_len s, e]
   simp
   omega
  have hc := cut_at47 (D := y) hx (by omega)
  have es : Wd (x ++ 47 :: y) = s := by rw [← e]; exact ofBytes_data s
  rw [es] at hc
  rw [hc, bind_s]
  simp only
  have sx : (Wd x).size ≤ 4294967200 := by rw [wd_size]; omega
  have sy : (Wd y).size ≤ 1073741824 := by rw [wd_size]; omega
  rw [addr_Parse_eq sx, bind_s, digits_any sy, bind_s]
  obtain ⟨d1, d2⟩ := digits_num (Wd y)
  rw [wd_list] at d1 d2
  have hP : pfxA s.data.toList = pfx2 x y := by
   unfold pfxA
   rw [e, splL_first 47 x [] y hx, List.nil_append]
   by_cases hy : (47 : UInt8) ∈ y
   ·have h1 := num47 hy
    have h2 : pfx2 x y = (pz, 1, ()) := by
     unfold pfx2
     rcases hq : numA y with ⟨n, b, u⟩
     rw [hq] at h1
     simp only at h1
     subst h1
     cases toldF (ofBytes x) <;> rfl
    rw [h2]
    obtain ⟨x2, y2, e2, hx2⟩ := first47 hy
    rw [e2, splL_first 47 x2 [] y2 hx2]
    cases hs2 : splL 47 [] y2 with
    | nil => exact absurd hs2 (splL_ne _ _ _)
    | cons a r => rfl
   ·rw [splL_none hy]
    rfl
  rw [hP, d1]
  unfold parseA pfx2
  rw [show Wd x = ofBytes x from rfl]
  cases ht : toldF (ofBytes x) with
  | none =>
   simp only [Bool.not_true, br_false, bind_s]
   rfl
  | some a =>
   have hn := numA_in y
   rcases hq : numA y with ⟨n, b, u⟩
   rw [hq] at hn d1 d2
   simp only [decide_true, Bool.not_true, br_false, bind_s]
   cases b
   ·simp only [Bool.not_false, br_true]
    rfl
   ·have hp : (⟨a, n⟩ : Pf).In := ⟨told_in ht, hn.1, hn.2⟩
    rw [d2 d1]
    simp only [Bool.not_true, br_false, prefix_Check_eq hp, bind_s]
    by_cases h0 : chkP ⟨a, n⟩ = 0
    ·rw [if_pos h0, h0]
     rfl
    ·rw [if_neg h0, decide_eq_false h0]
     rfl
 ·rw [cut_none47 hm, bind_s]
  simp only
  rw [addr_Parse_eq (by omega), bind_s, digits_any (by decide), bind_s]
  have hP : pfxA s.data.toList = (pz, 1, ()) := by
   unfold pfxA
   rw [splL_none hm]
  rw [hP]
  first | done | rfl
end Go.Ma
namespace Go.Ma
open Go
theorem eqOq_eq (a b : Oq) : eqOq a b = decide (a = b) := by
 have e : (a = b) ↔ (a.kind = b.kind ∧ (a.pf.ad.v6 = b.pf.ad.v6 ∧ (a.pf.ad.hi = b.pf.ad.hi ∧ (a.pf.ad.lo = b.pf.ad.lo ∧ (a.pf.bits = b.pf.bits ∧ (a.ad.v6 = b.ad.v6 ∧ (a.ad.hi = b.ad.hi ∧ (a.ad.lo = b.ad.lo ∧ (a.who = b.who ∧ (a.of_ = b.of_ ∧ a.n = b.n)))))))))) := by
  cases a with | mk k p d w o n => cases b with | mk k' p' d' w' o' n' =>
  cases p with | mk pa pb => cases p' with | mk pa' pb' =>
  cases pa; cases pa'; cases d; cases d'
  simp only [Oq.mk.injEq, Pf.mk.injEq, Ad.mk.injEq, and_assoc]
 rw [Bool.eq_iff_iff, decide_eq_true_iff, e]
 unfold eqOq
 simp only [Bool.and_eq_true, strcmp_eql, decide_eq_true_iff]
 simp [beqB, acmp]
def az : Ad := ⟨false, 0, 0⟩
inductive FormO : Oq → Prop
 | pool {p : Pf} (h : chkP p = 0) : FormO ⟨1, p, az, ByteArray.empty, 0, 0⟩
 | keep {a : Ad} (h : chkA a = 0) : FormO ⟨2, pz, a, ByteArray.empty, 0, 0⟩
 | grant {w : ByteArray} {o n : Nat} (h : whoOk w = true) (ho : o ≤ 2) (hn : n ≤ 500) : FormO ⟨3, pz, az, w, (o : Int), (n : Int)⟩
 | free {w : ByteArray} (h : whoOk w = true) : FormO ⟨4, pz, az, w, 0, 0⟩
 | tick {n : Nat} (hn : n ≤ 9999) : FormO ⟨5, pz, az, ByteArray.empty, 0, (n : Int)⟩
theorem form_of {o : Oq} (h : formO o = 0) : FormO o := by
 obtain ⟨k, p, a, w, of_, n⟩ := o
 unfold formO at h
 simp only at h
 split at h
 ·cases h
 rename_i hk
 have hk : betw k 1 5 = true := by cases hb : betw k 1 5 <;> simp_all
 obtain ⟨k1, k2⟩ := betw_iff.1 hk
 split at h
 ·cases h
 rename_i hx
 have hx : extraO ⟨k, p, a, w, of_, n⟩ = false := by simpa using hx
 unfold extraO at hx
 simp only [eqPf_eq, eqAd_eq, strcmp_neq] at hx
 have hk5 : k = 1 ∨ k = 2 ∨ k = 3 ∨ k = 4 ∨ k = 5 := by omega
 rcases hk5 with rfl | rfl | rfl | rfl | rfl
 ·simp at hx
  obtain ⟨⟨⟨h1, h2⟩, h3⟩, h4⟩ := hx
  subst h1; subst h2; subst h3; subst h4
  rw [if_pos rfl] at h
  split at h
  ·rename_i hc
   exact absurd h hc
  ·rename_i hc
   exact .pool (Decidable.not_not.1 hc)
 ·simp at hx
  obtain ⟨⟨⟨h1, h2⟩, h3⟩, h4⟩ := hx
  subst h1; subst h2; subst h3; subst h4
  rw [if_neg (by decide), if_pos rfl] at h
  exact .keep h
 ·simp at hx
  obtain ⟨h1, h2⟩ := hx
  subst h1; subst h2
  rw [if_neg (by decide), if_neg (by decide)] at h
  split at h
  ·cases h
  rename_i hw
  split at h
  ·cases h
  rename_i hb
  simp only [true_and, not_or, Bool.not_eq_false] at hb hw
  simp only [show (3 : Int) < 5 from by decide, true_and, Bool.not_eq_false] at hw
  obtain ⟨o1, o2⟩ := betw_iff.1 hb.1
  obtain ⟨n1, n2⟩ := betw_iff.1 hb.2
  obtain ⟨x, rfl⟩ := Int.eq_ofNat_of_zero_le o1
  obtain ⟨y, rfl⟩ := Int.eq_ofNat_of_zero_le (show 0 ≤ n by omega)
  exact .grant hw (by omega) (by omega)
 ·simp at hx
  obtain ⟨⟨⟨h1, h2⟩, h3⟩, h4⟩ := hx
  subst h1; subst h2; subst h3; subst h4
  rw [if_neg (by decide), if_neg (by decide)] at h
  split at h
  ·cases h
  rename_i hw
  simp only [show (4 : Int) < 5 from by decide, true_and, Bool.not_eq_false] at hw
  exact .free hw
 ·simp at hx
  obtain ⟨⟨⟨h1, h2⟩, h3⟩, h4⟩ := hx
  subst h1; subst h2; subst h3; subst h4
  rw [if_neg (by decide), if_neg (by decide), if_neg (by simp), if_neg (by simp)] at h
  split at h
  ·cases h
  rename_i hb
  simp only [true_and, Bool.not_eq_false] at hb
  obtain ⟨n1, n2⟩ := betw_iff.1 hb
  obtain ⟨y, rfl⟩ := Int.eq_ofNat_of_zero_le n1
  exact .tick (by omega)
theorem who_facts {w : ByteArray} (h : whoOk w = true) : w.size ≤ 8 ∧ (32 : UInt8) ∉ w.data.toList := by
 unfold whoOk at h
 rw [Bool.and_eq_true] at h
 obtain ⟨h1, h2⟩ := h
 obtain ⟨_, q⟩ := betw_iff.1 h2
 refine ⟨by unfold lenS at q; omega, fun hm => ?_⟩
 have := List.all_eq_true.1 h1 32 hm
 exact absurd this (by decide)
def wK (k : Nat) : List UInt8 := (wordAt k).data.toList
def fieldsO (o : Oq) : List (List UInt8) :=
 if o.kind = 1 then [wK 1, textP o.pf] else if o.kind = 2 then [wK 2, textA o.ad] else if o.kind = 3 then [wK 3, o.who.data.toList, Lib.decDigits o.of_.toNat, Lib.decDigits o.n.toNat]
 else if o.kind = 4 then [wK 4, o.who.data.toList] else [wK 5, Lib.decDigits o.n.toNat]
theorem fields1 (p : Pf) : fieldsO ⟨1, p, az, ByteArray.empty, 0, 0⟩ = [wK 1, textP p] := by simp [fieldsO]
theorem fields2 (a : Ad) : fieldsO ⟨2, pz, a, ByteArray.empty, 0, 0⟩ = [wK 2, textA a] := by simp [fieldsO]
theorem fields3 (w : ByteArray) (o n : Nat) : fieldsO ⟨3, pz, az, w, (o : Int), (n : Int)⟩ = [wK 3, w.data.toList, Lib.decDigits o, Lib.decDigits n] := by simp [fieldsO]
theorem fields4 (w : ByteArray) : fieldsO ⟨4, pz, az, w, 0, 0⟩ = [wK 4, w.data.toList] := by simp [fieldsO]
theorem fields5 (n : Nat) : fieldsO ⟨5, pz, az, ByteArray.empty, 0, (n : Int)⟩ = [wK 5, Lib.decDigits n] := by simp [fieldsO]
def lineO (o : Oq) : List UInt8 := Lib.join (fieldsO o) [32]
theorem join2 (x y : List UInt8) : Lib.join [x, y] [32] = x ++ 32 :: y := by rw [zq6, Lib.join_one]
theorem textA_sp {a : Ad} (h : a.wf) (hc : chkA a = 0) : (textA a).length ≤ 39 ∧ (32 : UInt8) ∉ textA a ∧ toldF (ofBytes (textA a)) = some a := by
 obtain ⟨T, t1, t2, t3, _, t5⟩ := text_backW h hc
 have e := Text_A h
 rw [t1] at e
 have e : ofBytes T = ofBytes (textA a) := by
  injection e with e
  injection e
 have e := ofBytes_inj e
 subst e
 refine ⟨t3, t5, ?_⟩
 obtain ⟨T2, q1, q2, _⟩ := text_back h hc
 rw [q1] at t1
 have e2 : ofBytes T2 = ofBytes (textA a) := by
  injection t1 with t1
  injection t1
 rw [ofBytes_inj e2] at q2
 exact q2
theorem textP_sp {p : Pf} (hp : p.In) (hc : chkP p = 0) : (textP p).length ≤ 50 ∧ (32 : UInt8) ∉ textP p ∧ pfxA (textP p) = (p, 0, ()) := by
 obtain ⟨T, t1, t2, t3, t4⟩ := prefix_back hp hc
 have e := prefix_Text_P hp hc
 rw [t1] at e
 have e : ofBytes T = ofBytes (textP p) := by
  injection e with e
  injection e
 have e := ofBytes_inj e
 subst e
 refine ⟨t3, t4, ?_⟩
 have := prefix_Parse_A (Wd (textP p)) (by rw [wd_size]; omega)
 rw [t2, wd_list] at this
 injection this with this
 exact this.symm
theorem text_Line_O {o : Oq} (hi : o.In) (hf : FormO o) : text_Line_t o = some (ofBytes (lineO o), ()) := by
 have r2 : ∀ (a b : ByteArray), room (lenL ([a] : List ByteArray)) (lenL ([b] : List ByteArray)) = true := fun a b => room_of (lenL_nonneg _) (lenL_nonneg _) (by unfold lenL; simp)
 have r3 : ∀ (a b c d : ByteArray), room (lenL ([a] : List ByteArray)) (lenL ([b, c, d] : List ByteArray)) = true := fun a b c d => room_of (lenL_nonneg _) (lenL_nonneg _) (by unfold lenL; simp)
 have wl : ∀ k, (wK k).length ≤ 5 := fun k => by
  unfold wK wordAt
  match k with
  | 0 => decide
  | 1 => decide
  | 2 => decide
  | 3 => decide
  | 4 => decide
  | 5 => decide
  | k + 6 => simp [wordsL]
 have two : ∀ (k : Nat) (x : List UInt8), x.length ≤ 1000 → zq10 ([wordAt k] ++ [ofBytes x]) (⟨#[32]⟩ : ByteArray) = some (ofBytes (Lib.join [wK k, x] [32]), ()) := fun k x hx => by
  have e : (([wordAt k] ++ [ofBytes x] : List ByteArray).map fun s => s.data.toList) = [wK k, x] := by simp [wK, ofBytes]
  have hl := wl k
  have := Join_eq (l := [wordAt k] ++ [ofBytes x]) (c := 32) (by simp) (by rw [e, join2]; simp; omega)
  rw [e] at this
  exact this
 unfold text_Line_t lineO fieldsO
 cases hf with
 | @pool p h =>
  have hpi : p.In := hi.2.1
  obtain ⟨h1, _, _⟩ := textP_sp hpi h
  simp only
  rw [req_of (by decide), req_of (by decide), show decide True = true from rfl, br_true, prefix_Text_P hi.2.1 h, bind_s, if_pos trivial]
  simp only
  rw [req_of (r2 _ _), show ((1 : Int).toNat) = 1 from rfl, two 1 _ (by omega), bind_s]
 | @keep a h =>
  have hai : a.In := hi.2.2.1
  obtain ⟨h1, _, _⟩ := textA_sp hai.wf h
  simp only
  rw [req_of (by decide), req_of (by decide), decide_eq_false (by decide), br_false, show decide True = true from rfl, br_true, Text_A hi.2.2.1.wf, bind_s, if_neg (by decide), if_pos trivial]
  simp only
  rw [req_of (r2 _ _), show ((2 : Int).toNat) = 2 from rfl, two 2 _ (by omega), bind_s]
 | @grant w o n h ho hn =>
  obtain ⟨h1, _⟩ := who_facts h
  have d1 := dec_len 3 o (by omega)
  have d2 := dec_len 3 n (by omega)
  have hl := wl 3
  simp only
  rw [req_of (by decide), req_of (by decide), decide_eq_false (by decide), br_false, decide_eq_false (by decide), br_false, show decide True = true from rfl, br_true, itoa_any (by omega), bind_s, itoa_any (by omega), bind_s]
  rw [if_neg (by decide), if_neg (by decide), if_pos trivial]
  simp only
  rw [req_of (r3 _ _ _ _), show ((3 : Int).toNat) = 3 from rfl, Int.toNat_natCast, Int.toNat_natCast]
  have e : (([wordAt 3] ++ [w, Wd (Lib.decDigits o), Wd (Lib.decDigits n)] : List ByteArray).map fun s => s.data.toList) = [wK 3, w.data.toList, Lib.decDigits o, Lib.decDigits n] := by simp [wK, Wd]
  have := Join_eq (l := [wordAt 3] ++ [w, Wd (Lib.decDigits o), Wd (Lib.decDigits n)]) (c := 32) (by simp) (by rw [e, zq6, zq6, zq6, Lib.join_one]; simp; omega)
  rw [e] at this
  rw [this, bind_s]
  rfl
 | @free w h =>
  obtain ⟨h1, _⟩ := who_facts h
  simp only
  rw [req_of (by decide), req_of (by decide), decide_eq_false (by decide), br_false, decide_eq_false (by decide), br_false, decide_eq_false (by decide), br_false, show decide True = true from rfl, br_true]
  rw [if_neg (by decide), if_neg (by decide), if_neg (by decide), if_pos trivial, req_of (r2 _ _), show ((4 : Int).toNat) = 4 from rfl]
  have := two 4 w.data.toList (by rw [data_len]; omega)
  rw [ofBytes_data] at this
  rw [this, bind_s]
 | @tick n hn =>
  have d2 := dec_len 3 n (by omega)
  simp only
  rw [req_of (by decide), req_of (by decide), decide_eq_false (by decide), br_false, decide_eq_false (by decide), br_false, decide_eq_false (by decide), br_false, decide_eq_false (by decide), br_false, show decide True = true from rfl, br_true, itoa_any (by omega), bind_s]
  rw [if_neg (by decide), if_neg (by decide), if_neg (by decide), if_neg (by decide), Int.toNat_natCast]
  simp only
  rw [req_of (r2 _ _), show ((5 : Int).toNat) = 5 from rfl]
  have := two 5 (Lib.decDigits n) (by omega)
  rw [show ofBytes (Lib.decDigits n) = Wd (Lib.decDigits n) from rfl] at this
  rw [this, bind_s]
theorem LineOf_O {o : Oq} (hi : o.In) (hf : FormO o) : R_LineOf_t o = some (ofBytes (lineO o), ()) := by
 unfold R_LineOf_t lineO fieldsO
 cases hf with
 | @pool p h =>
  have hpi : p.In := hi.2.1
  obtain ⟨h1, _, _⟩ := textP_sp hpi h
  simp only
  rw [show decide True = true from rfl, br_true, PrefixText_t hi.2.1 h, bind_s, if_pos trivial, join2]
  have e : catS (⟨#[112, 111, 111, 108, 32]⟩ : ByteArray) (ofBytes (textP p)) = ofBytes (wK 1 ++ 32 :: textP p) := catB [112, 111, 111, 108, 32] (textP p)
  simp only [e]
  rw [req_of (roomB _ (by rw [← e] at *; simp [wK, wordAt, wordsL]; omega))]
 | @keep a h =>
  have hai : a.In := hi.2.2.1
  obtain ⟨h1, _, _⟩ := textA_sp hai.wf h
  simp only
  rw [decide_eq_false (by decide), br_false, show decide True = true from rfl, br_true, TextOf_t hi.2.2.1, bind_s, if_neg (by decide), if_pos trivial, join2]
  have e : catS (⟨#[107, 101, 101, 112, 32]⟩ : ByteArray) (ofBytes (textA a)) = ofBytes (wK 2 ++ 32 :: textA a) := catB [107, 101, 101, 112, 32] (textA a)
  simp only [e]
  rw [req_of (roomB _ (by simp [wK, wordAt, wordsL]; omega))]
 | @grant w o n h ho hn =>
  obtain ⟨h1, _⟩ := who_facts h
  have d1 := dec_len 3 o (by omega)
  have d2 := dec_len 3 n (by omega)
  have hwl : w.data.toList.length ≤ 8 := by rw [data_len]; exact h1
  obtain ⟨W, hW⟩ : ∃ W, W = w.data.toList := ⟨_, rfl⟩
  have ew : w = ofBytes W := by rw [hW, ofBytes_data]
  rw [← hW] at hwl
  simp only
  rw [decide_eq_false (by decide), br_false, decide_eq_false (by decide), br_false, show decide True = true from rfl, br_true, Digits_dec (by omega), Digits_dec (by omega)]
  rw [if_neg (by decide), if_neg (by decide), if_pos trivial, Int.toNat_natCast, Int.toNat_natCast, zq6, zq6, zq6, Lib.join_one, ← hW, ew]
  have e0 : (⟨#[103, 114, 97, 110, 116, 32]⟩ : ByteArray) = ofBytes (wK 3 ++ [32]) := rfl
  have e1 : (⟨#[32]⟩ : ByteArray) = ofBytes [32] := rfl
  have hl : (wK 3).length = 5 := rfl
  rw [e0, e1]
  simp only [catB, bind_s]
  rw [req_of (roomB _ (by simp; omega)), req_of (roomB _ (by simp; omega)), req_of (roomB _ (by simp; omega)), req_of (roomB _ (by simp; omega)), req_of (roomB _ (by simp; omega))]
  simp
 | @free w h =>
  obtain ⟨h1, _⟩ := who_facts h
  have hwl : w.data.toList.length ≤ 8 := by rw [data_len]; exact h1
  simp only
  rw [decide_eq_false (by decide), br_false, decide_eq_false (by decide), br_false, decide_eq_false (by decide), br_false, show decide True = true from rfl, br_true]
  rw [if_neg (by decide), if_neg (by decide), if_neg (by decide), if_pos trivial, join2]
  have e : catS (⟨#[102, 114, 101, 101, 32]⟩ : ByteArray) w = ofBytes (wK 4 ++ 32 :: w.data.toList) := by
   have := catB [102, 114, 101, 101, 32] w.data.toList
   rw [ofBytes_data] at this
   exact this
  rw [e, req_of (roomB _ (by have : (wK 4).length = 4 := rfl; simp; omega))]
 | @tick n hn =>
  have d2 := dec_len 3 n (by omega)
  simp only
  rw [decide_eq_false (by decide), br_false, decide_eq_false (by decide), br_false, decide_eq_false (by decide), br_false, decide_eq_false (by decide), br_false, Digits_dec (by omega), bind_s]
  rw [if_neg (by decide), if_neg (by decide), if_neg (by decide), if_neg (by decide), Int.toNat_natCast, join2]
  have e : catS (⟨#[116, 105, 99, 107, 32]⟩ : ByteArray) (ofBytes (Lib.decDigits n)) = ofBytes (wK 5 ++ 32 :: Lib.decDigits n) := catB [116, 105, 99, 107, 32] (Lib.decDigits n)
  simp only [e]
  rw [req_of (roomB _ (by have : (wK 5).length = 4 := rfl; simp; omega))]
theorem text_Print_O {o : Oq} (hi : o.In) : text_Print_t o = some (if formO o = 0 then ofBytes (lineO o) else ByteArray.empty, formO o, ()) := by
 unfold text_Print_t
 rw [state_Form_eq hi, bind_s]
 by_cases hf : formO o = 0
 ·rw [if_pos hf, decide_eq_true (show (formO o, ()).1 = 0 from hf), Bool.not_true, br_false, text_Line_O hi (form_of hf), bind_s, hf]
 ·rw [if_neg hf, decide_eq_false (show ¬ (formO o, ()).1 = 0 from hf), Bool.not_false, br_true]
theorem line_split {o : Oq} (hi : o.In) (hf : FormO o) : splL 32 [] (lineO o) = fieldsO o := by
 have key : ∀ xs : List (List UInt8), xs ≠ [] → (∀ x ∈ xs, (32 : UInt8) ∉ x) → splL 32 [] (Lib.join xs [32]) = xs := fun xs h0 h => by
  have h1 := split_join 32 h0 h
  have h2 := splitOn_spl 32 (Lib.join xs [32])
  rw [h2] at h1
  have h3 : (splL 32 [] (Lib.join xs [32])).map ofBytes = xs.map ofBytes := h1
  have := congrArg (List.map fun s : ByteArray => s.data.toList) h3
  rw [List.map_map, List.map_map] at this
  have e : ((fun s : ByteArray => s.data.toList) ∘ ofBytes) = id := by funext x; simp [ofBytes]
  rw [e, List.map_id, List.map_id] at this
  exact this
 have hw : ∀ k, (32 : UInt8) ∉ wK k := fun k => by
  unfold wK wordAt
  match k with
  | 0 => decide
  | 1 => decide
  | 2 => decide
  | 3 => decide
  | 4 => decide
  | 5 => decide
  | k + 6 => simp [wordsL]
 have hd : ∀ n, (32 : UInt8) ∉ Lib.decDigits n := fun n => dec_no n 32 (by decide)
 unfold lineO
 refine key _ ?_ ?_
 ·unfold fieldsO
  repeat' split
  all_goals simp
 ·cases hf with
  | @pool p h =>
   have hpi : p.In := hi.2.1
   have := (textP_sp hpi h).2.1
   intro x hx
   rw [fields1] at hx
   simp only [List.mem_cons, List.not_mem_nil, or_false] at hx
   rcases hx with rfl | rfl
   ·exact hw 1
   ·exact this
  | @keep a h =>
   have hai : a.In := hi.2.2.1
   have := (textA_sp hai.wf h).2.1
   intro x hx
   rw [fields2] at hx
   simp only [List.mem_cons, List.not_mem_nil, or_false] at hx
   rcases hx with rfl | rfl
   ·exact hw 2
   ·exact this
  | @grant w o n h ho hn =>
   have := (who_facts h).2
   intro x hx
   rw [fields3] at hx
   simp only [List.mem_cons, List.not_mem_nil, or_false] at hx
   rcases hx with rfl | rfl | rfl | rfl
   ·exact hw 3
   ·exact this
   ·exact hd _
   ·exact hd _
  | @free w h =>
   have := (who_facts h).2
   intro x hx
   rw [fields4] at hx
   simp only [List.mem_cons, List.not_mem_nil, or_false] at hx
   rcases hx with rfl | rfl
   ·exact hw 4
   ·exact this
  | @tick n hn =>
   intro x hx
   rw [fields5] at hx
   simp only [List.mem_cons, List.not_mem_nil, or_false] at hx
   rcases hx with rfl | rfl
   ·exact hw 5
   ·exact hd _
end Go.Ma
namespace Go.Ma
open Go
def tk (w : List UInt8) : Nat := if w = wK 1 then 1 else if w = wK 2 then 2 else if w = wK 3 then 3 else if w = wK 4 then 4 else if w = wK 5 then 5 else 0
theorem tk_word {k : Nat} (h1 : 1 ≤ k) (h5 : k ≤ 5) : tk (wK k) = k := by
 have : k = 1 ∨ k = 2 ∨ k = 3 ∨ k = 4 ∨ k = 5 := by omega
 rcases this with rfl | rfl | rfl | rfl | rfl <;> decide
def oz : Oq := ⟨0, pz, az, ByteArray.empty, 0, 0⟩
theorem word_at (k : Nat) (h : k < 6) : strAt [(⟨#[]⟩ : ByteArray), (⟨#[112, 111, 111, 108]⟩ : ByteArray), (⟨#[107, 101, 101, 112]⟩ : ByteArray), (⟨#[103, 114, 97, 110, 116]⟩ : ByteArray), (⟨#[102, 114, 101, 101]⟩ : ByteArray), (⟨#[116, 105, 99, 107]⟩ : ByteArray)] (k : Int) = ofBytes (wK k) := by
 have : ∀ k : Fin 6, strAt [(⟨#[]⟩ : ByteArray), (⟨#[112, 111, 111, 108]⟩ : ByteArray), (⟨#[107, 101, 101, 112]⟩ : ByteArray), (⟨#[103, 114, 97, 110, 116]⟩ : ByteArray), (⟨#[102, 114, 101, 101]⟩ : ByteArray), (⟨#[116, 105, 99, 107]⟩ : ByteArray)] ((k.val : Nat) : Int) = ofBytes (wK k) := by decide
 exact this ⟨k, h⟩
def lastK (w : List UInt8) : Nat → Nat → Nat
 | 0, k => k
 | n + 1, k => lastK w n (if 6 - (n + 1) > 0 ∧ wK (6 - (n + 1)) = w then 6 - (n + 1) else k)
theorem lastK_tk (w : List UInt8) : lastK w 6 0 = tk w := by
 have e : ∀ k, wK k = w ↔ w = wK k := fun k => ⟨fun h => h.symm, fun h => h.symm⟩
 unfold tk
 simp only [lastK, e]
 by_cases h1 : w = wK 1
 ·subst h1; decide
 by_cases h2 : w = wK 2
 ·subst h2; decide
 by_cases h3 : w = wK 3
 ·subst h3; decide
 by_cases h4 : w = wK 4
 ·subst h4; decide
 by_cases h5 : w = wK 5
 ·subst h5; decide
 ·simp [h1, h2, h3, h4, h5]
theorem told_loop (w : List UInt8) (l : List ByteArray) (z : Oq) : ∀ (n N k : Nat), n ≤ 6 → n < N →
  loopN text_told_L3 N (((), (), (), ((⟨#[]⟩ : ByteArray), (⟨#[112, 111, 111, 108]⟩ : ByteArray), (⟨#[107, 101, 101, 112]⟩ : ByteArray), (⟨#[103, 114, 97, 110, 116]⟩ : ByteArray), (⟨#[102, 114, 101, 101]⟩ : ByteArray), (⟨#[116, 105, 99, 107]⟩ : ByteArray), ()), (((6 - n : Nat) : Int), ()), ()), (ofBytes w :: l, (), (z, ()), ((⟨(k : Int), pz, az, ByteArray.empty, 0, 0⟩ : Oq), ()), ())) =
   some (((), (), (), ()), (ofBytes w :: l, (), (z, ()), ((⟨(lastK w n k : Nat), pz, az, ByteArray.empty, 0, 0⟩ : Oq), ()), ()))
 | 0, N, k, _, hN => by
  obtain ⟨M, rfl⟩ : ∃ M, N = M + 1 := ⟨N - 1, by omega⟩
  rw [zq7]
  simp only [text_told_L3]
  rw [decide_eq_false (by decide), br_false]
  rfl
 | n + 1, N, k, hn, hN => by
  obtain ⟨M, rfl⟩ : ∃ M, N = M + 1 := ⟨N - 1, by omega⟩
  rw [zq7]
  obtain ⟨i, hi⟩ : ∃ i, i = 6 - (n + 1) := ⟨_, rfl⟩
  have hn1 : 6 - n = i + 1 := by omega
  have hlL : lenL (ofBytes w :: l) = lenL l + 1 := lenL_cons _ _
  have hl0 := lenL_nonneg l
  simp only [text_told_L3]
  rw [← hi]
  rw [decide_eq_true (show (i : Int) < 6 by omega), br_true, req_of (zq4 (by omega) (by omega)), word_at i (by omega), hlL]
  have g0 : geti (ofBytes w :: l) 0 = some (ofBytes w) := rfl
  rw [g0, bind_s, strcmp_eql]
  have ew : decide (ofBytes (wK i) = ofBytes w) = decide (wK i = w) := decide_eq_decide.2 ⟨ofBytes_inj, fun h => by rw [h]⟩
  have hrec := fun k => told_loop w l z n M k (by omega) (by omega)
  rw [hn1] at hrec
  rw [lastK, ← hi, show (i : Int) + 1 = ((i + 1 : Nat) : Int) by omega]
  by_cases h0 : i > 0
  ·rw [decide_eq_true (show (i : Int) > 0 by omega), br_true, req_of (zq4 (by omega) (by omega)), ew, bind_s]
   by_cases hw : wK i = w
   ·rw [decide_eq_true hw, br_true, req_of (i64ok_of (by omega) (by omega)), if_pos ⟨h0, hw⟩]
    exact hrec i
   ·rw [decide_eq_false hw, br_false, req_of (i64ok_of (by omega) (by omega)), if_neg (fun h => hw h.2)]
    exact hrec k
  ·rw [decide_eq_false (show ¬ (i : Int) > 0 by omega), br_false, bind_s, br_false, req_of (i64ok_of (by omega) (by omega)), if_neg (fun h => h0 h.1)]
   exact hrec k
def atF (l : List (List UInt8)) (i : Nat) : List UInt8 := l.getD i []
theorem told_1 (l : List (List UInt8)) (i : Nat) : text_told_1_t (i : Int) (l.map ofBytes) = some (ofBytes (atF l i), ()) := by
 unfold text_told_1_t atF
 have hl : lenL (l.map ofBytes) = (l.length : Int) := by unfold lenL; rw [List.length_map]
 rw [hl]
 by_cases h : i < l.length
 ·have hg : (l.map ofBytes)[i]? = some (ofBytes l[i]) := by rw [List.getElem?_map, List.getElem?_eq_getElem h]; rfl
  rw [decide_eq_true (by omega), br_true, req_of (zq4 (by omega) (by omega)), geti_at hg, bind_s, List.getD_eq_getElem?_getD, List.getElem?_eq_getElem h]
  rfl
 ·rw [decide_eq_false (by omega), br_false, List.getD_eq_getElem?_getD, List.getElem?_eq_none (by omega)]
  rfl
def toldO (l : List (List UInt8)) : Oq :=
 if tk (atF l 0) = 1 then ⟨1, (pfxA (atF l 1)).1, az, ByteArray.empty, 0, 0⟩
 else if tk (atF l 0) = 2 then ⟨2, pz, (parseA (ofBytes (atF l 1))).1, ByteArray.empty, 0, 0⟩
 else if tk (atF l 0) = 3 then ⟨3, pz, az, ofBytes (atF l 1), digN (ofBytes (atF l 2)), digN (ofBytes (atF l 3))⟩
 else if tk (atF l 0) = 4 then ⟨4, pz, az, ofBytes (atF l 1), 0, 0⟩
 else if tk (atF l 0) = 5 then ⟨5, pz, az, ByteArray.empty, 0, digN (ofBytes (atF l 1))⟩
 else oz
theorem told_t {l : List (List UInt8)} (h0 : l ≠ []) (hl : ∀ x ∈ l, x.length ≤ 1048576) : text_told_t (l.map ofBytes) = some (toldO l, ()) := by
 have hat : ∀ i, (atF l i).length ≤ 1048576 := fun i => by
  unfold atF
  rw [List.getD_eq_getElem?_getD]
  cases hx : l[i]? with
  | none => simp
  | some x => exact hl x (List.mem_of_getElem? hx)
 have p1 : ∀ i, prefix_Parse_t (ofBytes (atF l i)) = some (pfxA (atF l i)) := fun i => by
  have := prefix_Parse_A (ofBytes (atF l i)) (by rw [ofBytes_size]; exact hat i)
  rwa [zq8] at this
 have p2 : ∀ i, addr_Parse_t (ofBytes (atF l i)) = some (parseA (ofBytes (atF l i))) := fun i => addr_Parse_eq (by rw [ofBytes_size]; have := hat i; omega)
 have p3 : ∀ i, prefix_Digits_t (ofBytes (atF l i)) = some (digN (ofBytes (atF l i)), digB (ofBytes (atF l i)), ()) := fun i => digits_any (by rw [ofBytes_size]; have := hat i; omega)
 have hL : ∀ z, loopN text_told_L3 FUEL (((), (), (), ((⟨#[]⟩ : ByteArray), (⟨#[112, 111, 111, 108]⟩ : ByteArray), (⟨#[107, 101, 101, 112]⟩ : ByteArray), (⟨#[103, 114, 97, 110, 116]⟩ : ByteArray), (⟨#[102, 114, 101, 101]⟩ : ByteArray), (⟨#[116, 105, 99, 107]⟩ : ByteArray), ()), (0, ()), ()), (l.map ofBytes, (), (z, ()), ((⟨0, (⟨(⟨false, 0, 0⟩ : Ad), 0⟩ : Pf), (⟨false, 0, 0⟩ : Ad), (ByteArray.empty), 0, 0⟩ : Oq), ()), ())) =
   some (((), (), (), ()), (l.map ofBytes, (), (z, ()), ((⟨(tk (atF l 0) : Nat), pz, az, ByteArray.empty, 0, 0⟩ : Oq), ()), ())) := fun z => by
  cases l with
  | nil => exact absurd rfl h0
  | cons w r =>
   have := told_loop w (r.map ofBytes) z 6 FUEL 0 (by omega) (fuel_gt (by omega))
   rw [lastK_tk] at this
   exact this
 unfold text_told_t
 rw [hL, bind_s]
 simp only
 have t1 := told_1 l 1
 have t2 := told_1 l 2
 have t3 := told_1 l 3
 rw [show ((1 : Nat) : Int) = 1 from rfl] at t1
 rw [show ((2 : Nat) : Int) = 2 from rfl] at t2
 rw [show ((3 : Nat) : Int) = 3 from rfl] at t3
 rw [t1, t2, t3]
 simp only [bind_s, p1, p2, p3]
 unfold toldO
 have hd : ∀ k : Nat, decide (((tk (atF l 0) : Nat) : Int) = (k : Int)) = decide (tk (atF l 0) = k) := fun k => decide_eq_decide.2 (by omega)
 have h1 := hd 1
 have h2 := hd 2
 have h3 := hd 3
 have h4 := hd 4
 have h5 := hd 5
 rw [show ((1 : Nat) : Int) = 1 from rfl] at h1
 rw [show ((2 : Nat) : Int) = 2 from rfl] at h2
 rw [show ((3 : Nat) : Int) = 3 from rfl] at h3
 rw [show ((4 : Nat) : Int) = 4 from rfl] at h4
 rw [show ((5 : Nat) : Int) = 5 from rfl] at h5
 rw [h1, h2, h3, h4, h5]
 by_cases k1 : tk (atF l 0) = 1
 ·simp only [k1, decide_true, br_true, if_true]
  rfl
 by_cases k2 : tk (atF l 0) = 2
 ·simp only [k2, decide_true, br_true, if_true]
  rfl
 by_cases k3 : tk (atF l 0) = 3
 ·simp only [k3, decide_true, br_true, if_true]
  rfl
 by_cases k4 : tk (atF l 0) = 4
 ·simp only [k4, decide_true, br_true, if_true]
  rfl
 by_cases k5 : tk (atF l 0) = 5
 ·simp only [k5, decide_true, br_true, if_true]
  rfl
 have k0 : tk (atF l 0) = 0 := by
  unfold tk at k1 k2 k3 k4 k5 ⊢
  repeat' split at k1 <;> simp_all
 simp only [k0, k1, k2, k3, k4, k5, decide_false, br_false, if_false]
 rfl
theorem pfxA_in (l : List UInt8) : (pfxA l).1.In ∧ ((pfxA l).2.1 = 0 → chkP (pfxA l).1 = 0) := by
 have hz : pz.In := noPf_in
 have hzc : ∀ e : Int, e ≠ 0 → (e = 0 → chkP pz = 0) := fun e h h2 => absurd h2 h
 unfold pfxA
 split
 ·rename_i x y _
  unfold pfx2
  cases ht : toldF (ofBytes x) with
  | none => exact ⟨hz, fun h => (by cases h)⟩
  | some a =>
   have hn := numA_in y
   rcases hq : numA y with ⟨n, b, u⟩
   rw [hq] at hn
   cases b
   ·exact ⟨hz, fun h => (by cases h)⟩
   ·simp only
    split
    ·rename_i hc
     exact ⟨⟨told_in ht, hn.1, hn.2⟩, fun _ => hc⟩
    ·rename_i hc
     exact ⟨hz, fun h => absurd h hc⟩
 ·exact ⟨hz, fun h => (by cases h)⟩
theorem parseA_in (s : ByteArray) : (parseA s).1.In := by
 unfold parseA
 cases h : toldF s with
 | none => exact noAd_in
 | some a => exact told_in h
theorem toldO_in {l : List (List UInt8)} (hl : ∀ x ∈ l, x.length ≤ 1048576) : (toldO l).In := by
 have hat : ∀ i, (atF l i).length ≤ 1048576 := fun i => by
  unfold atF
  rw [List.getD_eq_getElem?_getD]
  cases hx : l[i]? with
  | none => simp
  | some x => exact hl x (List.mem_of_getElem? hx)
 have hs : ∀ i, strIn (ofBytes (atF l i)) := fun i => by
  have := hat i
  have hm : (1048576 : Nat) ≤ maxLen := by unfold maxLen; decide
  show (ofBytes (atF l i)).size ≤ maxLen
  rw [ofBytes_size]
  omega
 have he : strIn ByteArray.empty := Nat.zero_le _
 have hz : pz.In := noPf_in
 have ha : az.In := noAd_in
 have hi : ∀ k : Int, -100 ≤ k → k ≤ 100 → i64In k := fun k h1 h2 => ⟨by omega, by omega⟩
 unfold toldO
 repeat' split
 ·exact ⟨hi 1 (by omega) (by omega), (pfxA_in _).1, ha, he, hi 0 (by omega) (by omega), hi 0 (by omega) (by omega)⟩
 ·exact ⟨hi 2 (by omega) (by omega), hz, parseA_in _, he, hi 0 (by omega) (by omega), hi 0 (by omega) (by omega)⟩
 ·exact ⟨hi 3 (by omega) (by omega), hz, ha, hs 1, digN_in _, digN_in _⟩
 ·exact ⟨hi 4 (by omega) (by omega), hz, ha, hs 1, hi 0 (by omega) (by omega), hi 0 (by omega) (by omega)⟩
 ·exact ⟨hi 5 (by omega) (by omega), hz, ha, he, hi 0 (by omega) (by omega), digN_in _⟩
 ·exact ⟨hi 0 (by omega) (by omega), hz, ha, he, hi 0 (by omega) (by omega), hi 0 (by omega) (by omega)⟩
def opR (l : List UInt8) : Option Oq := if formO (toldO (splL 32 [] l)) = 0 ∧ lineO (toldO (splL 32 [] l)) = l then some (toldO (splL 32 [] l)) else none
def opA (l : List UInt8) : Oq × Int × Unit := match opR l with | some o => (o, 0, ()) | none => (oz, 1, ())
theorem text_Parse_A (s : ByteArray) (hs : s.size ≤ 1048576) : text_Parse_t s = some (opA s.data.toList) := by
 have hsz : ∀ x ∈ splL 32 [] s.data.toList, x.length ≤ 1048576 := fun x hx => by
  have := splL_size 32 s.data.toList [] x hx
  rw [data_len] at this
  simp at this
  omega
 have hne := splL_ne 32 [] s.data.toList
 have hsp : strings_Split_t s (⟨#[32]⟩ : ByteArray) = some ((splL 32 [] s.data.toList).map ofBytes, ()) := by
  unfold strings_Split_t
  rw [req_of (by rw [Bool.and_eq_true]; exact ⟨Nat.ble_eq_true_of_le (by omega), rfl⟩)]
  have := splitOn_any 32 s
  unfold splitOn at this
  rw [this]
 have hin := toldO_in hsz
 unfold text_Parse_t opA opR
 rw [hsp, bind_s, told_t hne hsz, bind_s, state_Form_eq hin, bind_s]
 generalize toldO (splL 32 [] s.data.toList) = o at hin
 by_cases hf : formO o = 0
 ·rw [decide_eq_true (show (formO o, ()).1 = 0 from hf), Bool.not_true, br_false, text_Line_O hin (form_of hf), bind_s, bind_s, strcmp_neq]
  have : decide (ofBytes (lineO o) = s) = decide (lineO o = s.data.toList) := decide_eq_decide.2 ⟨fun h => by rw [← h, zq8], fun h => by rw [h, ofBytes_data]⟩
  rw [this]
  by_cases hl : lineO o = s.data.toList
  ·rw [decide_eq_true hl, Bool.not_true, br_false, if_pos ⟨hf, hl⟩]
  ·rw [decide_eq_false hl, Bool.not_false, br_true, if_neg (fun h => hl h.2)]
   rfl
 ·rw [decide_eq_false (show ¬ (formO o, ()).1 = 0 from hf), Bool.not_false, br_true, bind_s, br_true, if_neg (fun h => hf h.1)]
  rfl
end Go.Ma
namespace Go.Ma
open Go
def tb1 : Oq := ⟨1, ⟨⟨false, 0, 8⟩, 30⟩, ⟨false, 0, 0⟩, ByteArray.empty, 0, 0⟩
theorem tb_parse1 : text_Parse_t (⟨#[112, 111, 111, 108, 32, 48, 46, 48, 46, 48, 46, 56, 47, 51, 48]⟩ : ByteArray) = some (tb1, 0, ()) := by kernel_rfl
theorem tb_parse2 : text_Parse_t (⟨#[112, 111, 111, 108, 32, 48, 46, 48, 46, 48, 46, 56, 47, 48, 51, 48]⟩ : ByteArray) = some (oz, 1, ()) := by kernel_rfl
theorem textBegun_eq : law_textBegun_t = some (true, ()) := by
 have h3 : text_Print_t sop3 = some (⟨#[103, 114, 97, 110, 116, 32, 120, 32, 48, 32, 49, 48]⟩, 0, ()) := by kernel_rfl
 unfold law_textBegun_t
 rw [law_some_eq, bind_s]
 have g2 : geti [sop1, sop2, sop3] 2 = some sop3 := rfl
 have g0 : geti [sop1, sop2, sop3] 0 = some sop1 := rfl
 have hl : lenL [sop1, sop2, sop3] = 3 := rfl
 simp only [hl, g2, g0, bind_s, h3, tb_parse1, tb_parse2]
 have e1 : strcmp .eql (⟨#[103, 114, 97, 110, 116, 32, 120, 32, 48, 32, 49, 48]⟩ : ByteArray) (⟨#[103, 114, 97, 110, 116, 32, 120, 32, 48, 32, 49, 48]⟩ : ByteArray) = true := by kernel_rfl
 have e2 : eqOq tb1 sop1 = true := by kernel_rfl
 rw [req_of (by decide), e1, e2]
 simp only [decide_true, br_true]
 rw [req_of (by decide)]
theorem geti_F {l : List (List UInt8)} {i : Nat} (h : i < l.length) : geti (l.map ofBytes) (i : Int) = some (ofBytes (atF l i)) := by
 have hg : (l.map ofBytes)[i]? = some (ofBytes (atF l i)) := by
  unfold atF
  rw [List.getElem?_map, List.getElem?_eq_getElem h, List.getD_eq_getElem?_getD, List.getElem?_eq_getElem h]
  rfl
 exact geti_at hg
def docO (l : List (List UInt8)) : Option Oq :=
 if l.length = 2 ∧ atF l 0 = wK 1 then
  (if (pfxA (atF l 1)).2.1 = 0 ∧ textP (pfxA (atF l 1)).1 = atF l 1 ∧ formO ⟨1, (pfxA (atF l 1)).1, az, ByteArray.empty, 0, 0⟩ = 0 then some ⟨1, (pfxA (atF l 1)).1, az, ByteArray.empty, 0, 0⟩ else none)
 else if l.length = 2 ∧ atF l 0 = wK 2 then
  (match toldF (ofBytes (atF l 1)) with
  | some a => if textA a = atF l 1 ∧ formO ⟨2, pz, a, ByteArray.empty, 0, 0⟩ = 0 then some ⟨2, pz, a, ByteArray.empty, 0, 0⟩ else none
  | none => none)
 else if l.length = 4 ∧ atF l 0 = wK 3 then
  (if (numA (atF l 2)).2.1 = true ∧ (numA (atF l 3)).2.1 = true ∧ formO ⟨3, pz, az, ofBytes (atF l 1), (numA (atF l 2)).1, (numA (atF l 3)).1⟩ = 0 then some ⟨3, pz, az, ofBytes (atF l 1), (numA (atF l 2)).1, (numA (atF l 3)).1⟩ else none)
 else if l.length = 2 ∧ atF l 0 = wK 4 then
  (if formO ⟨4, pz, az, ofBytes (atF l 1), 0, 0⟩ = 0 then some ⟨4, pz, az, ofBytes (atF l 1), 0, 0⟩ else none)
 else if l.length = 2 ∧ atF l 0 = wK 5 then
  (if (numA (atF l 1)).2.1 = true ∧ formO ⟨5, pz, az, ByteArray.empty, 0, (numA (atF l 1)).1⟩ = 0 then some ⟨5, pz, az, ByteArray.empty, 0, (numA (atF l 1)).1⟩ else none)
 else none
def docA (o : Option Oq) : Oq × Bool × Unit := match o with | some o => (o, true, ()) | none => (oz, false, ())
theorem list2 {l : List (List UInt8)} (h : l.length = 2) : l = [atF l 0, atF l 1] := by
 match l, h with
 | [x, y], _ => rfl
theorem list4 {l : List (List UInt8)} (h : l.length = 4) : l = [atF l 0, atF l 1, atF l 2, atF l 3] := by
 match l, h with
 | [x, y, z, w], _ => rfl
theorem num_back {y : List UInt8} (h : (numA y).2.1 = true) : ∃ n : Nat, (numA y).1 = (n : Int) ∧ Lib.decDigits n = y ∧ n < 10000 := by
 unfold numA at h ⊢
 cases hn : numR y with
 | none => rw [hn] at h; cases h
 | some n =>
  rw [hn] at h
  simp only [decide_eq_true_iff] at h
  exact ⟨n, rfl, h, numR_lt hn⟩
theorem num_of {n : Nat} (h : n < 10000) : numA (Lib.decDigits n) = ((n : Int), true, ()) := by
 obtain ⟨d1, d2⟩ := dig_back h
 obtain ⟨e1, e2⟩ := digits_num (Wd (Lib.decDigits n))
 rw [wd_list] at e1 e2
 rw [d2] at e1
 have := e2 d2
 rw [d1] at this
 rcases hq : numA (Lib.decDigits n) with ⟨a, b, u⟩
 rw [hq] at e1 this
 simp only at e1 this
 rw [← e1, ← this]
theorem doc_same (l : List UInt8) (hsz : ∀ x ∈ splL 32 [] l, x.length ≤ 1048576) : docO (splL 32 [] l) = opR l := by
 have hj := splL_join 32 l []
 rw [List.nil_append] at hj
 have hin := toldO_in hsz
 have h2 : ∀ {k : Nat}, 1 ≤ k → k ≤ 5 → atF (splL 32 [] l) 0 = wK k → tk (atF (splL 32 [] l) 0) = k := fun h1 h5 h => by rw [h]; exact tk_word h1 h5
 -- what the document tells the program tells
 have fwd : ∀ o, docO (splL 32 [] l) = some o → opR l = some o := fun o ho => by
  have fin : ∀ o : Oq, toldO (splL 32 [] l) = o → formO o = 0 → fieldsO o = splL 32 [] l → opR l = some o := fun o h1 h2 h3 => by
   unfold opR
   rw [h1]
   rw [if_pos ⟨h2, by unfold lineO; rw [h3, hj]⟩]
  unfold docO at ho
  split at ho
  ·rename_i hc
   split at ho
   ·rename_i hd
    injection ho with ho
    subst ho
    have ht := h2 (by omega) (by omega) hc.2
    refine fin _ (by rw [toldO, if_pos ht]) hd.2.2 ?_
    rw [fields1, hd.2.1, ← hc.2]
    exact (list2 hc.1).symm
   ·cases ho
  split at ho
  ·rename_i hc
   have ht := h2 (by omega) (by omega) hc.2
   split at ho
   ·rename_i a ha
    split at ho
    ·rename_i hd
     injection ho with ho
     subst ho
     refine fin _ (by rw [toldO, ht, if_neg (by decide), if_pos rfl, parseA, ha]) hd.2 ?_
     rw [fields2, hd.1, ← hc.2]
     exact (list2 hc.1).symm
    ·cases ho
   ·cases ho
  split at ho
  ·rename_i hc
   have ht := h2 (by omega) (by omega) hc.2
   split at ho
   ·rename_i hd
    injection ho with ho
    subst ho
    obtain ⟨n, n1, n2, n3⟩ := num_back hd.1
    obtain ⟨m, m1, m2, m3⟩ := num_back hd.2.1
    have q1 : digN (ofBytes (atF (splL 32 [] l) 2)) = (n : Int) := by rw [← n2]; exact (dig_back n3).1
    have q2 : digN (ofBytes (atF (splL 32 [] l) 3)) = (m : Int) := by rw [← m2]; exact (dig_back m3).1
    refine fin _ (by rw [toldO, ht, if_neg (by decide), if_neg (by decide), if_pos rfl, q1, q2, n1, m1]) hd.2.2 ?_
    rw [n1, m1, fields3, n2, m2, zq8, ← hc.2]
    exact (list4 hc.1).symm
   ·cases ho
  split at ho
  ·rename_i hc
   have ht := h2 (by omega) (by omega) hc.2
   split at ho
   ·rename_i hd
    injection ho with ho
    subst ho
    refine fin _ (by rw [toldO, ht, if_neg (by decide), if_neg (by decide), if_neg (by decide), if_pos rfl]) hd ?_
    rw [fields4, zq8, ← hc.2]
    exact (list2 hc.1).symm
   ·cases ho
  split at ho
  ·rename_i hc
   have ht := h2 (by omega) (by omega) hc.2
   split at ho
   ·rename_i hd
    injection ho with ho
    subst ho
    obtain ⟨n, n1, n2, n3⟩ := num_back hd.1
    have q1 : digN (ofBytes (atF (splL 32 [] l) 1)) = (n : Int) := by rw [← n2]; exact (dig_back n3).1
    refine fin _ (by rw [toldO, ht, if_neg (by decide), if_neg (by decide), if_neg (by decide), if_neg (by decide), if_pos rfl, q1, n1]) hd.2 ?_
    rw [n1, fields5, n2, ← hc.2]
    exact (list2 hc.1).symm
   ·cases ho
  ·cases ho
 -- and the other way round
 have bwd : ∀ o, opR l = some o → docO (splL 32 [] l) = some o := fun o ho => by
  unfold opR at ho
  split at ho
  rotate_left
  ·cases ho
  rename_i hc
  injection ho with ho
  rw [ho] at hc hin
  obtain ⟨hf, hl⟩ := hc
  have hF := form_of hf
  have hs : splL 32 [] l = fieldsO o := by rw [← hl, line_split hin hF]
  rw [hs]
  cases hF with
  | @pool p h =>
   have hpi : p.In := hin.2.1
   obtain ⟨_, _, p3⟩ := textP_sp hpi h
   rw [fields1]
   have e0 : atF [wK 1, textP p] 0 = wK 1 := rfl
   have e1 : atF [wK 1, textP p] 1 = textP p := rfl
   rw [docO, e0, e1, if_pos ⟨rfl, rfl⟩, p3, if_pos ⟨rfl, rfl, hf⟩]
  | @keep a h =>
   have hai : a.In := hin.2.2.1
   obtain ⟨_, _, p3⟩ := textA_sp hai.wf h
   rw [fields2]
   have e0 : atF [wK 2, textA a] 0 = wK 2 := rfl
   have e1 : atF [wK 2, textA a] 1 = textA a := rfl
   rw [docO, e0, e1, if_neg (fun h => absurd h.2 (by decide)), if_pos ⟨rfl, rfl⟩, p3]
   simp only
   rw [if_pos ⟨trivial, hf⟩]
  | @grant w o n h ho hn =>
   rw [fields3]
   have e0 : atF [wK 3, w.data.toList, Lib.decDigits o, Lib.decDigits n] 0 = wK 3 := rfl
   have e1 : atF [wK 3, w.data.toList, Lib.decDigits o, Lib.decDigits n] 1 = w.data.toList := rfl
   have e2 : atF [wK 3, w.data.toList, Lib.decDigits o, Lib.decDigits n] 2 = Lib.decDigits o := rfl
   have e3 : atF [wK 3, w.data.toList, Lib.decDigits o, Lib.decDigits n] 3 = Lib.decDigits n := rfl
   rw [docO, e0, e1, e2, e3, if_neg (fun h => absurd h.2 (by decide)), if_neg (fun h => absurd h.2 (by decide)), if_pos ⟨rfl, rfl⟩, num_of (by omega), num_of (by omega), ofBytes_data, if_pos ⟨rfl, rfl, hf⟩]
  | @free w h =>
   rw [fields4]
   have e0 : atF [wK 4, w.data.toList] 0 = wK 4 := rfl
   have e1 : atF [wK 4, w.data.toList] 1 = w.data.toList := rfl
   rw [docO, e0, e1, if_neg (fun h => absurd h.2 (by decide)), if_neg (fun h => absurd h.2 (by decide)), if_neg (fun h => absurd h.2 (by decide)), if_pos ⟨rfl, rfl⟩, ofBytes_data, if_pos hf]
  | @tick n hn =>
   rw [fields5]
   have e0 : atF [wK 5, Lib.decDigits n] 0 = wK 5 := rfl
   have e1 : atF [wK 5, Lib.decDigits n] 1 = Lib.decDigits n := rfl
   rw [docO, e0, e1, if_neg (fun h => absurd h.2 (by decide)), if_neg (fun h => absurd h.2 (by decide)), if_neg (fun h => absurd h.2 (by decide)), if_neg (fun h => absurd h.2 (by decide)), if_pos ⟨rfl, rfl⟩, num_of (by omega), if_pos ⟨rfl, hf⟩]
 cases hd : docO (splL 32 [] l) with
 | some o => exact (fwd o hd).symm
 | none =>
  cases hr : opR l with
  | none => rfl
  | some o =>
   have := bwd o hr
   rw [hd] at this
   cases this
theorem word_eq {x : List UInt8} {k : Nat} {b : ByteArray} (hb : b = ofBytes (wK k)) : strcmp .eql (ofBytes x) b = decide (x = wK k) := by
 rw [strcmp_eql, hb]
 exact decide_eq_decide.2 ⟨ofBytes_inj, fun h => by rw [h]⟩
theorem len_is (l : List (List UInt8)) (k : Nat) : decide (lenL (l.map ofBytes) = (k : Int)) = decide (l.length = k) := decide_eq_decide.2 (by unfold lenL; rw [List.length_map]; omega)
theorem OpOf_t (s : ByteArray) (hs : s.size ≤ 1048576) : R_OpOf_t s = some (docA (docO (splL 32 [] s.data.toList))) := by
 have hsz : ∀ x ∈ splL 32 [] s.data.toList, x.length ≤ 1048576 := fun x hx => by
  have := splL_size 32 s.data.toList [] x hx
  rw [data_len] at this
  simp at this
  omega
 have hsp := splitAt_t 32 s hs
 rw [show ((32 : UInt8).toNat : Int) = 32 from rfl] at hsp
 unfold R_OpOf_t
 rw [hsp, bind_s]
 generalize splL 32 [] s.data.toList = l at hsz
 have hat : ∀ i, (ofBytes (atF l i)).size ≤ 1048576 := fun i => by
  rw [ofBytes_size]
  unfold atF
  rw [List.getD_eq_getElem?_getD]
  cases hx : l[i]? with
  | none => simp
  | some x => exact hsz x (List.mem_of_getElem? hx)
 have l2 := len_is l 2
 have l4 := len_is l 4
 rw [show ((2 : Nat) : Int) = 2 from rfl] at l2
 rw [show ((4 : Nat) : Int) = 4 from rfl] at l4
 have hstr : ∀ i, strIn (ofBytes (atF l i)) := fun i => by
  have := hat i
  have hm : (1048576 : Nat) ≤ maxLen := by unfold maxLen; decide
  show (ofBytes (atF l i)).size ≤ maxLen
  omega
 have hi : ∀ k : Int, -100 ≤ k → k ≤ 100 → i64In k := fun k h1 h2 => ⟨by omega, by omega⟩
 have hpz : pz.In := noPf_in
 have haz : az.In := noAd_in
 have hem : strIn ByteArray.empty := Nat.zero_le _
 have hlL : lenL (l.map ofBytes) = (l.length : Int) := by unfold lenL; rw [List.length_map]
 have w1 : ∀ x, strcmp .eql (ofBytes x) (⟨#[112, 111, 111, 108]⟩ : ByteArray) = decide (x = wK 1) := fun x => word_eq rfl
 have w2 : ∀ x, strcmp .eql (ofBytes x) (⟨#[107, 101, 101, 112]⟩ : ByteArray) = decide (x = wK 2) := fun x => word_eq rfl
 have w3 : ∀ x, strcmp .eql (ofBytes x) (⟨#[103, 114, 97, 110, 116]⟩ : ByteArray) = decide (x = wK 3) := fun x => word_eq rfl
 have w4 : ∀ x, strcmp .eql (ofBytes x) (⟨#[102, 114, 101, 101]⟩ : ByteArray) = decide (x = wK 4) := fun x => word_eq rfl
 have w5 : ∀ x, strcmp .eql (ofBytes x) (⟨#[116, 105, 99, 107]⟩ : ByteArray) = decide (x = wK 5) := fun x => word_eq rfl
 have bytesEq : ∀ x y : List UInt8, strcmp .eql (ofBytes x) (ofBytes y) = decide (x = y) := fun x y => by
  rw [strcmp_eql]
  exact decide_eq_decide.2 ⟨ofBytes_inj, fun h => by rw [h]⟩
 have pO : ∀ i, R_PrefixOf_t (ofBytes (atF l i)) = some (pfxA (atF l i)) := fun i => by
  have := PrefixOf_t (ofBytes (atF l i)) (hat i)
  rwa [zq8] at this
 have nO : ∀ i, R_NumberOf_t (ofBytes (atF l i)) = some (numA (atF l i)) := fun i => by
  have := NumberOf_t (ofBytes (atF l i))
  rwa [zq8] at this
 have aO : ∀ i, R_ParseOf_t (ofBytes (atF l i)) = some (parsA (toldF (ofBytes (atF l i)))) := fun i => ParseOf_t _ (hat i)
 unfold docO
 by_cases c2 : l.length = 2
 ·have g0 : geti (l.map ofBytes) 0 = some (ofBytes (atF l 0)) := geti_F (i := 0) (by omega)
  have g1 : geti (l.map ofBytes) 1 = some (ofBytes (atF l 1)) := geti_F (i := 1) (by omega)
  have i0 : inRange 0 (lenL (l.map ofBytes)) = true := zq4 (by omega) (by omega)
  have i1 : inRange 1 (lenL (l.map ofBytes)) = true := zq4 (by omega) (by omega)
  have c4 : ¬ l.length = 4 := by omega
  simp only [l2, l4, decide_eq_true c2, decide_eq_false c4, br_true, br_false, i0, i1, req_true, g0, g1, bind_s, w1, w2, w3, w4, w5, pO, nO, aO]
  by_cases k1 : atF l 0 = wK 1
  ·rw [if_pos ⟨c2, k1⟩]
   simp only [decide_eq_true k1, br_true]
   obtain ⟨pin, pchk⟩ := pfxA_in (atF l 1)
   by_cases he : (pfxA (atF l 1)).2.1 = 0
   ·have hform : (⟨1, (pfxA (atF l 1)).1, az, ByteArray.empty, 0, 0⟩ : Oq).In := ⟨hi 1 (by omega) (by omega), pin, haz, hem, hi 0 (by omega) (by omega), hi 0 (by omega) (by omega)⟩
    have hC := R_CheckOp_eq hform
    unfold az at hC
    simp only [decide_eq_true he, br_true, PrefixText_t pin (pchk he), bind_s, bytesEq, hC]
    by_cases ht : textP (pfxA (atF l 1)).1 = atF l 1
    ·simp only [decide_eq_true ht, Bool.not_true, br_false, bind_s]
     by_cases hf : formO ⟨1, (pfxA (atF l 1)).1, ⟨false, 0, 0⟩, ByteArray.empty, 0, 0⟩ = 0
     ·rw [if_pos ⟨he, ht, hf⟩, decide_eq_true hf]
      rfl
     ·rw [if_neg (fun h => hf h.2.2), decide_eq_false hf]
      rfl
    ·rw [if_neg (fun h => ht h.2.1)]
     simp only [decide_eq_false ht, Bool.not_false, br_true, bind_s]
     rfl
   ·rw [if_neg (fun h => he h.1)]
    simp only [decide_eq_false he, br_false, dup_eq, both_self]
    rfl
  rw [if_neg (fun h => k1 h.2)]
  simp only [decide_eq_false k1, br_false]
  by_cases k2 : atF l 0 = wK 2
  ·rw [if_pos ⟨c2, k2⟩]
   simp only [decide_eq_true k2, br_true]
   unfold parsA
   cases ht : toldF (ofBytes (atF l 1)) with
   | none =>
    simp only [br_false, bind_s, Bool.not_false, br_true]
    rfl
   | some a =>
    have ain := told_in ht
    have hform : (⟨2, pz, a, ByteArray.empty, 0, 0⟩ : Oq).In := ⟨hi 2 (by omega) (by omega), hpz, ain, hem, hi 0 (by omega) (by omega), hi 0 (by omega) (by omega)⟩
    have hC := R_CheckOp_eq hform
    unfold pz at hC
    simp only [br_true, TextOf_t ain, bind_s, bytesEq, hC]
    by_cases htx : textA a = atF l 1
    ·simp only [decide_eq_true htx, Bool.not_true, br_false, bind_s]
     by_cases hf : formO ⟨2, ⟨⟨false, 0, 0⟩, 0⟩, a, ByteArray.empty, 0, 0⟩ = 0
     ·rw [if_pos ⟨htx, hf⟩, decide_eq_true hf]
      rfl
     ·rw [if_neg (fun h => hf h.2), decide_eq_false hf]
      rfl
    ·rw [if_neg (fun h => htx h.1)]
     simp only [decide_eq_false htx, Bool.not_false, br_true, bind_s]
     rfl
  rw [if_neg (fun h => k2 h.2), if_neg (fun h => c4 h.1)]
  simp only [decide_eq_false k2, br_false]
  by_cases k4 : atF l 0 = wK 4
  ·rw [if_pos ⟨c2, k4⟩]
   simp only [decide_eq_true k4, br_true]
   have hform : (⟨4, pz, az, ofBytes (atF l 1), 0, 0⟩ : Oq).In := ⟨hi 4 (by omega) (by omega), hpz, haz, hstr 1, hi 0 (by omega) (by omega), hi 0 (by omega) (by omega)⟩
   have hC := R_CheckOp_eq hform
   unfold pz az at hC
   simp only [hC, bind_s]
   by_cases hf : formO ⟨4, ⟨⟨false, 0, 0⟩, 0⟩, ⟨false, 0, 0⟩, ofBytes (atF l 1), 0, 0⟩ = 0
   ·have hf' : formO ⟨4, pz, az, ofBytes (atF l 1), 0, 0⟩ = 0 := hf
    rw [if_pos hf', decide_eq_true hf]
    rfl
   ·have hf' : ¬ formO ⟨4, pz, az, ofBytes (atF l 1), 0, 0⟩ = 0 := hf
    rw [if_neg hf', decide_eq_false hf]
    rfl
  rw [if_neg (fun h => k4 h.2)]
  simp only [decide_eq_false k4, br_false]
  by_cases k5 : atF l 0 = wK 5
  ·rw [if_pos ⟨c2, k5⟩]
   simp only [decide_eq_true k5, br_true]
   have hn := numA_in (atF l 1)
   have hform : (⟨5, pz, az, ByteArray.empty, 0, (numA (atF l 1)).1⟩ : Oq).In := ⟨hi 5 (by omega) (by omega), hpz, haz, hem, hi 0 (by omega) (by omega), hn⟩
   have hC := R_CheckOp_eq hform
   unfold pz az at hC
   rcases hq : numA (atF l 1) with ⟨n, b, u⟩
   rw [hq] at hC
   simp only at hC
   cases b
   ·rw [if_neg (fun h => (by cases h.1))]
    simp only [Bool.not_false, br_true, bind_s]
    rfl
   ·simp only [Bool.not_true, br_false, hC, bind_s]
    by_cases hf : formO ⟨5, ⟨⟨false, 0, 0⟩, 0⟩, ⟨false, 0, 0⟩, ByteArray.empty, 0, n⟩ = 0
    ·rw [if_pos ⟨trivial, hf⟩, decide_eq_true hf]
     rfl
    ·rw [if_neg (fun h => hf h.2), decide_eq_false hf]
     rfl
  rw [if_neg (fun h => k5 h.2)]
  simp only [decide_eq_false k5, br_false]
  rfl
 ·by_cases c4 : l.length = 4
  ·have g0 : geti (l.map ofBytes) 0 = some (ofBytes (atF l 0)) := geti_F (i := 0) (by omega)
   have g1 : geti (l.map ofBytes) 1 = some (ofBytes (atF l 1)) := geti_F (i := 1) (by omega)
   have g2 : geti (l.map ofBytes) 2 = some (ofBytes (atF l 2)) := geti_F (i := 2) (by omega)
   have g3 : geti (l.map ofBytes) 3 = some (ofBytes (atF l 3)) := geti_F (i := 3) (by omega)
   have i0 : inRange 0 (lenL (l.map ofBytes)) = true := zq4 (by omega) (by omega)
   have i1 : inRange 1 (lenL (l.map ofBytes)) = true := zq4 (by omega) (by omega)
   have i2 : inRange 2 (lenL (l.map ofBytes)) = true := zq4 (by omega) (by omega)
   have i3 : inRange 3 (lenL (l.map ofBytes)) = true := zq4 (by omega) (by omega)
   simp only [l2, l4, decide_eq_false c2, decide_eq_true c4, br_true, br_false, i0, i1, i2, i3, req_true, g0, g1, g2, g3, bind_s, w3, nO]
   rw [if_neg (fun h => c2 h.1), if_neg (fun h => c2 h.1)]
   by_cases k3 : atF l 0 = wK 3
   ·rw [if_pos ⟨c4, k3⟩]
    simp only [decide_eq_true k3, br_true]
    have hn := numA_in (atF l 2)
    have hm := numA_in (atF l 3)
    have hform : (⟨3, pz, az, ofBytes (atF l 1), (numA (atF l 2)).1, (numA (atF l 3)).1⟩ : Oq).In := ⟨hi 3 (by omega) (by omega), hpz, haz, hstr 1, hn, hm⟩
    have hC := R_CheckOp_eq hform
    unfold pz az at hC
    rcases hq : numA (atF l 2) with ⟨n, b, u⟩
    rcases hq2 : numA (atF l 3) with ⟨m, b2, u2⟩
    rw [hq, hq2] at hC
    simp only at hC
    cases b
    ·rw [if_neg (fun h => (by cases h.1))]
     simp only [br_false, Bool.not_false, br_true, bind_s]
     rfl
    ·cases b2
     ·rw [if_neg (fun h => (by cases h.2.1))]
      simp only [br_true, Bool.not_false, bind_s]
      rfl
     ·simp only [br_true, Bool.not_true, br_false, hC, bind_s]
      by_cases hf : formO ⟨3, ⟨⟨false, 0, 0⟩, 0⟩, ⟨false, 0, 0⟩, ofBytes (atF l 1), n, m⟩ = 0
      ·rw [if_pos ⟨trivial, trivial, hf⟩, decide_eq_true hf]
       rfl
      ·rw [if_neg (fun h => hf h.2.2), decide_eq_false hf]
       rfl
   rw [if_neg (fun h => k3 h.2), if_neg (fun h => c2 h.1), if_neg (fun h => c2 h.1)]
   simp only [decide_eq_false k3, br_false, bind_s]
   rfl
  ·simp only [l2, l4, decide_eq_false c2, decide_eq_false c4, br_false, bind_s]
   rw [if_neg (fun h => c2 h.1), if_neg (fun h => c2 h.1), if_neg (fun h => c4 h.1), if_neg (fun h => c2 h.1), if_neg (fun h => c2 h.1)]
   rfl
theorem TextTells_eq {o : Oq} (ho : o.In) {s : ByteArray} (hs : s.size ≤ 1048576) : law_TextTells_t o s = some (true, ()) := by
 have hP := text_Parse_A s hs
 have hPr := text_Print_O ho
 have hO := OpOf_t s hs
 have hsz : ∀ x ∈ splL 32 [] s.data.toList, x.length ≤ 1048576 := fun x hx => by
  have := splL_size 32 s.data.toList [] x hx
  rw [data_len] at this
  simp at this
  omega
 rw [doc_same _ hsz] at hO
 have hC := R_CheckOp_eq ho
 have hb := textBegun_eq
 unfold opA at hP
 unfold docA at hO
 unfold law_TextTells_t law_TextTells_G
 by_cases hf : formO o = 0
 ·have hL := LineOf_O ho (form_of hf)
  rw [if_pos hf] at hPr
  cases hr : opR s.data.toList with
  | none =>
   rw [hr] at hP hO
   simp [hb, hPr, hP, hC, hf, hL, hO, br, eqOq_eq, strcmp_eql]
  | some x =>
   rw [hr] at hP hO
   simp [hb, hPr, hP, hC, hf, hL, hO, br, eqOq_eq, strcmp_eql]
 ·rw [if_neg hf] at hPr
  cases hr : opR s.data.toList with
  | none =>
   rw [hr] at hP hO
   simp [hb, hPr, hP, hC, hf, hO, br, eqOq_eq, strcmp_eql]
  | some x =>
   rw [hr] at hP hO
   simp [hb, hPr, hP, hC, hf, hO, br, eqOq_eq, strcmp_eql]
end Go.Ma
namespace Go.Proofs.YtafggolijpopeaaGreatDoor
open Go Go.Ma
def noTi : TI := { known := false, kind := .other, agg := false, size := 0, zero := [], fields := [], elem := 0 }
def ti_1 : TI := { kind := .other, agg := false, size := 1, zero := [.nilFunc], fields := [], elem := 0, bytes := 8, eq := false, k := none }
def ti_2 : TI := { kind := (.int .i64), agg := false, size := 1, zero := [.int .i64 0], fields := [], elem := 0, bytes := 8, eq := false, k := some .int }
def ti_3 : TI := ti_2
def ti_4 : TI := { kind := .bool, agg := false, size := 1, zero := [.bool false], fields := [], elem := 0, bytes := 1, eq := false, k := some .bool }
def ti_5 : TI := { kind := (.int .u8), agg := false, size := 1, zero := [.int .u8 0], fields := [], elem := 0, bytes := 1, eq := false, k := some .u8 }
def ti_6 : TI := ti_5
def ti_7 : TI := { kind := .struct, agg := true, size := 4, zero := [.int .i64 0, .int .i64 0, .bool false, .int .u8 0], fields := [(0, 2), (1, 3), (2, 4), (3, 6)], elem := 0, bytes := 24, eq := false, k := none }
def ti_8 : TI := ti_7
def ti_9 : TI := { kind := .str, agg := false, size := 1, zero := [.string .empty], fields := [], elem := 0, bytes := 16, eq := false, k := some .str, gl := some 0 }
def ti_10 : TI := { kind := .str, agg := false, size := 1, zero := [.string .empty], fields := [], elem := 0, bytes := 16, eq := false, k := some .str }
def ti_11 : TI := ti_10
def ti_12 : TI := { kind := (.int .u64), agg := false, size := 1, zero := [.int .u64 0], fields := [], elem := 0, bytes := 8, eq := false, k := some .u64 }
def ti_13 : TI := { kind := .struct, agg := true, size := 2, zero := [.string .empty, .int .u64 0], fields := [(0, 9), (1, 12)], elem := 0, bytes := 24, eq := false, k := none }
def ti_14 : TI := ti_13
def ti_15 : TI := { kind := .other, agg := false, size := 1, zero := [.pointer none], fields := [], elem := 0, bytes := 8, eq := false, k := none }
def ti_16 : TI := ti_15
def ti_17 : TI := ti_15
def ti_18 : TI := { kind := .struct, agg := true, size := 1, zero := [.pointer none], fields := [(0, 17)], elem := 0, bytes := 8, eq := false, k := none }
def ti_19 : TI := ti_18
def ti_20 : TI := { kind := .other, agg := false, size := 1, zero := [.nilIface], fields := [], elem := 0, bytes := 16, eq := false, k := none }
def ti_21 : TI := { kind := (.int .i32), agg := false, size := 1, zero := [.int .i32 0], fields := [], elem := 0, bytes := 4, eq := false, k := none }
def ti_22 : TI := ti_12
def ti_23 : TI := { kind := .struct, agg := true, size := 3, zero := [.bool false, .int .u64 0, .int .u64 0], fields := [(0, 4), (1, 22), (2, 22)], elem := 0, bytes := 24, eq := false, k := none }
def ti_24 : TI := { kind := .struct, agg := true, size := 3, zero := [.bool false, .int .u64 0, .int .u64 0], fields := [(0, 4), (1, 22), (2, 22)], elem := 0, bytes := 24, eq := true, k := some .addr }
def ti_25 : TI := { kind := .struct, agg := true, size := 4, zero := [.bool false, .int .u64 0, .int .u64 0, .int .i64 0], fields := [(0, 24), (3, 3)], elem := 0, bytes := 32, eq := false, k := none }
def ti_26 : TI := { kind := .struct, agg := true, size := 4, zero := [.bool false, .int .u64 0, .int .u64 0, .int .i64 0], fields := [(0, 24), (3, 3)], elem := 0, bytes := 32, eq := true, k := some .pfx }
def ti_27 : TI := ti_2
def ti_29 : TI := ti_1
def ti_31 : TI := ti_1
def ti_33 : TI := ti_1
def ti_35 : TI := ti_1
def ti_37 : TI := ti_1
def ti_38 : TI := ti_1
def ti_39 : TI := ti_1
def ti_40 : TI := ti_1
def ti_41 : TI := ti_1
def ti_42 : TI := ti_1
def ti_44 : TI := ti_1
def ti_46 : TI := ti_1
def ti_47 : TI := ti_1
def ti_48 : TI := ti_1
def ti_49 : TI := ti_1
def ti_50 : TI := { kind := .struct, agg := true, size := 11, zero := [.int .i64 0, .bool false, .int .u64 0, .int .u64 0, .int .i64 0, .bool false, .int .u64 0, .int .u64 0, .string .empty, .int .i64 0, .int .i64 0], fields := [(0, 3), (1, 26), (5, 24), (8, 9), (9, 3), (10, 3)], elem := 0, bytes := 96, eq := false, k := none }
def ti_51 : TI := { kind := .struct, agg := true, size := 11, zero := [.int .i64 0, .bool false, .int .u64 0, .int .u64 0, .int .i64 0, .bool false, .int .u64 0, .int .u64 0, .string .empty, .int .i64 0, .int .i64 0], fields := [(0, 3), (1, 26), (5, 24), (8, 9), (9, 3), (10, 3)], elem := 0, bytes := 96, eq := true, k := some .op }
def ti_52 : TI := ti_1
def ti_54 : TI := ti_1
def ti_55 : TI := ti_1
def ti_56 : TI := ti_1
def ti_58 : TI := ti_1
def ti_59 : TI := ti_1
def ti_61 : TI := ti_1
def ti_63 : TI := ti_1
def ti_65 : TI := ti_1
def ti_66 : TI := ti_1
def ti_67 : TI := ti_1
def ti_68 : TI := ti_1
def ti_69 : TI := ti_1
def ti_70 : TI := ti_1
def ti_71 : TI := ti_1
def ti_72 : TI := { kind := .slice, agg := false, size := 1, zero := [.slice none 0 0], fields := [], elem := 5, bytes := 24, eq := false, k := none, sl := [(0, .inl .u8, 5)] }
def ti_73 : TI := ti_1
def ti_74 : TI := { kind := .slice, agg := false, size := 1, zero := [.slice none 0 0], fields := [], elem := 9, bytes := 24, eq := false, k := none, sl := [(0, .inl .str, 9)] }
def ti_75 : TI := ti_1
def ti_77 : TI := ti_1
def ti_78 : TI := ti_1
def ti_79 : TI := ti_1
def ti_80 : TI := ti_1
def ti_81 : TI := ti_1
def ti_82 : TI := ti_1
def ti_83 : TI := ti_1
def ti_84 : TI := ti_1
def ti_85 : TI := ti_1
def ti_86 : TI := { kind := .slice, agg := false, size := 1, zero := [.slice none 0 0], fields := [], elem := 51, bytes := 24, eq := false, k := none, sl := [(0, .inl .op, 51)] }
def ti_87 : TI := ti_1
def ti_88 : TI := { kind := .slice, agg := false, size := 1, zero := [.slice none 0 0], fields := [], elem := 116, bytes := 24, eq := false, k := none, sl := [(0, .inr (.pfx, .addr, 24), 116)] }
def ti_89 : TI := { kind := .slice, agg := false, size := 1, zero := [.slice none 0 0], fields := [], elem := 121, bytes := 24, eq := false, k := none, sl := [(0, .inl .lease, 121)] }
def ti_90 : TI := { kind := .struct, agg := true, size := 3, zero := [.slice none 0 0, .slice none 0 0, .int .i64 0], fields := [(0, 88), (1, 89), (2, 3)], elem := 0, bytes := 56, eq := false, k := none, sl := [(0, .inr (.pfx, .addr, 24), 116), (1, .inl .lease, 121)] }
def ti_91 : TI := ti_90
def ti_93 : TI := ti_1
def ti_94 : TI := ti_1
def ti_95 : TI := ti_1
def ti_96 : TI := ti_1
def ti_97 : TI := ti_1
def ti_98 : TI := ti_20
def ti_99 : TI := ti_20
def ti_101 : TI := ti_1
def ti_102 : TI := { kind := .slice, agg := false, size := 1, zero := [.slice none 0 0], fields := [], elem := 26, bytes := 24, eq := false, k := none, sl := [(0, .inl .pfx, 26)] }
def ti_103 : TI := ti_1
def ti_104 : TI := ti_1
def ti_105 : TI := { kind := .other, agg := true, size := 8, zero := [.int .i64 0, .int .i64 0, .int .i64 0, .int .i64 0, .int .i64 0, .int .i64 0, .int .i64 0, .int .i64 0], fields := [], elem := 3, bytes := 64, eq := false, k := none, arr := some 8 }
def ti_107 : TI := ti_1
def ti_108 : TI := ti_1
def ti_109 : TI := { kind := .other, agg := true, size := 6, zero := [.string .empty, .string .empty, .string .empty, .string .empty, .string .empty, .string .empty], fields := [], elem := 9, bytes := 96, eq := false, k := none, gl := some 0 }
def ti_110 : TI := ti_1
def ti_111 : TI := ti_1
def ti_112 : TI := ti_1
def ti_113 : TI := ti_1
def ti_114 : TI := { kind := .slice, agg := false, size := 1, zero := [.slice none 0 0], fields := [], elem := 24, bytes := 24, eq := false, k := none, sl := [(0, .inl .addr, 24)] }
def ti_115 : TI := { kind := .struct, agg := true, size := 5, zero := [.bool false, .int .u64 0, .int .u64 0, .int .i64 0, .slice none 0 0], fields := [(0, 26), (4, 114)], elem := 0, bytes := 56, eq := false, k := none, nk := some (.pfx, .addr, 24), sl := [(4, .inl .addr, 24)] }
def ti_116 : TI := ti_115
def ti_117 : TI := ti_1
def ti_118 : TI := ti_1
def ti_119 : TI := ti_1
def ti_120 : TI := { kind := .struct, agg := true, size := 5, zero := [.bool false, .int .u64 0, .int .u64 0, .string .empty, .int .i64 0], fields := [(0, 24), (3, 9), (4, 3)], elem := 0, bytes := 48, eq := false, k := none }
def ti_121 : TI := { kind := .struct, agg := true, size := 5, zero := [.bool false, .int .u64 0, .int .u64 0, .string .empty, .int .i64 0], fields := [(0, 24), (3, 9), (4, 3)], elem := 0, bytes := 48, eq := true, k := some .lease }
def ti_122 : TI := ti_1
def ti_123 : TI := ti_1
def ti_124 : TI := ti_1
def ti_126 : TI := ti_1
def ti_127 : TI := ti_1
def ti_128 : TI := ti_1
def ti_129 : TI := { kind := .struct, agg := true, size := 0, zero := [], fields := [], elem := 0, bytes := 0, eq := false, k := none }
def ti_130 : TI := ti_129
def ti_132 : TI := ti_1
def ti_133 : TI := ti_1
def ti_134 : TI := ti_1
def ti_135 : TI := ti_15
def ti_136 : TI := { kind := .struct, agg := true, size := 2, zero := [.pointer none, .slice none 0 0], fields := [(0, 135), (1, 72)], elem := 0, bytes := 32, eq := false, k := none, sl := [(1, .inl .u8, 5)] }
def ti_137 : TI := ti_136
def ti_138 : TI := ti_1
def ti_139 : TI := ti_1
def ti_140 : TI := ti_1
def ti_141 : TI := ti_15
def ti_142 : TI := ti_1
def ti_143 : TI := { kind := .struct, agg := true, size := 3, zero := [.slice none 0 0, .slice none 0 0, .int .i64 0], fields := [(0, 91)], elem := 0, bytes := 56, eq := false, k := none, sl := [(0, .inr (.pfx, .addr, 24), 116), (1, .inl .lease, 121)] }
def ti_144 : TI := ti_143
def ti_145 : TI := ti_1
def ti_146 : TI := ti_1
def ti_147 : TI := ti_1
def ti_148 : TI := ti_1
def ti_149 : TI := ti_1
def ti_150 : TI := { kind := .other, agg := false, size := 1, zero := [.map none], fields := [], elem := 0, bytes := 8, eq := false, k := none }
def ti_151 : TI := ti_1
def ti_152 : TI := ti_1
def ti_153 : TI := ti_1
def ti_154 : TI := ti_1
def ti_155 : TI := ti_1
def ti_156 : TI := ti_1
def ti_157 : TI := ti_12
def ti_158 : TI := { kind := .slice, agg := false, size := 1, zero := [.slice none 0 0], fields := [], elem := 22, bytes := 24, eq := false, k := none, sl := [(0, .inl .u64, 22)] }
def ti_159 : TI := ti_1
def ti_160 : TI := ti_1
def ti_161 : TI := ti_2
def ti_163 : TI := ti_1
def ti_164 : TI := ti_15
def ti_165 : TI := ti_1
def ti_166 : TI := ti_1
def ti_167 : TI := ti_15
def ti_169 : TI := ti_1
def ti_170 : TI := ti_1
def ti_171 : TI := ti_1
def ti_172 : TI := ti_1
def ti_173 : TI := ti_1
def ti_174 : TI := ti_1
def ti_175 : TI := ti_1
def ti_176 : TI := { kind := .other, agg := true, size := 24, zero := [.int .u8 0, .int .u8 0, .int .u8 0, .int .u8 0, .int .u8 0, .int .u8 0, .int .u8 0, .int .u8 0, .int .u8 0, .int .u8 0, .int .u8 0, .int .u8 0, .int .u8 0, .int .u8 0, .int .u8 0, .int .u8 0, .int .u8 0, .int .u8 0, .int .u8 0, .int .u8 0, .int .u8 0, .int .u8 0, .int .u8 0, .int .u8 0], fields := [], elem := 5, bytes := 24, eq := false, k := none }
def ti_177 : TI := ti_1
def ti_178 : TI := ti_1
def ti_180 : TI := ti_1
def ti_181 : TI := { kind := (.int .u32), agg := false, size := 1, zero := [.int .u32 0], fields := [], elem := 0, bytes := 4, eq := false, k := none }
def ti_183 : TI := ti_1
def ti_185 : TI := ti_1
def ti_186 : TI := ti_1
def ti_187 : TI := { kind := .struct, agg := true, size := 3, zero := [.string .empty, .string .empty, .nilIface], fields := [(0, 9), (1, 9), (2, 99)], elem := 0, bytes := 48, eq := false, k := none }
def ti_188 : TI := ti_187
def ti_189 : TI := ti_1
def ti_190 : TI := ti_15
def ti_191 : TI := ti_1
def ti_192 : TI := ti_1
def ti_193 : TI := ti_1
def ti_194 : TI := ti_1
def ti_195 : TI := ti_1
def ti_196 : TI := ti_1
def ti_197 : TI := ti_15
def ti_198 : TI := ti_1
def ti_199 : TI := ti_1
def ti_201 : TI := ti_1
def ti_202 : TI := ti_1
def ti_203 : TI := ti_1
def ti_204 : TI := ti_1
def ti_205 : TI := ti_1
def ti_206 : TI := ti_1
def ti_207 : TI := { kind := .other, agg := true, size := 20, zero := [.int .u64 0, .int .u64 0, .int .u64 0, .int .u64 0, .int .u64 0, .int .u64 0, .int .u64 0, .int .u64 0, .int .u64 0, .int .u64 0, .int .u64 0, .int .u64 0, .int .u64 0, .int .u64 0, .int .u64 0, .int .u64 0, .int .u64 0, .int .u64 0, .int .u64 0, .int .u64 0], fields := [], elem := 22, bytes := 160, eq := false, k := none }
def ti_209 : TI := ti_1
def ti_210 : TI := ti_1
def ti_211 : TI := ti_1
def ti_212 : TI := ti_15
def ti_213 : TI := { kind := .struct, agg := true, size := 1, zero := [.string .empty], fields := [(0, 9)], elem := 0, bytes := 16, eq := false, k := none }
def ti_214 : TI := ti_213
def ti_216 : TI := { kind := .struct, agg := true, size := 2, zero := [.int .u8 0, .int .u8 0], fields := [(0, 5), (1, 5)], elem := 0, bytes := 2, eq := false, k := none }
def ti_217 : TI := ti_216
def ti_218 : TI := { kind := .other, agg := true, size := 32, zero := [.int .u8 0, .int .u8 0, .int .u8 0, .int .u8 0, .int .u8 0, .int .u8 0, .int .u8 0, .int .u8 0, .int .u8 0, .int .u8 0, .int .u8 0, .int .u8 0, .int .u8 0, .int .u8 0, .int .u8 0, .int .u8 0, .int .u8 0, .int .u8 0, .int .u8 0, .int .u8 0, .int .u8 0, .int .u8 0, .int .u8 0, .int .u8 0, .int .u8 0, .int .u8 0, .int .u8 0, .int .u8 0, .int .u8 0, .int .u8 0, .int .u8 0, .int .u8 0], fields := [], elem := 217, bytes := 32, eq := false, k := none }
def ti_219 : TI := ti_1
def ti_220 : TI := ti_1
def ti_221 : TI := ti_1
def ti_222 : TI := ti_1
def ti_223 : TI := ti_15
def ti_224 : TI := { kind := .struct, agg := true, size := 6, zero := [.bool false, .int .u64 0, .int .u64 0, .int .i64 0, .slice none 0 0, .slice none 0 0], fields := [(0, 116), (5, 89)], elem := 0, bytes := 80, eq := false, k := none, sl := [(4, .inl .addr, 24), (5, .inl .lease, 121)] }
def ti_225 : TI := ti_224
def ti_226 : TI := ti_1
def ti_227 : TI := ti_1
def ti_228 : TI := ti_1
def ti_229 : TI := ti_1
def ti_230 : TI := ti_1
def ti_231 : TI := ti_1
def ti_232 : TI := ti_1
def ti_233 : TI := ti_1
def ti_234 : TI := ti_1
def ti_235 : TI := ti_1
def ti_236 : TI := ti_1
def ti_237 : TI := ti_2
def ti_239 : TI := ti_1
def ti_240 : TI := ti_1
def ti_241 : TI := ti_1
def ti_242 : TI := ti_1
def ti_243 : TI := { kind := .other, agg := true, size := 32, zero := [.int .u8 0, .int .u8 0, .int .u8 0, .int .u8 0, .int .u8 0, .int .u8 0, .int .u8 0, .int .u8 0, .int .u8 0, .int .u8 0, .int .u8 0, .int .u8 0, .int .u8 0, .int .u8 0, .int .u8 0, .int .u8 0, .int .u8 0, .int .u8 0, .int .u8 0, .int .u8 0, .int .u8 0, .int .u8 0, .int .u8 0, .int .u8 0, .int .u8 0, .int .u8 0, .int .u8 0, .int .u8 0, .int .u8 0, .int .u8 0, .int .u8 0, .int .u8 0], fields := [], elem := 5, bytes := 32, eq := false, k := none }
def ti_244 : TI := { kind := .other, agg := true, size := 64, zero := [.int .u8 0, .int .u8 0, .int .u8 0, .int .u8 0, .int .u8 0, .int .u8 0, .int .u8 0, .int .u8 0, .int .u8 0, .int .u8 0, .int .u8 0, .int .u8 0, .int .u8 0, .int .u8 0, .int .u8 0, .int .u8 0, .int .u8 0, .int .u8 0, .int .u8 0, .int .u8 0, .int .u8 0, .int .u8 0, .int .u8 0, .int .u8 0, .int .u8 0, .int .u8 0, .int .u8 0, .int .u8 0, .int .u8 0, .int .u8 0, .int .u8 0, .int .u8 0, .int .u8 0, .int .u8 0, .int .u8 0, .int .u8 0, .int .u8 0, .int .u8 0, .int .u8 0, .int .u8 0, .int .u8 0, .int .u8 0, .int .u8 0, .int .u8 0, .int .u8 0, .int .u8 0, .int .u8 0, .int .u8 0, .int .u8 0, .int .u8 0, .int .u8 0, .int .u8 0, .int .u8 0, .int .u8 0, .int .u8 0, .int .u8 0, .int .u8 0, .int .u8 0, .int .u8 0, .int .u8 0, .int .u8 0, .int .u8 0, .int .u8 0, .int .u8 0], fields := [], elem := 5, bytes := 64, eq := false, k := none }
def ti_245 : TI := ti_1
def ti_246 : TI := ti_1
def ti_247 : TI := ti_1
def ti_248 : TI := ti_12
def ti_249 : TI := ti_1
def ti_250 : TI := ti_1
def ti_251 : TI := ti_1
def ti_252 : TI := ti_15
def ti_253 : TI := ti_1
def ti_254 : TI := ti_1
def ti_255 : TI := ti_1
def ti_256 : TI := ti_15
def ti_257 : TI := ti_1
def ti_258 : TI := { kind := .struct, agg := true, size := 4, zero := [.pointer none, .pointer none, .pointer none, .string .empty], fields := [(0, 17), (1, 17), (2, 17), (3, 9)], elem := 0, bytes := 40, eq := false, k := none }
def ti_259 : TI := ti_258
def ti_260 : TI := { kind := .other, agg := true, size := 0, zero := [], fields := [], elem := 16, bytes := 0, eq := false, k := none }
def ti_261 : TI := { kind := .struct, agg := true, size := 0, zero := [], fields := [(0, 260)], elem := 0, bytes := 0, eq := false, k := none }
def ti_262 : TI := ti_261
def ti_263 : TI := ti_1
def ti_264 : TI := ti_5
def ti_265 : TI := ti_5
def ti_266 : TI := ti_1
def ti_267 : TI := ti_21
def ti_268 : TI := ti_21
def ti_269 : TI := { kind := .struct, agg := true, size := 11, zero := [.int .u64 0, .int .u64 0, .int .u32 0, .int .u8 0, .int .u8 0, .int .u8 0, .int .u8 0, .nilFunc, .pointer none, .int .i32 0, .int .i32 0], fields := [(0, 12), (1, 12), (2, 181), (3, 264), (4, 5), (5, 5), (6, 265), (7, 266), (8, 167), (9, 267), (10, 268)], elem := 0, bytes := 48, eq := false, k := none }
def ti_270 : TI := ti_269
def ty (t : Nat) : TI := bif Nat.blt t 272 then (bif Nat.blt t 136 then (bif Nat.blt t 68 then (bif Nat.blt t 34 then (bif Nat.blt t 17 then (bif Nat.blt t 8 then (bif Nat.blt t 4 then (bif Nat.blt t 2 then (bif Nat.blt t 1 then noTi else ti_1) else (bif Nat.blt t 3 then ti_2 else ti_3)) else (bif Nat.blt t 6 then (bif Nat.blt t 5 then ti_4 else ti_5) else (bif Nat.blt t 7 then ti_6 else ti_7))) else (bif Nat.blt t 12 then (bif Nat.blt t 10 then (bif Nat.blt t 9 then ti_8 else ti_9) else (bif Nat.blt t 11 then ti_10 else ti_11)) else (bif Nat.blt t 14 then (bif Nat.blt t 13 then ti_12 else ti_13) else (bif Nat.blt t 15 then ti_14 else (bif Nat.blt t 16 then ti_15 else ti_16))))) else (bif Nat.blt t 25 then (bif Nat.blt t 21 then (bif Nat.blt t 19 then (bif Nat.blt t 18 then ti_17 else ti_18) else (bif Nat.blt t 20 then ti_19 else ti_20)) else (bif Nat.blt t 23 then (bif Nat.blt t 22 then ti_21 else ti_22) else (bif Nat.blt t 24 then ti_23 else ti_24))) else (bif Nat.blt t 29 then (bif Nat.blt t 27 then (bif Nat.blt t 26 then ti_25 else ti_26) else (bif Nat.blt t 28 then ti_27 else noTi)) else (bif Nat.blt t 31 then (bif Nat.blt t 30 then ti_29 else noTi) else (bif Nat.blt t 32 then ti_31 else (bif Nat.blt t 33 then noTi else ti_33)))))) else (bif Nat.blt t 51 then (bif Nat.blt t 42 then (bif Nat.blt t 38 then (bif Nat.blt t 36 then (bif Nat.blt t 35 then noTi else ti_35) else (bif Nat.blt t 37 then noTi else ti_37)) else (bif Nat.blt t 40 then (bif Nat.blt t 39 then ti_38 else ti_39) else (bif Nat.blt t 41 then ti_40 else ti_41))) else (bif Nat.blt t 46 then (bif Nat.blt t 44 then (bif Nat.blt t 43 then ti_42 else noTi) else (bif Nat.blt t 45 then ti_44 else noTi)) else (bif Nat.blt t 48 then (bif Nat.blt t 47 then ti_46 else ti_47) else (bif Nat.blt t 49 then ti_48 else (bif Nat.blt t 50 then ti_49 else ti_50))))) else (bif Nat.blt t 59 then (bif Nat.blt t 55 then (bif Nat.blt t 53 then (bif Nat.blt t 52 then ti_51 else ti_52) else (bif Nat.blt t 54 then noTi else ti_54)) else (bif Nat.blt t 57 then (bif Nat.blt t 56 then ti_55 else ti_56) else (bif Nat.blt t 58 then noTi else ti_58))) else (bif Nat.blt t 63 then (bif Nat.blt t 61 then (bif Nat.blt t 60 then ti_59 else noTi) else (bif Nat.blt t 62 then ti_61 else noTi)) else (bif Nat.blt t 65 then (bif Nat.blt t 64 then ti_63 else noTi) else (bif Nat.blt t 66 then ti_65 else (bif Nat.blt t 67 then ti_66 else ti_67))))))) else (bif Nat.blt t 102 then (bif Nat.blt t 85 then (bif Nat.blt t 76 then (bif Nat.blt t 72 then (bif Nat.blt t 70 then (bif Nat.blt t 69 then ti_68 else ti_69) else (bif Nat.blt t 71 then ti_70 else ti_71)) else (bif Nat.blt t 74 then (bif Nat.blt t 73 then ti_72 else ti_73) else (bif Nat.blt t 75 then ti_74 else ti_75))) else (bif Nat.blt t 80 then (bif Nat.blt t 78 then (bif Nat.blt t 77 then noTi else ti_77) else (bif Nat.blt t 79 then ti_78 else ti_79)) else (bif Nat.blt t 82 then (bif Nat.blt t 81 then ti_80 else ti_81) else (bif Nat.blt t 83 then ti_82 else (bif Nat.blt t 84 then ti_83 else ti_84))))) else (bif Nat.blt t 93 then (bif Nat.blt t 89 then (bif Nat.blt t 87 then (bif Nat.blt t 86 then ti_85 else ti_86) else (bif Nat.blt t 88 then ti_87 else ti_88)) else (bif Nat.blt t 91 then (bif Nat.blt t 90 then ti_89 else ti_90) else (bif Nat.blt t 92 then ti_91 else noTi))) else (bif Nat.blt t 97 then (bif Nat.blt t 95 then (bif Nat.blt t 94 then ti_93 else ti_94) else (bif Nat.blt t 96 then ti_95 else ti_96)) else (bif Nat.blt t 99 then (bif Nat.blt t 98 then ti_97 else ti_98) else (bif Nat.blt t 100 then ti_99 else (bif Nat.blt t 101 then noTi else ti_101)))))) else (bif Nat.blt t 119 then (bif Nat.blt t 110 then (bif Nat.blt t 106 then (bif Nat.blt t 104 then (bif Nat.blt t 103 then ti_102 else ti_103) else (bif Nat.blt t 105 then ti_104 else ti_105)) else (bif Nat.blt t 108 then (bif Nat.blt t 107 then noTi else ti_107) else (bif Nat.blt t 109 then ti_108 else ti_109))) else (bif Nat.blt t 114 then (bif Nat.blt t 112 then (bif Nat.blt t 111 then ti_110 else ti_111) else (bif Nat.blt t 113 then ti_112 else ti_113)) else (bif Nat.blt t 116 then (bif Nat.blt t 115 then ti_114 else ti_115) else (bif Nat.blt t 117 then ti_116 else (bif Nat.blt t 118 then ti_117 else ti_118))))) else (bif Nat.blt t 127 then (bif Nat.blt t 123 then (bif Nat.blt t 121 then (bif Nat.blt t 120 then ti_119 else ti_120) else (bif Nat.blt t 122 then ti_121 else ti_122)) else (bif Nat.blt t 125 then (bif Nat.blt t 124 then ti_123 else ti_124) else (bif Nat.blt t 126 then noTi else ti_126))) else (bif Nat.blt t 131 then (bif Nat.blt t 129 then (bif Nat.blt t 128 then ti_127 else ti_128) else (bif Nat.blt t 130 then ti_129 else ti_130)) else (bif Nat.blt t 133 then (bif Nat.blt t 132 then noTi else ti_132) else (bif Nat.blt t 134 then ti_133 else (bif Nat.blt t 135 then ti_134 else ti_135)))))))) else (bif Nat.blt t 204 then (bif Nat.blt t 170 then (bif Nat.blt t 153 then (bif Nat.blt t 144 then (bif Nat.blt t 140 then (bif Nat.blt t 138 then (bif Nat.blt t 137 then ti_136 else ti_137) else (bif Nat.blt t 139 then ti_138 else ti_139)) else (bif Nat.blt t 142 then (bif Nat.blt t 141 then ti_140 else ti_141) else (bif Nat.blt t 143 then ti_142 else ti_143))) else (bif Nat.blt t 148 then (bif Nat.blt t 146 then (bif Nat.blt t 145 then ti_144 else ti_145) else (bif Nat.blt t 147 then ti_146 else ti_147)) else (bif Nat.blt t 150 then (bif Nat.blt t 149 then ti_148 else ti_149) else (bif Nat.blt t 151 then ti_150 else (bif Nat.blt t 152 then ti_151 else ti_152))))) else (bif Nat.blt t 161 then (bif Nat.blt t 157 then (bif Nat.blt t 155 then (bif Nat.blt t 154 then ti_153 else ti_154) else (bif Nat.blt t 156 then ti_155 else ti_156)) else (bif Nat.blt t 159 then (bif Nat.blt t 158 then ti_157 else ti_158) else (bif Nat.blt t 160 then ti_159 else ti_160))) else (bif Nat.blt t 165 then (bif Nat.blt t 163 then (bif Nat.blt t 162 then ti_161 else noTi) else (bif Nat.blt t 164 then ti_163 else ti_164)) else (bif Nat.blt t 167 then (bif Nat.blt t 166 then ti_165 else ti_166) else (bif Nat.blt t 168 then ti_167 else (bif Nat.blt t 169 then noTi else ti_169)))))) else (bif Nat.blt t 187 then (bif Nat.blt t 178 then (bif Nat.blt t 174 then (bif Nat.blt t 172 then (bif Nat.blt t 171 then ti_170 else ti_171) else (bif Nat.blt t 173 then ti_172 else ti_173)) else (bif Nat.blt t 176 then (bif Nat.blt t 175 then ti_174 else ti_175) else (bif Nat.blt t 177 then ti_176 else ti_177))) else (bif Nat.blt t 182 then (bif Nat.blt t 180 then (bif Nat.blt t 179 then ti_178 else noTi) else (bif Nat.blt t 181 then ti_180 else ti_181)) else (bif Nat.blt t 184 then (bif Nat.blt t 183 then noTi else ti_183) else (bif Nat.blt t 185 then noTi else (bif Nat.blt t 186 then ti_185 else ti_186))))) else (bif Nat.blt t 195 then (bif Nat.blt t 191 then (bif Nat.blt t 189 then (bif Nat.blt t 188 then ti_187 else ti_188) else (bif Nat.blt t 190 then ti_189 else ti_190)) else (bif Nat.blt t 193 then (bif Nat.blt t 192 then ti_191 else ti_192) else (bif Nat.blt t 194 then ti_193 else ti_194))) else (bif Nat.blt t 199 then (bif Nat.blt t 197 then (bif Nat.blt t 196 then ti_195 else ti_196) else (bif Nat.blt t 198 then ti_197 else ti_198)) else (bif Nat.blt t 201 then (bif Nat.blt t 200 then ti_199 else noTi) else (bif Nat.blt t 202 then ti_201 else (bif Nat.blt t 203 then ti_202 else ti_203))))))) else (bif Nat.blt t 238 then (bif Nat.blt t 221 then (bif Nat.blt t 212 then (bif Nat.blt t 208 then (bif Nat.blt t 206 then (bif Nat.blt t 205 then ti_204 else ti_205) else (bif Nat.blt t 207 then ti_206 else ti_207)) else (bif Nat.blt t 210 then (bif Nat.blt t 209 then noTi else ti_209) else (bif Nat.blt t 211 then ti_210 else ti_211))) else (bif Nat.blt t 216 then (bif Nat.blt t 214 then (bif Nat.blt t 213 then ti_212 else ti_213) else (bif Nat.blt t 215 then ti_214 else noTi)) else (bif Nat.blt t 218 then (bif Nat.blt t 217 then ti_216 else ti_217) else (bif Nat.blt t 219 then ti_218 else (bif Nat.blt t 220 then ti_219 else ti_220))))) else (bif Nat.blt t 229 then (bif Nat.blt t 225 then (bif Nat.blt t 223 then (bif Nat.blt t 222 then ti_221 else ti_222) else (bif Nat.blt t 224 then ti_223 else ti_224)) else (bif Nat.blt t 227 then (bif Nat.blt t 226 then ti_225 else ti_226) else (bif Nat.blt t 228 then ti_227 else ti_228))) else (bif Nat.blt t 233 then (bif Nat.blt t 231 then (bif Nat.blt t 230 then ti_229 else ti_230) else (bif Nat.blt t 232 then ti_231 else ti_232)) else (bif Nat.blt t 235 then (bif Nat.blt t 234 then ti_233 else ti_234) else (bif Nat.blt t 236 then ti_235 else (bif Nat.blt t 237 then ti_236 else ti_237)))))) else (bif Nat.blt t 255 then (bif Nat.blt t 246 then (bif Nat.blt t 242 then (bif Nat.blt t 240 then (bif Nat.blt t 239 then noTi else ti_239) else (bif Nat.blt t 241 then ti_240 else ti_241)) else (bif Nat.blt t 244 then (bif Nat.blt t 243 then ti_242 else ti_243) else (bif Nat.blt t 245 then ti_244 else ti_245))) else (bif Nat.blt t 250 then (bif Nat.blt t 248 then (bif Nat.blt t 247 then ti_246 else ti_247) else (bif Nat.blt t 249 then ti_248 else ti_249)) else (bif Nat.blt t 252 then (bif Nat.blt t 251 then ti_250 else ti_251) else (bif Nat.blt t 253 then ti_252 else (bif Nat.blt t 254 then ti_253 else ti_254))))) else (bif Nat.blt t 263 then (bif Nat.blt t 259 then (bif Nat.blt t 257 then (bif Nat.blt t 256 then ti_255 else ti_256) else (bif Nat.blt t 258 then ti_257 else ti_258)) else (bif Nat.blt t 261 then (bif Nat.blt t 260 then ti_259 else ti_260) else (bif Nat.blt t 262 then ti_261 else ti_262))) else (bif Nat.blt t 267 then (bif Nat.blt t 265 then (bif Nat.blt t 264 then ti_263 else ti_264) else (bif Nat.blt t 266 then ti_265 else ti_266)) else (bif Nat.blt t 269 then (bif Nat.blt t 268 then ti_267 else ti_268) else (bif Nat.blt t 270 then ti_269 else (bif Nat.blt t 271 then ti_270 else noTi))))))))) else noTi
theorem ty_dflt (t : Nat) (h : 272 ≤ t) : ty t = noTi := by
 have e : Nat.blt t 272 = false := by
  cases hb : Nat.blt t 272
  ·rfl
  ·have := Nat.le_of_ble_eq_true hb
   omega
 unfold ty
 rw [e]
 rfl
def tyKnown : List Nat := [1, 2, 3, 4, 5, 6, 7, 8, 9, 10, 11, 12, 13, 14, 15, 16, 17, 18, 19, 20, 21, 22, 23, 24, 25, 26, 27, 29, 31, 33, 35, 37, 38, 39, 40, 41, 42, 44, 46, 47, 48, 49, 50, 51, 52, 54, 55, 56, 58, 59, 61, 63, 65, 66, 67, 68, 69, 70, 71, 72, 73, 74, 75, 77, 78, 79, 80, 81, 82, 83, 84, 85, 86, 87, 88, 89, 90, 91, 93, 94, 95, 96, 97, 98, 99, 101, 102, 103, 104, 105, 107, 108, 109, 110, 111, 112, 113, 114, 115, 116, 117, 118, 119, 120, 121, 122, 123, 124, 126, 127, 128, 129, 130, 132, 133, 134, 135, 136, 137, 138, 139, 140, 141, 142, 143, 144, 145, 146, 147, 148, 149, 150, 151, 152, 153, 154, 155, 156, 157, 158, 159, 160, 161, 163, 164, 165, 166, 167, 169, 170, 171, 172, 173, 174, 175, 176, 177, 178, 180, 181, 183, 185, 186, 187, 188, 189, 190, 191, 192, 193, 194, 195, 196, 197, 198, 199, 201, 202, 203, 204, 205, 206, 207, 209, 210, 211, 212, 213, 214, 216, 217, 218, 219, 220, 221, 222, 223, 224, 225, 226, 227, 228, 229, 230, 231, 232, 233, 234, 235, 236, 237, 239, 240, 241, 242, 243, 244, 245, 246, 247, 248, 249, 250, 251, 252, 253, 254, 255, 256, 257, 258, 259, 260, 261, 262, 263, 264, 265, 266, 267, 268, 269, 270]
theorem ty_list : tyKnown.map (fun t => ({ ty t with eq := false, k := none, nk := none, sl := [], gl := none, arr := none } : TI)) = tyKnown.map (tiOf Tryz.prog) := by kernel_rfl
theorem ty_in : (List.range 272).all (fun t => !(ty t).known || tyKnown.contains t) = true := by kernel_rfl
theorem ty_fact (t : Nat) (h : (ty t).known = true) : TyFact Tryz.prog t (ty t) := by
 refine tyFact_of h ?_
 have hlt : t < 272 := by
  rcases Nat.lt_or_ge t 272 with h' | h'
  ·exact h'
  ·have : (ty t) = noTi := ty_dflt t h'
   rw [this] at h
   cases h
 have h1 := List.all_eq_true.1 ty_in t (List.mem_range.2 hlt)
 rw [h] at h1
 have hmem : t ∈ tyKnown := by simpa using h1
 have := List.map_inj_left.1 ty_list t hmem
 exact this
theorem eq_24 : StructEq Tryz.prog 24 (ty 24).zero := structEq ty_fact 24 (ty 24).zero (by kernel_rfl) (by kernel_rfl) (by kernel_rfl)
theorem eq_26 : StructEq Tryz.prog 26 (ty 26).zero := structEq ty_fact 26 (ty 26).zero (by kernel_rfl) (by kernel_rfl) (by kernel_rfl)
theorem eq_51 : StructEq Tryz.prog 51 (ty 51).zero := structEq ty_fact 51 (ty 51).zero (by kernel_rfl) (by kernel_rfl) (by kernel_rfl)
theorem eq_121 : StructEq Tryz.prog 121 (ty 121).zero := structEq ty_fact 121 (ty 121).zero (by kernel_rfl) (by kernel_rfl) (by kernel_rfl)
def tyEqs : List Nat := [24, 26, 51, 121]
theorem eq_in : (List.range 272).all (fun t => !(ty t).eq || tyEqs.contains t) = true := by kernel_rfl
theorem ty_eq (t : Nat) (h : (ty t).eq = true) : StructEq Tryz.prog t (ty t).zero := by
 have hlt : t < 272 := by
  rcases Nat.lt_or_ge t 272 with h' | h'
  ·exact h'
  ·rw [ty_dflt t h'] at h
   cases h
 have h1 := List.all_eq_true.1 eq_in t (List.mem_range.2 hlt)
 rw [h] at h1
 have hmem : t ∈ tyEqs := by simpa using h1
 simp only [tyEqs, List.mem_cons, List.not_mem_nil, or_false] at hmem
 rcases hmem with rfl | rfl | rfl | rfl
 ·exact eq_24
 ·exact eq_26
 ·exact eq_51
 ·exact eq_121
def tyGls : List Nat := [109, 9]
theorem gl_in : (List.range 272).all (fun t => !(ty t).gl.isSome || tyGls.contains t) = true := by kernel_rfl
theorem ty_gl (t g : Nat) (h : (ty t).gl = some g) : Tryz.prog.globalNamed "yardarm/text.words" = some g ∧ ((ty t).agg = true → Tryz.prog.underlying t = some (.array 6 (ty t).elem)) := by
 have hlt : t < 272 := by
  rcases Nat.lt_or_ge t 272 with h' | h'
  ·exact h'
  ·rw [ty_dflt t h'] at h
   cases h
 have h1 := List.all_eq_true.1 gl_in t (List.mem_range.2 hlt)
 rw [h] at h1
 have hmem : t ∈ tyGls := by simpa using h1
 simp only [tyGls, List.mem_cons, List.not_mem_nil, or_false] at hmem
 rcases hmem with rfl | rfl
 ·have e1 : (ty 109).gl = some 0 := by kernel_rfl
  rw [e1] at h
  cases h
  exact ⟨by kernel_rfl, fun _ => by kernel_rfl⟩
 ·have e1 : (ty 9).gl = some 0 := by kernel_rfl
  rw [e1] at h
  cases h
  exact ⟨by kernel_rfl, fun h => (by have e2 : (ty 9).agg = false := (by kernel_rfl); rw [e2] at h; cases h)⟩
def tyArrs : List Nat := [105]
theorem arr_in : (List.range 272).all (fun t => !(ty t).arr.isSome || tyArrs.contains t) = true := by kernel_rfl
theorem ty_arr105 : Tryz.prog.underlying 105 = some (.array 8 (ty 105).elem) := by kernel_rfl
theorem ty_arr (t k : Nat) (h : (ty t).arr = some k) : Tryz.prog.underlying t = some (.array k (ty t).elem) := by
 have hlt : t < 272 := by
  rcases Nat.lt_or_ge t 272 with h' | h'
  ·exact h'
  ·rw [ty_dflt t h'] at h
   cases h
 have h1 := List.all_eq_true.1 arr_in t (List.mem_range.2 hlt)
 rw [h] at h1
 have hmem : t ∈ tyArrs := by simpa using h1
 simp only [tyArrs, List.mem_cons, List.not_mem_nil, or_false] at hmem
 rcases hmem with rfl
 ·have e1 : (ty 105).arr = some 8 := by kernel_rfl
  rw [e1] at h
  have h2 : k = 8 := by injection h with h; exact h.symm
  rw [h2]
  exact ty_arr105
theorem tyOk : TOk Tryz.prog ty := ⟨ty_fact, ty_eq, by kernel_rfl, ty_gl, ty_arr⟩
def fnExt : List Nat := [0, 1, 124, 138, 152, 158, 159, 182, 184, 200, 225, 226, 227, 228, 229, 230, 231, 232, 233, 234, 235, 236, 237, 238, 239, 240, 241, 242, 243, 244, 245, 246, 247, 248, 249, 250, 251, 252, 253, 254]
def fnB (f : Nat) : Bool := decide (f < 256) && !fnExt.contains f
theorem fn_all : (List.range 256).all (fun f => !fnB f || (match Tryz.prog.funcs[f]? with | some fn => fn.body.isSome && !(fn.name == "runtime.NumGoroutine") | none => false)) = true := by kernel_rfl
theorem fn_ok (f : Nat) (h : fnB f = true) : HasBody Tryz.prog f := by
 have hlt : f < 256 := by
  unfold fnB at h
  simp only [Bool.and_eq_true, decide_eq_true_eq] at h
  exact h.1
 have h1 := List.all_eq_true.1 fn_all f (List.mem_range.2 hlt)
 rw [h] at h1
 simp only [Bool.not_true, Bool.false_or] at h1
 unfold HasBody
 cases hf : Tryz.prog.funcs[f]? with
 | none => rw [hf] at h1; cases h1
 | some fn =>
  rw [hf] at h1
  simp only [Bool.and_eq_true, Bool.not_eq_true'] at h1
  exact ⟨fn, rfl, h1.1, h1.2⟩
end Go.Proofs.YtafggolijpopeaaGreatDoor
namespace Go.Proofs.YtafggolijpopeaaGreatDoor
open Go Go.Ma Go.RowKit Go.Lib Go.Proofs
end Go.Proofs.YtafggolijpopeaaGreatDoor
namespace Go.Proofs.YtafggolijpopeaaGreatDoor
open Go Go.Ma
noncomputable def addr_Check_env : Env := mkEnv ty fnB [] []
theorem addr_Check_envOk : EnvOk Tryz.prog addr_Check_env := envOk tyOk fn_ok callsNil _
noncomputable def addr_Check_con : Con := con [.one (.fl .addr)] [.one (.fl .int)] (fun x => addr_Check_t x.1)
theorem addr_Check_ok : TrOk Tryz.prog 52 addr_Check_con := by
 have h : loopsOf (codeOf Tryz.f52) = [] := by kernel_rfl
 refine con_ok addr_Check_envOk Tryz.func52 (bodyOk h lsNil) _ _ _ (fun x => ?_)
 kernel_rfl
noncomputable def prefix_Wide_env : Env := mkEnv ty fnB [] []
theorem prefix_Wide_envOk : EnvOk Tryz.prog prefix_Wide_env := envOk tyOk fn_ok callsNil _
noncomputable def prefix_Wide_con : Con := con [.one (.fl .addr)] [.one (.fl .int)] (fun x => prefix_Wide_t x.1)
theorem prefix_Wide_ok : TrOk Tryz.prog 37 prefix_Wide_con := by
 have h : loopsOf (codeOf Tryz.f37) = [] := by kernel_rfl
 refine con_ok prefix_Wide_envOk Tryz.func37 (bodyOk h lsNil) _ _ _ (fun x => ?_)
 kernel_rfl
noncomputable def prefix_mask_env : Env := mkEnv ty fnB [(37, prefix_Wide_con)] []
theorem prefix_mask_envOk : EnvOk Tryz.prog prefix_mask_env := envOk tyOk fn_ok (callsCons prefix_Wide_ok callsNil) _
noncomputable def prefix_mask_con : Con := con [.one (.fl .addr), .one (.fl .int)] [.one (.fl .addr)] (fun x => prefix_mask_t x.1 x.2.1)
theorem prefix_mask_ok : TrOk Tryz.prog 74 prefix_mask_con := by
 have h : loopsOf (codeOf Tryz.f74) = [] := by kernel_rfl
 refine con_ok prefix_mask_envOk Tryz.func74 (bodyOk h lsNil) _ _ _ (fun x => ?_)
 kernel_rfl
noncomputable def prefix_Cut_env : Env := mkEnv ty fnB [(74, prefix_mask_con)] []
theorem prefix_Cut_envOk : EnvOk Tryz.prog prefix_Cut_env := envOk tyOk fn_ok (callsCons prefix_mask_ok callsNil) _
noncomputable def prefix_Cut_con : Con := con [.one (.fl .addr), .one (.fl .int)] [.one (.fl .addr)] (fun x => prefix_Cut_t x.1 x.2.1)
theorem prefix_Cut_ok : TrOk Tryz.prog 53 prefix_Cut_con := by
 have h : loopsOf (codeOf Tryz.f53) = [] := by kernel_rfl
 refine con_ok prefix_Cut_envOk Tryz.func53 (bodyOk h lsNil) _ _ _ (fun x => ?_)
 kernel_rfl
noncomputable def prefix_Check_env : Env := mkEnv ty fnB [(52, addr_Check_con), (37, prefix_Wide_con), (53, prefix_Cut_con)] []
theorem prefix_Check_envOk : EnvOk Tryz.prog prefix_Check_env := envOk tyOk fn_ok (callsCons addr_Check_ok (callsCons prefix_Wide_ok (callsCons prefix_Cut_ok callsNil))) _
noncomputable def prefix_Check_con : Con := con [.one (.fl .pfx)] [.one (.fl .int)] (fun x => prefix_Check_t x.1)
theorem prefix_Check_ok : TrOk Tryz.prog 20 prefix_Check_con := by
 have h : loopsOf (codeOf Tryz.f20) = [] := by kernel_rfl
 refine con_ok prefix_Check_envOk Tryz.func20 (bodyOk h lsNil) _ _ _ (fun x => ?_)
 kernel_rfl
noncomputable def addr_group_env : Env := mkEnv ty fnB [] []
theorem addr_group_envOk : EnvOk Tryz.prog addr_group_env := envOk tyOk fn_ok callsNil _
noncomputable def addr_group_con : Con := con [.one (.fl .addr), .one (.fl .int)] [.one (.fl .u64)] (fun x => addr_group_t x.1 x.2.1)
theorem addr_group_ok : TrOk Tryz.prog 121 addr_group_con := by
 have h : loopsOf (codeOf Tryz.f121) = [] := by kernel_rfl
 refine con_ok addr_group_envOk Tryz.func121 (bodyOk h lsNil) _ _ _ (fun x => ?_)
 kernel_rfl
def addr_row_L2_S : LoopS := { n := 21, base := 0, head := { keep := [1, 2, 5], vals := [.one (.fl .int), .one (.cst (.ptr 0 0)), .one (.fl .int)], objs := [.blk [.fl .addr] 24 true] }, exits := [⟨some 0, { keep := [5], vals := [.one (.fl .int)], objs := [] }⟩] }
noncomputable def addr_row_env : Env := mkEnv ty fnB [(121, addr_group_con)] [(2, (loopTr addr_row_L2_S (loopN addr_row_L2 FUEL)))]
theorem addr_row_envOk : EnvOk Tryz.prog addr_row_env := envOk tyOk fn_ok (callsCons addr_group_ok callsNil) _
theorem addr_row_L2_ok : LOk Tryz.prog (nthLoop (codeOf Tryz.f120) 0) (loopTr addr_row_L2_S (loopN addr_row_L2 FUEL)) := by
 have h : loopsOf (nthLoop (codeOf Tryz.f120) 0) = [] := by kernel_rfl
 refine loop_ok addr_row_envOk (loopsOk h lsNil) addr_row_L2_S addr_row_L2 FUEL (fun rec x => ?_)
 kernel_rfl
noncomputable def addr_row_con : Con := con [.one (.fl .addr), .one (.fl .int)] [.one (.fl .int)] (fun x => addr_row_t x.1 x.2.1)
theorem addr_row_ok : TrOk Tryz.prog 120 addr_row_con := by
 have h : loopsOf (codeOf Tryz.f120) = [(nthLoop (codeOf Tryz.f120) 0)] := by kernel_rfl
 refine con_ok addr_row_envOk Tryz.func120 (bodyOk h (lsCons (one_loop (t := (loopTr addr_row_L2_S (loopN addr_row_L2 FUEL))) (by kernel_rfl) addr_row_L2_ok) lsNil)) _ _ _ (fun x => ?_)
 kernel_rfl
def addr_longest_L3_S : LoopS := { n := 24, base := 0, head := { keep := [1, 4, 5, 8], vals := [.one (.cst (.ptr 0 0)), .one (.fl .int), .one (.fl .int), .one (.fl .int)], objs := [.blk [.fl .addr] 24 true] }, exits := [⟨some 0, { keep := [4, 5], vals := [.one (.fl .int), .one (.fl .int)], objs := [] }⟩] }
noncomputable def addr_longest_env : Env := mkEnv ty fnB [(120, addr_row_con)] [(3, (loopTr addr_longest_L3_S (loopN zq1 FUEL)))]
theorem addr_longest_envOk : EnvOk Tryz.prog addr_longest_env := envOk tyOk fn_ok (callsCons addr_row_ok callsNil) _
theorem addr_longest_L3_ok : LOk Tryz.prog (nthLoop (codeOf Tryz.f93) 0) (loopTr addr_longest_L3_S (loopN zq1 FUEL)) := by
 have h : loopsOf (nthLoop (codeOf Tryz.f93) 0) = [] := by kernel_rfl
 refine loop_ok addr_longest_envOk (loopsOk h lsNil) addr_longest_L3_S zq1 FUEL (fun rec x => ?_)
 kernel_rfl
noncomputable def addr_longest_con : Con := con [.one (.fl .addr)] [.one (.fl .int), .one (.fl .int)] (fun x => addr_longest_t x.1)
theorem addr_longest_ok : TrOk Tryz.prog 93 addr_longest_con := by
 have h : loopsOf (codeOf Tryz.f93) = [(nthLoop (codeOf Tryz.f93) 0)] := by kernel_rfl
 refine con_ok addr_longest_envOk Tryz.func93 (bodyOk h (lsCons (one_loop (t := (loopTr addr_longest_L3_S (loopN zq1 FUEL))) (by kernel_rfl) addr_longest_L3_ok) lsNil)) _ _ _ (fun x => ?_)
 kernel_rfl
noncomputable def R_CheckAddr_env : Env := mkEnv ty fnB [] []
theorem R_CheckAddr_envOk : EnvOk Tryz.prog R_CheckAddr_env := envOk tyOk fn_ok callsNil _
noncomputable def R_CheckAddr_con : Con := con [.one (.fl .addr)] [.one (.fl .int)] (fun x => R_CheckAddr_t x.1)
theorem R_CheckAddr_ok : TrOk Tryz.prog 40 R_CheckAddr_con := by
 have h : loopsOf (codeOf Tryz.f40) = [] := by kernel_rfl
 refine con_ok R_CheckAddr_envOk Tryz.func40 (bodyOk h lsNil) _ _ _ (fun x => ?_)
 kernel_rfl
noncomputable def R_wide_env : Env := mkEnv ty fnB [] []
theorem R_wide_envOk : EnvOk Tryz.prog R_wide_env := envOk tyOk fn_ok callsNil _
noncomputable def R_wide_con : Con := con [.one (.fl .addr)] [.one (.fl .int)] (fun x => R_wide_t x.1)
theorem R_wide_ok : TrOk Tryz.prog 42 R_wide_con := by
 have h : loopsOf (codeOf Tryz.f42) = [] := by kernel_rfl
 refine con_ok R_wide_envOk Tryz.func42 (bodyOk h lsNil) _ _ _ (fun x => ?_)
 kernel_rfl
noncomputable def R_between_env : Env := mkEnv ty fnB [] []
theorem R_between_envOk : EnvOk Tryz.prog R_between_env := envOk tyOk fn_ok callsNil _
noncomputable def R_between_con : Con := con [.one (.fl .int), .one (.fl .int), .one (.fl .int)] [.one (.fl .bool)] (fun x => R_between_t x.1 x.2.1 x.2.2.1)
theorem R_between_ok : TrOk Tryz.prog 41 R_between_con := by
 have h : loopsOf (codeOf Tryz.f41) = [] := by kernel_rfl
 refine con_ok R_between_envOk Tryz.func41 (bodyOk h lsNil) _ _ _ (fun x => ?_)
 kernel_rfl
def R_Bits_L3_S : LoopS := { n := 42, base := 0, head := { keep := [1, 3, 4], vals := [.one (.cst (.ptr 0 0)), .one (.cst (.row 1)), .one (.fl .int)], objs := [.blk [.fl .addr] 24 true, .row .u8 5 true] }, exits := [⟨some 0, { keep := [1, 3], vals := [.one (.cst (.ptr 0 0)), .one (.cst (.row 1))], objs := [.blk [.fl .addr] 24 true, .row .u8 5 true] }⟩] }
def R_Bits_L7_S : LoopS := { n := 42, base := 0, head := { keep := [1, 3, 5], vals := [.one (.cst (.ptr 0 0)), .one (.cst (.row 1)), .one (.fl .int)], objs := [.blk [.fl .addr] 24 true, .row .u8 5 true] }, exits := [⟨some 2, { keep := [1, 3], vals := [.one (.cst (.ptr 0 0)), .one (.cst (.row 1))], objs := [.blk [.fl .addr] 24 true, .row .u8 5 true] }⟩] }
noncomputable def R_Bits_env : Env := mkEnv ty fnB [] [(3, (loopTr R_Bits_L3_S (loopN R_Bits_L3 FUEL))), (7, (loopTr R_Bits_L7_S (loopN R_Bits_L7 FUEL)))]
theorem R_Bits_envOk : EnvOk Tryz.prog R_Bits_env := envOk tyOk fn_ok callsNil _
theorem R_Bits_L7_ok : LOk Tryz.prog (nthLoop (codeOf Tryz.f15) 1) (loopTr R_Bits_L7_S (loopN R_Bits_L7 FUEL)) := by
 have h : loopsOf (nthLoop (codeOf Tryz.f15) 1) = [] := by kernel_rfl
 refine loop_ok R_Bits_envOk (loopsOk h lsNil) R_Bits_L7_S R_Bits_L7 FUEL (fun rec x => ?_)
 kernel_rfl
theorem R_Bits_L3_ok : LOk Tryz.prog (nthLoop (codeOf Tryz.f15) 0) (loopTr R_Bits_L3_S (loopN R_Bits_L3 FUEL)) := by
 have h : loopsOf (nthLoop (codeOf Tryz.f15) 0) = [] := by kernel_rfl
 refine loop_ok R_Bits_envOk (loopsOk h lsNil) R_Bits_L3_S R_Bits_L3 FUEL (fun rec x => ?_)
 kernel_rfl
noncomputable def R_Bits_con : Con := con [.one (.fl .addr)] [.one (.fl .str)] (fun x => R_Bits_t x.1)
theorem R_Bits_ok : TrOk Tryz.prog 15 R_Bits_con := by
 have h : loopsOf (codeOf Tryz.f15) = [(nthLoop (codeOf Tryz.f15) 0), (nthLoop (codeOf Tryz.f15) 1)] := by kernel_rfl
 refine con_ok R_Bits_envOk Tryz.func15 (bodyOk h (lsCons (one_loop (t := (loopTr R_Bits_L3_S (loopN R_Bits_L3 FUEL))) (by kernel_rfl) R_Bits_L3_ok) (lsCons (one_loop (t := (loopTr R_Bits_L7_S (loopN R_Bits_L7 FUEL))) (by kernel_rfl) R_Bits_L7_ok) lsNil))) _ _ _ (fun x => ?_)
 kernel_rfl
def R_CheckPrefix_L8_S : LoopS := { n := 34, base := 0, head := { keep := [4, 5], vals := [.one (.fl .str), .one (.fl .int)], objs := [] }, exits := [⟨none, { keep := [2], vals := [.one (.fl .int)], objs := [] }⟩, ⟨some 0, { keep := [], vals := [], objs := [] }⟩] }
noncomputable def R_CheckPrefix_env : Env := mkEnv ty fnB [(40, R_CheckAddr_con), (42, R_wide_con), (41, R_between_con), (15, R_Bits_con)] [(8, (loopTr R_CheckPrefix_L8_S (loopN R_CheckPrefix_L8 FUEL)))]
theorem R_CheckPrefix_envOk : EnvOk Tryz.prog R_CheckPrefix_env := envOk tyOk fn_ok (callsCons R_CheckAddr_ok (callsCons R_wide_ok (callsCons R_between_ok (callsCons R_Bits_ok callsNil)))) _
theorem R_CheckPrefix_L8_ok : LOk Tryz.prog (nthLoop (codeOf Tryz.f12) 0) (loopTr R_CheckPrefix_L8_S (loopN R_CheckPrefix_L8 FUEL)) := by
 have h : loopsOf (nthLoop (codeOf Tryz.f12) 0) = [] := by kernel_rfl
 refine loop_ok R_CheckPrefix_envOk (loopsOk h lsNil) R_CheckPrefix_L8_S R_CheckPrefix_L8 FUEL (fun rec x => ?_)
 kernel_rfl
noncomputable def R_CheckPrefix_con : Con := con [.one (.fl .pfx)] [.one (.fl .int)] (fun x => R_CheckPrefix_t x.1)
theorem R_CheckPrefix_ok : TrOk Tryz.prog 12 R_CheckPrefix_con := by
 have h : loopsOf (codeOf Tryz.f12) = [(nthLoop (codeOf Tryz.f12) 0)] := by kernel_rfl
 refine con_ok R_CheckPrefix_envOk Tryz.func12 (bodyOk h (lsCons (one_loop (t := (loopTr R_CheckPrefix_L8_S (loopN R_CheckPrefix_L8 FUEL))) (by kernel_rfl) R_CheckPrefix_L8_ok) lsNil)) _ _ _ (fun x => ?_)
 kernel_rfl
def R_numberOf_L3_S : LoopS := { n := 20, base := 0, head := { keep := [0, 3, 4], vals := [.one (.fl .str), .one (.fl .int), .one (.fl .int)], objs := [] }, exits := [⟨some 0, { keep := [3], vals := [.one (.fl .int)], objs := [] }⟩] }
noncomputable def R_numberOf_env : Env := mkEnv ty fnB [] [(3, (loopTr R_numberOf_L3_S (loopN R_numberOf_L3 FUEL)))]
theorem R_numberOf_envOk : EnvOk Tryz.prog R_numberOf_env := envOk tyOk fn_ok callsNil _
theorem R_numberOf_L3_ok : LOk Tryz.prog (nthLoop (codeOf Tryz.f76) 0) (loopTr R_numberOf_L3_S (loopN R_numberOf_L3 FUEL)) := by
 have h : loopsOf (nthLoop (codeOf Tryz.f76) 0) = [] := by kernel_rfl
 refine loop_ok R_numberOf_envOk (loopsOk h lsNil) R_numberOf_L3_S R_numberOf_L3 FUEL (fun rec x => ?_)
 kernel_rfl
noncomputable def R_numberOf_con : Con := con [.one (.fl .str)] [.one (.fl .int)] (fun x => R_numberOf_t x.1)
theorem R_numberOf_ok : TrOk Tryz.prog 76 R_numberOf_con := by
 have h : loopsOf (codeOf Tryz.f76) = [(nthLoop (codeOf Tryz.f76) 0)] := by kernel_rfl
 refine con_ok R_numberOf_envOk Tryz.func76 (bodyOk h (lsCons (one_loop (t := (loopTr R_numberOf_L3_S (loopN R_numberOf_L3 FUEL))) (by kernel_rfl) R_numberOf_L3_ok) lsNil)) _ _ _ (fun x => ?_)
 kernel_rfl
noncomputable def R_Digits_env (R_Digits_rec_con : Con) : Env := mkEnv ty fnB [(44, R_Digits_rec_con)] []
theorem R_Digits_envOk {R_Digits_rec_con : Con} (R_Digits_rec_ok : TrOk Tryz.prog 44 R_Digits_rec_con) : EnvOk Tryz.prog (R_Digits_env R_Digits_rec_con) := envOk tyOk fn_ok (callsCons R_Digits_rec_ok callsNil) _
theorem R_Digits_step_ok (R_Digits_rec_t : Int → Int → Option (ByteArray × Unit)) (R_Digits_rec_ok : TrOk Tryz.prog 44 (con [.one (.fl .int), .one (.fl .int)] [.one (.fl .str)] (fun x => R_Digits_rec_t x.1 x.2.1))) : TrOk Tryz.prog 44 (con [.one (.fl .int), .one (.fl .int)] [.one (.fl .str)] (fun x => R_Digits_step R_Digits_rec_t x.1 x.2.1)) := by
 have h : loopsOf (codeOf Tryz.f44) = [] := by kernel_rfl
 refine con_ok (R_Digits_envOk R_Digits_rec_ok) Tryz.func44 (bodyOk h lsNil) _ _ _ (fun x => ?_)
 kernel_rfl
theorem R_Digits_fuel_ok : ∀ n, TrOk Tryz.prog 44 (con [.one (.fl .int), .one (.fl .int)] [.one (.fl .str)] (fun x => R_Digits_fuel n x.1 x.2.1))
 | 0 => con_none Tryz.prog 44 [.one (.fl .int), .one (.fl .int)] [.one (.fl .str)]
 | n + 1 => R_Digits_step_ok _ (R_Digits_fuel_ok n)
noncomputable def R_Digits_con : Con := con [.one (.fl .int), .one (.fl .int)] [.one (.fl .str)] (fun x => R_Digits_t x.1 x.2.1)
theorem R_Digits_ok : TrOk Tryz.prog 44 R_Digits_con := R_Digits_fuel_ok RECN
def R_TextOf_L6_S : LoopS := { n := 108, base := 0, head := { keep := [3, 4, 5], vals := [.one (.fl .str), .one (.cst (.ep 0 0 1 0)), .one (.fl .int)], objs := [.row .int 105 true] }, exits := [⟨some 0, { keep := [4], vals := [.one (.cst (.ep 0 0 1 0))], objs := [.row .int 105 true] }⟩] }
def R_TextOf_L14_S : LoopS := { n := 108, base := 0, head := { keep := [4, 6, 7, 8, 9], vals := [.one (.cst (.ep 0 0 1 0)), .one (.fl .int), .one (.fl .int), .one (.fl .int), .one (.fl .int)], objs := [.row .int 105 true] }, exits := [⟨some 4, { keep := [4, 6, 7, 8, 9], vals := [.one (.cst (.ep 0 0 1 0)), .one (.fl .int), .one (.fl .int), .one (.fl .int), .one (.fl .int)], objs := [.row .int 105 true] }⟩] }
def R_TextOf_L11_S : LoopS := { n := 108, base := 0, head := { keep := [4, 6, 7, 8], vals := [.one (.cst (.ep 0 0 1 0)), .one (.fl .int), .one (.fl .int), .one (.fl .int)], objs := [.row .int 105 true] }, exits := [⟨some 2, { keep := [4, 6, 7], vals := [.one (.cst (.ep 0 0 1 0)), .one (.fl .int), .one (.fl .int)], objs := [.row .int 105 true] }⟩] }
def R_TextOf_L20_S : LoopS := { n := 108, base := 0, head := { keep := [4, 6, 7, 10, 11], vals := [.one (.cst (.ep 0 0 1 0)), .one (.fl .int), .one (.fl .int), .one (.fl .str), .one (.fl .int)], objs := [.row .int 105 true] }, exits := [⟨some 6, { keep := [10], vals := [.one (.fl .str)], objs := [] }⟩] }
noncomputable def R_TextOf_env : Env := mkEnv ty fnB [(15, R_Bits_con), (76, R_numberOf_con), (44, R_Digits_con)] [(6, (loopTr R_TextOf_L6_S (loopN R_TextOf_L6 FUEL))), (14, (loopTr R_TextOf_L14_S (loopN R_TextOf_L14 FUEL))), (11, (loopTr R_TextOf_L11_S (loopN R_TextOf_L11 FUEL))), (20, (loopTr R_TextOf_L20_S (loopN R_TextOf_L20 FUEL)))]
theorem R_TextOf_envOk : EnvOk Tryz.prog R_TextOf_env := envOk tyOk fn_ok (callsCons R_Bits_ok (callsCons R_numberOf_ok (callsCons R_Digits_ok callsNil))) _
theorem R_TextOf_L14_ok : LOk Tryz.prog (nthLoop (nthLoop (codeOf Tryz.f43) 1) 0) (loopTr R_TextOf_L14_S (loopN R_TextOf_L14 FUEL)) := by
 have h : loopsOf (nthLoop (nthLoop (codeOf Tryz.f43) 1) 0) = [] := by kernel_rfl
 refine loop_ok R_TextOf_envOk (loopsOk h lsNil) R_TextOf_L14_S R_TextOf_L14 FUEL (fun rec x => ?_)
 kernel_rfl
theorem R_TextOf_L20_ok : LOk Tryz.prog (nthLoop (codeOf Tryz.f43) 2) (loopTr R_TextOf_L20_S (loopN R_TextOf_L20 FUEL)) := by
 have h : loopsOf (nthLoop (codeOf Tryz.f43) 2) = [] := by kernel_rfl
 refine loop_ok R_TextOf_envOk (loopsOk h lsNil) R_TextOf_L20_S R_TextOf_L20 FUEL (fun rec x => ?_)
 kernel_rfl
theorem R_TextOf_L6_ok : LOk Tryz.prog (nthLoop (codeOf Tryz.f43) 0) (loopTr R_TextOf_L6_S (loopN R_TextOf_L6 FUEL)) := by
 have h : loopsOf (nthLoop (codeOf Tryz.f43) 0) = [] := by kernel_rfl
 refine loop_ok R_TextOf_envOk (loopsOk h lsNil) R_TextOf_L6_S R_TextOf_L6 FUEL (fun rec x => ?_)
 kernel_rfl
theorem R_TextOf_L11_ok : LOk Tryz.prog (nthLoop (codeOf Tryz.f43) 1) (loopTr R_TextOf_L11_S (loopN R_TextOf_L11 FUEL)) := by
 have h : loopsOf (nthLoop (codeOf Tryz.f43) 1) = [(nthLoop (nthLoop (codeOf Tryz.f43) 1) 0)] := by kernel_rfl
 refine loop_ok R_TextOf_envOk (loopsOk h (lsCons (one_loop (t := (loopTr R_TextOf_L14_S (loopN R_TextOf_L14 FUEL))) (by kernel_rfl) R_TextOf_L14_ok) lsNil)) R_TextOf_L11_S R_TextOf_L11 FUEL (fun rec x => ?_)
 kernel_rfl
noncomputable def R_TextOf_con : Con := con [.one (.fl .addr)] [.one (.fl .str)] (fun x => R_TextOf_t x.1)
theorem R_TextOf_ok : TrOk Tryz.prog 43 R_TextOf_con := by
 have h : loopsOf (codeOf Tryz.f43) = [(nthLoop (codeOf Tryz.f43) 0), (nthLoop (codeOf Tryz.f43) 1), (nthLoop (codeOf Tryz.f43) 2)] := by kernel_rfl
 refine con_ok R_TextOf_envOk Tryz.func43 (bodyOk h (lsCons (one_loop (t := (loopTr R_TextOf_L6_S (loopN R_TextOf_L6 FUEL))) (by kernel_rfl) R_TextOf_L6_ok) (lsCons (one_loop (t := (loopTr R_TextOf_L11_S (loopN R_TextOf_L11 FUEL))) (by kernel_rfl) R_TextOf_L11_ok) (lsCons (one_loop (t := (loopTr R_TextOf_L20_S (loopN R_TextOf_L20 FUEL))) (by kernel_rfl) R_TextOf_L20_ok) lsNil)))) _ _ _ (fun x => ?_)
 kernel_rfl
noncomputable def R_PrefixText_env : Env := mkEnv ty fnB [(43, R_TextOf_con), (44, R_Digits_con)] []
theorem R_PrefixText_envOk : EnvOk Tryz.prog R_PrefixText_env := envOk tyOk fn_ok (callsCons R_TextOf_ok (callsCons R_Digits_ok callsNil)) _
noncomputable def R_PrefixText_con : Con := con [.one (.fl .pfx)] [.one (.fl .str)] (fun x => R_PrefixText_t x.1)
theorem R_PrefixText_ok : TrOk Tryz.prog 13 R_PrefixText_con := by
 have h : loopsOf (codeOf Tryz.f13) = [] := by kernel_rfl
 refine con_ok R_PrefixText_envOk Tryz.func13 (bodyOk h lsNil) _ _ _ (fun x => ?_)
 kernel_rfl
def R_AddrOf_L3_S : LoopS := { n := 39, base := 0, head := { keep := [0, 2, 3, 4], vals := [.one (.fl .str), .one (.cst (.ptr 0 0)), .one (.cst (.ptr 1 0)), .one (.fl .int)], objs := [.blk [.fl .addr] 24 true, .blk [.fl .addr] 24 true] }, exits := [⟨some 0, { keep := [2, 3], vals := [.one (.cst (.ptr 0 0)), .one (.cst (.ptr 1 0))], objs := [.blk [.fl .addr] 24 true, .blk [.fl .addr] 24 true] }⟩] }
noncomputable def R_AddrOf_env : Env := mkEnv ty fnB [] [(3, (loopTr R_AddrOf_L3_S (loopN R_AddrOf_L3 FUEL)))]
theorem R_AddrOf_envOk : EnvOk Tryz.prog R_AddrOf_env := envOk tyOk fn_ok callsNil _
theorem R_AddrOf_L3_ok : LOk Tryz.prog (nthLoop (codeOf Tryz.f46) 0) (loopTr R_AddrOf_L3_S (loopN R_AddrOf_L3 FUEL)) := by
 have h : loopsOf (nthLoop (codeOf Tryz.f46) 0) = [] := by kernel_rfl
 refine loop_ok R_AddrOf_envOk (loopsOk h lsNil) R_AddrOf_L3_S R_AddrOf_L3 FUEL (fun rec x => ?_)
 kernel_rfl
noncomputable def R_AddrOf_con : Con := con [.one (.fl .str)] [.one (.fl .addr)] (fun x => R_AddrOf_t x.1)
theorem R_AddrOf_ok : TrOk Tryz.prog 46 R_AddrOf_con := by
 have h : loopsOf (codeOf Tryz.f46) = [(nthLoop (codeOf Tryz.f46) 0)] := by kernel_rfl
 refine con_ok R_AddrOf_envOk Tryz.func46 (bodyOk h (lsCons (one_loop (t := (loopTr R_AddrOf_L3_S (loopN R_AddrOf_L3 FUEL))) (by kernel_rfl) R_AddrOf_L3_ok) lsNil)) _ _ _ (fun x => ?_)
 kernel_rfl
def R_splitAt_L4_S : LoopS := { n := 34, base := 0, head := { keep := [0, 1, 5, 6, 7], vals := [.one (.fl .str), .one (.fl .u8), .one (.cst (.row 0)), .one (.fl .str), .one (.fl .int)], objs := [.row .str 9 true] }, exits := [⟨some 0, { keep := [5, 6], vals := [.one (.cst (.row 0)), .one (.fl .str)], objs := [.row .str 9 true] }⟩] }
noncomputable def R_splitAt_env : Env := mkEnv ty fnB [] [(4, (loopTr R_splitAt_L4_S (loopN R_splitAt_L4 FUEL)))]
theorem R_splitAt_envOk : EnvOk Tryz.prog R_splitAt_env := envOk tyOk fn_ok callsNil _
theorem R_splitAt_L4_ok : LOk Tryz.prog (nthLoop (codeOf Tryz.f47) 0) (loopTr R_splitAt_L4_S (loopN R_splitAt_L4 FUEL)) := by
 have h : loopsOf (nthLoop (codeOf Tryz.f47) 0) = [] := by kernel_rfl
 refine loop_ok R_splitAt_envOk (loopsOk h lsNil) R_splitAt_L4_S R_splitAt_L4 FUEL (fun rec x => ?_)
 kernel_rfl
noncomputable def R_splitAt_con : Con := con [.one (.fl .str), .one (.fl .u8)] [.one (.row .str 9)] (fun x => R_splitAt_t x.1 x.2.1)
theorem R_splitAt_ok : TrOk Tryz.prog 47 R_splitAt_con := by
 have h : loopsOf (codeOf Tryz.f47) = [(nthLoop (codeOf Tryz.f47) 0)] := by kernel_rfl
 refine con_ok R_splitAt_envOk Tryz.func47 (bodyOk h (lsCons (one_loop (t := (loopTr R_splitAt_L4_S (loopN R_splitAt_L4 FUEL))) (by kernel_rfl) R_splitAt_L4_ok) lsNil)) _ _ _ (fun x => ?_)
 kernel_rfl
noncomputable def R_bitsOf_env (R_bitsOf_rec_con : Con) : Env := mkEnv ty fnB [(103, R_bitsOf_rec_con), (44, R_Digits_con)] []
theorem R_bitsOf_envOk {R_bitsOf_rec_con : Con} (R_bitsOf_rec_ok : TrOk Tryz.prog 103 R_bitsOf_rec_con) : EnvOk Tryz.prog (R_bitsOf_env R_bitsOf_rec_con) := envOk tyOk fn_ok (callsCons R_bitsOf_rec_ok (callsCons R_Digits_ok callsNil)) _
theorem R_bitsOf_step_ok (R_bitsOf_rec_t : Int → Int → Option (ByteArray × Unit)) (R_bitsOf_rec_ok : TrOk Tryz.prog 103 (con [.one (.fl .int), .one (.fl .int)] [.one (.fl .str)] (fun x => R_bitsOf_rec_t x.1 x.2.1))) : TrOk Tryz.prog 103 (con [.one (.fl .int), .one (.fl .int)] [.one (.fl .str)] (fun x => R_bitsOf_step R_bitsOf_rec_t x.1 x.2.1)) := by
 have h : loopsOf (codeOf Tryz.f103) = [] := by kernel_rfl
 refine con_ok (R_bitsOf_envOk R_bitsOf_rec_ok) Tryz.func103 (bodyOk h lsNil) _ _ _ (fun x => ?_)
 kernel_rfl
theorem R_bitsOf_fuel_ok : ∀ n, TrOk Tryz.prog 103 (con [.one (.fl .int), .one (.fl .int)] [.one (.fl .str)] (fun x => R_bitsOf_fuel n x.1 x.2.1))
 | 0 => con_none Tryz.prog 103 [.one (.fl .int), .one (.fl .int)] [.one (.fl .str)]
 | n + 1 => R_bitsOf_step_ok _ (R_bitsOf_fuel_ok n)
noncomputable def R_bitsOf_con : Con := con [.one (.fl .int), .one (.fl .int)] [.one (.fl .str)] (fun x => R_bitsOf_t x.1 x.2.1)
theorem R_bitsOf_ok : TrOk Tryz.prog 103 R_bitsOf_con := R_bitsOf_fuel_ok RECN
def R_fourOf_L10_S : LoopS := { n := 74, base := 0, head := { keep := [4, 5, 6, 7, 8], vals := [.one (.cst (.row 0)), .one (.fl .str), .one (.fl .int), .one (.fl .int), .one (.fl .int)], objs := [.row .str 9 true] }, exits := [⟨none, { keep := [2, 3], vals := [.one (.fl .str), .one (.fl .bool)], objs := [] }⟩, ⟨some 2, { keep := [4, 5, 6, 7], vals := [.one (.cst (.row 0)), .one (.fl .str), .one (.fl .int), .one (.fl .int)], objs := [.row .str 9 true] }⟩] }
def R_fourOf_L6_S : LoopS := { n := 74, base := 0, head := { keep := [4, 5, 6], vals := [.one (.cst (.row 0)), .one (.fl .str), .one (.fl .int)], objs := [.row .str 9 true] }, exits := [⟨none, { keep := [2, 3], vals := [.one (.fl .str), .one (.fl .bool)], objs := [] }⟩, ⟨some 0, { keep := [5], vals := [.one (.fl .str)], objs := [] }⟩] }
noncomputable def R_fourOf_env : Env := mkEnv ty fnB [(47, R_splitAt_con), (41, R_between_con), (44, R_Digits_con), (103, R_bitsOf_con)] [(10, (loopTr R_fourOf_L10_S (loopN R_fourOf_L10 FUEL))), (6, (loopTr R_fourOf_L6_S (loopN R_fourOf_L6 FUEL)))]
theorem R_fourOf_envOk : EnvOk Tryz.prog R_fourOf_env := envOk tyOk fn_ok (callsCons R_splitAt_ok (callsCons R_between_ok (callsCons R_Digits_ok (callsCons R_bitsOf_ok callsNil)))) _
theorem R_fourOf_L10_ok : LOk Tryz.prog (nthLoop (nthLoop (codeOf Tryz.f77) 0) 0) (loopTr R_fourOf_L10_S (loopN R_fourOf_L10 FUEL)) := by
 have h : loopsOf (nthLoop (nthLoop (codeOf Tryz.f77) 0) 0) = [] := by kernel_rfl
 refine loop_ok R_fourOf_envOk (loopsOk h lsNil) R_fourOf_L10_S R_fourOf_L10 FUEL (fun rec x => ?_)
 kernel_rfl
theorem R_fourOf_L6_ok : LOk Tryz.prog (nthLoop (codeOf Tryz.f77) 0) (loopTr R_fourOf_L6_S (loopN R_fourOf_L6 FUEL)) := by
 have h : loopsOf (nthLoop (codeOf Tryz.f77) 0) = [(nthLoop (nthLoop (codeOf Tryz.f77) 0) 0)] := by kernel_rfl
 refine loop_ok R_fourOf_envOk (loopsOk h (lsCons (one_loop (t := (loopTr R_fourOf_L10_S (loopN R_fourOf_L10 FUEL))) (by kernel_rfl) R_fourOf_L10_ok) lsNil)) R_fourOf_L6_S R_fourOf_L6 FUEL (fun rec x => ?_)
 kernel_rfl
noncomputable def R_fourOf_con : Con := con [.one (.fl .str)] [.one (.fl .str), .one (.fl .bool)] (fun x => R_fourOf_t x.1)
theorem R_fourOf_ok : TrOk Tryz.prog 77 R_fourOf_con := by
 have h : loopsOf (codeOf Tryz.f77) = [(nthLoop (codeOf Tryz.f77) 0)] := by kernel_rfl
 refine con_ok R_fourOf_envOk Tryz.func77 (bodyOk h (lsCons (one_loop (t := (loopTr R_fourOf_L6_S (loopN R_fourOf_L6 FUEL))) (by kernel_rfl) R_fourOf_L6_ok) lsNil)) _ _ _ (fun x => ?_)
 kernel_rfl
def R_groupOf_L5_S : LoopS := { n := 49, base := 0, head := { keep := [0, 4, 5], vals := [.one (.fl .str), .one (.fl .int), .one (.fl .int)], objs := [] }, exits := [⟨none, { keep := [2, 3], vals := [.one (.fl .str), .one (.fl .bool)], objs := [] }⟩, ⟨some 0, { keep := [4], vals := [.one (.fl .int)], objs := [] }⟩] }
noncomputable def R_groupOf_env : Env := mkEnv ty fnB [(41, R_between_con), (103, R_bitsOf_con)] [(5, (loopTr R_groupOf_L5_S (loopN R_groupOf_L5 FUEL)))]
theorem R_groupOf_envOk : EnvOk Tryz.prog R_groupOf_env := envOk tyOk fn_ok (callsCons R_between_ok (callsCons R_bitsOf_ok callsNil)) _
theorem R_groupOf_L5_ok : LOk Tryz.prog (nthLoop (codeOf Tryz.f104) 0) (loopTr R_groupOf_L5_S (loopN R_groupOf_L5 FUEL)) := by
 have h : loopsOf (nthLoop (codeOf Tryz.f104) 0) = [] := by kernel_rfl
 refine loop_ok R_groupOf_envOk (loopsOk h lsNil) R_groupOf_L5_S R_groupOf_L5 FUEL (fun rec x => ?_)
 kernel_rfl
noncomputable def R_groupOf_con : Con := con [.one (.fl .str)] [.one (.fl .str), .one (.fl .bool)] (fun x => R_groupOf_t x.1)
theorem R_groupOf_ok : TrOk Tryz.prog 104 R_groupOf_con := by
 have h : loopsOf (codeOf Tryz.f104) = [(nthLoop (codeOf Tryz.f104) 0)] := by kernel_rfl
 refine con_ok R_groupOf_envOk Tryz.func104 (bodyOk h (lsCons (one_loop (t := (loopTr R_groupOf_L5_S (loopN R_groupOf_L5 FUEL))) (by kernel_rfl) R_groupOf_L5_ok) lsNil)) _ _ _ (fun x => ?_)
 kernel_rfl
def R_groupsOf_L6_S : LoopS := { n := 55, base := 0, head := { keep := [1, 6, 7, 8], vals := [.one (.fl .bool), .one (.cst (.row 0)), .one (.fl .str), .one (.fl .int)], objs := [.row .str 9 true] }, exits := [⟨none, { keep := [4, 5], vals := [.one (.fl .str), .one (.fl .bool)], objs := [] }⟩, ⟨some 0, { keep := [7], vals := [.one (.fl .str)], objs := [] }⟩] }
noncomputable def R_groupsOf_env : Env := mkEnv ty fnB [(47, R_splitAt_con), (104, R_groupOf_con), (77, R_fourOf_con)] [(6, (loopTr R_groupsOf_L6_S (loopN R_groupsOf_L6 FUEL)))]
theorem R_groupsOf_envOk : EnvOk Tryz.prog R_groupsOf_env := envOk tyOk fn_ok (callsCons R_splitAt_ok (callsCons R_groupOf_ok (callsCons R_fourOf_ok callsNil))) _
theorem R_groupsOf_L6_ok : LOk Tryz.prog (nthLoop (codeOf Tryz.f78) 0) (loopTr R_groupsOf_L6_S (loopN R_groupsOf_L6 FUEL)) := by
 have h : loopsOf (nthLoop (codeOf Tryz.f78) 0) = [] := by kernel_rfl
 refine loop_ok R_groupsOf_envOk (loopsOk h lsNil) R_groupsOf_L6_S R_groupsOf_L6 FUEL (fun rec x => ?_)
 kernel_rfl
noncomputable def R_groupsOf_con : Con := con [.one (.fl .str), .one (.fl .bool)] [.one (.fl .str), .one (.fl .bool)] (fun x => R_groupsOf_t x.1 x.2.1)
theorem R_groupsOf_ok : TrOk Tryz.prog 78 R_groupsOf_con := by
 have h : loopsOf (codeOf Tryz.f78) = [(nthLoop (codeOf Tryz.f78) 0)] := by kernel_rfl
 refine con_ok R_groupsOf_envOk Tryz.func78 (bodyOk h (lsCons (one_loop (t := (loopTr R_groupsOf_L6_S (loopN R_groupsOf_L6 FUEL))) (by kernel_rfl) R_groupsOf_L6_ok) lsNil)) _ _ _ (fun x => ?_)
 kernel_rfl
def R_ParseOf_L3_S : LoopS := { n := 119, base := 0, head := { keep := [0, 2, 4, 5, 6], vals := [.one (.fl .str), .one (.cst (.ptr 0 0)), .one (.fl .bool), .one (.fl .int), .one (.fl .int)], objs := [.blk [.fl .addr] 24 true] }, exits := [⟨some 0, { keep := [0, 2, 4, 5], vals := [.one (.fl .str), .one (.cst (.ptr 0 0)), .one (.fl .bool), .one (.fl .int)], objs := [.blk [.fl .addr] 24 true] }⟩] }
def R_ParseOf_L23_S : LoopS := { n := 119, base := 0, head := { keep := [2, 12, 14], vals := [.one (.cst (.ptr 0 0)), .one (.fl .str), .one (.fl .str)], objs := [.blk [.fl .addr] 24 true] }, exits := [⟨some 2, { keep := [2, 12, 14], vals := [.one (.cst (.ptr 0 0)), .one (.fl .str), .one (.fl .str)], objs := [.blk [.fl .addr] 24 true] }⟩] }
noncomputable def R_ParseOf_env : Env := mkEnv ty fnB [(77, R_fourOf_con), (46, R_AddrOf_con), (78, R_groupsOf_con)] [(3, (loopTr R_ParseOf_L3_S (loopN R_ParseOf_L3 FUEL))), (23, (loopTr R_ParseOf_L23_S (loopN R_ParseOf_L23 FUEL)))]
theorem R_ParseOf_envOk : EnvOk Tryz.prog R_ParseOf_env := envOk tyOk fn_ok (callsCons R_fourOf_ok (callsCons R_AddrOf_ok (callsCons R_groupsOf_ok callsNil))) _
theorem R_ParseOf_L23_ok : LOk Tryz.prog (nthLoop (codeOf Tryz.f48) 1) (loopTr R_ParseOf_L23_S (loopN R_ParseOf_L23 FUEL)) := by
 have h : loopsOf (nthLoop (codeOf Tryz.f48) 1) = [] := by kernel_rfl
 refine loop_ok R_ParseOf_envOk (loopsOk h lsNil) R_ParseOf_L23_S R_ParseOf_L23 FUEL (fun rec x => ?_)
 kernel_rfl
theorem R_ParseOf_L3_ok : LOk Tryz.prog (nthLoop (codeOf Tryz.f48) 0) (loopTr R_ParseOf_L3_S (loopN R_ParseOf_L3 FUEL)) := by
 have h : loopsOf (nthLoop (codeOf Tryz.f48) 0) = [] := by kernel_rfl
 refine loop_ok R_ParseOf_envOk (loopsOk h lsNil) R_ParseOf_L3_S R_ParseOf_L3 FUEL (fun rec x => ?_)
 kernel_rfl
noncomputable def R_ParseOf_con : Con := con [.one (.fl .str)] [.one (.fl .addr), .one (.fl .bool)] (fun x => R_ParseOf_t x.1)
theorem R_ParseOf_ok : TrOk Tryz.prog 48 R_ParseOf_con := by
 have h : loopsOf (codeOf Tryz.f48) = [(nthLoop (codeOf Tryz.f48) 0), (nthLoop (codeOf Tryz.f48) 1)] := by kernel_rfl
 refine con_ok R_ParseOf_envOk Tryz.func48 (bodyOk h (lsCons (one_loop (t := (loopTr R_ParseOf_L3_S (loopN R_ParseOf_L3 FUEL))) (by kernel_rfl) R_ParseOf_L3_ok) (lsCons (one_loop (t := (loopTr R_ParseOf_L23_S (loopN R_ParseOf_L23 FUEL))) (by kernel_rfl) R_ParseOf_L23_ok) lsNil))) _ _ _ (fun x => ?_)
 kernel_rfl
def R_NumberOf_L5_S : LoopS := { n := 35, base := 0, head := { keep := [0, 4, 5], vals := [.one (.fl .str), .one (.fl .int), .one (.fl .int)], objs := [] }, exits := [⟨none, { keep := [2, 3], vals := [.one (.fl .int), .one (.fl .bool)], objs := [] }⟩, ⟨some 0, { keep := [0, 4], vals := [.one (.fl .str), .one (.fl .int)], objs := [] }⟩] }
noncomputable def R_NumberOf_env : Env := mkEnv ty fnB [(41, R_between_con), (44, R_Digits_con)] [(5, (loopTr R_NumberOf_L5_S (loopN R_NumberOf_L5 FUEL)))]
theorem R_NumberOf_envOk : EnvOk Tryz.prog R_NumberOf_env := envOk tyOk fn_ok (callsCons R_between_ok (callsCons R_Digits_ok callsNil)) _
theorem R_NumberOf_L5_ok : LOk Tryz.prog (nthLoop (codeOf Tryz.f49) 0) (loopTr R_NumberOf_L5_S (loopN R_NumberOf_L5 FUEL)) := by
 have h : loopsOf (nthLoop (codeOf Tryz.f49) 0) = [] := by kernel_rfl
 refine loop_ok R_NumberOf_envOk (loopsOk h lsNil) R_NumberOf_L5_S R_NumberOf_L5 FUEL (fun rec x => ?_)
 kernel_rfl
noncomputable def R_NumberOf_con : Con := con [.one (.fl .str)] [.one (.fl .int), .one (.fl .bool)] (fun x => R_NumberOf_t x.1)
theorem R_NumberOf_ok : TrOk Tryz.prog 49 R_NumberOf_con := by
 have h : loopsOf (codeOf Tryz.f49) = [(nthLoop (codeOf Tryz.f49) 0)] := by kernel_rfl
 refine con_ok R_NumberOf_envOk Tryz.func49 (bodyOk h (lsCons (one_loop (t := (loopTr R_NumberOf_L5_S (loopN R_NumberOf_L5 FUEL))) (by kernel_rfl) R_NumberOf_L5_ok) lsNil)) _ _ _ (fun x => ?_)
 kernel_rfl
noncomputable def R_PrefixOf_env : Env := mkEnv ty fnB [(47, R_splitAt_con), (48, R_ParseOf_con), (49, R_NumberOf_con), (12, R_CheckPrefix_con)] []
theorem R_PrefixOf_envOk : EnvOk Tryz.prog R_PrefixOf_env := envOk tyOk fn_ok (callsCons R_splitAt_ok (callsCons R_ParseOf_ok (callsCons R_NumberOf_ok (callsCons R_CheckPrefix_ok callsNil)))) _
noncomputable def R_PrefixOf_con : Con := con [.one (.fl .str)] [.one (.fl .pfx), .one (.fl .int)] (fun x => R_PrefixOf_t x.1)
theorem R_PrefixOf_ok : TrOk Tryz.prog 18 R_PrefixOf_con := by
 have h : loopsOf (codeOf Tryz.f18) = [] := by kernel_rfl
 refine con_ok R_PrefixOf_envOk Tryz.func18 (bodyOk h lsNil) _ _ _ (fun x => ?_)
 kernel_rfl
noncomputable def law_v4_env : Env := mkEnv ty fnB [] []
theorem law_v4_envOk : EnvOk Tryz.prog law_v4_env := envOk tyOk fn_ok callsNil _
noncomputable def law_v4_con : Con := con [.one (.fl .u64)] [.one (.fl .addr)] (fun x => law_v4_t x.1)
theorem law_v4_ok : TrOk Tryz.prog 51 law_v4_con := by
 have h : loopsOf (codeOf Tryz.f51) = [] := by kernel_rfl
 refine con_ok law_v4_envOk Tryz.func51 (bodyOk h lsNil) _ _ _ (fun x => ?_)
 kernel_rfl
noncomputable def law_net_env : Env := mkEnv ty fnB [(51, law_v4_con)] []
theorem law_net_envOk : EnvOk Tryz.prog law_net_env := envOk tyOk fn_ok (callsCons law_v4_ok callsNil) _
noncomputable def law_net_con : Con := con [.one (.fl .u64), .one (.fl .int)] [.one (.fl .pfx)] (fun x => law_net_t x.1 x.2.1)
theorem law_net_ok : TrOk Tryz.prog 50 law_net_con := by
 have h : loopsOf (codeOf Tryz.f50) = [] := by kernel_rfl
 refine con_ok law_net_envOk Tryz.func50 (bodyOk h lsNil) _ _ _ (fun x => ?_)
 kernel_rfl
noncomputable def state_within_env : Env := mkEnv ty fnB [] []
theorem state_within_envOk : EnvOk Tryz.prog state_within_env := envOk tyOk fn_ok callsNil _
noncomputable def state_within_con : Con := con [.one (.fl .int), .one (.fl .int), .one (.fl .int)] [.one (.fl .bool)] (fun x => state_within_t x.1 x.2.1 x.2.2.1)
theorem state_within_ok : TrOk Tryz.prog 64 state_within_con := by
 have h : loopsOf (codeOf Tryz.f64) = [] := by kernel_rfl
 refine con_ok state_within_envOk Tryz.func64 (bodyOk h lsNil) _ _ _ (fun x => ?_)
 kernel_rfl
noncomputable def state_extra_env : Env := mkEnv ty fnB [] []
theorem state_extra_envOk : EnvOk Tryz.prog state_extra_env := envOk tyOk fn_ok callsNil _
noncomputable def state_extra_con : Con := con [.one (.fl .op)] [.one (.fl .bool)] (fun x => state_extra_t x.1)
theorem state_extra_ok : TrOk Tryz.prog 65 state_extra_con := by
 have h : loopsOf (codeOf Tryz.f65) = [] := by kernel_rfl
 refine con_ok state_extra_envOk Tryz.func65 (bodyOk h lsNil) _ _ _ (fun x => ?_)
 kernel_rfl
noncomputable def lease_Narrow_env : Env := mkEnv ty fnB [(37, prefix_Wide_con)] []
theorem lease_Narrow_envOk : EnvOk Tryz.prog lease_Narrow_env := envOk tyOk fn_ok (callsCons prefix_Wide_ok callsNil) _
noncomputable def lease_Narrow_con : Con := con [.one (.fl .pfx)] [.one (.fl .bool)] (fun x => lease_Narrow_t x.1)
theorem lease_Narrow_ok : TrOk Tryz.prog 66 lease_Narrow_con := by
 have h : loopsOf (codeOf Tryz.f66) = [] := by kernel_rfl
 refine con_ok lease_Narrow_envOk Tryz.func66 (bodyOk h lsNil) _ _ _ (fun x => ?_)
 kernel_rfl
noncomputable def lease_within_env : Env := mkEnv ty fnB [] []
theorem lease_within_envOk : EnvOk Tryz.prog lease_within_env := envOk tyOk fn_ok callsNil _
noncomputable def lease_within_con : Con := con [.one (.fl .int), .one (.fl .int), .one (.fl .int)] [.one (.fl .bool)] (fun x => lease_within_t x.1 x.2.1 x.2.2.1)
theorem lease_within_ok : TrOk Tryz.prog 91 lease_within_con := by
 have h : loopsOf (codeOf Tryz.f91) = [] := by kernel_rfl
 refine con_ok lease_within_envOk Tryz.func91 (bodyOk h lsNil) _ _ _ (fun x => ?_)
 kernel_rfl
def lease_Who_L2_S : LoopS := { n := 33, base := 0, head := { keep := [0, 6, 7], vals := [.one (.fl .str), .one (.fl .int), .one (.fl .int)], objs := [] }, exits := [⟨none, { keep := [2], vals := [.one (.fl .bool)], objs := [] }⟩, ⟨some 0, { keep := [0], vals := [.one (.fl .str)], objs := [] }⟩] }
noncomputable def lease_Who_env : Env := mkEnv ty fnB [(91, lease_within_con)] [(2, (loopTr lease_Who_L2_S (loopN lease_Who_L2 FUEL)))]
theorem lease_Who_envOk : EnvOk Tryz.prog lease_Who_env := envOk tyOk fn_ok (callsCons lease_within_ok callsNil) _
theorem lease_Who_L2_ok : LOk Tryz.prog (nthLoop (codeOf Tryz.f67) 0) (loopTr lease_Who_L2_S (loopN lease_Who_L2 FUEL)) := by
 have h : loopsOf (nthLoop (codeOf Tryz.f67) 0) = [] := by kernel_rfl
 refine loop_ok lease_Who_envOk (loopsOk h lsNil) lease_Who_L2_S lease_Who_L2 FUEL (fun rec x => ?_)
 kernel_rfl
noncomputable def lease_Who_con : Con := con [.one (.fl .str)] [.one (.fl .bool)] (fun x => lease_Who_t x.1)
theorem lease_Who_ok : TrOk Tryz.prog 67 lease_Who_con := by
 have h : loopsOf (codeOf Tryz.f67) = [(nthLoop (codeOf Tryz.f67) 0)] := by kernel_rfl
 refine con_ok lease_Who_envOk Tryz.func67 (bodyOk h (lsCons (one_loop (t := (loopTr lease_Who_L2_S (loopN lease_Who_L2 FUEL))) (by kernel_rfl) lease_Who_L2_ok) lsNil)) _ _ _ (fun x => ?_)
 kernel_rfl
noncomputable def state_Form_env : Env := mkEnv ty fnB [(64, state_within_con), (65, state_extra_con), (20, prefix_Check_con), (66, lease_Narrow_con), (52, addr_Check_con), (67, lease_Who_con)] []
theorem state_Form_envOk : EnvOk Tryz.prog state_Form_env := envOk tyOk fn_ok (callsCons state_within_ok (callsCons state_extra_ok (callsCons prefix_Check_ok (callsCons lease_Narrow_ok (callsCons addr_Check_ok (callsCons lease_Who_ok callsNil)))))) _
noncomputable def state_Form_con : Con := con [.one (.fl .op)] [.one (.fl .int)] (fun x => state_Form_t x.1)
theorem state_Form_ok : TrOk Tryz.prog 29 state_Form_con := by
 have h : loopsOf (codeOf Tryz.f29) = [] := by kernel_rfl
 refine con_ok state_Form_envOk Tryz.func29 (bodyOk h lsNil) _ _ _ (fun x => ?_)
 kernel_rfl
noncomputable def text_told_1_env : Env := mkEnv ty fnB [] []
theorem text_told_1_envOk : EnvOk Tryz.prog text_told_1_env := envOk tyOk fn_ok callsNil _
noncomputable def text_told_1_con : Con := con [.one (.fl .int), .ref [.row .str 9] 74] [.one (.fl .str)] (fun x => text_told_1_t x.1 x.2.1.1)
theorem text_told_1_ok : TrOk Tryz.prog 81 text_told_1_con := by
 have h : loopsOf (codeOf Tryz.f81) = [] := by kernel_rfl
 refine con_ok text_told_1_envOk Tryz.func81 (bodyOk h lsNil) _ _ _ (fun x => ?_)
 kernel_rfl
noncomputable def R_IsNarrow_env : Env := mkEnv ty fnB [(42, R_wide_con)] []
theorem R_IsNarrow_envOk : EnvOk Tryz.prog R_IsNarrow_env := envOk tyOk fn_ok (callsCons R_wide_ok callsNil) _
noncomputable def R_IsNarrow_con : Con := con [.one (.fl .pfx)] [.one (.fl .bool)] (fun x => R_IsNarrow_t x.1)
theorem R_IsNarrow_ok : TrOk Tryz.prog 58 R_IsNarrow_con := by
 have h : loopsOf (codeOf Tryz.f58) = [] := by kernel_rfl
 refine con_ok R_IsNarrow_envOk Tryz.func58 (bodyOk h lsNil) _ _ _ (fun x => ?_)
 kernel_rfl
def R_IsWho_L2_S : LoopS := { n := 27, base := 0, head := { keep := [0, 3], vals := [.one (.fl .str), .one (.fl .int)], objs := [] }, exits := [⟨none, { keep := [2], vals := [.one (.fl .bool)], objs := [] }⟩, ⟨some 0, { keep := [0], vals := [.one (.fl .str)], objs := [] }⟩] }
noncomputable def R_IsWho_env : Env := mkEnv ty fnB [(41, R_between_con)] [(2, (loopTr R_IsWho_L2_S (loopN R_IsWho_L2 FUEL)))]
theorem R_IsWho_envOk : EnvOk Tryz.prog R_IsWho_env := envOk tyOk fn_ok (callsCons R_between_ok callsNil) _
theorem R_IsWho_L2_ok : LOk Tryz.prog (nthLoop (codeOf Tryz.f59) 0) (loopTr R_IsWho_L2_S (loopN R_IsWho_L2 FUEL)) := by
 have h : loopsOf (nthLoop (codeOf Tryz.f59) 0) = [] := by kernel_rfl
 refine loop_ok R_IsWho_envOk (loopsOk h lsNil) R_IsWho_L2_S R_IsWho_L2 FUEL (fun rec x => ?_)
 kernel_rfl
noncomputable def R_IsWho_con : Con := con [.one (.fl .str)] [.one (.fl .bool)] (fun x => R_IsWho_t x.1)
theorem R_IsWho_ok : TrOk Tryz.prog 59 R_IsWho_con := by
 have h : loopsOf (codeOf Tryz.f59) = [(nthLoop (codeOf Tryz.f59) 0)] := by kernel_rfl
 refine con_ok R_IsWho_envOk Tryz.func59 (bodyOk h (lsCons (one_loop (t := (loopTr R_IsWho_L2_S (loopN R_IsWho_L2 FUEL))) (by kernel_rfl) R_IsWho_L2_ok) lsNil)) _ _ _ (fun x => ?_)
 kernel_rfl
noncomputable def R_CheckOp_env : Env := mkEnv ty fnB [(41, R_between_con), (12, R_CheckPrefix_con), (58, R_IsNarrow_con), (40, R_CheckAddr_con), (59, R_IsWho_con)] []
theorem R_CheckOp_envOk : EnvOk Tryz.prog R_CheckOp_env := envOk tyOk fn_ok (callsCons R_between_ok (callsCons R_CheckPrefix_ok (callsCons R_IsNarrow_ok (callsCons R_CheckAddr_ok (callsCons R_IsWho_ok callsNil))))) _
noncomputable def R_CheckOp_con : Con := con [.one (.fl .op)] [.one (.fl .int)] (fun x => R_CheckOp_t x.1)
theorem R_CheckOp_ok : TrOk Tryz.prog 24 R_CheckOp_con := by
 have h : loopsOf (codeOf Tryz.f24) = [] := by kernel_rfl
 refine con_ok R_CheckOp_envOk Tryz.func24 (bodyOk h lsNil) _ _ _ (fun x => ?_)
 kernel_rfl
noncomputable def R_LineOf_env : Env := mkEnv ty fnB [(13, R_PrefixText_con), (43, R_TextOf_con), (44, R_Digits_con)] []
theorem R_LineOf_envOk : EnvOk Tryz.prog R_LineOf_env := envOk tyOk fn_ok (callsCons R_PrefixText_ok (callsCons R_TextOf_ok (callsCons R_Digits_ok callsNil))) _
noncomputable def R_LineOf_con : Con := con [.one (.fl .op)] [.one (.fl .str)] (fun x => R_LineOf_t x.1)
theorem R_LineOf_ok : TrOk Tryz.prog 25 R_LineOf_con := by
 have h : loopsOf (codeOf Tryz.f25) = [] := by kernel_rfl
 refine con_ok R_LineOf_envOk Tryz.func25 (bodyOk h lsNil) _ _ _ (fun x => ?_)
 kernel_rfl
noncomputable def R_OpOf_env : Env := mkEnv ty fnB [(47, R_splitAt_con), (18, R_PrefixOf_con), (13, R_PrefixText_con), (24, R_CheckOp_con), (48, R_ParseOf_con), (43, R_TextOf_con), (49, R_NumberOf_con)] []
theorem R_OpOf_envOk : EnvOk Tryz.prog R_OpOf_env := envOk tyOk fn_ok (callsCons R_splitAt_ok (callsCons R_PrefixOf_ok (callsCons R_PrefixText_ok (callsCons R_CheckOp_ok (callsCons R_ParseOf_ok (callsCons R_TextOf_ok (callsCons R_NumberOf_ok callsNil))))))) _
noncomputable def R_OpOf_con : Con := con [.one (.fl .str)] [.one (.fl .op), .one (.fl .bool)] (fun x => R_OpOf_t x.1)
theorem R_OpOf_ok : TrOk Tryz.prog 26 R_OpOf_con := by
 have h : loopsOf (codeOf Tryz.f26) = [] := by kernel_rfl
 refine con_ok R_OpOf_envOk Tryz.func26 (bodyOk h lsNil) _ _ _ (fun x => ?_)
 kernel_rfl
noncomputable def law_some_env : Env := mkEnv ty fnB [(50, law_net_con), (51, law_v4_con)] []
theorem law_some_envOk : EnvOk Tryz.prog law_some_env := envOk tyOk fn_ok (callsCons law_net_ok (callsCons law_v4_ok callsNil)) _
noncomputable def law_some_con : Con := con [] [.one (.row .op 51)] (fun x => law_some_t)
theorem law_some_ok : TrOk Tryz.prog 60 law_some_con := by
 have h : loopsOf (codeOf Tryz.f60) = [] := by kernel_rfl
 refine con_ok law_some_envOk Tryz.func60 (bodyOk h lsNil) _ _ _ (fun x => ?_)
 kernel_rfl
end Go.Proofs.YtafggolijpopeaaGreatDoor
namespace Go.Proofs.YtafggolijpopeaaGreatDoor
open Go Go.Ma Go.RowKit Go.Shelf Go.Proofs
attribute [local go_sem] Oper.semAt_some
theorem set3 {w : World} {N : Nat} {x y z a b c : Value} {t : TypeId} (h : w.heap[N]? = some (Go.Obj.cells #[x, y, z] t (0, 0))) :
  (((w.setCell ⟨N, 0, none⟩ a).setCell ⟨N, 1, none⟩ b).setCell ⟨N, 2, none⟩ c).heap[N]? = some (Go.Obj.cells #[a, b, c] t (0, 0)) ∧
  (∀ k, k ≠ N → (((w.setCell ⟨N, 0, none⟩ a).setCell ⟨N, 1, none⟩ b).setCell ⟨N, 2, none⟩ c).heap[k]? = w.heap[k]?) ∧
  Below N w (((w.setCell ⟨N, 0, none⟩ a).setCell ⟨N, 1, none⟩ b).setCell ⟨N, 2, none⟩ c) := by
 obtain ⟨h1, h2, _⟩ := setCells_spec w N 0 [a, b, c] #[x, y, z] t (0, 0) h
 refine ⟨h1, h2, ?_⟩
 exact (((Below.refl N w).setCell (p := ⟨N, 0, none⟩) (Nat.le_refl _) _).setCell (p := ⟨N, 1, none⟩) (Nat.le_refl _) _).setCell (p := ⟨N, 2, none⟩) (Nat.le_refl _) _
theorem three_cells {w : World} {N : Nat} {a b c : Value} {t : TypeId} (this : w.heap[N]? = some (Go.Obj.cells #[a, b, c] t (0, 0))) :
  w.cell? ⟨N, 0, none⟩ = some a ∧ w.cell? ⟨N, 1, none⟩ = some b ∧ w.cell? ⟨N, 2, none⟩ = some c ∧ w.frozen? ⟨N, 0, none⟩ = false ∧ w.frozen? ⟨N, 1, none⟩ = false ∧ w.frozen? ⟨N, 2, none⟩ = false := by
 refine ⟨?_, ?_, ?_, ?_, ?_, ?_⟩ <;> simp [World.cell?, World.frozen?, this]
theorem heap_push (w : World) (o : Go.Obj) (k : Nat) : (w.alloc o).heap[k]? = if k = w.heap.size then some o else w.heap[k]? := by
 show (w.heap.push o)[k]? = _
 exact Array.getElem?_push
theorem below_grown' {A C : World} (hb : Below A.heap.size A C) : A.grownBy C none := ⟨hb.os, hb.tape, hb.output, hb.size, fun k hk _ => hb.block k hk⟩
theorem heap_below {A C : World} (hb : Below A.heap.size A C) {b : Nat} {o : Go.Obj} (h : A.heap[b]? = some o) : C.heap[b]? = some o := (hb.block b (Array.getElem?_eq_some_iff.1 h).1).trans h
theorem cell_of_box_l {W : World} {B : Nat} {v : Value} {t : TypeId} (h : W.heap[B]? = some (Go.Obj.cells #[v] t (0, 0))) : W.cell? ⟨B, 0, none⟩ = some v ∧ W.frozen? ⟨B, 0, none⟩ = false := by
 constructor <;> simp [World.cell?, World.frozen?, h]
end Go.Proofs.YtafggolijpopeaaGreatDoor
namespace Go.Proofs.YtafggolijpopeaaGreatDoor
open Go Go.Ma Go.RowKit Go.Maps Go.Proofs
end Go.Proofs.YtafggolijpopeaaGreatDoor
namespace Go.Proofs.YtafggolijpopeaaGreatDoor
open Go Go.Ma Go.RowKit Go.Lib Go.Proofs
end Go.Proofs.YtafggolijpopeaaGreatDoor
namespace Go.Proofs.YtafggolijpopeaaGreatDoor
open Go Go.Ma Go.RowKit Go.Lib Go.Proofs
end Go.Proofs.YtafggolijpopeaaGreatDoor
namespace Go.Proofs
open Go.Shelf
end Go.Proofs
namespace Go.Proofs.YtafggolijpopeaaGreatDoor
open Go Go.Ma Go.RowKit Go.Lib Go.Proofs Go.Sort
end Go.Proofs.YtafggolijpopeaaGreatDoor
namespace Go.Ma
open Go Go.Shelf Go.RowKit Go.Lib Go.Proofs Go.Sort
end Go.Ma
namespace Go.Proofs.YtafggolijpopeaaGreatDoor
open Go Go.Ma Go.RowKit Go.Lib Go.Proofs Go.Sort
end Go.Proofs.YtafggolijpopeaaGreatDoor
namespace Go.Proofs.YtafggolijpopeaaGreatDoor
open Go Go.Ma Go.RowKit Go.Proofs
end Go.Proofs.YtafggolijpopeaaGreatDoor
