/-
  For every input whose arguments are together of bulk at most 1048576 PrefixTells of the package yardarmlaw returns true, and each of its arguments reads behind the call as it read before: the package variables that the row lists hold what the program lays; the walk reads none of them.
-/
import Derived.Maps.OwnRows
import Derived.Maps.AppendAt
import Derived.Maps.GroupsBeside
import Derived.Deep.Onto
import Derived.WalkKit
import Derived.ProofKit
import Derived.Lib.AppendZerosOnto
import Derived.Laws.CopyRow
import Derived.Laws.AppendOwn
import Derived.Lib.Hide
import Derived.RegionTactic
import Derived.ChangeAlike
import Derived.BigRegion
import Derived.Defers
import Derived.Recover
import Derived.Laws.Pointers
import Derived.Shelf.Vars
import Derived.Lib.LaidTab
import Derived.LaidLaws
import Derived.MakeChecks
import Derived.Test.YthoipikkaelohaaGreatDoorCards
import Derived.Test.YthoipikkaelohaaGreatDoorTie
import Derived.OpenShut
import Derived.ShutString
import Derived.ChangeOld
import Derived.Below
import Derived.JoinedCond
import Derived.Deep.DeepHandedRow
import Derived.Test.YthoipikkaelohaaGreatDoorZp4
set_option linter.unusedVariables false
set_option linter.unusedSimpArgs false
namespace Go.Proofs.YthoipikkaelohaaGreatDoor
open Go Go.Ma Go.RowKit Go.Proofs
def badE : PanicEntry := { v := .iface 91 (.agg #[]), recovered := false }
def EndU (o : Option Int) (e : Ending) : Prop := match o with
 | some v => e = .returned (.int .u64 v)
 | none => e = .panicked [badE]
theorem endU_some {o : Option Int} {v : Int} (h : o = some v) : EndU o (.returned (.int .u64 v)) := by rw [h]; rfl
theorem endU_none {o : Option Int} (h : o = none) : EndU o (.panicked [badE]) := by rw [h]; rfl
set_option maxRecDepth 100000 in
set_option maxHeartbeats 4000000 in
theorem part_walk (s : ByteArray) (b digits most : Int) (hb : b = 10 ∨ b = 16) (hs : s.size ≤ 281474976710656) (w : World) (hG : Glob Tryz.prog w) :
  Calls Tryz.prog 84 #[.string s, .int .i64 b, .int .i64 digits, .int .u64 most] w fun e w' => EndU (partF s b digits most) e ∧ Below w.heap.size w w' := by
 have hcv := fun w s => Lib.run_convert_string_bytes (P := Tryz.prog) w 9 62 5 s Tryz.underlying9 Tryz.underlying62 Tryz.underlying5
 have HP : Hid (∀ W, Glob Tryz.prog W → Calls Tryz.prog 99 #[.string s, .int .i64 b, .int .i64 32] W fun e w' => NumEnd (numU b s) e ∧ Below W.heap.size W w') := fun W hg => by
  rcases hb with rfl | rfl
  ·exact decPublic s hs W hg
  ·exact hexPublic s hs W hg
 have hb10 : b = 10 ∨ ¬ b = 10 := by omega
 go_enter Tryz.func84, Tryz.ntmps84
 go_wp2
 obtain ⟨cap, hcap⟩ : ∃ cap, cap = grownCap w s.size 0 5 := ⟨_, rfl⟩
 rw [← hcap]
 obtain ⟨w1, hw1⟩ : ∃ w1, w1 = Lib.bytesWorld w 5 s := ⟨_, rfl⟩
 rw [← hw1]
 have HC : Hid (∀ k, k < s.size → w1.cell? ⟨w.heap.size, k, none⟩ = some (.int .u8 ((s.data.toList.getD k 0).toNat : Int))) := fun k hk => by rw [hw1]; exact Lib.bytesWorld_cell _ _ _ _ hk
 have hb1 : Below w.heap.size w w1 := by rw [hw1]; exact Lib.bytesWorld_below _ _ _
 have HA : Hid (∀ k, k < 0 → plainB (s.data.toList.getD k 0) = true) := fun k hk => absurd hk (by omega)
 clear hcv hw1 hcap hb
 go_loopw [16] (fun i wr => ∃ k : Nat, k ≤ s.size ∧ i = .int .i64 k ∧ Hid (∀ k, k < s.size → wr.cell? ⟨w.heap.size, k, none⟩ = some (.int .u8 ((s.data.toList.getD k 0).toNat : Int))) ∧ Hid (∀ j, j < k → plainB (s.data.toList.getD j 0) = true) ∧ Below w.heap.size w wr) (fun i _ => s.size - (intOf i).toNat)
 case atStart => exact ⟨0, Nat.zero_le _, rfl, HC, HA, hb1⟩
 case round =>
  clear HC hb1 HA
  obtain ⟨k, hk, rfl, HC, HA, hb1⟩ := hrel
  by_cases hlt : k < s.size
  ·have cB := HC.out k hlt
   have hgd : s.data.toList.getD k 0 ∈ s.data.toList := by
    rw [List.getD_eq_getElem?_getD, List.getElem?_eq_getElem (by simpa using hlt)]
    exact List.getElem_mem _
   have hltI : (k : Int) < (s.size : Int) := by omega
   by_cases hpl : plainB (s.data.toList.getD k 0) = true
   ·have HA' : Hid (∀ j, j < k + 1 → plainB (s.data.toList.getD j 0) = true) := Lib.hid (fun j hj => by
     by_cases hjk : j = k
     ·rw [hjk]; exact hpl
     ·exact HA.out j (by omega))
    generalize s.data.toList.getD k 0 = c at cB hpl
    have n1 : ((c.toNat : Int) == 43) = false := by
     rw [beq_eq_false_iff_ne]; intro e
     have : c = 43 := UInt8.toNat_inj.1 (by show c.toNat = 43; omega)
     subst this; revert hpl; decide
    have n2 : ((c.toNat : Int) == 45) = false := by
     rw [beq_eq_false_iff_ne]; intro e
     have : c = 45 := UInt8.toNat_inj.1 (by show c.toNat = 45; omega)
     subst this; revert hpl; decide
    have n3 : ((c.toNat : Int) == 95) = false := by
     rw [beq_eq_false_iff_ne]; intro e
     have : c = 95 := UInt8.toNat_inj.1 (by show c.toNat = 95; omega)
     subst this; revert hpl; decide
    clear hpl hgd
    go_wp2
    exact ⟨⟨k + 1, by omega, by go_num, HC, HA', hb1⟩, by simp [intOf]; omega⟩
   ·have hnone : partF s b digits most = none := by
     unfold partF
     rw [if_neg (fun h => hpl ((List.all_eq_true.1 h) _ hgd))]
    generalize s.data.toList.getD k 0 = c at cB hpl
    have hc3 : c = 43 ∨ c = 45 ∨ c = 95 := by
     unfold plainB at hpl
     simp only [Bool.and_eq_true, Bool.not_eq_true', beq_eq_false_iff_ne, not_and, Decidable.not_not, ne_eq] at hpl
     by_cases h1 : c = 43
     ·exact .inl h1
     ·by_cases h2 : c = 45
      ·exact .inr (.inl h2)
      ·exact .inr (.inr (hpl ⟨h1, h2⟩))
    clear hpl hgd HA HC
    rcases hc3 with rfl | rfl | rfl
    ·go_wp2
     exact ⟨rfl, endU_none hnone, hb1⟩
    ·go_wp2
     exact ⟨rfl, endU_none hnone, hb1⟩
    ·go_wp2
     exact ⟨rfl, endU_none hnone, hb1⟩
  ·have hkn : k = s.size := by omega
   subst hkn
   have hall : s.data.toList.all plainB = true := by
    rw [List.all_eq_true]
    intro c hc
    obtain ⟨j, hj⟩ := List.mem_iff_getElem?.1 hc
    have hjl := (List.getElem?_eq_some_iff.1 hj).1
    have := HA.out j (by simpa using hjl)
    rw [List.getD_eq_getElem?_getD, hj] at this
    exact this
   clear HC HA
   have hp0 : partF s b digits most = match numU b s with | none => none | some u => if digits < s.size ∨ most < u ∨ (b = 10 ∧ 1 < s.size ∧ s.data.toList.head? = some 48) then none else some (u : Int) := by
    unfold partF
    rw [if_pos hall]
    rfl
   cases hu : numU b s with
   | none =>
    rw [hu] at hp0 HP
    go_wp2_with (go_at_call 99; refine (HP.out _ (hG.mono hb1)).mono ?_; rintro e w2 ⟨⟨u, ev, rfl, te, pe, rfl⟩, hb2⟩)
    exact ⟨rfl, endU_none hp0, hb1.trans (hb2.mono hb1.size)⟩
   | some n =>
    rw [hu] at hp0 HP
    simp only at hp0
    by_cases g1 : digits < (s.size : Int)
    ·rw [if_pos (.inl g1)] at hp0
     have z1 : decide (digits < (s.size : Int)) = true := decide_eq_true g1
     go_wp2_with (go_at_call 99; refine (HP.out _ (hG.mono hb1)).mono ?_; rintro e w2 ⟨⟨u, ev, rfl, hue⟩, hb2⟩; obtain ⟨rfl, rfl⟩ := hue)
     exact ⟨rfl, endU_none hp0, hb1.trans (hb2.mono hb1.size)⟩
    have z1 : decide (digits < (s.size : Int)) = false := decide_eq_false g1
    by_cases g2 : most < (n : Int)
    ·rw [if_pos (.inr (.inl g2))] at hp0
     have z2 : decide (most < (n : Int)) = true := decide_eq_true g2
     go_wp2_with (go_at_call 99; refine (HP.out _ (hG.mono hb1)).mono ?_; rintro e w2 ⟨⟨u, ev, rfl, hue⟩, hb2⟩; obtain ⟨rfl, rfl⟩ := hue)
     exact ⟨rfl, endU_none hp0, hb1.trans (hb2.mono hb1.size)⟩
    have z2 : decide (most < (n : Int)) = false := decide_eq_false g2
    rcases hb10 with rfl | g3
    rotate_left
    ·rw [if_neg (by rintro (h | h | h); exact g1 h; exact g2 h; exact g3 h.1)] at hp0
     have z3 : (b == 10) = false := by rw [beq_eq_false_iff_ne]; exact g3
     go_wp2_with (go_at_call 99; refine (HP.out _ (hG.mono hb1)).mono ?_; rintro e w2 ⟨⟨u, ev, rfl, hue⟩, hb2⟩; obtain ⟨rfl, rfl⟩ := hue)
     go_ret
     exact ⟨endU_some hp0, hb1.trans (hb2.mono hb1.size)⟩
    by_cases g4 : 1 < s.size
    rotate_left
    ·rw [if_neg (by rintro (h | h | h); exact g1 h; exact g2 h; exact g4 h.2.1)] at hp0
     have z4 : decide (1 < (s.size : Int)) = false := decide_eq_false (by omega)
     go_wp2_with (go_at_call 99; refine (HP.out _ (hG.mono hb1)).mono ?_; rintro e w2 ⟨⟨u, ev, rfl, hue⟩, hb2⟩; obtain ⟨rfl, rfl⟩ := hue)
     go_ret
     exact ⟨endU_some hp0, hb1.trans (hb2.mono hb1.size)⟩
    have z4 : decide (1 < (s.size : Int)) = true := decide_eq_true (by omega)
    have hsz : 0 < s.size := by omega
    have hh0 : s.data.toList.head? = some (s[0]'hsz) := by
     rw [List.head?_eq_getElem?, List.getElem?_eq_getElem (by simpa using hsz)]
     rfl
    rw [hh0] at hp0
    by_cases g5 : s[0]'hsz = 48
    ·rw [if_pos (.inr (.inr ⟨rfl, g4, by rw [g5]⟩))] at hp0
     have z5 : (((s[0]'hsz).toNat : Int) == 48) = true := by rw [g5]; rfl
     go_wp2_with (go_at_call 99; refine (HP.out _ (hG.mono hb1)).mono ?_; rintro e w2 ⟨⟨u, ev, rfl, hue⟩, hb2⟩; obtain ⟨rfl, rfl⟩ := hue)
     exact ⟨rfl, endU_none hp0, hb1.trans (hb2.mono hb1.size)⟩
    ·rw [if_neg (by rintro (h | h | h); exact g1 h; exact g2 h; exact g5 (Option.some.inj h.2.2))] at hp0
     have z5 : (((s[0]'hsz).toNat : Int) == 48) = false := by
      rw [beq_eq_false_iff_ne]
      intro e
      exact g5 (UInt8.toNat_inj.1 (by show (s[0]'hsz).toNat = 48; omega))
     go_wp2_with (go_at_call 99; refine (HP.out _ (hG.mono hb1)).mono ?_; rintro e w2 ⟨⟨u, ev, rfl, hue⟩, hb2⟩; obtain ⟨rfl, rfl⟩ := hue)
     go_ret
     exact ⟨endU_some hp0, hb1.trans (hb2.mono hb1.size)⟩
theorem splitOn_len (s : ByteArray) (c : UInt8) : (splitOn s c).length = Lib.countB s ⟨#[c]⟩ + 1 := Lib.splitB_all ⟨#[c]⟩ (Nat.le_refl _) 0 _ s rfl
theorem splitOn_le (s : ByteArray) (c : UInt8) : (splitOn s c).length ≤ s.size + 1 := by
 rw [splitOn_len]
 have := Lib.countB_le ⟨#[c]⟩ (Nat.le_refl _) s.size s (Nat.le_refl _)
 omega
theorem split_calls (s : ByteArray) (c : UInt8) (w : World) (hs : s.size < 4294967281) :
  Calls Tryz.prog 83 #[.string s, .string ⟨#[c]⟩] w fun e w' =>
   e = .returned (.slice (some ⟨w.heap.size, 0, none⟩) (splitOn s c).length (splitOn s c).length) ∧ Below w.heap.size w w' ∧ w.heap.size < w'.heap.size ∧ ∀ (k : Nat) x, (splitOn s c)[k]? = some x → w'.cell? ⟨w.heap.size, k, none⟩ = some (.string x) := by
 refine (split_one s c w hs).mono ?_
 rintro e w' ⟨rfl, rfl⟩
 have hl := splitOn_len s c
 refine ⟨by rw [hl], (Below.refl _ w).alloc (Nat.le_refl _) _, by simp, fun k x hx => ?_⟩
 have hn := heap_alloc_new w (.cells ((splitOn s c).map Value.string).toArray 9)
 show (w.alloc (.cells ((splitOn s c).map Value.string).toArray 9)).cell? _ = _
 unfold World.cell?
 simp only
 rw [hn]
 simp [hx]
theorem splitOn_sizes (s : ByteArray) (c : UInt8) : ∀ x ∈ splitOn s c, x.size ≤ s.size := by
 have key : ∀ (k : Nat) (s : ByteArray), ∀ x ∈ Lib.splitB ⟨#[c]⟩ 0 k s, x.size ≤ s.size := by
  intro k
  induction k with
  | zero => intro s x hx; simp only [Lib.splitB, List.mem_singleton] at hx; rw [hx]; exact Nat.le_refl _
  | succ k ih =>
   intro s x hx
   rw [Lib.splitB] at hx
   split at hx
   ·simp only [List.mem_singleton] at hx; rw [hx]; exact Nat.le_refl _
   ·rcases List.mem_cons.1 hx with rfl | hx
    ·rw [ByteArray.size_extract]; omega
    ·have := ih _ x hx
     rw [ByteArray.size_extract] at this
     omega
 exact key _ s
theorem cells_stay {w w' : World} {b : Nat} {l : List ByteArray} (h : ∀ (k : Nat) x, l[k]? = some x → w.cell? ⟨b, k, none⟩ = some (.string x)) (hb : Below w.heap.size w w') : ∀ (k : Nat) x, l[k]? = some x → w'.cell? ⟨b, k, none⟩ = some (.string x) :=
 fun k x hx => cell_stays hb (h k x hx)
set_option maxRecDepth 100000 in
set_option maxHeartbeats 4000000 in
theorem four_walk (s : ByteArray) (hs : s.size ≤ 4294967200) (w : World) (hG : Glob Tryz.prog w) :
  Calls Tryz.prog 65 #[.string s] w fun e w' => EndU (fourF s) e ∧ Below w.heap.size w w' := by
 have HS := split_calls s 46 w (by omega)
 have hsz := splitOn_sizes s 46
 have hf : fourF s = if (splitOn s 46).length = 4 then fourL (splitOn s 46) 0 else none := rfl
 generalize splitOn s 46 = l at HS hsz hf
 rw [hf]
 clear hf
 have HS := Lib.hid HS
 go_enter Tryz.func65, Tryz.ntmps65
 by_cases h4 : l.length = 4
 rotate_left
 ·have h4i : ((l.length : Int) == 4) = false := by rw [beq_eq_false_iff_ne]; omega
  rw [if_neg h4]
  go_wp2_with (go_at_call 83; refine HS.out.mono ?_; rintro e w1 ⟨rfl, hb1, hn1, hc1⟩)
  exact ⟨rfl, rfl, hb1⟩
 ·rw [if_pos h4]
  have h4i : ((l.length : Int) == 4) = true := by rw [h4]; rfl
  go_wp2_with (go_at_call 83; refine HS.out.mono ?_; rintro e w1 ⟨rfl, hb1, hn1, hc1⟩)
  have HC : Hid (∀ (k : Nat) x, l[k]? = some x → w1.cell? ⟨w.heap.size, k, none⟩ = some (.string x)) := hc1
  clear hc1 HS
  go_loopw [4, 16] (fun vn vi wr => ∃ (k : Nat) (n : Int), vn = .int .u64 n ∧ vi = .int .i64 k ∧ k ≤ l.length ∧ Hid (fourL l 0 = fourL (l.drop k) n) ∧ Hid (∀ (k : Nat) x, l[k]? = some x → wr.cell? ⟨w.heap.size, k, none⟩ = some (.string x)) ∧ Below w.heap.size w wr ∧ w.heap.size < wr.heap.size) (fun _ vi _ => l.length - (intOf vi).toNat)
  case atStart => exact ⟨0, 0, rfl, rfl, Nat.zero_le _, Lib.hid rfl, HC, hb1, hn1⟩
  case round =>
   clear HC hb1 hn1
   obtain ⟨k, n, rfl, rfl, hk, HF, HC, hb1, hn1⟩ := hrel
   by_cases hlt : k < l.length
   ·obtain ⟨x, hx⟩ : ∃ x, l[k]? = some x := ⟨_, List.getElem?_eq_getElem hlt⟩
    have cB := HC.out k x hx
    have hltI : (k : Int) < (l.length : Int) := by omega
    have hfx : fourL l 0 = match partF x 10 3 255 with | none => none | some u => fourL (l.drop (k + 1)) (aop .or .u64 (aop .shl .u64 n 8) u) := by
     rw [HF.out, List.drop_eq_getElem_cons hlt, (List.getElem?_eq_some_iff.1 hx).2]
     rfl
    have HP : Hid (∀ W, Below w.heap.size w W → Calls Tryz.prog 84 #[.string x, .int .i64 10, .int .i64 3, .int .u64 255] W fun e w' => EndU (partF x 10 3 255) e ∧ Below W.heap.size W w') := fun W hW =>
     part_walk x 10 3 255 (.inl rfl) (by have := hsz x (List.mem_of_getElem? hx); omega) W (hG.mono hW)
    cases hp : partF x 10 3 255 with
    | none =>
     rw [hp] at hfx HP
     have hfx : fourL l 0 = none := hfx
     go_wp2_with (go_at_call 84; refine (HP.out _ hb1).mono ?_; rintro e w2 ⟨he, hb2⟩; have he : e = .panicked [badE] := he; subst he)
     exact ⟨rfl, endU_none hfx, hb1.trans (hb2.mono hb1.size)⟩
    | some u =>
     rw [hp] at hfx HP
     simp only at hfx
     go_wp2_with (go_at_call 84; refine (HP.out _ hb1).mono ?_; rintro e w2 ⟨he, hb2⟩; have he : e = .returned (.int .u64 u) := he; subst he)
     exact ⟨⟨k + 1, _, rfl, by go_num, by omega, Lib.hid hfx, Lib.hid (cells_stay HC.out hb2), hb1.trans (hb2.mono hb1.size), Nat.lt_of_lt_of_le hn1 hb2.size⟩, by simp [intOf]; omega⟩
   ·have hkn : k = l.length := by omega
    subst hkn
    have hfx : fourL l 0 = some n := by rw [HF.out, List.drop_length]; rfl
    go_wp2
    go_ret
    exact ⟨endU_some hfx, hb1⟩
theorem below_grown' {A C : World} (hb : Below A.heap.size A C) : A.grownBy C none := ⟨hb.os, hb.tape, hb.output, hb.size, fun k hk _ => hb.block k hk⟩
theorem infoU64 : (Tryz.prog.info? 22).map (fun i => (i.zero, i.size, i.bytes)) = some (some (.int .u64 0), 1, 8) := by kernel_rfl
theorem below_grownQ {N : Nat} {a w w1 : World} {row : Option Nat} (h : Below N a w) (hg : w.grownBy w1 row) (hr : ∀ b, row = some b → N ≤ b) (hN : N ≤ w.heap.size) : Below N a w1 :=
 ⟨hg.os.trans h.os, hg.tape.trans h.tape, hg.output.trans h.output, Nat.le_trans h.size hg.size, fun k hk => (hg.block k (Nat.lt_of_lt_of_le hk hN) (fun e => absurd (hr k e.symm) (by omega))).trans (h.block k hk)⟩
theorem cells_new (w : World) (cs : List Value) (t : TypeId) : ∀ (j : Nat) u, cs[j]? = some u → (w.alloc (.cells cs.toArray t)).cell? (Addr.add ⟨w.heap.size, 0, none⟩ j) = some u := fun j u hj => by
 have hn := heap_alloc_new w (.cells cs.toArray t)
 rw [Addr.add_lit]
 unfold World.cell?
 simp only
 rw [hn]
 simp [hj]
theorem own_block_ge {w : World} {base : Nat} {e : TypeId} {size : Nat} {v : Value} {n : Nat} {xs : List Value} (h : w.ownsRow base e size v n xs) : ∀ b, v.ownBlock = some b → base ≤ b := fun b hb => by
 obtain ⟨_, ⟨rfl, _⟩ | ⟨g, cap, cur, rfl, hg, _⟩⟩ := h
 ·cases hb
 ·cases hb; exact hg
def EndRow (base : Nat) (o : Option (List Int)) (e : Ending) (w' : World) : Prop := match o with
 | some l => ∃ v, e = .returned v ∧ w'.ownsRow base 22 1 v l.length (l.map (Value.int .u64))
 | none => e = .panicked [badE]
theorem someL_cons {last : Bool} {len : Nat} {l : List ByteArray} {k : Nat} {x : ByteArray} (hx : l[k]? = some x) (out : List Int) : someL last len (l.drop k) k out =
  if last = true ∧ k + 1 = len ∧ dotIn x = true then (match fourF x with | none => none | some n => someL last len (l.drop (k + 1)) (k + 1) (out ++ [n / 65536, aop .and .u64 n 65535]))
  else (match partF x 16 4 65535 with | none => none | some u => someL last len (l.drop (k + 1)) (k + 1) (out ++ [u])) := by
 obtain ⟨h1, h2⟩ := List.getElem?_eq_some_iff.1 hx
 rw [List.drop_eq_getElem_cons h1, h2]
 rfl
set_option maxRecDepth 100000 in
set_option maxHeartbeats 8000000 in
theorem some_walk (s : ByteArray) (last : Bool) (hs : s.size ≤ 4294967200) (w : World) (hG : Glob Tryz.prog w) :
  Calls Tryz.prog 82 #[.string s, .bool last] w fun e w' => EndRow w.heap.size (someF s last) e w' ∧ Below w.heap.size w w' := by
 obtain ⟨i0, hi, hz0, hz1, hz2⟩ := info_parts infoU64
 by_cases h0 : s.size = 0
 ·have hse : s = ByteArray.empty := by
   cases s with | mk a =>
   have : a = #[] := Array.eq_empty_of_size_eq_zero h0
   rw [this]; rfl
  subst hse
  go_enter Tryz.func82, Tryz.ntmps82
  go_wp2
  go_ret
  exact ⟨⟨_, rfl, World.ownsRow_nil _ _ _ _⟩, Below.refl _ _⟩
 have hemp : s.toList.isEmpty = false := by
  rw [← decide_eq_emptyBytes]
  exact decide_eq_false (fun h => h0 (by rw [h]; rfl))
 have HS := split_calls s 58 w (by omega)
 have hsz := splitOn_sizes s 58
 have hle := splitOn_le s 58
 have hf : someF s last = someL last (splitOn s 58).length (splitOn s 58) 0 [] := by unfold someF; rw [if_neg h0]
 generalize splitOn s 58 = l at HS hsz hle hf
 rw [hf]
 clear hf
 have HS := Lib.hid HS
 go_enter Tryz.func82, Tryz.ntmps82
 go_wp2_with (go_at_call 83; refine HS.out.mono ?_; rintro e w1 ⟨rfl, hb1, hn1, hc1⟩)
 have HC : Hid (∀ (k : Nat) x, l[k]? = some x → w1.cell? ⟨w.heap.size, k, none⟩ = some (.string x)) := hc1
 clear hc1 HS
 obtain ⟨B, hB⟩ : ∃ B, B = w1.heap.size := ⟨_, rfl⟩
 go_loopw [5, 16] (fun vo vi wr => ∃ (k : Nat) (out : List Int), vi = .int .i64 k ∧ k ≤ l.length ∧ Hid (someL last l.length l 0 [] = someL last l.length (l.drop k) k out) ∧ Hid (∀ (k : Nat) x, l[k]? = some x → wr.cell? ⟨w.heap.size, k, none⟩ = some (.string x)) ∧ wr.ownsRow B 22 1 vo out.length (out.map (Value.int .u64)) ∧ out.length ≤ 2 * k ∧ Below B w1 wr) (fun _ vi _ => l.length - (intOf vi).toNat)
 case atStart => exact ⟨0, [], rfl, Nat.zero_le _, Lib.hid rfl, HC, World.ownsRow_nil _ _ _ _, by simp, by rw [hB]; exact Below.refl _ _⟩
 case round =>
  clear HC
  obtain ⟨k, out, rfl, hk, HF, HC, hown, hol, hbr⟩ := hrel
  have hbw : Below w.heap.size w wr := hb1.trans (hbr.mono (by omega))
  have hBr : B ≤ wr.heap.size := by rw [hB]; exact hbr.size
  by_cases hlt : k < l.length
  ·obtain ⟨x, hx⟩ : ∃ x, l[k]? = some x := ⟨_, List.getElem?_eq_getElem hlt⟩
   have cB := HC.out k x hx
   have hltI : (k : Int) < (l.length : Int) := by omega
   have hxs := hsz x (List.mem_of_getElem? hx)
   have hfx : someL last l.length l 0 [] = _ := HF.out.trans (someL_cons hx out)
   have HP : Hid (∀ W, Below w.heap.size w W → Calls Tryz.prog 84 #[.string x, .int .i64 16, .int .i64 4, .int .u64 65535] W fun e w' => EndU (partF x 16 4 65535) e ∧ Below W.heap.size W w') := fun W hW =>
    part_walk x 16 4 65535 (.inr rfl) (by omega) W (hG.mono hW)
   have H4 : Hid (∀ W, Below w.heap.size w W → Calls Tryz.prog 65 #[.string x] W fun e w' => EndU (fourF x) e ∧ Below W.heap.size W w') := fun W hW =>
    four_walk x (by omega) W (hG.mono hW)
   have HD : Hid (∀ W, Calls Tryz.prog 63 #[.string x, .string ⟨#[46]⟩] W fun e w' => e = .returned (.bool (dotIn x)) ∧ w' = W) := fun W => Go.Proofs.Tryz.strings_Contains_one x 46 W
   by_cases hcond : last = true ∧ k + 1 = l.length ∧ dotIn x = true
   ·rw [if_pos hcond] at hfx
    obtain ⟨rfl, hk1, hd⟩ := hcond
    rw [hd] at HD
    have hk1i : ((k : Int) == (l.length : Int) - 1) = true := by rw [beq_iff_eq]; omega
    cases hp : fourF x with
    | none =>
     rw [hp] at hfx H4
     have hfx : someL true l.length l 0 [] = none := hfx
     go_wp2_with (first | (go_at_call 63; refine (HD.out _).mono ?_; rintro e w2 ⟨rfl, hw2⟩; have hw2 := hw2.symm; subst hw2) | (go_at_call 65; refine (H4.out _ hbw).mono ?_; rintro e w2 ⟨he, hb2⟩; have he : e = .panicked [badE] := he; subst he))
     exact ⟨rfl, by rw [hfx]; rfl, hbw.trans (hb2.mono hbw.size)⟩
    | some n =>
     rw [hp] at hfx H4
     simp only at hfx
     go_wp2_with (first | (go_at_call 63; refine (HD.out _).mono ?_; rintro e w2 ⟨rfl, hw2⟩; have hw2 := hw2.symm; subst hw2) | (go_at_call 65; refine (H4.out _ hbw).mono ?_; rintro e w2 ⟨he, hb2⟩; have he : e = .returned (.int .u64 n) := he; subst he; have hown2 := hown.kept (below_grown' hb2) (Classical.em _); have hs2 := hb2.size) | (at_builtin; refine wpList_append_own_at _ rfl _ _ 107 rfl B 22 i0 (.int .u64 0) 1 8 Tryz.underlying107 hi hz0 hz1 hz2 rfl (by decide) _ _ _ rfl (hown2.alloc _) ⟨w2.heap.size, 0, none⟩ 2 2 [.int .u64 (n / 65536), .int .u64 (bits .and .u64 n 65535)] rfl rfl (cells_new _ _ _) (by simp [Value.oneCell']) (by unfold maxLen; omega) (by omega) (by simp; omega) ?_; intro v' w3 hown' hgrow hnil hloc))
     have hg3 : w2.grownBy w3 u5.ownBlock := (World.grownBy_alloc w2 _ _).trans hgrow
     have hbe : ∀ b, u5.ownBlock = some b → B ≤ b := own_block_ge hown
     have hh : Below B wr w3 := below_grownQ (hb2.mono hBr) hg3 hbe (by omega)
     have HN : Hid (∀ (k : Nat) x, l[k]? = some x → w3.cell? ⟨w.heap.size, k, none⟩ = some (.string x)) := Lib.hid fun k x hx => (hh.cell (p := ⟨w.heap.size, k, none⟩) (by show w.heap.size < B; omega)).trans (HC.out k x hx)
     exact ⟨⟨k + 1, out ++ [n / 65536, aop .and .u64 n 65535], by go_num, by omega, Lib.hid hfx, HN, by rw [List.length_append, List.map_append]; exact hown', by simp; omega, hbr.trans hh⟩, by simp [intOf]; omega⟩
   ·rw [if_neg hcond] at hfx
    cases last with
    | false =>
     cases hp : partF x 16 4 65535 with
     | none =>
      rw [hp] at hfx HP
      have hfx : someL _ l.length l 0 [] = none := hfx
      go_wp2_with (first | (go_at_call 63; refine (HD.out _).mono ?_; rintro e w2 ⟨rfl, hw2⟩; have hw2 := hw2.symm; subst hw2) | (go_at_call 84; refine (HP.out _ hbw).mono ?_; rintro e w2 ⟨he, hb2⟩; have he : e = .panicked [badE] := he; subst he))
      exact ⟨rfl, by rw [hfx]; rfl, hbw.trans (hb2.mono hbw.size)⟩
     | some u =>
      rw [hp] at hfx HP
      simp only at hfx
      go_wp2_with (first | (go_at_call 63; refine (HD.out _).mono ?_; rintro e w2 ⟨rfl, hw2⟩; have hw2 := hw2.symm; subst hw2) | (go_at_call 84; refine (HP.out _ hbw).mono ?_; rintro e w2 ⟨he, hb2⟩; have he : e = .returned (.int .u64 u) := he; subst he; have hown2 := hown.kept (below_grown' hb2) (Classical.em _); have hs2 := hb2.size) | (at_builtin; refine wpList_append_own_at _ rfl _ _ 107 rfl B 22 i0 (.int .u64 0) 1 8 Tryz.underlying107 hi hz0 hz1 hz2 rfl (by decide) _ _ _ rfl (hown2.alloc _) ⟨w2.heap.size, 0, none⟩ 1 1 [.int .u64 u] rfl rfl (cells_new _ _ _) (by simp [Value.oneCell']) (by unfold maxLen; omega) (by omega) (by simp; omega) ?_; intro v' w3 hown' hgrow hnil hloc))
      have hg3 : w2.grownBy w3 u5.ownBlock := (World.grownBy_alloc w2 _ _).trans hgrow
      have hbe : ∀ b, u5.ownBlock = some b → B ≤ b := own_block_ge hown
      have hh : Below B wr w3 := below_grownQ (hb2.mono hBr) hg3 hbe (by omega)
      have HN : Hid (∀ (k : Nat) x, l[k]? = some x → w3.cell? ⟨w.heap.size, k, none⟩ = some (.string x)) := Lib.hid fun k x hx => (hh.cell (p := ⟨w.heap.size, k, none⟩) (by show w.heap.size < B; omega)).trans (HC.out k x hx)
      exact ⟨⟨k + 1, out ++ [u], by go_num, by omega, Lib.hid hfx, HN, by rw [List.length_append, List.map_append]; exact hown', by simp; omega, hbr.trans hh⟩, by simp [intOf]; omega⟩
    | true =>
     by_cases hk1 : k + 1 = l.length
     ·have hk1i : ((k : Int) == (l.length : Int) - 1) = true := by rw [beq_iff_eq]; omega
      have hd : dotIn x = false := by
       cases hdd : dotIn x
       ·rfl
       ·exact absurd ⟨rfl, hk1, hdd⟩ hcond
      rw [hd] at HD
      cases hp : partF x 16 4 65535 with
      | none =>
       rw [hp] at hfx HP
       have hfx : someL _ l.length l 0 [] = none := hfx
       go_wp2_with (first | (go_at_call 63; refine (HD.out _).mono ?_; rintro e w2 ⟨rfl, hw2⟩; have hw2 := hw2.symm; subst hw2) | (go_at_call 84; refine (HP.out _ hbw).mono ?_; rintro e w2 ⟨he, hb2⟩; have he : e = .panicked [badE] := he; subst he))
       exact ⟨rfl, by rw [hfx]; rfl, hbw.trans (hb2.mono hbw.size)⟩
      | some u =>
       rw [hp] at hfx HP
       simp only at hfx
       go_wp2_with (first | (go_at_call 63; refine (HD.out _).mono ?_; rintro e w2 ⟨rfl, hw2⟩; have hw2 := hw2.symm; subst hw2) | (go_at_call 84; refine (HP.out _ hbw).mono ?_; rintro e w2 ⟨he, hb2⟩; have he : e = .returned (.int .u64 u) := he; subst he; have hown2 := hown.kept (below_grown' hb2) (Classical.em _); have hs2 := hb2.size) | (at_builtin; refine wpList_append_own_at _ rfl _ _ 107 rfl B 22 i0 (.int .u64 0) 1 8 Tryz.underlying107 hi hz0 hz1 hz2 rfl (by decide) _ _ _ rfl (hown2.alloc _) ⟨w2.heap.size, 0, none⟩ 1 1 [.int .u64 u] rfl rfl (cells_new _ _ _) (by simp [Value.oneCell']) (by unfold maxLen; omega) (by omega) (by simp; omega) ?_; intro v' w3 hown' hgrow hnil hloc))
       have hg3 : w2.grownBy w3 u5.ownBlock := (World.grownBy_alloc w2 _ _).trans hgrow
       have hbe : ∀ b, u5.ownBlock = some b → B ≤ b := own_block_ge hown
       have hh : Below B wr w3 := below_grownQ (hb2.mono hBr) hg3 hbe (by omega)
       have HN : Hid (∀ (k : Nat) x, l[k]? = some x → w3.cell? ⟨w.heap.size, k, none⟩ = some (.string x)) := Lib.hid fun k x hx => (hh.cell (p := ⟨w.heap.size, k, none⟩) (by show w.heap.size < B; omega)).trans (HC.out k x hx)
       exact ⟨⟨k + 1, out ++ [u], by go_num, by omega, Lib.hid hfx, HN, by rw [List.length_append, List.map_append]; exact hown', by simp; omega, hbr.trans hh⟩, by simp [intOf]; omega⟩
     ·have hk1i : ((k : Int) == (l.length : Int) - 1) = false := by rw [beq_eq_false_iff_ne]; omega
      cases hp : partF x 16 4 65535 with
      | none =>
       rw [hp] at hfx HP
       have hfx : someL _ l.length l 0 [] = none := hfx
       go_wp2_with (first | (go_at_call 63; refine (HD.out _).mono ?_; rintro e w2 ⟨rfl, hw2⟩; have hw2 := hw2.symm; subst hw2) | (go_at_call 84; refine (HP.out _ hbw).mono ?_; rintro e w2 ⟨he, hb2⟩; have he : e = .panicked [badE] := he; subst he))
       exact ⟨rfl, by rw [hfx]; rfl, hbw.trans (hb2.mono hbw.size)⟩
      | some u =>
       rw [hp] at hfx HP
       simp only at hfx
       go_wp2_with (first | (go_at_call 63; refine (HD.out _).mono ?_; rintro e w2 ⟨rfl, hw2⟩; have hw2 := hw2.symm; subst hw2) | (go_at_call 84; refine (HP.out _ hbw).mono ?_; rintro e w2 ⟨he, hb2⟩; have he : e = .returned (.int .u64 u) := he; subst he; have hown2 := hown.kept (below_grown' hb2) (Classical.em _); have hs2 := hb2.size) | (at_builtin; refine wpList_append_own_at _ rfl _ _ 107 rfl B 22 i0 (.int .u64 0) 1 8 Tryz.underlying107 hi hz0 hz1 hz2 rfl (by decide) _ _ _ rfl (hown2.alloc _) ⟨w2.heap.size, 0, none⟩ 1 1 [.int .u64 u] rfl rfl (cells_new _ _ _) (by simp [Value.oneCell']) (by unfold maxLen; omega) (by omega) (by simp; omega) ?_; intro v' w3 hown' hgrow hnil hloc))
       have hg3 : w2.grownBy w3 u5.ownBlock := (World.grownBy_alloc w2 _ _).trans hgrow
       have hbe : ∀ b, u5.ownBlock = some b → B ≤ b := own_block_ge hown
       have hh : Below B wr w3 := below_grownQ (hb2.mono hBr) hg3 hbe (by omega)
       have HN : Hid (∀ (k : Nat) x, l[k]? = some x → w3.cell? ⟨w.heap.size, k, none⟩ = some (.string x)) := Lib.hid fun k x hx => (hh.cell (p := ⟨w.heap.size, k, none⟩) (by show w.heap.size < B; omega)).trans (HC.out k x hx)
       exact ⟨⟨k + 1, out ++ [u], by go_num, by omega, Lib.hid hfx, HN, by rw [List.length_append, List.map_append]; exact hown', by simp; omega, hbr.trans hh⟩, by simp [intOf]; omega⟩
  ·have hkn : k = l.length := by omega
   subst hkn
   have hfx : someL last l.length l 0 [] = some out := by rw [HF.out, List.drop_length]; rfl
   go_wp2
   go_ret
   refine ⟨?_, hbw⟩
   rw [hfx]
   exact ⟨_, rfl, hown.mono (by omega)⟩
end Go.Proofs.YthoipikkaelohaaGreatDoor
namespace Go.Proofs.YthoipikkaelohaaGreatDoor
open Go Go.Ma Go.RowKit Go.Proofs
theorem append_zeros_own {P : Program} (w : World) (base : Nat) (t tn ty e : TypeId) (i : TypeInfo) (z : Value) (bytes : Nat) (kn : IntKind) (ht : P.underlying t = some (.slice e)) (htn : P.underlying tn = some (.int kn)) (hi : P.info? e = some i) (hz : i.zero = some z)
  (hsize : i.size = 1) (hby : i.bytes = bytes) (hzs : z.cells.size = 1) (v : Value) (n : Nat) (xs : List Value) (hown : w.ownsRow base e 1 v n xs) (k : Nat) (h0 : 0 < k)
  (h63 : n + k ≤ maxLen) (hbytes : (n + k) * bytes ≤ 140737488355328) (hbase : base ≤ w.heap.size) (h1 : ∀ u ∈ (Builtin.zeroCells z.cells k).toList, u.oneCell' = true) :
  ∃ v' w', (Builtin.append_ #[t, tn] ty #[v, .int .i64 (k : Int)]).run P w = .ok v' w' ∧ w'.ownsRow base e 1 v' (n + k) (xs ++ (Builtin.zeroCells z.cells k).toList) ∧ w.grownBy w' v.ownBlock := by
 subst hby
 have hsmall : n + k ≤ 9223372036854775807 := by simp only [maxLen] at h63; omega
 have hzl : (Builtin.zeroCells z.cells k).toList.length = k := by rw [Array.length_toList, size_zeroCells, hzs, Nat.mul_one]
 have hlen : (xs ++ (Builtin.zeroCells z.cells k).toList).length = (n + k) * 1 := by rw [List.length_append, hown.1, hzl]; omega
 have grown : ∀ (old : Nat), old < n + k → ∀ (row : Option Nat),
   (w.drew.alloc (.cells (xs.toArray ++ Builtin.zeroCells z.cells k ++ Builtin.zeroCells z.cells (grownCap w (n + k) old e - (n + k))) e)).ownsRow base e 1
    (.slice (some ⟨w.heap.size, 0, none⟩) (n + k) (grownCap w (n + k) old e)) (n + k) (xs ++ (Builtin.zeroCells z.cells k).toList) ∧
   w.grownBy (w.drew.alloc (.cells (xs.toArray ++ Builtin.zeroCells z.cells k ++ Builtin.zeroCells z.cells (grownCap w (n + k) old e - (n + k))) e)) row := by
  intro old ho row
  have hge := grownCap_ge w (n + k) old e
  have hcm : grownCap w (n + k) old e ≤ maxLen := grownCap_le_maxLen w (n + k) old e h63
  refine ⟨⟨hlen, .inr ⟨w.heap.size, _, _, rfl, hbase, heap_alloc_new w.drew _, hge, hcm, ?_, ?_⟩⟩, ⟨rfl, rfl, rfl, by simp, fun j hj _ => (by first | exact heap_alloc_old w.drew _ j hj | exact heap_alloc_old w.drew _ hj)⟩⟩
  ·have := hown.1
   simp only [Array.size_append, List.size_toArray, size_zeroCells, hzs]
   omega
  ·simp only [Array.toList_append]
   rw [← hlen]
   exact List.take_left
 rcases hown.2 with ⟨rfl, rfl⟩ | ⟨g, cap, cur, rfl, hbg, hg, hnc, hcm, hcs, htake⟩
 ·have hx : xs = [] := List.eq_nil_of_length_eq_zero (by simpa using hown.1)
  subst hx
  have hr := Lib.run_append_nil_zeros (P := P) w t tn ty e i z .i64 kn ht htn hi hz k h0 (by omega) (by omega) (by simp only [Nat.zero_add] at hbytes; omega)
  have hgr := grown 0 (by omega) (Value.ownBlock (.slice none 0 0))
  simp only [Nat.zero_add, List.nil_append, Array.empty_append] at hgr ⊢
  exact ⟨_, _, hr, hgr.1, hgr.2⟩
 ·by_cases hroom : n + k ≤ cap
  ·have hfit : n + k ≤ cur.size := by rw [hcs]; omega
   have hst := run_storeCells_at P g n e (Builtin.zeroCells z.cells k).toList 0 cur w hg (by rw [hzl]; omega) h1
   simp only [Nat.add_zero] at hst
   have hk0 : k ≠ 0 := by omega
   have hw : IntKind.i64.wrap (k : Int) = k := by rw [IntKind.wrap_i64]; omega
   have hneg : ¬ ((k : Int) < 0) := by omega
   have h48i : ¬ (281474976710656 < (k : Int) * (i.bytes : Int)) := by
    rw [← Int.natCast_mul]
    have : k * i.bytes ≤ (n + k) * i.bytes := Nat.mul_le_mul_right _ (by omega)
    omega
   have hr : (Builtin.append_ #[t, tn] ty #[.slice (some ⟨g, 0, none⟩) n cap, .int .i64 (k : Int)]).run P w = .ok (.slice (some ⟨g, 0, none⟩) (n + k) cap) (w.setRow g (cur.toList.take n ++ (Builtin.zeroCells z.cells k).toList ++ cur.toList.drop (n + (Builtin.zeroCells z.cells k).toList.length)).toArray) := by
    simp [Builtin.append_, run_underlying ht, run_underlying htn, sizeOf, typeInfo, zeroValue, hi, hz, hsize, asInt, asIntOf, hw, hroom, hneg, hk0, h48i, Addr.add_lit, hst]
   refine ⟨_, _, hr, ⟨hlen, .inr ⟨g, cap, _, rfl, hbg, setRow_heap w g cur _ e _ hg, hroom, hcm, ?_, ?_⟩⟩, ⟨rfl, rfl, rfl, by simp, fun k _ hk => setRow_other w g k _ (fun e => hk (by simp [Value.ownBlock, e]))⟩⟩
   ·simp only [List.size_toArray, List.length_append, List.length_take, List.length_drop, Array.length_toList, hzl, size_zeroCells, hzs]
    omega
   ·have ht2 : cur.toList.take n = xs := by rw [← htake, Nat.mul_one]
    rw [ht2, ← hlen]
    exact List.take_left
  ·have holds : ∀ j u, xs[j]? = some u → w.cell? ((⟨g, 0, none⟩ : Addr).add j) = some u := hown.cells (g := g) rfl
   have hold : (Builtin.firstCells i.size n (.slice (some ⟨g, 0, none⟩) n cap)).run P w.drew = .ok xs.toArray w.drew := by
    have := run_firstCells_some (P := P) w.drew i.size n ⟨g, 0, none⟩ n cap xs (by rw [hsize]; exact hown.1) (fun j u hj => holds j u hj)
    exact this
   have hr := Lib.run_append_grow_zeros (P := P) w t tn ty e i z .i64 kn ht htn hi hz (some ⟨g, 0, none⟩) n cap xs hold k h0 (by omega) (by omega) (by omega) (by
     have : k * i.bytes ≤ (n + k) * i.bytes := Nat.mul_le_mul_right _ (by omega)
     omega) (growslice_fits (by omega) hbytes)
   have hgr := grown cap (by omega) (Value.ownBlock (.slice (some ⟨g, 0, none⟩) n cap))
   exact ⟨_, _, hr, hgr.1, hgr.2⟩
theorem row_form {w : World} {base : Nat} {e : TypeId} {v : Value} {l : List Int} (h : w.ownsRow base e 1 v l.length (l.map (Value.int .u64))) (h0 : 0 < l.length) :
  ∃ g cap, v = .slice (some ⟨g, 0, none⟩) l.length cap ∧ base ≤ g ∧ g < w.heap.size ∧ Hid (∀ (j : Nat) x, l[j]? = some x → w.cell? ⟨g, j, none⟩ = some (.int .u64 x)) := by
 have hc := @World.ownsRow.cells w base e 1 v l.length (l.map (Value.int .u64)) h
 obtain ⟨_, ⟨_, hn⟩ | ⟨g, cap, cur, rfl, hg, hh, _⟩⟩ := h
 ·omega
 ·refine ⟨g, cap, rfl, hg, (Array.getElem?_eq_some_iff.1 hh).1, Lib.hid fun j x hx => ?_⟩
  have := hc (g := g) rfl j (.int .u64 x) (by simp [hx])
  rwa [Addr.add_lit, Nat.zero_add] at this
theorem own_slice {w : World} {base : Nat} {e : TypeId} {v : Value} {n : Nat} {xs : List Value} (h : w.ownsRow base e 1 v n xs) :
  ∃ A c, v = .slice A n c ∧ (A = none → n = 0) ∧ ∀ ad, A = some ad → base ≤ ad.block ∧ ad.block < w.heap.size ∧ ∀ j u, xs[j]? = some u → w.cell? (ad.add j) = some u := by
 have hc := fun g => @World.ownsRow.cells w base e 1 v n xs h g
 obtain ⟨_, ⟨rfl, hn⟩ | ⟨g, cap, cur, rfl, hg, hh, _⟩⟩ := h
 ·exact ⟨none, 0, (by rw [hn]), (fun _ => hn), fun ad had => (by cases had)⟩
 ·refine ⟨_, cap, rfl, (fun h => by cases h), fun ad had => ?_⟩
  cases had
  exact ⟨hg, (Array.getElem?_eq_some_iff.1 hh).1, fun j u hj => hc g rfl j u hj⟩
theorem own_block {A : Option Addr} {n c b : Nat} (h : (Value.slice A n c).ownBlock = some b) : ∃ ad, A = some ad ∧ ad.block = b := by
 cases A with
 | none => cases h
 | some ad => exact ⟨ad, rfl, by injection h⟩
theorem zero_list (k : Nat) : (Builtin.zeroCells (Value.int IntKind.u64 0).cells k).toList = (List.replicate k (0 : Int)).map (Value.int .u64) := by
 apply List.ext_getElem?
 intro i
 by_cases h : i < k
 ·simp [Builtin.zeroCells, Value.cells, List.getElem?_replicate, h, Nat.mod_one]
 ·simp [Builtin.zeroCells, Value.cells, List.getElem?_replicate, h]
theorem zero_one (k : Nat) : ∀ u ∈ (Builtin.zeroCells (Value.int IntKind.u64 0).cells k).toList, u.oneCell' = true := by
 rw [zero_list]
 simp [Value.oneCell']
theorem below_own {N : Nat} {a w w1 : World} {row : Option Nat} (h : Below N a w) (hg : w.grownBy w1 row) (hr : ∀ b, row = some b → N ≤ b) (hN : N ≤ w.heap.size) : Below N a w1 :=
 h.trans ⟨hg.os, hg.tape, hg.output, hg.size, fun k hk => hg.block k (by omega) (fun e => by have := hr k e.symm; omega)⟩
theorem add_blockQ (a : Addr) (n : Nat) : (a.add n).block = a.block := by unfold Addr.add; split <;> rfl
theorem two_appends {P : Program} (w : World) (N base1 K : Nat) (t tn e : TypeId) (i : TypeInfo) (ht : P.underlying t = some (.slice e)) (htn : P.underlying tn = some (.int .i64)) (hi : P.info? e = some i)
  (hz0 : i.zero = some (.int .u64 0)) (hz1 : i.size = 1) (hz2 : i.bytes = 8) (A1 : Option Addr) (c1 : Nat) (l : List Int) (hown : w.ownsRow base1 e 1 (.slice A1 l.length c1) l.length (l.map (Value.int .u64)))
  (A2 : Option Addr) (c2 : Nat) (m : List Int) (hA2 : A2 = none → m.length = 0) (hA1 : ∀ ad, A1 = some ad → base1 ≤ ad.block ∧ ad.block < K) (hm : ∀ ad, A2 = some ad → K ≤ ad.block ∧ ad.block < w.heap.size ∧ ∀ (j : Nat) u, (m.map (Value.int .u64))[j]? = some u → w.cell? (ad.add j) = some u)
  (hbase : base1 ≤ w.heap.size) (hN : N ≤ base1) (kz : Nat) (hk : 0 < kz) (h8 : l.length + kz + m.length = 8) :
  ∃ A4 c4 w4 g c5 w5, (Builtin.append_ #[t, tn] t #[.slice A1 l.length c1, .int .i64 (kz : Int)]).run P w = .ok (.slice A4 (l.length + kz) c4) w4 ∧
   (Builtin.append_ #[t, t] t #[.slice A4 (l.length + kz) c4, .slice A2 m.length c2]).run P w4 = .ok (.slice (some ⟨g, 0, none⟩) 8 c5) w5 ∧
   Hid (∀ (j : Nat) x, (l ++ List.replicate kz 0 ++ m)[j]? = some x → w5.cell? ⟨g, j, none⟩ = some (.int .u64 x)) ∧ N ≤ g ∧ g < w5.heap.size ∧ (∀ a, Below N a w → Below N a w5) := by
 have own1 : ∀ b, (Value.slice A1 l.length c1).ownBlock = some b → base1 ≤ b := by
  intro b hb
  obtain ⟨ad, h1, h2⟩ := own_block hb
  have := hA1 ad h1
  omega
 obtain ⟨v4, w4, hr4, hown4, hg4⟩ := append_zeros_own (P := P) w base1 t tn t e i (.int .u64 0) 8 .i64 ht htn hi hz0 hz1 hz2 rfl _ _ _ hown kz hk (by unfold maxLen; omega) (by omega) hbase (zero_one kz)
 rw [zero_list, ← List.map_append] at hown4
 have hb4 : ∀ a, Below N a w → Below N a w4 := fun a ha => below_own ha hg4 (fun b hb => Nat.le_trans hN (own1 b hb)) (by omega)
 obtain ⟨A4, c4, rfl, hA4, hc4⟩ := own_slice hown4
 have own4 : ∀ b, (Value.slice A4 (l.length + kz) c4).ownBlock = some b → base1 ≤ b := by
  intro b hb
  obtain ⟨ad, h1, h2⟩ := own_block hb
  have := (hc4 ad h1).1
  omega
 have hm4 : ∀ ad, A2 = some ad → ∀ (j : Nat) u, (m.map (Value.int .u64))[j]? = some u → w4.cell? (ad.add j) = some u := by
  intro ad had j u hu
  obtain ⟨h1, h2, h3⟩ := hm ad had
  rw [World.cell?_of_block (a := ad.add j) (w := w) (hg4.block (ad.add j).block (by rw [add_blockQ]; exact h2) (fun e => by obtain ⟨a1, h4, h5⟩ := own_block e.symm; have := (hA1 a1 h4).2; rw [add_blockQ] at h5; omega))]
  exact h3 j u hu
 obtain ⟨v5, w5, hr5, hown5, hg5, _⟩ := append_own (P := P) w4 base1 t t e i (.int .u64 0) ht hi hz0 (by rw [hz1]; rfl) (by omega) _ _ _ (by rw [hz1]; exact hown4) A2 m.length c2 (m.map (Value.int .u64)) (by rw [hz1, List.length_map, Nat.mul_one]) hA2 hm4 (by simp [Value.oneCell']) (by unfold maxLen; omega) (by rw [hz2]; omega) (by have := hg4.size; omega)
 rw [hz1, ← List.map_append] at hown5
 have hL : (l ++ List.replicate kz 0 ++ m).length = 8 := by simp only [List.length_append, List.length_replicate]; omega
 rw [show l.length + kz + m.length = (l ++ List.replicate kz 0 ++ m).length by rw [hL, h8]] at hown5
 obtain ⟨g, c5, rfl, hgb, hgl, HR⟩ := row_form hown5 (by omega)
 rw [hL] at hr5
 exact ⟨A4, c4, w4, g, c5, w5, hr4, hr5, HR, by omega, hgl, fun a ha => below_own (hb4 a ha) hg5 (fun b hb => Nat.le_trans hN (own4 b hb)) (by have := hg4.size; omega)⟩
end Go.Proofs.YthoipikkaelohaaGreatDoor
namespace Go.Proofs.YthoipikkaelohaaGreatDoor
open Go Go.Ma Go.RowKit Go.Proofs
theorem gMaxLen : Tryz.prog.globalNamed "internal/bytealg.MaxLen" = some 0 := by kernel_rfl
theorem cut_calls (s : ByteArray) (hs : s.size ≤ 4294967200) (w : World) (hG : Glob Tryz.prog w) :
  Calls Tryz.prog 21 #[.string s, .string ⟨#[58, 58]⟩] w fun e w' => e = .returned (.tuple #[.string (cut1 s), .string (cut2 s), .bool (cut3 s)]) ∧ Below w.heap.size w w' := by
 obtain ⟨m, hm⟩ := hG.num _ gMaxLen
 refine (Go.Proofs.Tryz.strings_Cut s ⟨#[58, 58]⟩ m w (by omega) hm).mono ?_
 rintro e w' ⟨rfl, n, rfl⟩
 exact ⟨rfl, below_drewN w n⟩
theorem cut_sizes (s : ByteArray) : (cut1 s).size ≤ s.size ∧ (cut2 s).size ≤ s.size := by
 have h1 : (cut1 s).size = (Lib.cut s.data.toList [58, 58]).1.length := rfl
 have h2 : (cut2 s).size = (Lib.cut s.data.toList [58, 58]).2.1.length := rfl
 have h3 : s.data.toList.length = s.size := Array.length_toList
 rw [h1, h2]
 unfold Lib.cut
 generalize Lib.index s.data.toList [58, 58] = ix
 by_cases h : 0 ≤ ix
 ·rw [if_pos h]
  simp only [List.length_take, List.length_drop]; omega
 ·rw [if_neg h]
  simp only [List.length_nil]; omega
theorem heap_below {A C : World} (hb : Below A.heap.size A C) {b : Nat} {o : Go.Obj} (h : A.heap[b]? = some o) : C.heap[b]? = some o := (hb.block b (Array.getElem?_eq_some_iff.1 h).1).trans h
theorem three_cells {w : World} {N : Nat} {a b c : Value} {t : TypeId} (this : w.heap[N]? = some (Go.Obj.cells #[a, b, c] t (0, 0))) :
  w.cell? ⟨N, 0, none⟩ = some a ∧ w.cell? ⟨N, 1, none⟩ = some b ∧ w.cell? ⟨N, 2, none⟩ = some c ∧ w.frozen? ⟨N, 0, none⟩ = false ∧ w.frozen? ⟨N, 1, none⟩ = false ∧ w.frozen? ⟨N, 2, none⟩ = false := by
 refine ⟨?_, ?_, ?_, ?_, ?_, ?_⟩ <;> simp [World.cell?, World.frozen?, this]
theorem set3 {w : World} {N : Nat} {x y z a b c : Value} {t : TypeId} (h : w.heap[N]? = some (Go.Obj.cells #[x, y, z] t (0, 0))) :
  (((w.setCell ⟨N, 0, none⟩ a).setCell ⟨N, 1, none⟩ b).setCell ⟨N, 2, none⟩ c).heap[N]? = some (Go.Obj.cells #[a, b, c] t (0, 0)) ∧
  (∀ k, k ≠ N → (((w.setCell ⟨N, 0, none⟩ a).setCell ⟨N, 1, none⟩ b).setCell ⟨N, 2, none⟩ c).heap[k]? = w.heap[k]?) ∧
  Below N w (((w.setCell ⟨N, 0, none⟩ a).setCell ⟨N, 1, none⟩ b).setCell ⟨N, 2, none⟩ c) := by
 obtain ⟨h1, h2, _⟩ := setCells_spec w N 0 [a, b, c] #[x, y, z] t (0, 0) h
 refine ⟨h1, h2, ?_⟩
 exact (((Below.refl N w).setCell (p := ⟨N, 0, none⟩) (Nat.le_refl _) _).setCell (p := ⟨N, 1, none⟩) (Nat.le_refl _) _).setCell (p := ⟨N, 2, none⟩) (Nat.le_refl _) _
theorem packI_snoc (x : Int) : ∀ (l : List Int) (a : Int), packI (l ++ [x]) a = aop .or .u64 (aop .shl .u64 (packI l a) 16) x
 | [], _ => rfl
 | y :: r, a => packI_snoc x r _
theorem packI_take {l : List Int} {k : Nat} {x : Int} (hx : l[k]? = some x) (a : Int) : packI (l.take (k + 1)) a = aop .or .u64 (aop .shl .u64 (packI (l.take k) a) 16) x := by
 rw [List.take_add_one, hx]
 exact packI_snoc x _ a
theorem someL_len (last : Bool) (len : Nat) : ∀ (l : List ByteArray) (i : Nat) (out r : List Int), someL last len l i out = some r → r.length ≤ out.length + 2 * l.length
 | [], _, out, r, h => by injection h with h; rw [h]; simp
 | x :: l, i, out, r, h => by
  rw [someL] at h
  split at h
  ·split at h
   ·cases h
   ·have := someL_len last len l _ _ r h
    simp only [List.length_append, List.length_cons, List.length_nil] at this ⊢
    omega
  ·split at h
   ·cases h
   ·have := someL_len last len l _ _ r h
    simp only [List.length_append, List.length_cons, List.length_nil] at this ⊢
    omega
theorem someF_len {s : ByteArray} {last : Bool} {r : List Int} (h : someF s last = some r) : r.length ≤ 2 * (s.size + 1) := by
 unfold someF at h
 split at h
 ·injection h with h; rw [← h]; simp
 ·have h1 := someL_len _ _ _ _ _ _ h
  have h2 := splitOn_le s 58
  simp only [List.length_nil] at h1
  omega
theorem put_one {w wr : World} {N i : Nat} {a b c v : Value} {t : TypeId} (hn : wr.heap[N]? = some (Go.Obj.cells #[a, b, c] t (0, 0))) (hb : Below w.heap.size w wr) (hN : w.heap.size < N) :
  (wr.setCell ⟨N, i, none⟩ v).drew.heap[N]? = some (Go.Obj.cells (#[a, b, c].setIfInBounds i v) t (0, 0)) ∧ (∀ k, k ≠ N → (wr.setCell ⟨N, i, none⟩ v).drew.heap[k]? = wr.heap[k]?) ∧ Below w.heap.size w (wr.setCell ⟨N, i, none⟩ v).drew := by
 have h := hb.setCell (p := ⟨N, i, none⟩) (show w.heap.size ≤ N by omega) v
 exact ⟨setCell_heap wr N i v _ t (0, 0) hn, fun k hk => Below.heap_setCell wr ⟨N, i, none⟩ v k hk, ⟨h.os, h.tape, h.output, h.size, h.block⟩⟩
theorem cells_other {w w' : World} {g N : Nat} {L : List Int} (hg : g ≠ N) (h : ∀ k, k ≠ N → w'.heap[k]? = w.heap[k]?) (hc : ∀ (j : Nat) x, L[j]? = some x → w.cell? ⟨g, j, none⟩ = some (.int .u64 x)) : ∀ (j : Nat) x, L[j]? = some x → w'.cell? ⟨g, j, none⟩ = some (.int .u64 x) :=
 fun j x hx => (World.cell?_of_block (a := ⟨g, j, none⟩) (h g hg)).trans (hc j x hx)
def EndA (o : Option Ad) (e : Ending) : Prop := match o with
 | some a => e = .returned (.agg #[.bool a.v6, .int .u64 a.hi, .int .u64 a.lo])
 | none => e = .panicked [badE]
theorem endA_none {o : Option Ad} (h : o = none) : EndA o (.panicked [badE]) := by rw [h]; rfl
set_option maxRecDepth 100000 in
set_option maxHeartbeats 8000000 in
theorem sixteen_walk (s : ByteArray) (hs : s.size ≤ 4294967200) (w : World) (hG : Glob Tryz.prog w) :
  Calls Tryz.prog 64 #[.string s] w fun e w' => EndA (sixteenF s) e ∧ Below w.heap.size w w' := by
 obtain ⟨i0, hi, hz0, hz1, hz2⟩ := info_parts infoU64
 obtain ⟨hs1, hs2⟩ := cut_sizes s
 have HC : Hid (∀ W, Below w.heap.size w W → Calls Tryz.prog 21 #[.string s, .string ⟨#[58, 58]⟩] W fun e w' => e = .returned (.tuple #[.string (cut1 s), .string (cut2 s), .bool (cut3 s)]) ∧ Below W.heap.size W w') := fun W hW => cut_calls s hs W (hG.mono hW)
 have H1 : Hid (∀ W, Below w.heap.size w W → Calls Tryz.prog 82 #[.string (cut1 s), .bool false] W fun e w' => EndRow W.heap.size (someF (cut1 s) false) e w' ∧ Below W.heap.size W w') := fun W hW => some_walk _ _ (by omega) W (hG.mono hW)
 have H2 : Hid (∀ W, Below w.heap.size w W → Calls Tryz.prog 82 #[.string (cut2 s), .bool true] W fun e w' => EndRow W.heap.size (someF (cut2 s) true) e w' ∧ Below W.heap.size W w') := fun W hW => some_walk _ _ (by omega) W (hG.mono hW)
 have H3 : Hid (∀ W, Below w.heap.size w W → Calls Tryz.prog 82 #[.string s, .bool true] W fun e w' => EndRow W.heap.size (someF s true) e w' ∧ Below W.heap.size W w') := fun W hW => some_walk _ _ (by omega) W (hG.mono hW)
 have hsx : sixteenF s = if cut3 s = true then (match someF (cut1 s) false with
  | none => none
  | some l => match someF (cut2 s) true with
   | none => none
   | some m => if 7 < l.length + m.length then none else some (packA (l ++ List.replicate (8 - l.length - m.length) 0 ++ m)))
 else match someF s true with
  | none => none
  | some l => if l.length = 8 then some (packA l) else none := rfl
 generalize sixteenF s = res at hsx ⊢
 generalize cut1 s = s1 at HC H1 hs1 hsx
 generalize cut2 s = s2 at HC H2 hs2 hsx
 generalize cut3 s = ok at HC hsx
 have hba : Below w.heap.size w (w.alloc (.cells #[.bool false, .int .u64 0, .int .u64 0] 24)) := (Below.refl _ w).alloc (Nat.le_refl _) _
 have hn0 := heap_alloc_new w (.cells #[.bool false, .int .u64 0, .int .u64 0] 24)
 go_enter Tryz.func64, Tryz.ntmps64
 cases ok with
 | false =>
  rw [if_neg (by decide)] at hsx
  cases hp : someF s true with
  | none =>
   rw [hp] at hsx H3
   go_wp2_with (first | (go_at_call 21; refine (HC.out _ hba).mono ?_; rintro e w1 ⟨rfl, hb1⟩) | (go_at_call 82; refine (H3.out _ (hba.trans (hb1.mono hba.size))).mono ?_; rintro e w2 ⟨he, hb2⟩; have he : e = .panicked [badE] := he; subst he))
   exact ⟨rfl, endA_none hsx, hba.trans ((hb1.mono hba.size).trans (hb2.mono (Nat.le_trans hba.size hb1.size)))⟩
  | some l =>
   rw [hp] at hsx H3
   simp only at hsx
   by_cases h8 : l.length = 8
   rotate_left
   ·rw [if_neg h8] at hsx
    have h8i : ((l.length : Int) != 8) = true := by rw [bne_iff_ne]; omega
    go_wp2_with (first | (go_at_call 21; refine (HC.out _ hba).mono ?_; rintro e w1 ⟨rfl, hb1⟩) | (go_at_call 82; refine (H3.out _ (hba.trans (hb1.mono hba.size))).mono ?_; rintro e w2 ⟨⟨v, rfl, hown⟩, hb2⟩; obtain ⟨A, cap, rfl⟩ : ∃ A cap, v = .slice A l.length cap := by obtain ⟨_, ⟨h, h0⟩ | ⟨g, cap, cur, h, _⟩⟩ := hown; exact ⟨none, 0, by rw [h, h0]⟩; exact ⟨_, _, h⟩))
    exact ⟨rfl, endA_none hsx, hba.trans ((hb1.mono hba.size).trans (hb2.mono (Nat.le_trans hba.size hb1.size)))⟩
   rw [if_pos h8] at hsx
   have h8i : ((l.length : Int) != 8) = false := by rw [h8]; rfl
   go_wp2_with (first | (go_at_call 21; refine (HC.out _ hba).mono ?_; rintro e w1 ⟨rfl, hb1⟩) | (go_at_call 82; refine (H3.out _ (hba.trans (hb1.mono hba.size))).mono ?_; rintro e w2 ⟨⟨v, rfl, hown⟩, hb2⟩; obtain ⟨g, cap, rfl, hgw, hgl, HR⟩ := row_form hown (by omega)))
   have hbw : Below w.heap.size w w2 := hba.trans ((hb1.mono hba.size).trans (hb2.mono (Nat.le_trans hba.size hb1.size)))
   have hnw : w2.heap[w.heap.size]? = some (Go.Obj.cells #[.bool false, .int .u64 0, .int .u64 0] 24 (0, 0)) := heap_below hb2 (heap_below hb1 hn0)
   obtain ⟨L, hL⟩ : ∃ L, L = l := ⟨_, rfl⟩
   rw [← hL] at HR h8 hsx
   have hgne : g ≠ w.heap.size := by
    have := hb1.size
    have h2 : (w.alloc (.cells #[.bool false, .int .u64 0, .int .u64 0] 24)).heap.size = w.heap.size + 1 := by simp
    omega
   clear hown hb1 hb2 hba hn0 hL hgw HC H1 H2 H3 hp
   have hN0 := heap_alloc_new w2 (.cells #[.bool true, .int .u64 0, .int .u64 0] 24)
   have hbN : Below w.heap.size w (w2.alloc (.cells #[.bool true, .int .u64 0, .int .u64 0] 24)) := hbw.alloc hbw.size _
   have hnN : (w2.alloc (.cells #[.bool true, .int .u64 0, .int .u64 0] 24)).heap[w.heap.size]? = some (Go.Obj.cells #[.bool false, .int .u64 0, .int .u64 0] 24 (0, 0)) := (Below.heap_alloc _ _ _ (Array.getElem?_eq_some_iff.1 hnw).1).trans hnw
   have HRN : Hid (∀ (j : Nat) x, L[j]? = some x → (w2.alloc (.cells #[.bool true, .int .u64 0, .int .u64 0] 24)).cell? ⟨g, j, none⟩ = some (.int .u64 x)) := Lib.hid fun j x hx => cell_stays ((Below.refl w2.heap.size w2).alloc (Nat.le_refl _) _) (HR.out j x hx)
   obtain ⟨N, hN⟩ : ∃ N, N = w2.heap.size := ⟨_, rfl⟩
   have hgN : g < N := by rw [hN]; exact hgl
   have hwN : w.heap.size < N := by rw [hN]; exact (Array.getElem?_eq_some_iff.1 hnw).1
   rw [← hN] at hN0 ⊢
   generalize w2.alloc (.cells #[.bool true, .int .u64 0, .int .u64 0] 24) = wN at hN0 hbN hnN HRN ⊢
   clear HR hnw hbw hgl hN
   go_loopw [47] (fun vi wr => ∃ (k : Nat) (h l : Int), vi = .int .i64 k ∧ k ≤ 4 ∧ Hid (h = packI (L.take k) 0 ∧ l = packI ((L.drop 4).take k) 0) ∧ wr.heap[N]? = some (Go.Obj.cells #[.bool true, .int .u64 h, .int .u64 l] 24 (0, 0)) ∧ Hid (∀ (j : Nat) x, L[j]? = some x → wr.cell? ⟨g, j, none⟩ = some (.int .u64 x)) ∧ wr.heap[w.heap.size]? = some (Go.Obj.cells #[.bool false, .int .u64 0, .int .u64 0] 24 (0, 0)) ∧ Below w.heap.size w wr) (fun vi _ => 4 - (intOf vi).toNat)
   case atStart => exact ⟨0, 0, 0, rfl, by omega, Lib.hid ⟨rfl, rfl⟩, hN0, HRN, hnN, hbN⟩
   case round =>
    clear hN0 HRN hnN hbN
    obtain ⟨k, h, l, rfl, hk, HP, hN0, HR, hnw, hbw⟩ := hrel
    obtain ⟨m0, m1, m2, m3, m4, m5⟩ := three_cells hN0
    by_cases hlt : k < 4
    ·obtain ⟨x, hx⟩ : ∃ x, L[k]? = some x := ⟨_, List.getElem?_eq_getElem (by omega)⟩
     obtain ⟨y, hy⟩ : ∃ y, L[4 + k]? = some y := ⟨_, List.getElem?_eq_getElem (by omega)⟩
     have c0 := HR.out k x hx
     have c1 := HR.out (4 + k) y hy
     have hltI : (k : Int) < 4 := by omega
     go_wp2
     go_region
     obtain ⟨q1, q2, q3⟩ := put_one (i := 1) (v := .int .u64 (bits .or .u64 (IntKind.u64.wrap (h * 65536)) x)) hN0 hbw hwN
     have HR1 := Lib.hid (cells_other (by omega : g ≠ N) q2 HR.out)
     have hnw1 := (q2 w.heap.size (by omega)).trans hnw
     obtain ⟨h1, hh1⟩ : ∃ h1, h1 = bits .or .u64 (IntKind.u64.wrap (h * 65536)) x := ⟨_, rfl⟩
     rw [← hh1] at q1 q2 q3 HR1 hnw1 ⊢
     generalize (wr.setCell ⟨N, 1, none⟩ (.int .u64 h1)).drew = wA at q1 q3 HR1 hnw1 ⊢
     clear q2 HR hnw hbw hN0 m0 m1 m2 m3 m4 m5 c0 c1
     have q1 : wA.heap[N]? = some (Go.Obj.cells #[.bool true, .int .u64 h1, .int .u64 l] 24 (0, 0)) := q1
     obtain ⟨m0, m1, m2, m3, m4, m5⟩ := three_cells q1
     have c1 := HR1.out (4 + k) y hy
     go_wp2
     go_region
     obtain ⟨r1, r2, r3⟩ := put_one (i := 2) (v := .int .u64 (bits .or .u64 (IntKind.u64.wrap (l * 65536)) y)) q1 q3 hwN
     have HR2 := Lib.hid (cells_other (by omega : g ≠ N) r2 HR1.out)
     have hnw2 := (r2 w.heap.size (by omega)).trans hnw1
     obtain ⟨l1, hl1⟩ : ∃ l1, l1 = bits .or .u64 (IntKind.u64.wrap (l * 65536)) y := ⟨_, rfl⟩
     rw [← hl1] at r1 r2 r3 HR2 hnw2 ⊢
     generalize (wA.setCell ⟨N, 2, none⟩ (.int .u64 l1)).drew = wB at r1 r3 HR2 hnw2 ⊢
     clear r2
     have r1 : wB.heap[N]? = some (Go.Obj.cells #[.bool true, .int .u64 h1, .int .u64 l1] 24 (0, 0)) := r1
     have HP2 : Hid (h1 = packI (L.take (k + 1)) 0 ∧ l1 = packI ((L.drop 4).take (k + 1)) 0) := Lib.hid ⟨by rw [packI_take hx, ← HP.out.1, hh1]; rfl, by rw [packI_take (by rw [List.getElem?_drop]; exact hy), ← HP.out.2, hl1]; rfl⟩
     go_wp2
     exact ⟨⟨k + 1, h1, l1, by go_num, by omega, HP2, r1, HR2, hnw2, r3⟩, by simp [intOf]; omega⟩
    ·have hk4 : k = 4 := by omega
     subst hk4
     obtain ⟨n0, n1, n2, n3, n4, n5⟩ := three_cells hnw
     go_wp2
     obtain ⟨s1, s2, s3⟩ := set3 (a := .bool true) (b := .int .u64 h) (c := .int .u64 l) hnw
     obtain ⟨p0, p1, p2, _⟩ := three_cells s1
     refine bodyPost_ret (v := .agg #[.bool true, .int .u64 h, .int .u64 l]) ?_ rfl ⟨?_, hbw.trans s3⟩
     ·simp [results, Tryz.f64, go_sem, p0, p1, p2]
     ·rw [hsx]
      obtain ⟨e1, e2⟩ := HP.out
      show Ending.returned _ = Ending.returned _
      rw [e1, e2]
      rfl
 | true =>
  rw [if_pos rfl] at hsx
  cases hp1 : someF s1 false with
  | none =>
   rw [hp1] at hsx H1
   go_wp2_with (first | (go_at_call 21; refine (HC.out _ hba).mono ?_; rintro e w1 ⟨rfl, hb1⟩; have hbA := hba.trans (hb1.mono hba.size)) | (go_at_call 82; refine (H1.out _ hbA).mono ?_; rintro e w2 ⟨he, hb2⟩; have he : e = .panicked [badE] := he; subst he))
   exact ⟨rfl, endA_none hsx, hbA.trans (hb2.mono hbA.size)⟩
  | some l =>
   have hl1 := someF_len hp1
   rw [hp1] at hsx H1
   simp only at hsx
   cases hp2 : someF s2 true with
   | none =>
    rw [hp2] at hsx H2
    go_wp2_with (first | (go_at_call 21; refine (HC.out _ hba).mono ?_; rintro e w1 ⟨rfl, hb1⟩; have hbA := hba.trans (hb1.mono hba.size)) | (go_at_call 82; refine (H1.out _ hbA).mono ?_; rintro e w2 ⟨⟨v, rfl, hown⟩, hb2⟩; obtain ⟨A1, c1, rfl, hA1, _⟩ := own_slice hown; have hbB := hbA.trans (hb2.mono hbA.size); clear H1) | (go_at_call 82; refine (H2.out _ hbB).mono ?_; rintro e w3 ⟨he, hb3⟩; have he : e = .panicked [badE] := he; subst he))
    exact ⟨rfl, endA_none hsx, hbB.trans (hb3.mono hbB.size)⟩
   | some m =>
    have hl2 := someF_len hp2
    rw [hp2] at hsx H2
    simp only at hsx
    by_cases h7 : 7 < l.length + m.length
    ·rw [if_pos h7] at hsx
     have h7i : decide (7 < (l.length : Int) + (m.length : Int)) = true := decide_eq_true (by omega)
     go_wp2_with (first | (go_at_call 21; refine (HC.out _ hba).mono ?_; rintro e w1 ⟨rfl, hb1⟩; have hbA := hba.trans (hb1.mono hba.size)) | (go_at_call 82; refine (H1.out _ hbA).mono ?_; rintro e w2 ⟨⟨v, rfl, hown⟩, hb2⟩; obtain ⟨A1, c1, rfl, hA1, _⟩ := own_slice hown; have hbB := hbA.trans (hb2.mono hbA.size); clear H1) | (go_at_call 82; refine (H2.out _ hbB).mono ?_; rintro e w3 ⟨⟨v, rfl, hownm⟩, hb3⟩; obtain ⟨A2, c2, rfl, hA2, hcm⟩ := own_slice hownm; have hbC := hbB.trans (hb3.mono hbB.size)))
     exact ⟨rfl, endA_none hsx, hbC⟩
    ·rw [if_neg h7] at hsx
     have h7i : decide (7 < (l.length : Int) + (m.length : Int)) = false := decide_eq_false (by omega)
     obtain ⟨kz, hkze⟩ : ∃ kz, kz = 8 - l.length - m.length := ⟨_, rfl⟩
     have hkz : 0 < kz := by omega
     have hkzi : (kz : Int) = 8 - (l.length : Int) - (m.length : Int) := by omega
     have hzc : ∀ u ∈ (Builtin.zeroCells (Value.int IntKind.u64 0).cells kz).toList, u.oneCell' = true := zero_one kz
     rw [← hkze] at hsx
     have H8 := Lib.hid (show l.length + kz + m.length = 8 by omega)
     have HKZ := Lib.hid hkzi
     clear hkze hkzi
     go_wp2_with (first | (go_at_call 21; refine (HC.out _ hba).mono ?_; rintro e w1 ⟨rfl, hb1⟩; have hbA := hba.trans (hb1.mono hba.size)) | (go_at_call 82; refine (H1.out _ hbA).mono ?_; rintro e w2 ⟨⟨v, rfl, hown⟩, hb2⟩; obtain ⟨A1, c1, rfl, hA1, hc1⟩ := own_slice hown; have hbB := hbA.trans (hb2.mono hbA.size); clear H1) | (go_at_call 82; refine (H2.out _ hbB).mono ?_; rintro e w3 ⟨⟨v, rfl, hownm⟩, hb3⟩; obtain ⟨A2, c2, rfl, hA2, hc2⟩ := own_slice hownm; obtain ⟨A4, c4, w4, g, c5, w5, hr4, hr5, HR, hgN, hgl, hbE⟩ := two_appends (P := Tryz.prog) w3 w1.heap.size w1.heap.size w2.heap.size 107 3 22 i0 Tryz.underlying107 Tryz.underlying3 hi hz0 hz1 hz2 A1 c1 l (hown.kept (below_grown' hb3) (Classical.em _)) A2 c2 m hA2 (fun ad h => ⟨(hc1 ad h).1, (hc1 ad h).2.1⟩) hc2 (by have := hb2.size; have := hb3.size; omega) (Nat.le_refl _) kz hkz H8.out; rw [HKZ.out] at hr4; have hb15 := hbE _ (hb2.trans (hb3.mono hb2.size)); clear hc1 hc2 hown hownm hbE) | (at_builtin; refine Lib.wpList_append_run _ rfl _ _ _ _ rfl _ _ rfl rfl _ _ hr4 ?_) | (at_builtin; refine Lib.wpList_append_run _ rfl _ _ _ _ rfl _ _ rfl rfl _ _ hr5 ?_))
     have hbw : Below w.heap.size w w5 := hba.trans ((hb1.trans (hb15.mono hb1.size)).mono hba.size)
     have hnw : w5.heap[w.heap.size]? = some (Go.Obj.cells #[.bool false, .int .u64 0, .int .u64 0] 24 (0, 0)) := heap_below hb15 (heap_below hb1 hn0)
     obtain ⟨L, hL⟩ : ∃ L, L = l ++ List.replicate kz 0 ++ m := ⟨_, rfl⟩
     have h8 : L.length = 8 := by have h9 : l.length + kz + m.length = 8 := H8.out; rw [hL]; simp only [List.length_append, List.length_replicate]; omega
     rw [← hL] at HR hsx
     have hgne : g ≠ w.heap.size := by
      have := hb1.size
      have h2 : (w.alloc (.cells #[.bool false, .int .u64 0, .int .u64 0] 24)).heap.size = w.heap.size + 1 := by simp
      omega
     clear hb1 hb2 hb3 hb15 hba hn0 hL hgN HC H2 H3 hp1 hp2 hr4 hr5 hbA hbB H8 HKZ hkz hA1 hA2
     have hN0 := heap_alloc_new w5 (.cells #[.bool true, .int .u64 0, .int .u64 0] 24)
     have hbN : Below w.heap.size w (w5.alloc (.cells #[.bool true, .int .u64 0, .int .u64 0] 24)) := hbw.alloc hbw.size _
     have hnN : (w5.alloc (.cells #[.bool true, .int .u64 0, .int .u64 0] 24)).heap[w.heap.size]? = some (Go.Obj.cells #[.bool false, .int .u64 0, .int .u64 0] 24 (0, 0)) := (Below.heap_alloc _ _ _ (Array.getElem?_eq_some_iff.1 hnw).1).trans hnw
     have HRN : Hid (∀ (j : Nat) x, L[j]? = some x → (w5.alloc (.cells #[.bool true, .int .u64 0, .int .u64 0] 24)).cell? ⟨g, j, none⟩ = some (.int .u64 x)) := Lib.hid fun j x hx => cell_stays ((Below.refl w5.heap.size w5).alloc (Nat.le_refl _) _) (HR.out j x hx)
     obtain ⟨N, hN⟩ : ∃ N, N = w5.heap.size := ⟨_, rfl⟩
     have hgN : g < N := by rw [hN]; exact hgl
     have hwN : w.heap.size < N := by rw [hN]; exact (Array.getElem?_eq_some_iff.1 hnw).1
     rw [← hN] at hN0 ⊢
     generalize w5.alloc (.cells #[.bool true, .int .u64 0, .int .u64 0] 24) = wN at hN0 hbN hnN HRN ⊢
     clear HR hnw hbw hgl hN
     go_loopw [47] (fun vi wr => ∃ (k : Nat) (h l : Int), vi = .int .i64 k ∧ k ≤ 4 ∧ Hid (h = packI (L.take k) 0 ∧ l = packI ((L.drop 4).take k) 0) ∧ wr.heap[N]? = some (Go.Obj.cells #[.bool true, .int .u64 h, .int .u64 l] 24 (0, 0)) ∧ Hid (∀ (j : Nat) x, L[j]? = some x → wr.cell? ⟨g, j, none⟩ = some (.int .u64 x)) ∧ wr.heap[w.heap.size]? = some (Go.Obj.cells #[.bool false, .int .u64 0, .int .u64 0] 24 (0, 0)) ∧ Below w.heap.size w wr) (fun vi _ => 4 - (intOf vi).toNat)
     case atStart => exact ⟨0, 0, 0, rfl, by omega, Lib.hid ⟨rfl, rfl⟩, hN0, HRN, hnN, hbN⟩
     case round =>
      clear hN0 HRN hnN hbN
      obtain ⟨k, h, l, rfl, hk, HP, hN0, HR, hnw, hbw⟩ := hrel
      obtain ⟨m0, m1, m2, m3, m4, m5⟩ := three_cells hN0
      by_cases hlt : k < 4
      ·obtain ⟨x, hx⟩ : ∃ x, L[k]? = some x := ⟨_, List.getElem?_eq_getElem (by omega)⟩
       obtain ⟨y, hy⟩ : ∃ y, L[4 + k]? = some y := ⟨_, List.getElem?_eq_getElem (by omega)⟩
       have c0 := HR.out k x hx
       have c1 := HR.out (4 + k) y hy
       have hltI : (k : Int) < 4 := by omega
       go_wp2
       go_region
       obtain ⟨q1, q2, q3⟩ := put_one (i := 1) (v := .int .u64 (bits .or .u64 (IntKind.u64.wrap (h * 65536)) x)) hN0 hbw hwN
       have HR1 := Lib.hid (cells_other (by omega : g ≠ N) q2 HR.out)
       have hnw1 := (q2 w.heap.size (by omega)).trans hnw
       obtain ⟨h1, hh1⟩ : ∃ h1, h1 = bits .or .u64 (IntKind.u64.wrap (h * 65536)) x := ⟨_, rfl⟩
       rw [← hh1] at q1 q2 q3 HR1 hnw1 ⊢
       generalize (wr.setCell ⟨N, 1, none⟩ (.int .u64 h1)).drew = wA at q1 q3 HR1 hnw1 ⊢
       clear q2 HR hnw hbw hN0 m0 m1 m2 m3 m4 m5 c0 c1
       have q1 : wA.heap[N]? = some (Go.Obj.cells #[.bool true, .int .u64 h1, .int .u64 l] 24 (0, 0)) := q1
       obtain ⟨m0, m1, m2, m3, m4, m5⟩ := three_cells q1
       have c1 := HR1.out (4 + k) y hy
       go_wp2
       go_region
       obtain ⟨r1, r2, r3⟩ := put_one (i := 2) (v := .int .u64 (bits .or .u64 (IntKind.u64.wrap (l * 65536)) y)) q1 q3 hwN
       have HR2 := Lib.hid (cells_other (by omega : g ≠ N) r2 HR1.out)
       have hnw5 := (r2 w.heap.size (by omega)).trans hnw1
       obtain ⟨l1, hl1⟩ : ∃ l1, l1 = bits .or .u64 (IntKind.u64.wrap (l * 65536)) y := ⟨_, rfl⟩
       rw [← hl1] at r1 r2 r3 HR2 hnw5 ⊢
       generalize (wA.setCell ⟨N, 2, none⟩ (.int .u64 l1)).drew = wB at r1 r3 HR2 hnw5 ⊢
       clear r2
       have r1 : wB.heap[N]? = some (Go.Obj.cells #[.bool true, .int .u64 h1, .int .u64 l1] 24 (0, 0)) := r1
       have HP2 : Hid (h1 = packI (L.take (k + 1)) 0 ∧ l1 = packI ((L.drop 4).take (k + 1)) 0) := Lib.hid ⟨by rw [packI_take hx, ← HP.out.1, hh1]; rfl, by rw [packI_take (by rw [List.getElem?_drop]; exact hy), ← HP.out.2, hl1]; rfl⟩
       go_wp2
       exact ⟨⟨k + 1, h1, l1, by go_num, by omega, HP2, r1, HR2, hnw5, r3⟩, by simp [intOf]; omega⟩
      ·have hk4 : k = 4 := by omega
       subst hk4
       obtain ⟨n0, n1, n2, n3, n4, n5⟩ := three_cells hnw
       go_wp2
       obtain ⟨s1, s2, s3⟩ := set3 (a := .bool true) (b := .int .u64 h) (c := .int .u64 l) hnw
       obtain ⟨p0, p1, p2, _⟩ := three_cells s1
       refine bodyPost_ret (v := .agg #[.bool true, .int .u64 h, .int .u64 l]) ?_ rfl ⟨?_, hbw.trans s3⟩
       ·simp [results, Tryz.f64, go_sem, p0, p1, p2]
       ·rw [hsx]
        obtain ⟨e1, e2⟩ := HP.out
        show Ending.returned _ = Ending.returned _
        rw [e1, e2]
        rfl
end Go.Proofs.YthoipikkaelohaaGreatDoor
namespace Go.Proofs.YthoipikkaelohaaGreatDoor
open Go Go.Ma Go.RowKit Go.Proofs
theorem heap_push (w : World) (o : Go.Obj) (k : Nat) : (w.alloc o).heap[k]? = if k = w.heap.size then some o else w.heap[k]? := by
 show (w.heap.push o)[k]? = _
 exact Array.getElem?_push
theorem cell_of_box_l {W : World} {B : Nat} {v : Value} {t : TypeId} (h : W.heap[B]? = some (Go.Obj.cells #[v] t (0, 0))) : W.cell? ⟨B, 0, none⟩ = some v ∧ W.frozen? ⟨B, 0, none⟩ = false := by
 constructor <;> simp [World.cell?, World.frozen?, h]
theorem told_idle (p q : Addr) (w : World) :
  CallsD Tryz.prog 62 #[.pointer (some p), .pointer (some q)] .returning w fun e u' w' => e = .returned (.tuple #[]) ∧ u' = .returning ∧ w' = w := by
 refine callsD_of_wpS Tryz.func62 rfl fun c₀ cs hu => ?_
 apply wpS_seq
 apply wpS_region
 simp [wpOpsS, go_sem, recoverD, hu, Tryz.ntmps62, Exit.thenS]
 apply wpS_seq
 apply wpS_region
 simp [wpOpsS, go_sem, Exit.thenS]
 refine wpS_cond (t := false) (by simp [Act.eval, Array.replicate]) ?_
 simp only [Bool.false_eq_true, if_false]
 refine wpS_of_wp (wp_skip ?_)
 cases c₀
 simp_all [bodyPostS, results, Tryz.results62]
noncomputable def laidNo (W : World) (n : Nat) : World := ((((W.setCell ⟨n, 0, none⟩ (.bool false)).setCell ⟨n, 1, none⟩ (.int .u64 0)).setCell ⟨n, 2, none⟩ (.int .u64 0)).setCell ⟨n + 1, 0, none⟩ (.bool false))
theorem ta_bad (T : TypeId) (W : World) : (Instr.typeAssert (.iface 91 (.agg #[])) T 91 true).run Tryz.prog W = .ok (.tuple #[.agg #[], .bool true]) W := by
 simp [Instr.typeAssert, run_underlying Tryz.underlying91]
set_option maxRecDepth 100000 in
set_option maxHeartbeats 2000000 in
theorem told_catch (n : Nat) (w : World) (a b c d : Value) (older : List PanicEntry) (h1 : w.heap[n]? = some (Go.Obj.cells #[a, b, c] 24 (0, 0))) (h2 : w.heap[n + 1]? = some (Go.Obj.cells #[d] 4 (0, 0))) :
  CallsD Tryz.prog 62 #[.pointer (some ⟨n, 0, none⟩), .pointer (some ⟨n + 1, 0, none⟩)] (.panicking (badE :: older)) w fun e u' w' => e = .returned (.tuple #[]) ∧ u' = .panicking ({ badE with recovered := true } :: older) ∧ w' = laidNo (w.alloc (.cells #[] 91)) n := by
 have g1 := (Below.heap_alloc w (.cells #[] 91) n (Array.getElem?_eq_some_iff.1 h1).1).trans h1
 have g2 := (Below.heap_alloc w (.cells #[] 91) (n + 1) (Array.getElem?_eq_some_iff.1 h2).1).trans h2
 obtain ⟨m0, m1, m2, m3, m4, m5⟩ := three_cells g1
 obtain ⟨m6, m7⟩ := cell_of_box_l g2
 clear h1 h2 g1 g2
 refine callsD_of_wpS Tryz.func62 rfl fun c₀ cs hu => ?_
 apply wpS_seq
 apply wpS_region
 simp [wpOpsS, go_sem, recoverD, hu, badE, Tryz.ntmps62, Exit.thenS]
 apply wpS_seq
 apply wpS_region
 simp [wpOpsS, go_sem, Exit.thenS]
 refine wpS_cond (t := true) (by simp [Act.eval, Array.replicate]) ?_
 simp only [if_true]
 refine wpS_of_wp ?_
 have hta : ∀ T W, (Instr.typeAssert (.iface 91 (.agg #[])) T 91 true).run Tryz.prog W = .ok (.tuple #[.agg #[], .bool true]) W := ta_bad
 show Code.wp _ _ _ { tmps := #[.pointer (some ⟨n, 0, none⟩), .pointer (some ⟨n + 1, 0, none⟩), .iface 91 (.agg #[]), Go.undef, Go.undef, .iface 91 (.agg #[]), .iface 91 (.agg #[]), .bool true, Go.undef, Go.undef, Go.undef, Go.undef, Go.undef, Go.undef, Go.undef, Go.undef, Go.undef], defers := [] } _
 go_wp2
 simp [bodyPostS, results, Tryz.results62, laidNo]
theorem laidNo_spec {w : World} {n : Nat} {a b c d : Value} (h1 : w.heap[n]? = some (Go.Obj.cells #[a, b, c] 24 (0, 0))) (h2 : w.heap[n + 1]? = some (Go.Obj.cells #[d] 4 (0, 0))) :
  (laidNo w n).heap[n]? = some (Go.Obj.cells #[.bool false, .int .u64 0, .int .u64 0] 24 (0, 0)) ∧ (laidNo w n).heap[n + 1]? = some (Go.Obj.cells #[.bool false] 4 (0, 0)) ∧ Below n w (laidNo w n) := by
 obtain ⟨s1, s2, s3⟩ := set3 (a := .bool false) (b := .int .u64 0) (c := .int .u64 0) h1
 have i4' := (s2 (n + 1) (by omega)).trans h2
 have t1 := setCell_heap _ (n + 1) 0 (.bool false) #[d] 4 (0, 0) i4'
 have t2 := (Below.heap_setCell _ ⟨n + 1, 0, none⟩ (.bool false) _ (by show n ≠ n + 1; omega)).trans s1
 exact ⟨t2, t1, s3.setCell (p := ⟨n + 1, 0, none⟩) (by show n ≤ n + 1; omega) (.bool false)⟩
set_option maxRecDepth 100000 in
set_option maxHeartbeats 4000000 in
theorem told_four (s : ByteArray) (w : World) (u : Int) (hc : ∀ W, Calls Tryz.prog 63 #[.string s, .string ⟨#[58]⟩] W fun e w' => e = .returned (.bool false) ∧ w' = W) (hx : ∀ W, Below w.heap.size w W → Calls Tryz.prog 65 #[.string s] W fun e w' => e = .returned (.int .u64 u) ∧ Below W.heap.size W w') :
  Calls Tryz.prog 48 #[.string s] w fun e w' => e = .returned (.tuple #[.agg #[.bool false, .int .u64 0, .int .u64 u], .bool true]) ∧ Below w.heap.size w w' := by
 have hmf : ∀ (fn : Fn) (first cap : Array Value) (w : World), (Instr.makeFunc fn first cap).run Tryz.prog w = .ok (.func fn first cap) w := fun _ _ _ _ => rfl
 have HC : Hid (∀ W, Calls Tryz.prog 63 #[.string s, .string ⟨#[58]⟩] W fun e w' => e = .returned (.bool false) ∧ w' = W) := Lib.hid hc
 have HX := Lib.hid hx
 clear hc hx
 go_enter_defers Tryz.func48, Tryz.ntmps48
 have hz1 : ((w.alloc (.cells #[.bool false, .int .u64 0, .int .u64 0] 24)).alloc (.cells #[.bool false] 4)).heap[w.heap.size]? = some (.cells #[.bool false, .int .u64 0, .int .u64 0] 24 (0, 0)) := by
  rw [heap_push, if_neg (by simp only [World.size_alloc]; omega), heap_push, if_pos rfl]
 have hz2 : ((w.alloc (.cells #[.bool false, .int .u64 0, .int .u64 0] 24)).alloc (.cells #[.bool false] 4)).heap[w.heap.size + 1]? = some (.cells #[.bool false] 4 (0, 0)) := by
  rw [heap_push, if_pos (by simp)]
 have hz3 : Below w.heap.size w ((w.alloc (.cells #[.bool false, .int .u64 0, .int .u64 0] 24)).alloc (.cells #[.bool false] 4)) := ((Below.refl _ w).alloc (Nat.le_refl _) _).alloc (by simp) _
 go_wp2_with (first | (go_at_call 63; refine (HC.out _).mono ?_; rintro e w2 ⟨rfl, hw2⟩; have hw2 := hw2.symm; subst hw2) | (go_at_call 65; refine (HX.out _ hz3).mono ?_; rintro e w3 ⟨he, hb3⟩; have he : e = .returned (.int .u64 u) := he; subst he; have i3 := heap_below hb3 hz1; have i4 := heap_below hb3 hz2; have hb4 := hz3.trans (hb3.mono hz3.size); clear hb3 hz1 hz2 hz3 HC; obtain ⟨n0, n1, n2, n3, n4, n5⟩ := three_cells i3; obtain ⟨n6, n7⟩ := cell_of_box_l i4))
 obtain ⟨s1, s2, s3⟩ := set3 (a := .bool false) (b := .int .u64 0) (c := .int .u64 u) i3
 have i4' : (((w3.setCell ⟨w.heap.size, 0, none⟩ (.bool false)).setCell ⟨w.heap.size, 1, none⟩ (.int .u64 0)).setCell ⟨w.heap.size, 2, none⟩ (.int .u64 u)).heap[w.heap.size + 1]? = some (Go.Obj.cells #[.bool false] 4 (0, 0)) := (s2 _ (by omega)).trans i4
 have t1 := setCell_heap _ (w.heap.size + 1) 0 (.bool true) #[.bool false] 4 (0, 0) i4'
 have t2 := (Below.heap_setCell _ ⟨w.heap.size + 1, 0, none⟩ (.bool true) _ (by show w.heap.size ≠ w.heap.size + 1; omega)).trans s1
 obtain ⟨m0, m1, m2, _⟩ := three_cells t2
 obtain ⟨m6, _⟩ := cell_of_box_l t1
 have hbb := (hb4.trans s3).setCell (p := ⟨w.heap.size + 1, 0, none⟩) (by show w.heap.size ≤ w.heap.size + 1; omega) (.bool true)
 generalize (((w3.setCell ⟨w.heap.size, 0, none⟩ (.bool false)).setCell ⟨w.heap.size, 1, none⟩ (.int .u64 0)).setCell ⟨w.heap.size, 2, none⟩ (.int .u64 u)).setCell ⟨w.heap.size + 1, 0, none⟩ (.bool true) = W4 at m0 m1 m2 m6 hbb ⊢
 refine leaves_cons (f := 62) (args := #[.pointer (some ⟨w.heap.size, 0, none⟩), .pointer (some ⟨w.heap.size + 1, 0, none⟩)]) (by simp) (by simp [go_sem]) ?_
 refine (told_idle _ _ _).mono ?_
 rintro e u' w'' ⟨rfl, rfl, rfl⟩
 simp [Leaves, settle, results, Tryz.results48, go_sem, m0, m1, m2, m6]
 exact hbb
set_option maxRecDepth 100000 in
set_option maxHeartbeats 4000000 in
theorem told_sixteen (s : ByteArray) (w : World) (x : Ad) (hc : ∀ W, Calls Tryz.prog 63 #[.string s, .string ⟨#[58]⟩] W fun e w' => e = .returned (.bool true) ∧ w' = W) (hx : ∀ W, Below w.heap.size w W → Calls Tryz.prog 64 #[.string s] W fun e w' => e = .returned (.agg #[.bool x.v6, .int .u64 x.hi, .int .u64 x.lo]) ∧ Below W.heap.size W w') :
  Calls Tryz.prog 48 #[.string s] w fun e w' => e = .returned (.tuple #[.agg #[.bool x.v6, .int .u64 x.hi, .int .u64 x.lo], .bool true]) ∧ Below w.heap.size w w' := by
 have hmf : ∀ (fn : Fn) (first cap : Array Value) (w : World), (Instr.makeFunc fn first cap).run Tryz.prog w = .ok (.func fn first cap) w := fun _ _ _ _ => rfl
 have HC : Hid (∀ W, Calls Tryz.prog 63 #[.string s, .string ⟨#[58]⟩] W fun e w' => e = .returned (.bool true) ∧ w' = W) := Lib.hid hc
 have HX := Lib.hid hx
 clear hc hx
 go_enter_defers Tryz.func48, Tryz.ntmps48
 have hz1 : ((w.alloc (.cells #[.bool false, .int .u64 0, .int .u64 0] 24)).alloc (.cells #[.bool false] 4)).heap[w.heap.size]? = some (.cells #[.bool false, .int .u64 0, .int .u64 0] 24 (0, 0)) := by
  rw [heap_push, if_neg (by simp only [World.size_alloc]; omega), heap_push, if_pos rfl]
 have hz2 : ((w.alloc (.cells #[.bool false, .int .u64 0, .int .u64 0] 24)).alloc (.cells #[.bool false] 4)).heap[w.heap.size + 1]? = some (.cells #[.bool false] 4 (0, 0)) := by
  rw [heap_push, if_pos (by simp)]
 have hz3 : Below w.heap.size w ((w.alloc (.cells #[.bool false, .int .u64 0, .int .u64 0] 24)).alloc (.cells #[.bool false] 4)) := ((Below.refl _ w).alloc (Nat.le_refl _) _).alloc (by simp) _
 go_wp2_with (first | (go_at_call 63; refine (HC.out _).mono ?_; rintro e w2 ⟨rfl, hw2⟩; have hw2 := hw2.symm; subst hw2) | (go_at_call 64; refine (HX.out _ hz3).mono ?_; rintro e w3 ⟨he, hb3⟩; have he : e = .returned (.agg #[.bool x.v6, .int .u64 x.hi, .int .u64 x.lo]) := he; subst he; have i3 := heap_below hb3 hz1; have i4 := heap_below hb3 hz2; have hb4 := hz3.trans (hb3.mono hz3.size); clear hb3 hz1 hz2 hz3 HC; obtain ⟨n0, n1, n2, n3, n4, n5⟩ := three_cells i3; obtain ⟨n6, n7⟩ := cell_of_box_l i4))
 obtain ⟨s1, s2, s3⟩ := set3 (a := .bool x.v6) (b := .int .u64 x.hi) (c := .int .u64 x.lo) i3
 have i4' : (((w3.setCell ⟨w.heap.size, 0, none⟩ (.bool x.v6)).setCell ⟨w.heap.size, 1, none⟩ (.int .u64 x.hi)).setCell ⟨w.heap.size, 2, none⟩ (.int .u64 x.lo)).heap[w.heap.size + 1]? = some (Go.Obj.cells #[.bool false] 4 (0, 0)) := (s2 _ (by omega)).trans i4
 have t1 := setCell_heap _ (w.heap.size + 1) 0 (.bool true) #[.bool false] 4 (0, 0) i4'
 have t2 := (Below.heap_setCell _ ⟨w.heap.size + 1, 0, none⟩ (.bool true) _ (by show w.heap.size ≠ w.heap.size + 1; omega)).trans s1
 obtain ⟨m0, m1, m2, _⟩ := three_cells t2
 obtain ⟨m6, _⟩ := cell_of_box_l t1
 have hbb := (hb4.trans s3).setCell (p := ⟨w.heap.size + 1, 0, none⟩) (by show w.heap.size ≤ w.heap.size + 1; omega) (.bool true)
 generalize (((w3.setCell ⟨w.heap.size, 0, none⟩ (.bool x.v6)).setCell ⟨w.heap.size, 1, none⟩ (.int .u64 x.hi)).setCell ⟨w.heap.size, 2, none⟩ (.int .u64 x.lo)).setCell ⟨w.heap.size + 1, 0, none⟩ (.bool true) = W4 at m0 m1 m2 m6 hbb ⊢
 refine leaves_cons (f := 62) (args := #[.pointer (some ⟨w.heap.size, 0, none⟩), .pointer (some ⟨w.heap.size + 1, 0, none⟩)]) (by simp) (by simp [go_sem]) ?_
 refine (told_idle _ _ _).mono ?_
 rintro e u' w'' ⟨rfl, rfl, rfl⟩
 simp [Leaves, settle, results, Tryz.results48, go_sem, m0, m1, m2, m6]
 exact hbb
set_option maxRecDepth 100000 in
set_option maxHeartbeats 4000000 in
theorem told_four_bad (s : ByteArray) (w : World) (hc : ∀ W, Calls Tryz.prog 63 #[.string s, .string ⟨#[58]⟩] W fun e w' => e = .returned (.bool false) ∧ w' = W) (hx : ∀ W, Below w.heap.size w W → Calls Tryz.prog 65 #[.string s] W fun e w' => e = .panicked [badE] ∧ Below W.heap.size W w') :
  Calls Tryz.prog 48 #[.string s] w fun e w' => e = .returned (.tuple #[.agg #[.bool false, .int .u64 0, .int .u64 0], .bool false]) ∧ Below w.heap.size w w' := by
 have hmf : ∀ (fn : Fn) (first cap : Array Value) (w : World), (Instr.makeFunc fn first cap).run Tryz.prog w = .ok (.func fn first cap) w := fun _ _ _ _ => rfl
 have HC : Hid (∀ W, Calls Tryz.prog 63 #[.string s, .string ⟨#[58]⟩] W fun e w' => e = .returned (.bool false) ∧ w' = W) := Lib.hid hc
 have HX := Lib.hid hx
 clear hc hx
 go_enter_defers Tryz.func48, Tryz.ntmps48
 have hz1 : ((w.alloc (.cells #[.bool false, .int .u64 0, .int .u64 0] 24)).alloc (.cells #[.bool false] 4)).heap[w.heap.size]? = some (.cells #[.bool false, .int .u64 0, .int .u64 0] 24 (0, 0)) := by
  rw [heap_push, if_neg (by simp only [World.size_alloc]; omega), heap_push, if_pos rfl]
 have hz2 : ((w.alloc (.cells #[.bool false, .int .u64 0, .int .u64 0] 24)).alloc (.cells #[.bool false] 4)).heap[w.heap.size + 1]? = some (.cells #[.bool false] 4 (0, 0)) := by
  rw [heap_push, if_pos (by simp)]
 have hz3 : Below w.heap.size w ((w.alloc (.cells #[.bool false, .int .u64 0, .int .u64 0] 24)).alloc (.cells #[.bool false] 4)) := ((Below.refl _ w).alloc (Nat.le_refl _) _).alloc (by simp) _
 go_wp2_with (first | (go_at_call 63; refine (HC.out _).mono ?_; rintro e w2 ⟨rfl, hw2⟩; have hw2 := hw2.symm; subst hw2) | (go_at_call 65; refine (HX.out _ hz3).mono ?_; rintro e w3 ⟨he, hb3⟩; have he : e = .panicked [badE] := he; subst he; have i3 := heap_below hb3 hz1; have i4 := heap_below hb3 hz2; have hb4 := hz3.trans (hb3.mono hz3.size); clear hb3 hz1 hz2 hz3 HC; obtain ⟨n0, n1, n2, n3, n4, n5⟩ := three_cells i3; obtain ⟨n6, n7⟩ := cell_of_box_l i4))
 refine leaves_cons (f := 62) (args := #[.pointer (some ⟨w.heap.size, 0, none⟩), .pointer (some ⟨w.heap.size + 1, 0, none⟩)]) (by simp) (by simp [go_sem]) ?_
 refine (told_catch w.heap.size w3 (.bool false) (.int .u64 0) (.int .u64 0) (.bool false) [] i3 i4).mono ?_
 rintro e u' w'' ⟨rfl, rfl, rfl⟩
 have g1 := (Below.heap_alloc w3 (.cells #[] 91) _ (Array.getElem?_eq_some_iff.1 i3).1).trans i3
 have g2 := (Below.heap_alloc w3 (.cells #[] 91) _ (Array.getElem?_eq_some_iff.1 i4).1).trans i4
 obtain ⟨j1, j2, j3⟩ := laidNo_spec g1 g2
 obtain ⟨m0, m1, m2, _⟩ := three_cells j1
 obtain ⟨m6, _⟩ := cell_of_box_l j2
 have hbb := (hb4.alloc hb4.size (.cells #[] 91)).trans j3
 generalize laidNo (w3.alloc (.cells #[] 91)) w.heap.size = W4 at m0 m1 m2 m6 hbb ⊢
 simp [Leaves, settle, results, Tryz.results48, go_sem, m0, m1, m2, m6]
 exact hbb
set_option maxRecDepth 100000 in
set_option maxHeartbeats 4000000 in
theorem told_sixteen_bad (s : ByteArray) (w : World) (hc : ∀ W, Calls Tryz.prog 63 #[.string s, .string ⟨#[58]⟩] W fun e w' => e = .returned (.bool true) ∧ w' = W) (hx : ∀ W, Below w.heap.size w W → Calls Tryz.prog 64 #[.string s] W fun e w' => e = .panicked [badE] ∧ Below W.heap.size W w') :
  Calls Tryz.prog 48 #[.string s] w fun e w' => e = .returned (.tuple #[.agg #[.bool false, .int .u64 0, .int .u64 0], .bool false]) ∧ Below w.heap.size w w' := by
 have hmf : ∀ (fn : Fn) (first cap : Array Value) (w : World), (Instr.makeFunc fn first cap).run Tryz.prog w = .ok (.func fn first cap) w := fun _ _ _ _ => rfl
 have HC : Hid (∀ W, Calls Tryz.prog 63 #[.string s, .string ⟨#[58]⟩] W fun e w' => e = .returned (.bool true) ∧ w' = W) := Lib.hid hc
 have HX := Lib.hid hx
 clear hc hx
 go_enter_defers Tryz.func48, Tryz.ntmps48
 have hz1 : ((w.alloc (.cells #[.bool false, .int .u64 0, .int .u64 0] 24)).alloc (.cells #[.bool false] 4)).heap[w.heap.size]? = some (.cells #[.bool false, .int .u64 0, .int .u64 0] 24 (0, 0)) := by
  rw [heap_push, if_neg (by simp only [World.size_alloc]; omega), heap_push, if_pos rfl]
 have hz2 : ((w.alloc (.cells #[.bool false, .int .u64 0, .int .u64 0] 24)).alloc (.cells #[.bool false] 4)).heap[w.heap.size + 1]? = some (.cells #[.bool false] 4 (0, 0)) := by
  rw [heap_push, if_pos (by simp)]
 have hz3 : Below w.heap.size w ((w.alloc (.cells #[.bool false, .int .u64 0, .int .u64 0] 24)).alloc (.cells #[.bool false] 4)) := ((Below.refl _ w).alloc (Nat.le_refl _) _).alloc (by simp) _
 go_wp2_with (first | (go_at_call 63; refine (HC.out _).mono ?_; rintro e w2 ⟨rfl, hw2⟩; have hw2 := hw2.symm; subst hw2) | (go_at_call 64; refine (HX.out _ hz3).mono ?_; rintro e w3 ⟨he, hb3⟩; have he : e = .panicked [badE] := he; subst he; have i3 := heap_below hb3 hz1; have i4 := heap_below hb3 hz2; have hb4 := hz3.trans (hb3.mono hz3.size); clear hb3 hz1 hz2 hz3 HC; obtain ⟨n0, n1, n2, n3, n4, n5⟩ := three_cells i3; obtain ⟨n6, n7⟩ := cell_of_box_l i4))
 refine leaves_cons (f := 62) (args := #[.pointer (some ⟨w.heap.size, 0, none⟩), .pointer (some ⟨w.heap.size + 1, 0, none⟩)]) (by simp) (by simp [go_sem]) ?_
 refine (told_catch w.heap.size w3 (.bool false) (.int .u64 0) (.int .u64 0) (.bool false) [] i3 i4).mono ?_
 rintro e u' w'' ⟨rfl, rfl, rfl⟩
 have g1 := (Below.heap_alloc w3 (.cells #[] 91) _ (Array.getElem?_eq_some_iff.1 i3).1).trans i3
 have g2 := (Below.heap_alloc w3 (.cells #[] 91) _ (Array.getElem?_eq_some_iff.1 i4).1).trans i4
 obtain ⟨j1, j2, j3⟩ := laidNo_spec g1 g2
 obtain ⟨m0, m1, m2, _⟩ := three_cells j1
 obtain ⟨m6, _⟩ := cell_of_box_l j2
 have hbb := (hb4.alloc hb4.size (.cells #[] 91)).trans j3
 generalize laidNo (w3.alloc (.cells #[] 91)) w.heap.size = W4 at m0 m1 m2 m6 hbb ⊢
 simp [Leaves, settle, results, Tryz.results48, go_sem, m0, m1, m2, m6]
 exact hbb
theorem told_walk (s : ByteArray) (hs : s.size ≤ 4294967200) (w : World) (hG : Glob Tryz.prog w) :
  Calls Tryz.prog 48 #[.string s] w fun e w' => e = .returned (.tuple #[.agg #[.bool (toldA s).v6, .int .u64 (toldA s).hi, .int .u64 (toldA s).lo], .bool (toldF s).isSome]) ∧ Below w.heap.size w w' := by
 have hc : ∀ W, Calls Tryz.prog 63 #[.string s, .string ⟨#[58]⟩] W fun e w' => e = .returned (.bool (colonIn s)) ∧ w' = W := fun W => Go.Proofs.Tryz.strings_Contains_one s 58 W
 unfold toldA toldF
 cases hcs : colonIn s with
 | true =>
  rw [hcs] at hc
  rw [if_pos rfl]
  have hx : ∀ W, Below w.heap.size w W → Calls Tryz.prog 64 #[.string s] W fun e w' => EndA (sixteenF s) e ∧ Below W.heap.size W w' := fun W hb => sixteen_walk s hs W (hG.mono hb)
  cases h : sixteenF s with
  | some a => rw [h] at hx; exact told_sixteen s w a hc hx
  | none => rw [h] at hx; exact told_sixteen_bad s w hc hx
 | false =>
  rw [hcs] at hc
  rw [if_neg (by decide)]
  have hx : ∀ W, Below w.heap.size w W → Calls Tryz.prog 65 #[.string s] W fun e w' => EndU (fourF s) e ∧ Below W.heap.size W w' := fun W hb => four_walk s hs W (hG.mono hb)
  cases h : fourF s with
  | some u => rw [h] at hx; exact told_four s w u hc hx
  | none => rw [h] at hx; exact told_four_bad s w hc hx
noncomputable def addr_told_con : Con := con [.one (.fl .str)] [.one (.fl .addr), .one (.fl .bool)] (fun x => addr_told_t x.1)
theorem addr_told_ok : TrOk Tryz.prog 48 addr_told_con := con_of _ _ _ fun x y hx ρ us vals w hG hu => by
 obtain ⟨s, z⟩ := x
 have hd := hu.den _ (gives_nameOf us)
 have hvals : vals = [.string s] := hd.symm
 subst hvals
 unfold addr_told_t at hx
 obtain ⟨hq, hx⟩ := req_some hx
 injection hx with hx
 subst hx
 refine (told_walk s (Nat.le_of_ble_eq_true hq) w hG).mono ?_
 rintro e w' ⟨rfl, hb⟩
 exact ⟨fun _ => Go.undef, .tup [.agg [.b (toldA s).v6, .i .u64 (toldA s).hi, .i .u64 (toldA s).lo], .b (toldF s).isSome], [], rfl, ⟨hb, fun j o h => by simp at h, fun i j o o' _ h => by simp at h, fun j o h => by simp at h⟩, rfl⟩
end Go.Proofs.YthoipikkaelohaaGreatDoor
namespace Go.Proofs.YthoipikkaelohaaGreatDoor
open Go Go.Ma
def addr_groups_L3_S : LoopS := { n := 24, base := 0, head := { keep := [2, 3, 7, 8], vals := [.one (.fl .int), .one (.cst (.ptr 0 0)), .one (.cst (.row 1)), .one (.fl .int)], objs := [.blk [.fl .addr] 24 true, .row .str 9 true] }, exits := [⟨some 0, { keep := [7], vals := [.one (.cst (.row 0))], objs := [.row .str 9 true] }⟩] }
noncomputable def addr_groups_env : Env := mkEnv ty fnB [(75, addr_group_con), (56, strconv_FormatUint_con), (57, strings_Join_con)] [(3, (loopTr addr_groups_L3_S (loopN addr_groups_L3 FUEL)))]
theorem addr_groups_envOk : EnvOk Tryz.prog addr_groups_env := envOk tyOk fn_ok (callsCons addr_group_ok (callsCons strconv_FormatUint_ok (callsCons strings_Join_ok callsNil))) _
theorem addr_groups_L3_ok : LOk Tryz.prog (nthLoop (codeOf Tryz.f59) 0) (loopTr addr_groups_L3_S (loopN addr_groups_L3 FUEL)) := by
 have h : loopsOf (nthLoop (codeOf Tryz.f59) 0) = [] := by kernel_rfl
 refine loop_ok addr_groups_envOk (loopsOk h lsNil) addr_groups_L3_S addr_groups_L3 FUEL (fun rec x => ?_)
 kernel_rfl
noncomputable def addr_groups_con : Con := con [.one (.fl .addr), .one (.fl .int), .one (.fl .int)] [.one (.fl .str)] (fun x => zq0 x.1 x.2.1 x.2.2.1)
theorem addr_groups_ok : TrOk Tryz.prog 59 addr_groups_con := by
 have h : loopsOf (codeOf Tryz.f59) = [(nthLoop (codeOf Tryz.f59) 0)] := by kernel_rfl
 refine con_ok addr_groups_envOk Tryz.func59 (bodyOk h (lsCons (one_loop (t := (loopTr addr_groups_L3_S (loopN addr_groups_L3 FUEL))) (by kernel_rfl) addr_groups_L3_ok) lsNil)) _ _ _ (fun x => ?_)
 kernel_rfl
def addr_Text_L4_S : LoopS := { n := 44, base := 0, head := { keep := [1, 3, 4], vals := [.one (.cst (.ptr 0 0)), .one (.cst (.row 1)), .one (.fl .int)], objs := [.blk [.fl .addr] 24 true, .row .str 9 true] }, exits := [⟨some 0, { keep := [3], vals := [.one (.cst (.row 0))], objs := [.row .str 9 true] }⟩] }
noncomputable def addr_Text_env : Env := mkEnv ty fnB [(56, strconv_FormatUint_con), (57, strings_Join_con), (58, addr_longest_con), (59, addr_groups_con)] [(4, (loopTr addr_Text_L4_S (loopN addr_Text_L4 FUEL)))]
theorem addr_Text_envOk : EnvOk Tryz.prog addr_Text_env := envOk tyOk fn_ok (callsCons strconv_FormatUint_ok (callsCons strings_Join_ok (callsCons addr_longest_ok (callsCons addr_groups_ok callsNil)))) _
theorem addr_Text_L4_ok : LOk Tryz.prog (nthLoop (codeOf Tryz.f45) 0) (loopTr addr_Text_L4_S (loopN addr_Text_L4 FUEL)) := by
 have h : loopsOf (nthLoop (codeOf Tryz.f45) 0) = [] := by kernel_rfl
 refine loop_ok addr_Text_envOk (loopsOk h lsNil) addr_Text_L4_S addr_Text_L4 FUEL (fun rec x => ?_)
 kernel_rfl
theorem addr_Text_key (f1 : type_of% strings_Join_t) (f2 : type_of% addr_longest_t) (f3 : type_of% zq0) (g0 : type_of% (loopN addr_Text_L4 FUEL)) (x : PsT [.one (.fl .addr)]) : ixF (mkEnv ty fnB [(56, strconv_FormatUint_con), (57, (con [.one (.row .str 9), .one (.fl .str)] [.one (.fl .str)] (fun x => f1 x.1 x.2.1))), (58, (con [.one (.fl .addr)] [.one (.fl .int), .one (.fl .int)] (fun x => f2 x.1))), (59, (con [.one (.fl .addr), .one (.fl .int), .one (.fl .int)] [.one (.fl .str)] (fun x => f3 x.1 x.2.1 x.2.2.1)))] [(4, (loopTr addr_Text_L4_S g0))]) Tryz.f45 (encA false [.one (.fl .addr)] x 0).1 (encA false [.one (.fl .addr)] x 0).2 (resR [.one (.fl .str)]) = (fun (a0 : Ad) => (br (!a0.v6)
  ((g0 (((()), (()), (24, ()), ()), ((a0, ()), ([] : List ByteArray), ()))).bind fun y1 =>
  (f1 y1.2.1 (⟨#[46]⟩ : ByteArray)).bind fun y2 =>
  some (y2.1, ()))
  ((f2 a0).bind fun y1 =>
  br (decide (y1.2.1 = 0))
   ((f3 a0 0 8).bind fun y2 =>
   some (y2.1, ()))
   ((f3 a0 0 y1.1).bind fun y2 =>
   req (roomS (catS y2.1 (⟨#[58, 58]⟩ : ByteArray))) <|
   req (i64ok (y1.1 + y1.2.1)) <|
   (f3 a0 (y1.1 + y1.2.1) 8).bind fun y3 =>
   req (roomS (catS (catS y2.1 (⟨#[58, 58]⟩ : ByteArray)) y3.1)) <|
   some (catS (catS y2.1 (⟨#[58, 58]⟩ : ByteArray)) y3.1, ()))) : Option (ByteArray × Unit))) x.1 := by
 kernel_rfl
noncomputable def addr_Text_con : Con := con [.one (.fl .addr)] [.one (.fl .str)] (fun x => addr_Text_t x.1)
theorem addr_Text_ok : TrOk Tryz.prog 45 addr_Text_con := by
 have h : loopsOf (codeOf Tryz.f45) = [(nthLoop (codeOf Tryz.f45) 0)] := by kernel_rfl
 refine con_ok addr_Text_envOk Tryz.func45 (bodyOk h (lsCons (one_loop (t := (loopTr addr_Text_L4_S (loopN addr_Text_L4 FUEL))) (by kernel_rfl) addr_Text_L4_ok) lsNil)) _ _ _ (fun x => ?_)
 exact addr_Text_key strings_Join_t addr_longest_t zq0 (loopN addr_Text_L4 FUEL) x
noncomputable def prefix_Text_env : Env := mkEnv ty fnB [(45, addr_Text_con), (46, strconv_Itoa_con)] []
theorem prefix_Text_envOk : EnvOk Tryz.prog prefix_Text_env := envOk tyOk fn_ok (callsCons addr_Text_ok (callsCons strconv_Itoa_ok callsNil)) _
noncomputable def prefix_Text_con : Con := con [.one (.fl .pfx)] [.one (.fl .str)] (fun x => prefix_Text_t x.1)
theorem prefix_Text_ok : TrOk Tryz.prog 20 prefix_Text_con := by
 have h : loopsOf (codeOf Tryz.f20) = [] := by kernel_rfl
 refine con_ok prefix_Text_envOk Tryz.func20 (bodyOk h lsNil) _ _ _ (fun x => ?_)
 kernel_rfl
noncomputable def prefix_Print_env : Env := mkEnv ty fnB [(18, prefix_Check_con), (20, prefix_Text_con)] []
theorem prefix_Print_envOk : EnvOk Tryz.prog prefix_Print_env := envOk tyOk fn_ok (callsCons prefix_Check_ok (callsCons prefix_Text_ok callsNil)) _
noncomputable def prefix_Print_con : Con := con [.one (.fl .pfx)] [.one (.fl .str), .one (.fl .int)] (fun x => prefix_Print_t x.1)
theorem prefix_Print_ok : TrOk Tryz.prog 4 prefix_Print_con := by
 have h : loopsOf (codeOf Tryz.f4) = [] := by kernel_rfl
 refine con_ok prefix_Print_envOk Tryz.func4 (bodyOk h lsNil) _ _ _ (fun x => ?_)
 kernel_rfl
noncomputable def internal_stringslite_Cut_env : Env := mkEnv ty fnB [(61, internal_stringslite_Index_con)] []
theorem internal_stringslite_Cut_envOk : EnvOk Tryz.prog internal_stringslite_Cut_env := envOk tyOk fn_ok (callsCons internal_stringslite_Index_ok callsNil) _
noncomputable def internal_stringslite_Cut_con : Con := con [.one (.fl .str), .one (.fl .str)] [.one (.fl .str), .one (.fl .str), .one (.fl .bool)] (fun x => internal_stringslite_Cut_t x.1 x.2.1)
theorem internal_stringslite_Cut_ok : TrOk Tryz.prog 47 internal_stringslite_Cut_con := by
 have h : loopsOf (codeOf Tryz.f47) = [] := by kernel_rfl
 refine con_ok internal_stringslite_Cut_envOk Tryz.func47 (bodyOk h lsNil) _ _ _ (fun x => ?_)
 kernel_rfl
noncomputable def strings_Cut_env : Env := mkEnv ty fnB [(47, internal_stringslite_Cut_con)] []
theorem strings_Cut_envOk : EnvOk Tryz.prog strings_Cut_env := envOk tyOk fn_ok (callsCons internal_stringslite_Cut_ok callsNil) _
noncomputable def strings_Cut_con : Con := con [.one (.fl .str), .one (.fl .str)] [.one (.fl .str), .one (.fl .str), .one (.fl .bool)] (fun x => strings_Cut_t x.1 x.2.1)
theorem strings_Cut_ok : TrOk Tryz.prog 21 strings_Cut_con := by
 have h : loopsOf (codeOf Tryz.f21) = [] := by kernel_rfl
 refine con_ok strings_Cut_envOk Tryz.func21 (bodyOk h lsNil) _ _ _ (fun x => ?_)
 kernel_rfl
noncomputable def addr_Parse_env : Env := mkEnv ty fnB [(48, addr_told_con)] []
theorem addr_Parse_envOk : EnvOk Tryz.prog addr_Parse_env := envOk tyOk fn_ok (callsCons addr_told_ok callsNil) _
noncomputable def addr_Parse_con : Con := con [.one (.fl .str)] [.one (.fl .addr), .one (.fl .int)] (fun x => addr_Parse_t x.1)
theorem addr_Parse_ok : TrOk Tryz.prog 22 addr_Parse_con := by
 have h : loopsOf (codeOf Tryz.f22) = [] := by kernel_rfl
 refine con_ok addr_Parse_envOk Tryz.func22 (bodyOk h lsNil) _ _ _ (fun x => ?_)
 kernel_rfl
noncomputable def prefix_Parse_env : Env := mkEnv ty fnB [(21, strings_Cut_con), (22, addr_Parse_con), (23, prefix_Digits_con), (18, prefix_Check_con)] []
theorem prefix_Parse_envOk : EnvOk Tryz.prog prefix_Parse_env := envOk tyOk fn_ok (callsCons strings_Cut_ok (callsCons addr_Parse_ok (callsCons prefix_Digits_ok (callsCons prefix_Check_ok callsNil)))) _
noncomputable def prefix_Parse_con : Con := con [.one (.fl .str)] [.one (.fl .pfx), .one (.fl .int)] (fun x => prefix_Parse_t x.1)
theorem prefix_Parse_ok : TrOk Tryz.prog 5 prefix_Parse_con := by
 have h : loopsOf (codeOf Tryz.f5) = [] := by kernel_rfl
 refine con_ok prefix_Parse_envOk Tryz.func5 (bodyOk h lsNil) _ _ _ (fun x => ?_)
 kernel_rfl
noncomputable def R_WholeOf_env : Env := mkEnv ty fnB [(10, R_CheckPrefix_con), (14, R_HalvesOf_con)] []
theorem R_WholeOf_envOk : EnvOk Tryz.prog R_WholeOf_env := envOk tyOk fn_ok (callsCons R_CheckPrefix_ok (callsCons R_HalvesOf_ok callsNil)) _
noncomputable def R_WholeOf_con : Con := con [.one (.fl .pfx), .one (.fl .pfx)] [.one (.fl .pfx), .one (.fl .bool)] (fun x => R_WholeOf_t x.1 x.2.1)
theorem R_WholeOf_ok : TrOk Tryz.prog 15 R_WholeOf_con := by
 have h : loopsOf (codeOf Tryz.f15) = [] := by kernel_rfl
 refine con_ok R_WholeOf_envOk Tryz.func15 (bodyOk h lsNil) _ _ _ (fun x => ?_)
 kernel_rfl
noncomputable def law_prefixBegun_env : Env := mkEnv ty fnB [(5, prefix_Parse_con), (40, law_net_con), (6, prefix_Has_con), (7, prefix_Ends_con), (8, prefix_Halves_con), (9, prefix_Whole_con), (4, prefix_Print_con), (18, prefix_Check_con), (41, law_v4_con)] []
theorem law_prefixBegun_envOk : EnvOk Tryz.prog law_prefixBegun_env := envOk tyOk fn_ok (callsCons prefix_Parse_ok (callsCons law_net_ok (callsCons prefix_Has_ok (callsCons prefix_Ends_ok (callsCons prefix_Halves_ok (callsCons prefix_Whole_ok (callsCons prefix_Print_ok (callsCons prefix_Check_ok (callsCons law_v4_ok callsNil))))))))) _
noncomputable def law_prefixBegun_con : Con := con [] [.one (.fl .bool)] (fun x => law_prefixBegun_t)
theorem law_prefixBegun_ok : TrOk Tryz.prog 17 law_prefixBegun_con := by
 have h : loopsOf (codeOf Tryz.f17) = [] := by kernel_rfl
 refine con_ok law_prefixBegun_envOk Tryz.func17 (bodyOk h lsNil) _ _ _ (fun x => ?_)
 kernel_rfl
def law_PrefixTells_J : List (Nat × JoinS) := [(74, { n := 198, exits := [⟨some BIG, { keep := [2, 3, 4, 7, 8, 9, 10, 11, 12, 13, 14, 15, 16, 17, 18, 19, 20, 21, 22, 23], vals := [.one (.fl .str), .one (.cst (.ptr 0 0)), .one (.cst (.ptr 1 0)), .one (.fl .str), .one (.fl .int), .one (.cst (.ptr 2 0)), .one (.fl .int), .one (.fl .bool), .one (.fl .int), .one (.cst (.ptr 3 0)), .one (.cst (.ptr 4 0)), .one (.fl .int), .one (.cst (.ptr 5 0)), .one (.cst (.ptr 6 0)), .one (.fl .int), .one (.cst (.ptr 7 0)), .one (.fl .int), .one (.fl .int), .one (.fl .int), .one (.fl .int)], objs := [.blk [.fl .pfx] 26 true, .blk [.fl .pfx] 26 true, .blk [.fl .pfx] 26 true, .blk [.fl .addr] 24 true, .blk [.fl .addr] 24 true, .blk [.fl .pfx] 26 true, .blk [.fl .pfx] 26 true, .blk [.fl .pfx] 26 true] }⟩] }), (91, { n := 198, exits := [⟨some BIG, { keep := [2, 3, 4, 7, 8, 9, 10, 11, 12, 13, 14, 15, 16, 17, 18, 19, 20, 21, 22, 23, 24, 25, 26, 27, 28, 29], vals := [.one (.fl .str), .one (.cst (.ptr 0 0)), .one (.cst (.ptr 1 0)), .one (.fl .str), .one (.fl .int), .one (.cst (.ptr 2 0)), .one (.fl .int), .one (.fl .bool), .one (.fl .int), .one (.cst (.ptr 3 0)), .one (.cst (.ptr 4 0)), .one (.fl .int), .one (.cst (.ptr 5 0)), .one (.cst (.ptr 6 0)), .one (.fl .int), .one (.cst (.ptr 7 0)), .one (.fl .int), .one (.fl .int), .one (.fl .int), .one (.fl .int), .one (.fl .str), .one (.cst (.ptr 8 0)), .one (.cst (.ptr 9 0)), .one (.cst (.ptr 10 0)), .one (.cst (.ptr 11 0)), .one (.cst (.ptr 12 0))], objs := [.blk [.fl .pfx] 26 true, .blk [.fl .pfx] 26 true, .blk [.fl .pfx] 26 true, .blk [.fl .addr] 24 true, .blk [.fl .addr] 24 true, .blk [.fl .pfx] 26 true, .blk [.fl .pfx] 26 true, .blk [.fl .pfx] 26 true, .blk [.fl .addr] 24 true, .blk [.fl .addr] 24 true, .blk [.fl .pfx] 26 true, .blk [.fl .pfx] 26 true, .blk [.fl .pfx] 26 true] }⟩] }), (78, { n := 198, exits := [⟨some BIG, { keep := [2, 3, 4, 7, 8, 9, 10, 11, 12, 13, 14, 15, 16, 17, 18, 19, 20, 21, 22, 23, 24, 25, 26, 27, 28, 29], vals := [.one (.fl .str), .one (.cst (.ptr 0 0)), .one (.cst (.ptr 1 0)), .one (.fl .str), .one (.fl .int), .one (.cst (.ptr 2 0)), .one (.fl .int), .one (.fl .bool), .one (.fl .int), .one (.cst (.ptr 3 0)), .one (.cst (.ptr 4 0)), .one (.fl .int), .one (.cst (.ptr 5 0)), .one (.cst (.ptr 6 0)), .one (.fl .int), .one (.cst (.ptr 7 0)), .one (.fl .int), .one (.fl .int), .one (.fl .int), .one (.fl .int), .one (.fl .str), .one (.cst (.ptr 8 0)), .one (.cst (.ptr 9 0)), .one (.cst (.ptr 10 0)), .one (.cst (.ptr 11 0)), .one (.cst (.ptr 12 0))], objs := [.blk [.fl .pfx] 26 true, .blk [.fl .pfx] 26 true, .blk [.fl .pfx] 26 true, .blk [.fl .addr] 24 true, .blk [.fl .addr] 24 true, .blk [.fl .pfx] 26 true, .blk [.fl .pfx] 26 true, .blk [.fl .pfx] 26 true, .blk [.fl .addr] 24 true, .blk [.fl .addr] 24 true, .blk [.fl .pfx] 26 true, .blk [.fl .pfx] 26 true, .blk [.fl .pfx] 26 true] }⟩] }), (108, { n := 198, exits := [⟨some BIG, { keep := [2, 3, 4, 7, 8, 9, 10, 11, 12, 13, 14, 15, 16, 17, 18, 19, 20, 21, 22, 23, 24, 25, 26, 27, 28, 29, 30], vals := [.one (.fl .str), .one (.cst (.ptr 0 0)), .one (.cst (.ptr 1 0)), .one (.fl .str), .one (.fl .int), .one (.cst (.ptr 2 0)), .one (.fl .int), .one (.fl .bool), .one (.fl .int), .one (.cst (.ptr 3 0)), .one (.cst (.ptr 4 0)), .one (.fl .int), .one (.cst (.ptr 5 0)), .one (.cst (.ptr 6 0)), .one (.fl .int), .one (.cst (.ptr 7 0)), .one (.fl .int), .one (.fl .int), .one (.fl .int), .one (.fl .int), .one (.fl .str), .one (.cst (.ptr 8 0)), .one (.cst (.ptr 9 0)), .one (.cst (.ptr 10 0)), .one (.cst (.ptr 11 0)), .one (.cst (.ptr 12 0)), .one (.fl .int)], objs := [.blk [.fl .pfx] 26 true, .blk [.fl .pfx] 26 true, .blk [.fl .pfx] 26 true, .blk [.fl .addr] 24 true, .blk [.fl .addr] 24 true, .blk [.fl .pfx] 26 true, .blk [.fl .pfx] 26 true, .blk [.fl .pfx] 26 true, .blk [.fl .addr] 24 true, .blk [.fl .addr] 24 true, .blk [.fl .pfx] 26 true, .blk [.fl .pfx] 26 true, .blk [.fl .pfx] 26 true] }⟩] }), (99, { n := 198, exits := [⟨some BIG, { keep := [2, 3, 4, 7, 8, 9, 10, 11, 12, 13, 14, 15, 16, 17, 18, 19, 20, 21, 22, 23, 24, 25, 26, 27, 28, 29, 30], vals := [.one (.fl .str), .one (.cst (.ptr 0 0)), .one (.cst (.ptr 1 0)), .one (.fl .str), .one (.fl .int), .one (.cst (.ptr 2 0)), .one (.fl .int), .one (.fl .bool), .one (.fl .int), .one (.cst (.ptr 3 0)), .one (.cst (.ptr 4 0)), .one (.fl .int), .one (.cst (.ptr 5 0)), .one (.cst (.ptr 6 0)), .one (.fl .int), .one (.cst (.ptr 7 0)), .one (.fl .int), .one (.fl .int), .one (.fl .int), .one (.fl .int), .one (.fl .str), .one (.cst (.ptr 8 0)), .one (.cst (.ptr 9 0)), .one (.cst (.ptr 10 0)), .one (.cst (.ptr 11 0)), .one (.cst (.ptr 12 0)), .one (.fl .int)], objs := [.blk [.fl .pfx] 26 true, .blk [.fl .pfx] 26 true, .blk [.fl .pfx] 26 true, .blk [.fl .addr] 24 true, .blk [.fl .addr] 24 true, .blk [.fl .pfx] 26 true, .blk [.fl .pfx] 26 true, .blk [.fl .pfx] 26 true, .blk [.fl .addr] 24 true, .blk [.fl .addr] 24 true, .blk [.fl .pfx] 26 true, .blk [.fl .pfx] 26 true, .blk [.fl .pfx] 26 true] }⟩] })]
noncomputable def law_PrefixTells_env : Env := mkEnv ty fnB [(4, prefix_Print_con), (5, prefix_Parse_con), (6, prefix_Has_con), (7, prefix_Ends_con), (8, prefix_Halves_con), (9, prefix_Whole_con), (10, R_CheckPrefix_con), (11, R_PrefixText_con), (12, R_LastOf_con), (13, R_Bits_con), (14, R_HalvesOf_con), (15, R_WholeOf_con), (16, R_PrefixOf_con), (17, law_prefixBegun_con), (18, prefix_Check_con), (19, R_HasPrefix_con)] [] law_PrefixTells_J
theorem law_PrefixTells_envOk : EnvOk Tryz.prog law_PrefixTells_env := envOk tyOk fn_ok (callsCons prefix_Print_ok (callsCons prefix_Parse_ok (callsCons prefix_Has_ok (callsCons prefix_Ends_ok (callsCons prefix_Halves_ok (callsCons prefix_Whole_ok (callsCons R_CheckPrefix_ok (callsCons R_PrefixText_ok (callsCons R_LastOf_ok (callsCons R_Bits_ok (callsCons R_HalvesOf_ok (callsCons R_WholeOf_ok (callsCons R_PrefixOf_ok (callsCons law_prefixBegun_ok (callsCons prefix_Check_ok (callsCons R_HasPrefix_ok callsNil)))))))))))))))) _ _
theorem law_PrefixTells_key (f0 : type_of% prefix_Print_t) (f1 : type_of% prefix_Parse_t) (f2 : type_of% prefix_Has_t) (f3 : type_of% prefix_Ends_t) (f4 : type_of% prefix_Halves_t) (f5 : type_of% prefix_Whole_t) (f6 : type_of% R_CheckPrefix_t) (f7 : type_of% R_PrefixText_t) (f8 : type_of% R_LastOf_t) (f9 : type_of% R_Bits_t) (f10 : type_of% R_HalvesOf_t) (f11 : type_of% R_WholeOf_t) (f12 : type_of% R_PrefixOf_t) (f13 : type_of% law_prefixBegun_t) (f14 : type_of% zq7) (f15 : type_of% R_HasPrefix_t) (x : PsT [.one (.fl .pfx), .one (.fl .pfx), .one (.fl .str)]) : ixF (mkEnv ty fnB [(4, (con [.one (.fl .pfx)] [.one (.fl .str), .one (.fl .int)] (fun x => f0 x.1))), (5, (con [.one (.fl .str)] [.one (.fl .pfx), .one (.fl .int)] (fun x => f1 x.1))), (6, (con [.one (.fl .pfx), .one (.fl .pfx)] [.one (.fl .bool), .one (.fl .int)] (fun x => f2 x.1 x.2.1))), (7, (con [.one (.fl .pfx)] [.one (.fl .addr), .one (.fl .addr), .one (.fl .int)] (fun x => f3 x.1))), (8, (con [.one (.fl .pfx)] [.one (.fl .pfx), .one (.fl .pfx), .one (.fl .int)] (fun x => f4 x.1))), (9, (con [.one (.fl .pfx), .one (.fl .pfx)] [.one (.fl .pfx), .one (.fl .int)] (fun x => f5 x.1 x.2.1))), (10, (con [.one (.fl .pfx)] [.one (.fl .int)] (fun x => f6 x.1))), (11, (con [.one (.fl .pfx)] [.one (.fl .str)] (fun x => f7 x.1))), (12, (con [.one (.fl .pfx)] [.one (.fl .addr)] (fun x => f8 x.1))), (13, (con [.one (.fl .addr)] [.one (.fl .str)] (fun x => f9 x.1))), (14, (con [.one (.fl .pfx)] [.one (.fl .pfx), .one (.fl .pfx)] (fun x => f10 x.1))), (15, (con [.one (.fl .pfx), .one (.fl .pfx)] [.one (.fl .pfx), .one (.fl .bool)] (fun x => f11 x.1 x.2.1))), (16, (con [.one (.fl .str)] [.one (.fl .pfx), .one (.fl .int)] (fun x => f12 x.1))), (17, (con [] [.one (.fl .bool)] (fun x => f13))), (18, (con [.one (.fl .pfx)] [.one (.fl .int)] (fun x => f14 x.1))), (19, (con [.one (.fl .pfx), .one (.fl .pfx)] [.one (.fl .bool)] (fun x => f15 x.1 x.2.1)))] [] law_PrefixTells_J) Tryz.f3 (encA false [.one (.fl .pfx), .one (.fl .pfx), .one (.fl .str)] x 0).1 (encA false [.one (.fl .pfx), .one (.fl .pfx), .one (.fl .str)] x 0).2 (resR [.one (.fl .bool)]) = law_PrefixTells_G f0 f1 f2 f3 f4 f5 f6 f7 f8 f9 f10 f11 f12 f13 f14 f15 x.1 x.2.1 x.2.2.1 := by
 kernel_rfl
noncomputable def law_PrefixTells_con : Con := con [.one (.fl .pfx), .one (.fl .pfx), .one (.fl .str)] [.one (.fl .bool)] (fun x => law_PrefixTells_t x.1 x.2.1 x.2.2.1)
theorem law_PrefixTells_ok : TrOk Tryz.prog 3 law_PrefixTells_con := by
 have h : loopsOf (codeOf Tryz.f3) = [] := by kernel_rfl
 refine con_ok law_PrefixTells_envOk Tryz.func3 (bodyOk h lsNil) _ _ _ (fun x => ?_)
 exact law_PrefixTells_key prefix_Print_t prefix_Parse_t prefix_Has_t prefix_Ends_t prefix_Halves_t prefix_Whole_t R_CheckPrefix_t R_PrefixText_t R_LastOf_t R_Bits_t R_HalvesOf_t R_WholeOf_t R_PrefixOf_t law_prefixBegun_t zq7 R_HasPrefix_t x
end Go.Proofs.YthoipikkaelohaaGreatDoor
namespace Go.Ma
open Go
theorem laidVars_reads {P : Program} {w : World} : ∀ {l : List (String × DataW Unit)} {ps : List MemPlace}, DataW.LaidVars P w l ps → ∀ n d, (n, d) ∈ l → ∃ g t cs fuel p, P.globalNamed n = some g ∧ (P.globals[g]?).map (·.type) = some t ∧ w.var? P n = some cs ∧ DataW.trod (fun _ => ()) P w 0 (fun _ => true) false fuel t cs.toList = some (d, p)
 | [], _, _, _, _, hm => by cases hm
 | (n', d') :: r, ps, h, n, d, hm => by
  obtain ⟨g, t, cs, fuel, p, q, h1, h2, h3, h4, h5, _⟩ := h
  rcases List.mem_cons.1 hm with e | e
  ·cases e
   exact ⟨g, t, cs, fuel, p, h1, h2, h3, h4⟩
  ·exact laidVars_reads h5 n d e
theorem heap_of_var {P : Program} {w : World} {n : String} {g : Nat} {cs : Array Value} (hg : P.globalNamed n = some g) (h : w.var? P n = some cs) : ∃ t z, w.heap[g]? = some (.cells cs t z) := by
 unfold World.var? at h
 rw [hg, Option.bind_some] at h
 split at h
 ·rename_i c t z hh
  injection h with h
  exact ⟨t, z, by rw [hh, h]⟩
 ·cases h
def numB (P : Program) (n : String) : Bool := match P.globalNamed n with
 | none => true
 | some g => match ((begin P (fun _ _ => 0) default).world.heap[g]?).bind Obj.row? with
  | some (zero, t) => decide (g < P.globals.size) && zero.size == 1 && P.buildable t && (match P.cellTypes P.depth t with | some [u] => u == t | _ => false) && (match P.underlying t with | some (.int k) => (match k with | .i64 => true | _ => false) | _ => false)
  | none => false
theorem num_of_B {P : Program} {w : World} (hS : w.ShapedOpen P) {n : String} (h : numB P n = true) {g : Nat} (hg : P.globalNamed n = some g) : ∃ m, w.cell? ⟨g, 0, none⟩ = some (.int .i64 m) := by
 unfold numB at h
 rw [hg] at h
 simp only at h
 split at h
 ·rename_i zero t hz
  simp only [Bool.and_eq_true, decide_eq_true_eq, beq_iff_eq] at h
  obtain ⟨⟨⟨⟨h1, h2⟩, h3⟩, h4⟩, h5⟩ := h
  split at h4
  ·rename_i u hu
   have h4 := eq_of_beq h4
   subst h4
   split at h5
   ·rename_i k hk
    split at h5
    ·exact Go.Proofs.cell_of_shapedOpen_int hS h1 hz h2 h3 hu hk
    ·cases h5
   ·cases h5
  ·cases h4
 ·cases h
def errB (P : Program) (laid : List (String × DataW Unit)) (n : String) : Bool := match P.globalNamed n with
 | none => true
 | some g => (laid.any fun x => x.1 == n && (match x.2 with | .iface _ (.ptr _) => true | _ => false)) && (match (P.globals[g]?).map (·.type) with | some t => (match P.underlying t with | some (.interface _) => true | _ => false) | none => false)
theorem err_of_B {P : Program} {w : World} {laid : List (String × DataW Unit)} (hL : laidMet P laid w) {n : String} (h : errB P laid n = true) {g : Nat} (hg : P.globalNamed n = some g) : ∃ ev, w.cell? ⟨g, 0, none⟩ = some ev ∧ (ev = .nilIface ∨ ∃ te pe, ev = .iface te pe) := by
 unfold errB at h
 rw [hg] at h
 simp only [Bool.and_eq_true, List.any_eq_true, beq_iff_eq] at h
 obtain ⟨⟨⟨n', d⟩, hm, rfl, hd⟩, ht⟩ := h
 obtain ⟨ps, hv, _⟩ := hL
 obtain ⟨g', t, cs, fuel, p, h1, h2, h3, h4⟩ := laidVars_reads hv _ _ hm
 obtain rfl := Option.some.inj (hg.symm.trans h1)
 rw [h2] at ht
 simp only at ht
 split at ht
 ·rename_i ms hi
  simp only at hd
  split at hd
  ·obtain ⟨f1, u, v, hcs, _⟩ := iface_of_trod hi h4
   obtain ⟨t', z, hh⟩ := heap_of_var h1 h3
   refine ⟨.iface u v, ?_, .inr ⟨_, _, rfl⟩⟩
   obtain ⟨l⟩ := cs
   simp only at hcs
   subst hcs
   simp [World.cell?, hh]
  ·cases hd
 ·cases ht
def tabGo (k : IntKind) : List (DataW Unit) → List Int → Bool
 | [], [] => true
 | .lit (.int k' z') :: l, z :: zs => decide (k' = k) && decide (z' = z) && tabGo k l zs
 | _, _ => false
theorem tabGo_eq (k : IntKind) : ∀ (l : List (DataW Unit)) (zs : List Int), tabGo k l zs = true → l = zs.map fun z => .lit (.int k z)
 | [], [], _ => rfl
 | [], _ :: _, h => by simp [tabGo] at h
 | d :: l, [], h => by cases d with
  | lit x => cases x <;> simp [tabGo] at h
  | _ => simp [tabGo] at h
 | d :: l, z :: zs, h => by
  cases d with
  | lit x => cases x with
   | int k' z' =>
    simp only [tabGo, Bool.and_eq_true, decide_eq_true_eq] at h
    obtain ⟨⟨rfl, rfl⟩, h⟩ := h
    rw [tabGo_eq _ l zs h]
    rfl
   | _ => simp [tabGo] at h
  | _ => simp [tabGo] at h
def tabB (P : Program) (laid : List (String × DataW Unit)) (n : String) (k : IntKind) (zs : List Int) : Bool := match P.globalNamed n with
 | none => true
 | some g => (laid.any fun x => x.1 == n && (match x.2 with | .agg l => tabGo k l zs | _ => false)) && (match (P.globals[g]?).map (·.type) with | some t => (match P.underlying t with | some (.array m e) => decide (P.cellsOf t = m) && decide (P.cellsOf e = 1) && (match P.underlying e with | some (.int k') => decide (k' = k) | _ => false) | _ => false) | none => false)
theorem tab_of_B {P : Program} {w : World} {laid : List (String × DataW Unit)} (hL : laidMet P laid w) {n : String} {k : IntKind} {zs : List Int} (h : tabB P laid n k zs = true) {g : Nat} (hg : P.globalNamed n = some g) : ∃ t z, w.heap[g]? = some (.cells (zs.map (Value.int k)).toArray t z) := by
 unfold tabB at h
 rw [hg] at h
 simp only [Bool.and_eq_true, List.any_eq_true, beq_iff_eq] at h
 obtain ⟨⟨⟨n', d⟩, hm, rfl, hd⟩, ht⟩ := h
 obtain ⟨ps, hv, _⟩ := hL
 obtain ⟨g', t, cs, fuel, p, h1, h2, h3, h4⟩ := laidVars_reads hv _ _ hm
 obtain rfl := Option.some.inj (hg.symm.trans h1)
 rw [h2] at ht
 simp only at ht
 split at ht
 ·rename_i m e hu
  simp only [Bool.and_eq_true, decide_eq_true_eq] at ht
  obtain ⟨⟨hc, he⟩, hk⟩ := ht
  split at hk
  ·rename_i k' hk'
   have hk := of_decide_eq_true hk
   subst hk
   simp only at hd
   split at hd
   ·rename_i l
    have := tabGo_eq _ _ _ hd
    subst this
    have := Lib.cells_of_tab hu hk' he hc h4
    obtain ⟨t', z, hh⟩ := heap_of_var h1 h3
    exact ⟨t', z, by rw [hh]; congr 1; rw [← this]⟩
   ·cases hd
  ·cases hk
 ·cases ht
theorem cells_of_stab {H : Type} {enc : TypeId × Value → H} {P : Program} {w : World} {base : Nat} {sp : Nat → Bool} {held : Bool} {fuel : Nat} {t e : TypeId} {n : Nat} {cs : List Value} {zs : List ByteArray} {p : List MemPlace}
  (ht : P.underlying t = some (.array n e)) (he : P.underlying e = some .string) (hce : P.cellsOf e = 1) (hct : P.cellsOf t = n)
  (h : DataW.trod enc P w base sp held fuel t cs = some (.agg (zs.map fun z => .lit (.string z.data.toList)), p)) : cs = zs.map Value.string := by
 cases fuel with
 | zero => simp [DataW.trod] at h
 | succ fuel =>
  simp only [DataW.trod, ht, hce, hct, Nat.mul_one] at h
  split at h
  ·rename_i hl
   obtain ⟨xs, hm, hx⟩ := Option.map_eq_some_iff.1 h
   have hxs : xs.map (·.1) = zs.map fun z => (DataW.lit (.string z.data.toList) : DataW H) := by
    have := congrArg Prod.fst hx
    simpa using this
   have hxl : xs.length = n := by simpa using Lib.mapM_length hm
   have hzl : zs.length = n := by
    have := congrArg List.length hxs
    simp at this
    omega
   apply List.ext_getElem?
   intro i
   by_cases hi : i < n
   ·obtain ⟨b, hb, hf⟩ := Lib.mapM_at hm i i (by simp [hi])
    obtain ⟨z, hc, rfl, _⟩ := DataW.trod_string he hf
    have h1 : cs[i]? = some (.string z) := by
     have := congrArg (·[0]?) hc
     simpa [List.getElem?_take, List.getElem?_drop] using this
    have h2 : (xs.map (·.1))[i]? = some (DataW.lit (.string z.data.toList) : DataW H) := by simp [hb]
    rw [hxs] at h2
    simp only [List.getElem?_map, Option.map_eq_some_iff, DataW.lit.injEq, Lit.string.injEq] at h2
    obtain ⟨z', hz', hzz⟩ := h2
    have : z' = z := by
     apply ByteArray.ext
     exact Array.toList_inj.1 hzz
    subst this
    simp [h1, hz']
   ·rw [List.getElem?_eq_none (by omega), List.getElem?_eq_none (by simp; omega)]
  ·cases h
def stabGo : List (DataW Unit) → List ByteArray → Bool
 | [], [] => true
 | .lit (.string b) :: l, z :: zs => decide (b = z.data.toList) && stabGo l zs
 | _, _ => false
theorem stabGo_eq : ∀ (l : List (DataW Unit)) (zs : List ByteArray), stabGo l zs = true → l = zs.map fun z => .lit (.string z.data.toList)
 | [], [], _ => rfl
 | [], _ :: _, h => by simp [stabGo] at h
 | d :: l, [], h => by cases d with
  | lit x => cases x <;> simp [stabGo] at h
  | _ => simp [stabGo] at h
 | d :: l, z :: zs, h => by
  cases d with
  | lit x => cases x with
   | string b =>
    simp only [stabGo, Bool.and_eq_true, decide_eq_true_eq] at h
    obtain ⟨rfl, h⟩ := h
    rw [stabGo_eq l zs h]
    rfl
   | _ => simp [stabGo] at h
  | _ => simp [stabGo] at h
def stabB (P : Program) (laid : List (String × DataW Unit)) (n : String) (zs : List ByteArray) : Bool := match P.globalNamed n with
 | none => true
 | some g => (laid.any fun x => x.1 == n && (match x.2 with | .agg l => stabGo l zs | _ => false)) && (match (P.globals[g]?).map (·.type) with | some t => (match P.underlying t with | some (.array m e) => decide (P.cellsOf t = m) && decide (P.cellsOf e = 1) && (match P.underlying e with | some .string => true | _ => false) | _ => false) | none => false)
theorem stab_of_B {P : Program} {w : World} {laid : List (String × DataW Unit)} (hL : laidMet P laid w) {n : String} {zs : List ByteArray} (h : stabB P laid n zs = true) {g : Nat} (hg : P.globalNamed n = some g) : ∃ t z, w.heap[g]? = some (.cells (zs.map Value.string).toArray t z) := by
 unfold stabB at h
 rw [hg] at h
 simp only [Bool.and_eq_true, List.any_eq_true, beq_iff_eq] at h
 obtain ⟨⟨⟨n', d⟩, hm, rfl, hd⟩, ht⟩ := h
 obtain ⟨ps, hv, _⟩ := hL
 obtain ⟨g', t, cs, fuel, p, h1, h2, h3, h4⟩ := laidVars_reads hv _ _ hm
 obtain rfl := Option.some.inj (hg.symm.trans h1)
 rw [h2] at ht
 simp only at ht
 split at ht
 ·rename_i m e hu
  simp only [Bool.and_eq_true, decide_eq_true_eq] at ht
  obtain ⟨⟨hc, he⟩, hk⟩ := ht
  split at hk
  ·rename_i hk'
   simp only at hd
   split at hd
   ·rename_i l
    have := stabGo_eq _ _ hd
    subst this
    have := cells_of_stab hu hk' he hc h4
    obtain ⟨t', z, hh⟩ := heap_of_var h1 h3
    exact ⟨t', z, by rw [hh]; congr 1; rw [← this]⟩
   ·cases hd
  ·cases hk
 ·cases ht
def globB (P : Program) (laid : List (String × DataW Unit)) : Bool := numB P "internal/bytealg.MaxLen" && errB P laid "strconv.ErrSyntax" && errB P laid "strconv.ErrRange" && tabB P laid "internal/strconv.uint64pow10" .u64 pow10s && tabB P laid "math/bits.deBruijn64tab" .u8 places64 && stabB P laid "yardarm/text.words" wordsL
theorem Glob.of_B {P : Program} {w : World} {laid : List (String × DataW Unit)} (hS : w.ShapedOpen P) (hL : laidMet P laid w) (h : globB P laid = true) : Glob P w := by
 simp only [globB, Bool.and_eq_true] at h
 obtain ⟨⟨⟨⟨⟨h1, h2⟩, h3⟩, h4⟩, h5⟩, h6⟩ := h
 refine ⟨fun g hg => num_of_B hS h1 hg, fun n g hn hg => ?_, fun g hg => tab_of_B hL h4 hg, fun g hg => tab_of_B hL h5 hg, fun g hg => stab_of_B hL h6 hg⟩
 rcases hn with rfl | rfl
 ·exact err_of_B hL h2 hg
 ·exact err_of_B hL h3 hg
end Go.Ma
namespace Go.Proofs.YthoipikkaelohaaGreatDoor.prefixTells
open Go Go.Ma Go.ChangeShapes Go.WideShapes Go.ChangeAt Go.RowKit
set_option linter.unusedVariables false
theorem own : ownKnob Tryz.prog.godebug = none := by kernel_rfl
theorem laidOut : laidOutB Tryz.prog = true := by kernel_rfl
theorem one {H : Type} (d : DataW H) : 1 ≤ Rows.uptoBulk d := by
 cases d with
 | lit l => cases l <;> simp [Rows.uptoBulk]
 | _ => simp [Rows.uptoBulk]
theorem len {H : Type} : ∀ l : List (DataW H), l.length ≤ Rows.uptoBulkAll l
 | [] => Nat.zero_le _
 | d :: r => by
  have h1 := one d
  have h2 := len r
  simp only [Rows.uptoBulkAll, List.length_cons]
  omega
theorem part {H : Type} {d : DataW H} : ∀ {l : List (DataW H)}, d ∈ l → Rows.uptoBulk d ≤ Rows.uptoBulkAll l
 | e :: r, h => by
  simp only [Rows.uptoBulkAll]
  rcases List.mem_cons.1 h with rfl | h
  ·omega
  ·have := part h
   omega
theorem small {H : Type} : Small (H := H) 1048576 (fun d => Rows.uptoBulk d ≤ 1048576) := by
 refine ⟨fun es sp _ h => ?_, fun l q hq h => ?_, fun es sp q hq h => ?_, fun s _ h => ?_⟩
 ·have h1 := len es
  simp only [Rows.uptoBulk] at h
  omega
 ·have h1 := part hq
  simp only [Rows.uptoBulk] at h
  omega
 ·have h1 := part hq
  simp only [Rows.uptoBulk] at h
  omega
 ·simp only [Rows.uptoBulk] at h
  omega
theorem plainly : ∀ x, PsIn [.one (.fl .pfx), .one (.fl .pfx), .one (.fl .str)] x → PsLe 1048576 [.one (.fl .pfx), .one (.fl .pfx), .one (.fl .str)] x → (fun x => law_PrefixTells_t x.1 x.2.1 x.2.2.1) x = some ((true : Bool), ()) := fun x hx hl => PrefixTells_eq hx.1 hx.2.1 hl.2.2.1
set_option maxRecDepth 100000 in
/-- What the walk gives. -/
theorem contract (H : Type) (enc : TypeId × Value → H) (W : World) (base : Nat) (args : Array Value) (ds gs : List (DataW H)) (before : List MemPlace)
  (hval : ∀ (j : Nat) t v, Tryz.f3.params[j]? = some t → args[j]? = some v → Value.okWide Tryz.prog W .any base t v)
  (hW : DataW.Whole enc Tryz.prog Tryz.f3.params.toList Rows.prefixTellsSpec.vars false W args.toList ds gs before) (hk : Rows.uptoSmall H (ds ++ gs) = true) (hG : Glob Tryz.prog W) :
  Calls Tryz.prog 3 args W fun e W' => ∃ v, e = .returned v ∧ Rows.prefixTellsSpec.post enc Tryz.prog Tryz.f3 false true false false W args v W' := by
 have hW' := hW
 obtain ⟨p, q, hA0, hV, rfl, hfz, hnd⟩ := hW
 have hA : DataW.TrodAll enc Tryz.prog W 0 (fun _ => true) true Tryz.f3.params.toList args.toList ds p := hA0
 rw [Tryz.params3] at hA hval
 have hA2 := hA
 obtain ⟨v0, vs0, d0, ds0, p0, q0, hargs, rfl, rfl, h0, r0⟩ := trodAll_cons hA
 obtain ⟨v1, vs1, d1, ds1, p1, q1, rfl, rfl, rfl, h1, r1⟩ := trodAll_cons r0
 obtain ⟨v2, vs2, d2, ds2, p2, q2, rfl, rfl, rfl, h2, r2⟩ := trodAll_cons r1
 obtain ⟨rfl, rfl, rfl⟩ := trodAll_nil r2
 obtain rfl : args = #[v0, v1, v2] := by cases args; simp_all
 obtain ⟨rfl, rfl⟩ := trodVars_none hV
 have hb : Rows.uptoBulkAll ([d0, d1, d2] ++ []) ≤ 1048576 := of_decide_eq_true hk
 rw [List.append_nil] at hb
 have call := law_calls_le (enc := enc) small hG law_PrefixTells_ok plainly (fun x => rfl) (fun x => rfl) (ts := [26, 26, 9]) (vs := [v0, v1, v2]) (by kernel_rfl) (fun j t v h1 h2 => hval j t v (by simpa using h1) (by simpa using h2)) hA2 (fun d hd => Nat.le_trans (part hd) hb)
 refine call.mono fun e W' ⟨he, bel⟩ => ?_
 subst he
 exact ⟨_, rfl, _, _, _, [], _, [], hW', trodAll_mk1 (shut_bool Tryz.underlying4 _), all_back laidOut bel _ _ _ _ (by kernel_rfl) hA2, rfl, bel.frame _, fun h => by cases h⟩
mutual
def flat : DataW Unit → List Value
 | .lit (.int k x) => [.int k x]
 | .lit (.string b) => [.string ⟨b.toArray⟩]
 | .agg l => flats l
 | _ => []
def flats : List (DataW Unit) → List Value
 | [] => []
 | d :: r => flat d ++ flats r
end
noncomputable def low : Nat := (World.holding Tryz.prog default ⟨#[], #[], []⟩).heap.size
noncomputable def laidWorld (os : Os) : World :=
 let w0 := World.holding Tryz.prog os ⟨#[.cells #[.string ⟨#[118, 97, 108, 117, 101, 32, 111, 117, 116, 32, 111, 102, 32, 114, 97, 110, 103, 101]⟩] 146, .cells #[.string ⟨#[105, 110, 118, 97, 108, 105, 100, 32, 115, 121, 110, 116, 97, 120]⟩] 146], #[], []⟩
 {w0 with heap := (((((((w0.heap.modify 4 fun | .cells _ t frozen => .cells (flat Rows.laid_math_bits_deBruijn32tab).toArray t frozen | o => o).modify 5 fun | .cells _ t frozen => .cells (flat Rows.laid_math_bits_deBruijn64tab).toArray t frozen | o => o).modify 3 fun | .cells _ t frozen => .cells (flat Rows.laid_internal_strconv_uint64pow10).toArray t frozen | o => o).modify 7 fun | .cells _ t frozen => .cells (flat Rows.laid_unicode_utf8_acceptRanges).toArray t frozen | o => o).modify 2 fun | .cells _ t frozen => .cells #[.iface 144 (.pointer (some ⟨low + 0, 0, none⟩))] t frozen | o => o).modify 1 fun | .cells _ t frozen => .cells #[.iface 144 (.pointer (some ⟨low + 1, 0, none⟩))] t frozen | o => o).modify 6 fun | .cells _ t frozen => .cells (flat Rows.laid_unicode_utf8_first).toArray t frozen | o => o) }
theorem laid_met (os : Os) (args : Array Value) : laidMet Tryz.prog Rows.prefixTellsUptoRow.laid ((laidWorld os).forCall (fun _ _ => 0) ⟨#[], args, []⟩).memory :=
 laidMet_of_run' 8 (by kernel_rfl) (by kernel_rfl)
theorem reads (os : Os) {H : Type} (enc : TypeId × Value → H) : ∃ places, DataW.whole enc Tryz.prog ((laidWorld os).forCall (fun _ _ => 0) ⟨#[], #[.agg #[.bool false, .int .u64 0, .int .u64 0, .int .i64 0], .agg #[.bool false, .int .u64 0, .int .u64 0, .int .i64 0], .string ByteArray.empty], []⟩).memory Tryz.f3.params.toList Rows.prefixTellsSpec.vars false (#[.agg #[.bool false, .int .u64 0, .int .u64 0, .int .i64 0], .agg #[.bool false, .int .u64 0, .int .u64 0, .int .i64 0], .string ByteArray.empty] : Array Value).toList 8 = some ([.agg [.agg [.lit (.bool false), .lit (.int .u64 0), .lit (.int .u64 0)], .lit (.int .i64 0)], .agg [.agg [.lit (.bool false), .lit (.int .u64 0), .lit (.int .u64 0)], .lit (.int .i64 0)], .lit (.string [])], [], places) :=
 ⟨[], by kernel_rfl⟩
set_option maxRecDepth 100000 in
theorem lifted (os : Os) (started : os.Started) (H : Type) (enc : TypeId × Value → H) (F : Stop.Interp) :
  ReturnsInHanded {} Tryz.checked os 3 .any ((Rows.OpenSpec.upto Rows.prefixTellsSpec).preRow enc Tryz.prog Tryz.f3 Rows.prefixTellsUptoRow.domain false Rows.prefixTellsUptoRow.laid) (((Rows.OpenSpec.upto Rows.prefixTellsSpec).at F).post enc Tryz.prog Tryz.f3 false true false false) := by
 obtain ⟨places, hx⟩ := reads os enc
 refine returnsInHanded_of_row (C := Tryz.checked) (s := Rows.OpenSpec.upto Rows.prefixTellsSpec) own started (by kernel_rfl) Tryz.func3
  (witness_row_at (enc := enc) (C := Tryz.checked) false (laidWorld os) #[.agg #[.bool false, .int .u64 0, .int .u64 0, .int .i64 0], .agg #[.bool false, .int .u64 0, .int .u64 0, .int .i64 0], .string ByteArray.empty] rfl (by kernel_rfl) (by kernel_rfl) (by kernel_rfl)
   (OpenSpec.preRow_of_cond 8 hx (by kernel_rfl) (fun k hk => by cases hk; kernel_rfl) (by kernel_rfl) (laid_met os _))) ?_
 intro W base args ds gs before hval hW _ hcond _ hL hS _
 have hL2 : laidMet Tryz.prog Rows.prefixTellsUptoRow.laid W := by rw [← MakeChecks.laidMetH_plain _ _ _ (by kernel_rfl)]; exact hL
 exact contract H enc W base args ds gs before hval hW (hcond _ rfl) (Glob.of_B hS hL2 (by kernel_rfl))
theorem said : Rows.PrefixTellsUptoSaid :=
 OpenClaim.holds_of_cond 3 Tryz.f3 rfl rfl rfl rfl rfl rfl rfl ⟨rfl, rfl, rfl, rfl, rfl⟩ rfl rfl rfl rfl rfl (by kernel_rfl) Tryz.func3 (by kernel_rfl)
  (of_decide_eq_true (by kernel_rfl)) (by unfold Func.isWrapper; first | (rw [if_pos (by decide +kernel)]; kernel_rfl) | (rw [if_neg (by decide +kernel)]; exact ⟨rfl, rfl⟩))
  (fun os started H enc _ F => by rw [OpenClaim.pre_eq_preRow]; exact lifted os started H enc F)
theorem plain (f : FuncId) (fn : Func) (hf : Tryz.pinned.checked.prog.funcNamed "yardarm/yardarmlaw.PrefixTells" = some f) (hfn : Tryz.pinned.checked.prog.funcs[f]? = some fn) :
  true = Tryz.pinned.checked.prog.looks [] ∧ ∀ (j : Nat) t, fn.params[j]? = some t → Tryz.pinned.checked.prog.wantsStandIn t = false := by
 obtain rfl : f = 3 := Option.some.inj ((show Tryz.prog.funcNamed "yardarm/yardarmlaw.PrefixTells" = some 3 by kernel_rfl).symm.trans hf) |>.symm
 obtain rfl : fn = Tryz.f3 := (Option.some.inj (Tryz.func3.symm.trans hfn)).symm
 refine ⟨by kernel_rfl, fun j t ht => ?_⟩
 rw [Tryz.params3] at ht
 have hm := Array.mem_of_getElem? ht
 have hm2 : t = 26 ∨ t = 26 ∨ t = 9 := by simpa using hm
 rcases hm2 with rfl | rfl | rfl
 ·exact (show Tryz.prog.wantsStandIn 26 = false by kernel_rfl)
 ·exact (show Tryz.prog.wantsStandIn 26 = false by kernel_rfl)
 ·exact (show Tryz.prog.wantsStandIn 9 = false by kernel_rfl)
theorem card : Rows.PrefixTellsUptoCardSaid :=
 Claim7.holds_tied_plain_at .later [] _ _ _ _ said (fun _ h => by cases h) (by kernel_rfl) (fun _ h => by cases h) prefixTellsUpto_row_tie rfl ⟨rfl, rfl⟩ (by kernel_rfl) rfl plain (by kernel_rfl)
end Go.Proofs.YthoipikkaelohaaGreatDoor.prefixTells
namespace Go.Proofs.YthoipikkaelohaaGreatDoor
theorem prefixTells_said : Rows.PrefixTellsUptoCardSaid := prefixTells.card
end Go.Proofs.YthoipikkaelohaaGreatDoor
