/-
  A parser of addresses gives up by a panic: its inner functions, with both ends, by hand.
-/
import Derived.Test.YtihapikjcifbaaaDoorQe
import Derived.Test.YtihapikjcifbaaaDoorQk
import Derived.Test.YtihapikjcifbaaaDoorQb
import Derived.Maps.OwnRows
import Derived.Maps.AppendAt
import Derived.Maps.GroupsBeside
import Derived.Deep.Onto
namespace Go.Proofs.YtihapikjcifbaaaDoor
open Go Go.Ma Go.RowKit Go.Proofs

/-- What a parser gives up with. -/
def badE : PanicEntry := { v := .iface 62 (.agg #[]), recovered := false }
def EndU (o : Option Int) (e : Ending) : Prop := match o with
  | some v => e = .returned (.int .u64 v)
  | none => e = .panicked [badE]
theorem endU_some {o : Option Int} {v : Int} (h : o = some v) : EndU o (.returned (.int .u64 v)) := by rw [h]; rfl
theorem endU_none {o : Option Int} (h : o = none) : EndU o (.panicked [badE]) := by rw [h]; rfl

set_option maxRecDepth 100000 in
set_option maxHeartbeats 4000000 in
theorem part_walk (s : ByteArray) (b digits most : Int) (hb : b = 10 ∨ b = 16) (hs : s.size ≤ 281474976710656) (w : World) (hG : Glob Tryd.prog w) :
    Calls Tryd.prog 51 #[.string s, .int .i64 b, .int .i64 digits, .int .u64 most] w fun e w' => EndU (partF s b digits most) e ∧ Below w.heap.size w w' := by
  have hcv := fun w s => Lib.run_convert_string_bytes (P := Tryd.prog) w 9 49 5 s Tryd.underlying9 Tryd.underlying49 Tryd.underlying5
  have HP : Hid (∀ W, Glob Tryd.prog W → Calls Tryd.prog 61 #[.string s, .int .i64 b, .int .i64 32] W fun e w' => NumEnd (numU b s) e ∧ Below W.heap.size W w') := fun W hg => by
    rcases hb with rfl | rfl
    · exact decPublic s hs W hg
    · exact hexPublic s hs W hg
  have hb10 : b = 10 ∨ ¬ b = 10 := by omega
  go_enter Tryd.func51, Tryd.ntmps51
  go_wp2
  obtain ⟨cap, hcap⟩ : ∃ cap, cap = grownCap w s.size 0 5 := ⟨_, rfl⟩
  rw [← hcap]
  obtain ⟨w1, hw1⟩ : ∃ w1, w1 = Lib.bytesWorld w 5 s := ⟨_, rfl⟩
  rw [← hw1]
  have HC : Hid (∀ k, k < s.size → w1.cell? ⟨w.heap.size, k, none⟩ = some (.int .u8 ((s.data.toList.getD k 0).toNat : Int))) := fun k hk => by rw [hw1]; exact Lib.bytesWorld_cell _ _ _ _ hk
  have hb1 : Below w.heap.size w w1 := by rw [hw1]; exact Lib.bytesWorld_below _ _ _
  have HA : Hid (∀ k, k < 0 → plainB (s.data.toList.getD k 0) = true) := fun k hk => absurd hk (by omega)
  clear hcv hw1 hcap hb
  go_loopw [16] (fun i wr => ∃ k : Nat, k ≤ s.size ∧ i = .int .i64 k ∧ Hid (∀ k, k < s.size → wr.cell? ⟨w.heap.size, k, none⟩ = some (.int .u8 ((s.data.toList.getD k 0).toNat : Int))) ∧ Hid (∀ j, j < k → plainB (s.data.toList.getD j 0) = true) ∧ Below w.heap.size w wr) (fun i _ => s.size - (intOf i).toNat)
  case atStart => exact ⟨0, Nat.zero_le _, rfl, HC, HA, hb1⟩
  case round =>
    clear HC hb1 HA
    obtain ⟨k, hk, rfl, HC, HA, hb1⟩ := hrel
    by_cases hlt : k < s.size
    · have cB := HC.out k hlt
      have hgd : s.data.toList.getD k 0 ∈ s.data.toList := by
        rw [List.getD_eq_getElem?_getD, List.getElem?_eq_getElem (by simpa using hlt)]
        exact List.getElem_mem _
      have hltI : (k : Int) < (s.size : Int) := by omega
      by_cases hpl : plainB (s.data.toList.getD k 0) = true
      · have HA' : Hid (∀ j, j < k + 1 → plainB (s.data.toList.getD j 0) = true) := Lib.hid (fun j hj => by
          by_cases hjk : j = k
          · rw [hjk]; exact hpl
          · exact HA.out j (by omega))
        generalize s.data.toList.getD k 0 = c at cB hpl
        have n1 : ((c.toNat : Int) == 43) = false := by
          rw [beq_eq_false_iff_ne]; intro e
          have : c = 43 := UInt8.toNat_inj.1 (by show c.toNat = 43; omega)
          subst this; revert hpl; decide
        have n2 : ((c.toNat : Int) == 45) = false := by
          rw [beq_eq_false_iff_ne]; intro e
          have : c = 45 := UInt8.toNat_inj.1 (by show c.toNat = 45; omega)
          subst this; revert hpl; decide
        have n3 : ((c.toNat : Int) == 95) = false := by
          rw [beq_eq_false_iff_ne]; intro e
          have : c = 95 := UInt8.toNat_inj.1 (by show c.toNat = 95; omega)
          subst this; revert hpl; decide
        clear hpl hgd
        go_wp2
        exact ⟨⟨k + 1, by omega, by go_num, HC, HA', hb1⟩, by simp [intOf]; omega⟩
      · have hnone : partF s b digits most = none := by
          unfold partF
          rw [if_neg (fun h => hpl ((List.all_eq_true.1 h) _ hgd))]
        generalize s.data.toList.getD k 0 = c at cB hpl
        have hc3 : c = 43 ∨ c = 45 ∨ c = 95 := by
          unfold plainB at hpl
          simp only [Bool.and_eq_true, Bool.not_eq_true', beq_eq_false_iff_ne, not_and, Decidable.not_not, ne_eq] at hpl
          by_cases h1 : c = 43
          · exact .inl h1
          · by_cases h2 : c = 45
            · exact .inr (.inl h2)
            · exact .inr (.inr (hpl ⟨h1, h2⟩))
        clear hpl hgd HA HC
        rcases hc3 with rfl | rfl | rfl
        · go_wp2
          exact ⟨rfl, endU_none hnone, hb1⟩
        · go_wp2
          exact ⟨rfl, endU_none hnone, hb1⟩
        · go_wp2
          exact ⟨rfl, endU_none hnone, hb1⟩
    · have hkn : k = s.size := by omega
      subst hkn
      have hall : s.data.toList.all plainB = true := by
        rw [List.all_eq_true]
        intro c hc
        obtain ⟨j, hj⟩ := List.mem_iff_getElem?.1 hc
        have hjl := (List.getElem?_eq_some_iff.1 hj).1
        have := HA.out j (by simpa using hjl)
        rw [List.getD_eq_getElem?_getD, hj] at this
        exact this
      clear HC HA
      have hp0 : partF s b digits most = match numU b s with | none => none | some u => if digits < s.size ∨ most < u ∨ (b = 10 ∧ 1 < s.size ∧ s.data.toList.head? = some 48) then none else some (u : Int) := by
        unfold partF
        rw [if_pos hall]
        rfl
      cases hu : numU b s with
      | none =>
        rw [hu] at hp0 HP
        go_wp2_with (go_at_call 61; refine (HP.out _ (hG.mono hb1)).mono ?_; rintro e w2 ⟨⟨u, ev, rfl, te, pe, rfl⟩, hb2⟩)
        exact ⟨rfl, endU_none hp0, hb1.trans (hb2.mono hb1.size)⟩
      | some n =>
        rw [hu] at hp0 HP
        simp only at hp0
        by_cases g1 : digits < (s.size : Int)
        · rw [if_pos (.inl g1)] at hp0
          have z1 : decide (digits < (s.size : Int)) = true := decide_eq_true g1
          go_wp2_with (go_at_call 61; refine (HP.out _ (hG.mono hb1)).mono ?_; rintro e w2 ⟨⟨u, ev, rfl, hue⟩, hb2⟩; obtain ⟨rfl, rfl⟩ := hue)
          exact ⟨rfl, endU_none hp0, hb1.trans (hb2.mono hb1.size)⟩
        have z1 : decide (digits < (s.size : Int)) = false := decide_eq_false g1
        by_cases g2 : most < (n : Int)
        · rw [if_pos (.inr (.inl g2))] at hp0
          have z2 : decide (most < (n : Int)) = true := decide_eq_true g2
          go_wp2_with (go_at_call 61; refine (HP.out _ (hG.mono hb1)).mono ?_; rintro e w2 ⟨⟨u, ev, rfl, hue⟩, hb2⟩; obtain ⟨rfl, rfl⟩ := hue)
          exact ⟨rfl, endU_none hp0, hb1.trans (hb2.mono hb1.size)⟩
        have z2 : decide (most < (n : Int)) = false := decide_eq_false g2
        rcases hb10 with rfl | g3
        rotate_left
        · rw [if_neg (by rintro (h | h | h); exact g1 h; exact g2 h; exact g3 h.1)] at hp0
          have z3 : (b == 10) = false := by rw [beq_eq_false_iff_ne]; exact g3
          go_wp2_with (go_at_call 61; refine (HP.out _ (hG.mono hb1)).mono ?_; rintro e w2 ⟨⟨u, ev, rfl, hue⟩, hb2⟩; obtain ⟨rfl, rfl⟩ := hue)
          go_ret
          exact ⟨endU_some hp0, hb1.trans (hb2.mono hb1.size)⟩
        by_cases g4 : 1 < s.size
        rotate_left
        · rw [if_neg (by rintro (h | h | h); exact g1 h; exact g2 h; exact g4 h.2.1)] at hp0
          have z4 : decide (1 < (s.size : Int)) = false := decide_eq_false (by omega)
          go_wp2_with (go_at_call 61; refine (HP.out _ (hG.mono hb1)).mono ?_; rintro e w2 ⟨⟨u, ev, rfl, hue⟩, hb2⟩; obtain ⟨rfl, rfl⟩ := hue)
          go_ret
          exact ⟨endU_some hp0, hb1.trans (hb2.mono hb1.size)⟩
        have z4 : decide (1 < (s.size : Int)) = true := decide_eq_true (by omega)
        have hsz : 0 < s.size := by omega
        have hh0 : s.data.toList.head? = some (s[0]'hsz) := by
          rw [List.head?_eq_getElem?, List.getElem?_eq_getElem (by simpa using hsz)]
          rfl
        rw [hh0] at hp0
        by_cases g5 : s[0]'hsz = 48
        · rw [if_pos (.inr (.inr ⟨rfl, g4, by rw [g5]⟩))] at hp0
          have z5 : (((s[0]'hsz).toNat : Int) == 48) = true := by rw [g5]; rfl
          go_wp2_with (go_at_call 61; refine (HP.out _ (hG.mono hb1)).mono ?_; rintro e w2 ⟨⟨u, ev, rfl, hue⟩, hb2⟩; obtain ⟨rfl, rfl⟩ := hue)
          exact ⟨rfl, endU_none hp0, hb1.trans (hb2.mono hb1.size)⟩
        · rw [if_neg (by rintro (h | h | h); exact g1 h; exact g2 h; exact g5 (Option.some.inj h.2.2))] at hp0
          have z5 : (((s[0]'hsz).toNat : Int) == 48) = false := by
            rw [beq_eq_false_iff_ne]
            intro e
            exact g5 (UInt8.toNat_inj.1 (by show (s[0]'hsz).toNat = 48; omega))
          go_wp2_with (go_at_call 61; refine (HP.out _ (hG.mono hb1)).mono ?_; rintro e w2 ⟨⟨u, ev, rfl, hue⟩, hb2⟩; obtain ⟨rfl, rfl⟩ := hue)
          go_ret
          exact ⟨endU_some hp0, hb1.trans (hb2.mono hb1.size)⟩
theorem splitOn_len (s : ByteArray) (c : UInt8) : (splitOn s c).length = Lib.countB s ⟨#[c]⟩ + 1 := Lib.splitB_all ⟨#[c]⟩ (Nat.le_refl _) 0 _ s rfl
theorem splitOn_le (s : ByteArray) (c : UInt8) : (splitOn s c).length ≤ s.size + 1 := by
  rw [splitOn_len]
  have := Lib.countB_le ⟨#[c]⟩ (Nat.le_refl _) s.size s (Nat.le_refl _)
  omega
theorem split_calls (s : ByteArray) (c : UInt8) (w : World) (hs : s.size < 4294967281) :
    Calls Tryd.prog 50 #[.string s, .string ⟨#[c]⟩] w fun e w' =>
      e = .returned (.slice (some ⟨w.heap.size, 0, none⟩) (splitOn s c).length (splitOn s c).length) ∧ Below w.heap.size w w' ∧ w.heap.size < w'.heap.size ∧ ∀ (k : Nat) x, (splitOn s c)[k]? = some x → w'.cell? ⟨w.heap.size, k, none⟩ = some (.string x) := by
  refine (split_one s c w hs).mono ?_
  rintro e w' ⟨rfl, rfl⟩
  have hl := splitOn_len s c
  refine ⟨by rw [hl], (Below.refl _ w).alloc (Nat.le_refl _) _, by simp, fun k x hx => ?_⟩
  have hn := heap_alloc_new w (.cells ((splitOn s c).map Value.string).toArray 9)
  show (w.alloc (.cells ((splitOn s c).map Value.string).toArray 9)).cell? _ = _
  unfold World.cell?
  simp only
  rw [hn]
  simp [hx]
theorem splitOn_sizes (s : ByteArray) (c : UInt8) : ∀ x ∈ splitOn s c, x.size ≤ s.size := by
  have key : ∀ (k : Nat) (s : ByteArray), ∀ x ∈ Lib.splitB ⟨#[c]⟩ 0 k s, x.size ≤ s.size := by
    intro k
    induction k with
    | zero => intro s x hx; simp only [Lib.splitB, List.mem_singleton] at hx; rw [hx]; exact Nat.le_refl _
    | succ k ih =>
      intro s x hx
      rw [Lib.splitB] at hx
      split at hx
      · simp only [List.mem_singleton] at hx; rw [hx]; exact Nat.le_refl _
      · rcases List.mem_cons.1 hx with rfl | hx
        · rw [ByteArray.size_extract]; omega
        · have := ih _ x hx
          rw [ByteArray.size_extract] at this
          omega
  exact key _ s
/-- The cells that lay lie as they lay. -/
theorem cells_stay {w w' : World} {b : Nat} {l : List ByteArray} (h : ∀ (k : Nat) x, l[k]? = some x → w.cell? ⟨b, k, none⟩ = some (.string x)) (hb : Below w.heap.size w w') : ∀ (k : Nat) x, l[k]? = some x → w'.cell? ⟨b, k, none⟩ = some (.string x) :=
  fun k x hx => cell_stays hb (h k x hx)

set_option maxRecDepth 100000 in
set_option maxHeartbeats 4000000 in
theorem four_walk (s : ByteArray) (hs : s.size ≤ 4294967200) (w : World) (hG : Glob Tryd.prog w) :
    Calls Tryd.prog 35 #[.string s] w fun e w' => EndU (fourF s) e ∧ Below w.heap.size w w' := by
  have HS := split_calls s 46 w (by omega)
  have hsz := splitOn_sizes s 46
  have hf : fourF s = if (splitOn s 46).length = 4 then fourL (splitOn s 46) 0 else none := rfl
  generalize splitOn s 46 = l at HS hsz hf
  rw [hf]
  clear hf
  have HS := Lib.hid HS
  go_enter Tryd.func35, Tryd.ntmps35
  by_cases h4 : l.length = 4
  rotate_left
  · have h4i : ((l.length : Int) == 4) = false := by rw [beq_eq_false_iff_ne]; omega
    rw [if_neg h4]
    go_wp2_with (go_at_call 50; refine HS.out.mono ?_; rintro e w1 ⟨rfl, hb1, hn1, hc1⟩)
    exact ⟨rfl, rfl, hb1⟩
  · rw [if_pos h4]
    have h4i : ((l.length : Int) == 4) = true := by rw [h4]; rfl
    go_wp2_with (go_at_call 50; refine HS.out.mono ?_; rintro e w1 ⟨rfl, hb1, hn1, hc1⟩)
    have HC : Hid (∀ (k : Nat) x, l[k]? = some x → w1.cell? ⟨w.heap.size, k, none⟩ = some (.string x)) := hc1
    clear hc1 HS
    go_loopw [4, 16] (fun vn vi wr => ∃ (k : Nat) (n : Int), vn = .int .u64 n ∧ vi = .int .i64 k ∧ k ≤ l.length ∧ Hid (fourL l 0 = fourL (l.drop k) n) ∧ Hid (∀ (k : Nat) x, l[k]? = some x → wr.cell? ⟨w.heap.size, k, none⟩ = some (.string x)) ∧ Below w.heap.size w wr ∧ w.heap.size < wr.heap.size) (fun _ vi _ => l.length - (intOf vi).toNat)
    case atStart => exact ⟨0, 0, rfl, rfl, Nat.zero_le _, Lib.hid rfl, HC, hb1, hn1⟩
    case round =>
      clear HC hb1 hn1
      obtain ⟨k, n, rfl, rfl, hk, HF, HC, hb1, hn1⟩ := hrel
      by_cases hlt : k < l.length
      · obtain ⟨x, hx⟩ : ∃ x, l[k]? = some x := ⟨_, List.getElem?_eq_getElem hlt⟩
        have cB := HC.out k x hx
        have hltI : (k : Int) < (l.length : Int) := by omega
        have hfx : fourL l 0 = match partF x 10 3 255 with | none => none | some u => fourL (l.drop (k + 1)) (aop .or .u64 (aop .shl .u64 n 8) u) := by
          rw [HF.out, List.drop_eq_getElem_cons hlt, (List.getElem?_eq_some_iff.1 hx).2]
          rfl
        have HP : Hid (∀ W, Below w.heap.size w W → Calls Tryd.prog 51 #[.string x, .int .i64 10, .int .i64 3, .int .u64 255] W fun e w' => EndU (partF x 10 3 255) e ∧ Below W.heap.size W w') := fun W hW =>
          part_walk x 10 3 255 (.inl rfl) (by have := hsz x (List.mem_of_getElem? hx); omega) W (hG.mono hW)
        cases hp : partF x 10 3 255 with
        | none =>
          rw [hp] at hfx HP
          have hfx : fourL l 0 = none := hfx
          go_wp2_with (go_at_call 51; refine (HP.out _ hb1).mono ?_; rintro e w2 ⟨he, hb2⟩; have he : e = .panicked [badE] := he; subst he)
          exact ⟨rfl, endU_none hfx, hb1.trans (hb2.mono hb1.size)⟩
        | some u =>
          rw [hp] at hfx HP
          simp only at hfx
          go_wp2_with (go_at_call 51; refine (HP.out _ hb1).mono ?_; rintro e w2 ⟨he, hb2⟩; have he : e = .returned (.int .u64 u) := he; subst he)
          exact ⟨⟨k + 1, _, rfl, by go_num, by omega, Lib.hid hfx, Lib.hid (cells_stay HC.out hb2), hb1.trans (hb2.mono hb1.size), Nat.lt_of_lt_of_le hn1 hb2.size⟩, by simp [intOf]; omega⟩
      · have hkn : k = l.length := by omega
        subst hkn
        have hfx : fourL l 0 = some n := by rw [HF.out, List.drop_length]; rfl
        go_wp2
        go_ret
        exact ⟨endU_some hfx, hb1⟩
theorem below_grown' {A C : World} (hb : Below A.heap.size A C) : A.grownBy C none := ⟨hb.os, hb.tape, hb.output, hb.size, fun k hk _ => hb.block k hk⟩
theorem infoU64 : (Tryd.prog.info? 22).map (fun i => (i.zero, i.size, i.bytes)) = some (some (.int .u64 0), 1, 8) := by kernel_rfl
theorem below_grownQ {N : Nat} {a w w1 : World} {row : Option Nat} (h : Below N a w) (hg : w.grownBy w1 row) (hr : ∀ b, row = some b → N ≤ b) (hN : N ≤ w.heap.size) : Below N a w1 :=
  ⟨hg.os.trans h.os, hg.tape.trans h.tape, hg.output.trans h.output, Nat.le_trans h.size hg.size, fun k hk => (hg.block k (Nat.lt_of_lt_of_le hk hN) (fun e => absurd (hr k e.symm) (by omega))).trans (h.block k hk)⟩
theorem cells_new (w : World) (cs : List Value) (t : TypeId) : ∀ (j : Nat) u, cs[j]? = some u → (w.alloc (.cells cs.toArray t)).cell? (Addr.add ⟨w.heap.size, 0, none⟩ j) = some u := fun j u hj => by
  have hn := heap_alloc_new w (.cells cs.toArray t)
  rw [Addr.add_lit]
  unfold World.cell?
  simp only
  rw [hn]
  simp [hj]
theorem own_block_ge {w : World} {base : Nat} {e : TypeId} {size : Nat} {v : Value} {n : Nat} {xs : List Value} (h : w.ownsRow base e size v n xs) : ∀ b, v.ownBlock = some b → base ≤ b := fun b hb => by
  obtain ⟨_, ⟨rfl, _⟩ | ⟨g, cap, cur, rfl, hg, _⟩⟩ := h
  · cases hb
  · cases hb; exact hg
def EndRow (base : Nat) (o : Option (List Int)) (e : Ending) (w' : World) : Prop := match o with
  | some l => ∃ v, e = .returned v ∧ w'.ownsRow base 22 1 v l.length (l.map (Value.int .u64))
  | none => e = .panicked [badE]
theorem someL_cons {last : Bool} {len : Nat} {l : List ByteArray} {k : Nat} {x : ByteArray} (hx : l[k]? = some x) (out : List Int) : someL last len (l.drop k) k out =
    if last = true ∧ k + 1 = len ∧ dotIn x = true then (match fourF x with | none => none | some n => someL last len (l.drop (k + 1)) (k + 1) (out ++ [n / 65536, aop .and .u64 n 65535]))
    else (match partF x 16 4 65535 with | none => none | some u => someL last len (l.drop (k + 1)) (k + 1) (out ++ [u])) := by
  obtain ⟨h1, h2⟩ := List.getElem?_eq_some_iff.1 hx
  rw [List.drop_eq_getElem_cons h1, h2]
  rfl
set_option maxRecDepth 100000 in
set_option maxHeartbeats 8000000 in
theorem some_walk (s : ByteArray) (last : Bool) (hs : s.size ≤ 4294967200) (w : World) (hG : Glob Tryd.prog w) :
    Calls Tryd.prog 49 #[.string s, .bool last] w fun e w' => EndRow w.heap.size (someF s last) e w' ∧ Below w.heap.size w w' := by
  obtain ⟨i0, hi, hz0, hz1, hz2⟩ := info_parts infoU64
  by_cases h0 : s.size = 0
  · have hse : s = ByteArray.empty := by
      cases s with | mk a =>
      have : a = #[] := Array.eq_empty_of_size_eq_zero h0
      rw [this]; rfl
    subst hse
    go_enter Tryd.func49, Tryd.ntmps49
    go_wp2
    go_ret
    exact ⟨⟨_, rfl, World.ownsRow_nil _ _ _ _⟩, Below.refl _ _⟩
  have hemp : s.toList.isEmpty = false := by
    rw [← decide_eq_emptyBytes]
    exact decide_eq_false (fun h => h0 (by rw [h]; rfl))
  have HS := split_calls s 58 w (by omega)
  have hsz := splitOn_sizes s 58
  have hle := splitOn_le s 58
  have hf : someF s last = someL last (splitOn s 58).length (splitOn s 58) 0 [] := by unfold someF; rw [if_neg h0]
  generalize splitOn s 58 = l at HS hsz hle hf
  rw [hf]
  clear hf
  have HS := Lib.hid HS
  go_enter Tryd.func49, Tryd.ntmps49
  go_wp2_with (go_at_call 50; refine HS.out.mono ?_; rintro e w1 ⟨rfl, hb1, hn1, hc1⟩)
  have HC : Hid (∀ (k : Nat) x, l[k]? = some x → w1.cell? ⟨w.heap.size, k, none⟩ = some (.string x)) := hc1
  clear hc1 HS
  obtain ⟨B, hB⟩ : ∃ B, B = w1.heap.size := ⟨_, rfl⟩
  go_loopw [5, 16] (fun vo vi wr => ∃ (k : Nat) (out : List Int), vi = .int .i64 k ∧ k ≤ l.length ∧ Hid (someL last l.length l 0 [] = someL last l.length (l.drop k) k out) ∧ Hid (∀ (k : Nat) x, l[k]? = some x → wr.cell? ⟨w.heap.size, k, none⟩ = some (.string x)) ∧ wr.ownsRow B 22 1 vo out.length (out.map (Value.int .u64)) ∧ out.length ≤ 2 * k ∧ Below B w1 wr) (fun _ vi _ => l.length - (intOf vi).toNat)
  case atStart => exact ⟨0, [], rfl, Nat.zero_le _, Lib.hid rfl, HC, World.ownsRow_nil _ _ _ _, by simp, by rw [hB]; exact Below.refl _ _⟩
  case round =>
    clear HC
    obtain ⟨k, out, rfl, hk, HF, HC, hown, hol, hbr⟩ := hrel
    have hbw : Below w.heap.size w wr := hb1.trans (hbr.mono (by omega))
    have hBr : B ≤ wr.heap.size := by rw [hB]; exact hbr.size
    by_cases hlt : k < l.length
    · obtain ⟨x, hx⟩ : ∃ x, l[k]? = some x := ⟨_, List.getElem?_eq_getElem hlt⟩
      have cB := HC.out k x hx
      have hltI : (k : Int) < (l.length : Int) := by omega
      have hxs := hsz x (List.mem_of_getElem? hx)
      have hfx : someL last l.length l 0 [] = _ := HF.out.trans (someL_cons hx out)
      have HP : Hid (∀ W, Below w.heap.size w W → Calls Tryd.prog 51 #[.string x, .int .i64 16, .int .i64 4, .int .u64 65535] W fun e w' => EndU (partF x 16 4 65535) e ∧ Below W.heap.size W w') := fun W hW =>
        part_walk x 16 4 65535 (.inr rfl) (by omega) W (hG.mono hW)
      have H4 : Hid (∀ W, Below w.heap.size w W → Calls Tryd.prog 35 #[.string x] W fun e w' => EndU (fourF x) e ∧ Below W.heap.size W w') := fun W hW =>
        four_walk x (by omega) W (hG.mono hW)
      have HD : Hid (∀ W, Calls Tryd.prog 33 #[.string x, .string ⟨#[46]⟩] W fun e w' => e = .returned (.bool (dotIn x)) ∧ w' = W) := fun W => Go.Proofs.Tryd.strings_Contains_one x 46 W
      by_cases hcond : last = true ∧ k + 1 = l.length ∧ dotIn x = true
      · rw [if_pos hcond] at hfx
        obtain ⟨rfl, hk1, hd⟩ := hcond
        rw [hd] at HD
        have hk1i : ((k : Int) == (l.length : Int) - 1) = true := by rw [beq_iff_eq]; omega
        cases hp : fourF x with
        | none =>
          rw [hp] at hfx H4
          have hfx : someL true l.length l 0 [] = none := hfx
          go_wp2_with (first | (go_at_call 33; refine (HD.out _).mono ?_; rintro e w2 ⟨rfl, hw2⟩; have hw2 := hw2.symm; subst hw2) | (go_at_call 35; refine (H4.out _ hbw).mono ?_; rintro e w2 ⟨he, hb2⟩; have he : e = .panicked [badE] := he; subst he))
          exact ⟨rfl, by rw [hfx]; rfl, hbw.trans (hb2.mono hbw.size)⟩
        | some n =>
          rw [hp] at hfx H4
          simp only at hfx
          go_wp2_with (first | (go_at_call 33; refine (HD.out _).mono ?_; rintro e w2 ⟨rfl, hw2⟩; have hw2 := hw2.symm; subst hw2) | (go_at_call 35; refine (H4.out _ hbw).mono ?_; rintro e w2 ⟨he, hb2⟩; have he : e = .returned (.int .u64 n) := he; subst he; have hown2 := hown.kept (below_grown' hb2) (Classical.em _); have hs2 := hb2.size) | (at_builtin; refine wpList_append_own_at _ rfl _ _ 83 rfl B 22 i0 (.int .u64 0) 1 8 Tryd.underlying83 hi hz0 hz1 hz2 rfl (by decide) _ _ _ rfl (hown2.alloc _) ⟨w2.heap.size, 0, none⟩ 2 2 [.int .u64 (n / 65536), .int .u64 (bits .and .u64 n 65535)] rfl rfl (cells_new _ _ _) (by simp [Value.oneCell']) (by unfold maxLen; omega) (by omega) (by simp; omega) ?_; intro v' w3 hown' hgrow hnil hloc))
          have hg3 : w2.grownBy w3 u5.ownBlock := (World.grownBy_alloc w2 _ _).trans hgrow
          have hbe : ∀ b, u5.ownBlock = some b → B ≤ b := own_block_ge hown
          have hh : Below B wr w3 := below_grownQ (hb2.mono hBr) hg3 hbe (by omega)
          have HN : Hid (∀ (k : Nat) x, l[k]? = some x → w3.cell? ⟨w.heap.size, k, none⟩ = some (.string x)) := Lib.hid fun k x hx => (hh.cell (p := ⟨w.heap.size, k, none⟩) (by show w.heap.size < B; omega)).trans (HC.out k x hx)
          exact ⟨⟨k + 1, out ++ [n / 65536, aop .and .u64 n 65535], by go_num, by omega, Lib.hid hfx, HN, by rw [List.length_append, List.map_append]; exact hown', by simp; omega, hbr.trans hh⟩, by simp [intOf]; omega⟩
      · rw [if_neg hcond] at hfx
        cases last with
        | false =>
          cases hp : partF x 16 4 65535 with
          | none =>
            rw [hp] at hfx HP
            have hfx : someL _ l.length l 0 [] = none := hfx
            go_wp2_with (first | (go_at_call 33; refine (HD.out _).mono ?_; rintro e w2 ⟨rfl, hw2⟩; have hw2 := hw2.symm; subst hw2) | (go_at_call 51; refine (HP.out _ hbw).mono ?_; rintro e w2 ⟨he, hb2⟩; have he : e = .panicked [badE] := he; subst he))
            exact ⟨rfl, by rw [hfx]; rfl, hbw.trans (hb2.mono hbw.size)⟩
          | some u =>
            rw [hp] at hfx HP
            simp only at hfx
            go_wp2_with (first | (go_at_call 33; refine (HD.out _).mono ?_; rintro e w2 ⟨rfl, hw2⟩; have hw2 := hw2.symm; subst hw2) | (go_at_call 51; refine (HP.out _ hbw).mono ?_; rintro e w2 ⟨he, hb2⟩; have he : e = .returned (.int .u64 u) := he; subst he; have hown2 := hown.kept (below_grown' hb2) (Classical.em _); have hs2 := hb2.size) | (at_builtin; refine wpList_append_own_at _ rfl _ _ 83 rfl B 22 i0 (.int .u64 0) 1 8 Tryd.underlying83 hi hz0 hz1 hz2 rfl (by decide) _ _ _ rfl (hown2.alloc _) ⟨w2.heap.size, 0, none⟩ 1 1 [.int .u64 u] rfl rfl (cells_new _ _ _) (by simp [Value.oneCell']) (by unfold maxLen; omega) (by omega) (by simp; omega) ?_; intro v' w3 hown' hgrow hnil hloc))
            have hg3 : w2.grownBy w3 u5.ownBlock := (World.grownBy_alloc w2 _ _).trans hgrow
            have hbe : ∀ b, u5.ownBlock = some b → B ≤ b := own_block_ge hown
            have hh : Below B wr w3 := below_grownQ (hb2.mono hBr) hg3 hbe (by omega)
            have HN : Hid (∀ (k : Nat) x, l[k]? = some x → w3.cell? ⟨w.heap.size, k, none⟩ = some (.string x)) := Lib.hid fun k x hx => (hh.cell (p := ⟨w.heap.size, k, none⟩) (by show w.heap.size < B; omega)).trans (HC.out k x hx)
            exact ⟨⟨k + 1, out ++ [u], by go_num, by omega, Lib.hid hfx, HN, by rw [List.length_append, List.map_append]; exact hown', by simp; omega, hbr.trans hh⟩, by simp [intOf]; omega⟩
        | true =>
          by_cases hk1 : k + 1 = l.length
          · have hk1i : ((k : Int) == (l.length : Int) - 1) = true := by rw [beq_iff_eq]; omega
            have hd : dotIn x = false := by
              cases hdd : dotIn x
              · rfl
              · exact absurd ⟨rfl, hk1, hdd⟩ hcond
            rw [hd] at HD
            cases hp : partF x 16 4 65535 with
            | none =>
              rw [hp] at hfx HP
              have hfx : someL _ l.length l 0 [] = none := hfx
              go_wp2_with (first | (go_at_call 33; refine (HD.out _).mono ?_; rintro e w2 ⟨rfl, hw2⟩; have hw2 := hw2.symm; subst hw2) | (go_at_call 51; refine (HP.out _ hbw).mono ?_; rintro e w2 ⟨he, hb2⟩; have he : e = .panicked [badE] := he; subst he))
              exact ⟨rfl, by rw [hfx]; rfl, hbw.trans (hb2.mono hbw.size)⟩
            | some u =>
              rw [hp] at hfx HP
              simp only at hfx
              go_wp2_with (first | (go_at_call 33; refine (HD.out _).mono ?_; rintro e w2 ⟨rfl, hw2⟩; have hw2 := hw2.symm; subst hw2) | (go_at_call 51; refine (HP.out _ hbw).mono ?_; rintro e w2 ⟨he, hb2⟩; have he : e = .returned (.int .u64 u) := he; subst he; have hown2 := hown.kept (below_grown' hb2) (Classical.em _); have hs2 := hb2.size) | (at_builtin; refine wpList_append_own_at _ rfl _ _ 83 rfl B 22 i0 (.int .u64 0) 1 8 Tryd.underlying83 hi hz0 hz1 hz2 rfl (by decide) _ _ _ rfl (hown2.alloc _) ⟨w2.heap.size, 0, none⟩ 1 1 [.int .u64 u] rfl rfl (cells_new _ _ _) (by simp [Value.oneCell']) (by unfold maxLen; omega) (by omega) (by simp; omega) ?_; intro v' w3 hown' hgrow hnil hloc))
              have hg3 : w2.grownBy w3 u5.ownBlock := (World.grownBy_alloc w2 _ _).trans hgrow
              have hbe : ∀ b, u5.ownBlock = some b → B ≤ b := own_block_ge hown
              have hh : Below B wr w3 := below_grownQ (hb2.mono hBr) hg3 hbe (by omega)
              have HN : Hid (∀ (k : Nat) x, l[k]? = some x → w3.cell? ⟨w.heap.size, k, none⟩ = some (.string x)) := Lib.hid fun k x hx => (hh.cell (p := ⟨w.heap.size, k, none⟩) (by show w.heap.size < B; omega)).trans (HC.out k x hx)
              exact ⟨⟨k + 1, out ++ [u], by go_num, by omega, Lib.hid hfx, HN, by rw [List.length_append, List.map_append]; exact hown', by simp; omega, hbr.trans hh⟩, by simp [intOf]; omega⟩
          · have hk1i : ((k : Int) == (l.length : Int) - 1) = false := by rw [beq_eq_false_iff_ne]; omega
            cases hp : partF x 16 4 65535 with
            | none =>
              rw [hp] at hfx HP
              have hfx : someL _ l.length l 0 [] = none := hfx
              go_wp2_with (first | (go_at_call 33; refine (HD.out _).mono ?_; rintro e w2 ⟨rfl, hw2⟩; have hw2 := hw2.symm; subst hw2) | (go_at_call 51; refine (HP.out _ hbw).mono ?_; rintro e w2 ⟨he, hb2⟩; have he : e = .panicked [badE] := he; subst he))
              exact ⟨rfl, by rw [hfx]; rfl, hbw.trans (hb2.mono hbw.size)⟩
            | some u =>
              rw [hp] at hfx HP
              simp only at hfx
              go_wp2_with (first | (go_at_call 33; refine (HD.out _).mono ?_; rintro e w2 ⟨rfl, hw2⟩; have hw2 := hw2.symm; subst hw2) | (go_at_call 51; refine (HP.out _ hbw).mono ?_; rintro e w2 ⟨he, hb2⟩; have he : e = .returned (.int .u64 u) := he; subst he; have hown2 := hown.kept (below_grown' hb2) (Classical.em _); have hs2 := hb2.size) | (at_builtin; refine wpList_append_own_at _ rfl _ _ 83 rfl B 22 i0 (.int .u64 0) 1 8 Tryd.underlying83 hi hz0 hz1 hz2 rfl (by decide) _ _ _ rfl (hown2.alloc _) ⟨w2.heap.size, 0, none⟩ 1 1 [.int .u64 u] rfl rfl (cells_new _ _ _) (by simp [Value.oneCell']) (by unfold maxLen; omega) (by omega) (by simp; omega) ?_; intro v' w3 hown' hgrow hnil hloc))
              have hg3 : w2.grownBy w3 u5.ownBlock := (World.grownBy_alloc w2 _ _).trans hgrow
              have hbe : ∀ b, u5.ownBlock = some b → B ≤ b := own_block_ge hown
              have hh : Below B wr w3 := below_grownQ (hb2.mono hBr) hg3 hbe (by omega)
              have HN : Hid (∀ (k : Nat) x, l[k]? = some x → w3.cell? ⟨w.heap.size, k, none⟩ = some (.string x)) := Lib.hid fun k x hx => (hh.cell (p := ⟨w.heap.size, k, none⟩) (by show w.heap.size < B; omega)).trans (HC.out k x hx)
              exact ⟨⟨k + 1, out ++ [u], by go_num, by omega, Lib.hid hfx, HN, by rw [List.length_append, List.map_append]; exact hown', by simp; omega, hbr.trans hh⟩, by simp [intOf]; omega⟩
    · have hkn : k = l.length := by omega
      subst hkn
      have hfx : someL last l.length l 0 [] = some out := by rw [HF.out, List.drop_length]; rfl
      go_wp2
      go_ret
      refine ⟨?_, hbw⟩
      rw [hfx]
      exact ⟨_, rfl, hown.mono (by omega)⟩
end Go.Proofs.YtihapikjcifbaaaDoor
