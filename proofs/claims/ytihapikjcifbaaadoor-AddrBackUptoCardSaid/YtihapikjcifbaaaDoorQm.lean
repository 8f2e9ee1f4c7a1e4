/-
  append(s, make([]T, k)...) onto a row of the call's own: in place, or in a new row; after the kit's laws of append.
-/
import Derived.Test.YtihapikjcifbaaaDoorMaS
import Derived.WalkKit
import Derived.ProofKit
import Derived.Lib.AppendZerosOnto
import Derived.Laws.CopyRow
import Derived.Laws.AppendOwn
import Derived.Lib.Hide
namespace Go.Proofs.YtihapikjcifbaaaDoor
open Go Go.Ma Go.RowKit Go.Proofs
theorem append_zeros_own {P : Program} (w : World) (base : Nat) (t tn ty e : TypeId) (i : TypeInfo) (z : Value) (bytes : Nat) (kn : IntKind) (ht : P.underlying t = some (.slice e)) (htn : P.underlying tn = some (.int kn)) (hi : P.info? e = some i) (hz : i.zero = some z)
    (hsize : i.size = 1) (hby : i.bytes = bytes) (hzs : z.cells.size = 1) (v : Value) (n : Nat) (xs : List Value) (hown : w.ownsRow base e 1 v n xs) (k : Nat) (h0 : 0 < k)
    (h63 : n + k ≤ maxLen) (hbytes : (n + k) * bytes ≤ 140737488355328) (hbase : base ≤ w.heap.size) (h1 : ∀ u ∈ (Builtin.zeroCells z.cells k).toList, u.oneCell' = true) :
    ∃ v' w', (Builtin.append_ #[t, tn] ty #[v, .int .i64 (k : Int)]).run P w = .ok v' w' ∧ w'.ownsRow base e 1 v' (n + k) (xs ++ (Builtin.zeroCells z.cells k).toList) ∧ w.grownBy w' v.ownBlock := by
  subst hby
  have hsmall : n + k ≤ 9223372036854775807 := by simp only [maxLen] at h63; omega
  have hzl : (Builtin.zeroCells z.cells k).toList.length = k := by rw [Array.length_toList, size_zeroCells, hzs, Nat.mul_one]
  have hlen : (xs ++ (Builtin.zeroCells z.cells k).toList).length = (n + k) * 1 := by rw [List.length_append, hown.1, hzl]; omega
  have grown : ∀ (old : Nat), old < n + k → ∀ (row : Option Nat),
      (w.drew.alloc (.cells (xs.toArray ++ Builtin.zeroCells z.cells k ++ Builtin.zeroCells z.cells (grownCap w (n + k) old e - (n + k))) e)).ownsRow base e 1
        (.slice (some ⟨w.heap.size, 0, none⟩) (n + k) (grownCap w (n + k) old e)) (n + k) (xs ++ (Builtin.zeroCells z.cells k).toList) ∧
      w.grownBy (w.drew.alloc (.cells (xs.toArray ++ Builtin.zeroCells z.cells k ++ Builtin.zeroCells z.cells (grownCap w (n + k) old e - (n + k))) e)) row := by
    intro old ho row
    have hge := grownCap_ge w (n + k) old e
    have hcm : grownCap w (n + k) old e ≤ maxLen := grownCap_le_maxLen w (n + k) old e h63
    refine ⟨⟨hlen, .inr ⟨w.heap.size, _, _, rfl, hbase, heap_alloc_new w.drew _, hge, hcm, ?_, ?_⟩⟩, ⟨rfl, rfl, rfl, by simp, fun j hj _ => (by first | exact heap_alloc_old w.drew _ j hj | exact heap_alloc_old w.drew _ hj)⟩⟩
    · have := hown.1
      simp only [Array.size_append, List.size_toArray, size_zeroCells, hzs]
      omega
    · simp only [Array.toList_append]
      rw [← hlen]
      exact List.take_left
  rcases hown.2 with ⟨rfl, rfl⟩ | ⟨g, cap, cur, rfl, hbg, hg, hnc, hcm, hcs, htake⟩
  · have hx : xs = [] := List.eq_nil_of_length_eq_zero (by simpa using hown.1)
    subst hx
    have hr := Lib.run_append_nil_zeros (P := P) w t tn ty e i z .i64 kn ht htn hi hz k h0 (by omega) (by omega) (by simp only [Nat.zero_add] at hbytes; omega)
    have hgr := grown 0 (by omega) (Value.ownBlock (.slice none 0 0))
    simp only [Nat.zero_add, List.nil_append, Array.empty_append] at hgr ⊢
    exact ⟨_, _, hr, hgr.1, hgr.2⟩
  · by_cases hroom : n + k ≤ cap
    · have hfit : n + k ≤ cur.size := by rw [hcs]; omega
      have hst := run_storeCells_at P g n e (Builtin.zeroCells z.cells k).toList 0 cur w hg (by rw [hzl]; omega) h1
      simp only [Nat.add_zero] at hst
      have hk0 : k ≠ 0 := by omega
      have hw : IntKind.i64.wrap (k : Int) = k := by rw [IntKind.wrap_i64]; omega
      have hneg : ¬ ((k : Int) < 0) := by omega
      have h48i : ¬ (281474976710656 < (k : Int) * (i.bytes : Int)) := by
        rw [← Int.natCast_mul]
        have : k * i.bytes ≤ (n + k) * i.bytes := Nat.mul_le_mul_right _ (by omega)
        omega
      have hr : (Builtin.append_ #[t, tn] ty #[.slice (some ⟨g, 0, none⟩) n cap, .int .i64 (k : Int)]).run P w = .ok (.slice (some ⟨g, 0, none⟩) (n + k) cap) (w.setRow g (cur.toList.take n ++ (Builtin.zeroCells z.cells k).toList ++ cur.toList.drop (n + (Builtin.zeroCells z.cells k).toList.length)).toArray) := by
        simp [Builtin.append_, run_underlying ht, run_underlying htn, sizeOf, typeInfo, zeroValue, hi, hz, hsize, asInt, asIntOf, hw, hroom, hneg, hk0, h48i, Addr.add_lit, hst]
      refine ⟨_, _, hr, ⟨hlen, .inr ⟨g, cap, _, rfl, hbg, setRow_heap w g cur _ e _ hg, hroom, hcm, ?_, ?_⟩⟩, ⟨rfl, rfl, rfl, by simp, fun k _ hk => setRow_other w g k _ (fun e => hk (by simp [Value.ownBlock, e]))⟩⟩
      · simp only [List.size_toArray, List.length_append, List.length_take, List.length_drop, Array.length_toList, hzl, size_zeroCells, hzs]
        omega
      · have ht2 : cur.toList.take n = xs := by rw [← htake, Nat.mul_one]
        rw [ht2, ← hlen]
        exact List.take_left
    · have holds : ∀ j u, xs[j]? = some u → w.cell? ((⟨g, 0, none⟩ : Addr).add j) = some u := hown.cells (g := g) rfl
      have hold : (Builtin.firstCells i.size n (.slice (some ⟨g, 0, none⟩) n cap)).run P w.drew = .ok xs.toArray w.drew := by
        have := run_firstCells_some (P := P) w.drew i.size n ⟨g, 0, none⟩ n cap xs (by rw [hsize]; exact hown.1) (fun j u hj => holds j u hj)
        exact this
      have hr := Lib.run_append_grow_zeros (P := P) w t tn ty e i z .i64 kn ht htn hi hz (some ⟨g, 0, none⟩) n cap xs hold k h0 (by omega) (by omega) (by omega) (by
          have : k * i.bytes ≤ (n + k) * i.bytes := Nat.mul_le_mul_right _ (by omega)
          omega) (growslice_fits (by omega) hbytes)
      have hgr := grown cap (by omega) (Value.ownBlock (.slice (some ⟨g, 0, none⟩) n cap))
      exact ⟨_, _, hr, hgr.1, hgr.2⟩
theorem row_form {w : World} {base : Nat} {e : TypeId} {v : Value} {l : List Int} (h : w.ownsRow base e 1 v l.length (l.map (Value.int .u64))) (h0 : 0 < l.length) :
    ∃ g cap, v = .slice (some ⟨g, 0, none⟩) l.length cap ∧ base ≤ g ∧ g < w.heap.size ∧ Hid (∀ (j : Nat) x, l[j]? = some x → w.cell? ⟨g, j, none⟩ = some (.int .u64 x)) := by
  have hc := @World.ownsRow.cells w base e 1 v l.length (l.map (Value.int .u64)) h
  obtain ⟨_, ⟨_, hn⟩ | ⟨g, cap, cur, rfl, hg, hh, _⟩⟩ := h
  · omega
  · refine ⟨g, cap, rfl, hg, (Array.getElem?_eq_some_iff.1 hh).1, Lib.hid fun j x hx => ?_⟩
    have := hc (g := g) rfl j (.int .u64 x) (by simp [hx])
    rwa [Addr.add_lit, Nat.zero_add] at this
theorem own_slice {w : World} {base : Nat} {e : TypeId} {v : Value} {n : Nat} {xs : List Value} (h : w.ownsRow base e 1 v n xs) :
    ∃ A c, v = .slice A n c ∧ (A = none → n = 0) ∧ ∀ ad, A = some ad → base ≤ ad.block ∧ ad.block < w.heap.size ∧ ∀ j u, xs[j]? = some u → w.cell? (ad.add j) = some u := by
  have hc := fun g => @World.ownsRow.cells w base e 1 v n xs h g
  obtain ⟨_, ⟨rfl, hn⟩ | ⟨g, cap, cur, rfl, hg, hh, _⟩⟩ := h
  · exact ⟨none, 0, (by rw [hn]), (fun _ => hn), fun ad had => (by cases had)⟩
  · refine ⟨_, cap, rfl, (fun h => by cases h), fun ad had => ?_⟩
    cases had
    exact ⟨hg, (Array.getElem?_eq_some_iff.1 hh).1, fun j u hj => hc g rfl j u hj⟩
theorem own_block {A : Option Addr} {n c b : Nat} (h : (Value.slice A n c).ownBlock = some b) : ∃ ad, A = some ad ∧ ad.block = b := by
  cases A with
  | none => cases h
  | some ad => exact ⟨ad, rfl, by injection h⟩
theorem zero_list (k : Nat) : (Builtin.zeroCells (Value.int IntKind.u64 0).cells k).toList = (List.replicate k (0 : Int)).map (Value.int .u64) := by
  apply List.ext_getElem?
  intro i
  by_cases h : i < k
  · simp [Builtin.zeroCells, Value.cells, List.getElem?_replicate, h, Nat.mod_one]
  · simp [Builtin.zeroCells, Value.cells, List.getElem?_replicate, h]
theorem zero_one (k : Nat) : ∀ u ∈ (Builtin.zeroCells (Value.int IntKind.u64 0).cells k).toList, u.oneCell' = true := by
  rw [zero_list]
  simp [Value.oneCell']

theorem below_own {N : Nat} {a w w1 : World} {row : Option Nat} (h : Below N a w) (hg : w.grownBy w1 row) (hr : ∀ b, row = some b → N ≤ b) (hN : N ≤ w.heap.size) : Below N a w1 :=
  h.trans ⟨hg.os, hg.tape, hg.output, hg.size, fun k hk => hg.block k (by omega) (fun e => by have := hr k e.symm; omega)⟩
theorem add_blockQ (a : Addr) (n : Nat) : (a.add n).block = a.block := by unfold Addr.add; split <;> rfl
/-- l, so many noughts, and m: two appends onto l's own row. -/
theorem two_appends {P : Program} (w : World) (N base1 K : Nat) (t tn e : TypeId) (i : TypeInfo) (ht : P.underlying t = some (.slice e)) (htn : P.underlying tn = some (.int .i64)) (hi : P.info? e = some i)
    (hz0 : i.zero = some (.int .u64 0)) (hz1 : i.size = 1) (hz2 : i.bytes = 8) (A1 : Option Addr) (c1 : Nat) (l : List Int) (hown : w.ownsRow base1 e 1 (.slice A1 l.length c1) l.length (l.map (Value.int .u64)))
    (A2 : Option Addr) (c2 : Nat) (m : List Int) (hA2 : A2 = none → m.length = 0) (hA1 : ∀ ad, A1 = some ad → base1 ≤ ad.block ∧ ad.block < K) (hm : ∀ ad, A2 = some ad → K ≤ ad.block ∧ ad.block < w.heap.size ∧ ∀ (j : Nat) u, (m.map (Value.int .u64))[j]? = some u → w.cell? (ad.add j) = some u)
    (hbase : base1 ≤ w.heap.size) (hN : N ≤ base1) (kz : Nat) (hk : 0 < kz) (h8 : l.length + kz + m.length = 8) :
    ∃ A4 c4 w4 g c5 w5, (Builtin.append_ #[t, tn] t #[.slice A1 l.length c1, .int .i64 (kz : Int)]).run P w = .ok (.slice A4 (l.length + kz) c4) w4 ∧
      (Builtin.append_ #[t, t] t #[.slice A4 (l.length + kz) c4, .slice A2 m.length c2]).run P w4 = .ok (.slice (some ⟨g, 0, none⟩) 8 c5) w5 ∧
      Hid (∀ (j : Nat) x, (l ++ List.replicate kz 0 ++ m)[j]? = some x → w5.cell? ⟨g, j, none⟩ = some (.int .u64 x)) ∧ N ≤ g ∧ g < w5.heap.size ∧ (∀ a, Below N a w → Below N a w5) := by
  have own1 : ∀ b, (Value.slice A1 l.length c1).ownBlock = some b → base1 ≤ b := by
    intro b hb
    obtain ⟨ad, h1, h2⟩ := own_block hb
    have := hA1 ad h1
    omega
  obtain ⟨v4, w4, hr4, hown4, hg4⟩ := append_zeros_own (P := P) w base1 t tn t e i (.int .u64 0) 8 .i64 ht htn hi hz0 hz1 hz2 rfl _ _ _ hown kz hk (by unfold maxLen; omega) (by omega) hbase (zero_one kz)
  rw [zero_list, ← List.map_append] at hown4
  have hb4 : ∀ a, Below N a w → Below N a w4 := fun a ha => below_own ha hg4 (fun b hb => Nat.le_trans hN (own1 b hb)) (by omega)
  obtain ⟨A4, c4, rfl, hA4, hc4⟩ := own_slice hown4
  have own4 : ∀ b, (Value.slice A4 (l.length + kz) c4).ownBlock = some b → base1 ≤ b := by
    intro b hb
    obtain ⟨ad, h1, h2⟩ := own_block hb
    have := (hc4 ad h1).1
    omega
  have hm4 : ∀ ad, A2 = some ad → ∀ (j : Nat) u, (m.map (Value.int .u64))[j]? = some u → w4.cell? (ad.add j) = some u := by
    intro ad had j u hu
    obtain ⟨h1, h2, h3⟩ := hm ad had
    rw [World.cell?_of_block (a := ad.add j) (w := w) (hg4.block (ad.add j).block (by rw [add_blockQ]; exact h2) (fun e => by obtain ⟨a1, h4, h5⟩ := own_block e.symm; have := (hA1 a1 h4).2; rw [add_blockQ] at h5; omega))]
    exact h3 j u hu
  obtain ⟨v5, w5, hr5, hown5, hg5, _⟩ := append_own (P := P) w4 base1 t t e i (.int .u64 0) ht hi hz0 (by rw [hz1]; rfl) (by omega) _ _ _ (by rw [hz1]; exact hown4) A2 m.length c2 (m.map (Value.int .u64)) (by rw [hz1, List.length_map, Nat.mul_one]) hA2 hm4 (by simp [Value.oneCell']) (by unfold maxLen; omega) (by rw [hz2]; omega) (by have := hg4.size; omega)
  rw [hz1, ← List.map_append] at hown5
  have hL : (l ++ List.replicate kz 0 ++ m).length = 8 := by simp only [List.length_append, List.length_replicate]; omega
  rw [show l.length + kz + m.length = (l ++ List.replicate kz 0 ++ m).length by rw [hL, h8]] at hown5
  obtain ⟨g, c5, rfl, hgb, hgl, HR⟩ := row_form hown5 (by omega)
  rw [hL] at hr5
  exact ⟨A4, c4, w4, g, c5, w5, hr4, hr5, HR, by omega, hgl, fun a ha => below_own (hb4 a ha) hg5 (fun b hb => Nat.le_trans hN (own4 b hb)) (by have := hg4.size; omega)⟩
end Go.Proofs.YtihapikjcifbaaaDoor
