/-
  For every input ClusterTurns of the package yardarmlaw returns true, and each of its arguments reads behind the call as it read before. No condition.
-/
import Derived.WalkKit
import Derived.ProofKit
import Derived.Lib.Walk
import Derived.Lib.SliceRun
import Derived.Lib.JoinLaws
import Derived.Lib.AppendZeros
import Derived.Lib.AppendZerosOnto
import Derived.Lib.Overlaps
import Derived.Laws.Externs
import Derived.Laws.IdiomCopy
import Derived.Laws.AppendOwn
import Derived.Shelf.Spec.SlicesInsertGrow
import Derived.Deep.RegionLaw
import Derived.Shelf.SlSortCmp.WholeK
import Derived.Test.YtjncjiegmnicbabGreatProg
import Derived.Test.YtjncjiegmnicbabGreatRows
import Derived.OpenShut
import Derived.ShutString
import Derived.ChangeOld
import Derived.Below
import Derived.Test.YtjncjiegmnicbabGreatVc5
set_option linter.unusedVariables false
set_option linter.unusedSimpArgs false
namespace Go.Proofs.YtjncjiegmnicbabGreat
open Go Go.Ma Go.RowKit Go.Lib Go.Proofs
theorem infoOf_yardarm_api_Addr : (Tryz.prog.info? 32).map (fun i => (i.zero.map (·.cells.size), i.size, i.bytes)) = some (some 3, 3, 24) := by kernel_rfl
theorem sizeOf_yardarm_api_Addr (w : World) : (Go.sizeOf 32).run Tryz.prog w = .ok 3 w := by kernel_rfl
set_option maxHeartbeats 4000000 in
set_option maxRecDepth 100000 in
/-- There is room, i < len(s): in place. -/
theorem insA_shift (b off n c i vb voff m vc : Nat) (cs vs : List Value) (w : World) (hi : i < n) (hm : 0 < m) (hroom : n + m ≤ c) (hc63 : c ≤ 9223372036854775807) (hvb : vb ≠ b)
  (hcl : cs.length = n * 3) (hvl : vs.length = m * 3)
  (hcs : ∀ j v, cs[j]? = some v → w.cell? ⟨b, off + j, none⟩ = some v) (hsp : ∀ j, j < (n + m) * 3 → (w.cell? ⟨b, off + j, none⟩).isSome = true) (hfz : ∀ j, j < (n + m) * 3 → w.frozen? ⟨b, off + j, none⟩ = false)
  (hvs : ∀ j v, vs[j]? = some v → w.cell? ⟨vb, voff + j, none⟩ = some v) (h1c : ∀ v ∈ cs, v.oneCell' = true) (h1v : ∀ v ∈ vs, v.oneCell' = true)
  (tA tB : TypeId) (kA kB : Nat) (hsa : w.shape? vb = some (tA, kA)) (hsb : w.shape? b = some (tB, kB)) (hkB : kB ≠ 0) (hfa : w.frozen? ⟨vb, voff, none⟩ = false) (hfe : w.frozen? ⟨vb, kA, none⟩ = false) :
  Calls Tryz.prog 148 #[.slice (some ⟨b, off, none⟩) n c, .int .i64 i, .slice (some ⟨vb, voff, none⟩) m vc] w fun e w' =>
   e = .returned (.slice (some ⟨b, off, none⟩) (n + m) c) ∧ w' = (w.drew.setCells b (off + (i + m) * 3) (cs.drop (i * 3))).setCells b (off + i * 3) vs := by
 have u30 := run_underlying Tryz.underlying52
 have z49 := sizeOf_yardarm_api_Addr
 have hz1 : ¬ ((m : Int) = 0) := by omega
 have hz2 : ¬ ((i : Int) = (n : Int)) := by omega
 have hsz : (Tryz.prog.info? 32).map (·.size) = some 3 := by
  obtain ⟨i0, hi0, hz⟩ := Option.map_eq_some_iff.1 infoOf_yardarm_api_Addr
  simp only [Prod.mk.injEq] at hz
  rw [hi0]; simp [hz.2.1]
 have hov : ∀ lb cb, (callFunc 158 #[.slice (some ⟨vb, voff, none⟩) m vc, .slice (some ⟨b, off + (i + m) * 3, none⟩) lb cb]).run Tryz.prog w = .ok (.value (.bool false)) w := fun lb cb => by
  rw [run_callFunc_extern Tryz.func158 (by kernel_rfl) (by kernel_rfl) (by kernel_rfl) (e := Extern.SlicesOverlaps.overlaps #[52, 52] #[4]) (by kernel_rfl),
   Lib.run_overlaps_apart w 52 4 32 Tryz.underlying52 3 sizeOf_yardarm_api_Addr ⟨vb, voff, none⟩ ⟨b, off + (i + m) * 3, none⟩ m vc lb cb hvb tA tB kA kB hsa hsb hkB hfa hfe]
  rfl
 have hdl : (cs.drop (i * 3)).length = (n - i) * 3 := by rw [List.length_drop, hcl]; omega
 have mixed := mixed_all
 have hw1 : IntKind.i64.wrap ((i : Int) + (m : Int)) = (i : Int) + (m : Int) := by rw [IntKind.wrap_i64]; omega
 have hb1 : (0 : Int) ≤ (i : Int) + (m : Int) := by omega
 have hin : i ≤ n := by omega
 have htn : ((i : Int) + (m : Int)).toNat = i + m := by omega
 have hb2 : ¬ (c = i + m) := by omega
 have hb3 : (i : Int) ≤ (n : Int) + (m : Int) := by omega
 have hb4 : ¬ (c = i) := by omega
 have hcp1 : ∀ ty dc sc, (Builtin.copy_ #[52, 52] ty #[.slice (some ⟨b, off + (i + m) * 3, none⟩) (n + m - (i + m)) dc, .slice (some ⟨b, off + i * 3, none⟩) (n + m - i) sc]).run Tryz.prog w.drew = .ok (goInt ((n - i : Nat) : Int)) (w.drew.setCells b (off + (i + m) * 3) (cs.drop (i * 3))) := fun ty dc sc =>
  run_copy_n w.drew _ _ ty 32 3 b (off + (i + m) * 3) (n + m - (i + m)) dc ⟨b, off + i * 3, none⟩ (n + m - i) sc (n - i) (cs.drop (i * 3)) Tryz.underlying52 hsz (by simp only [Nat.min_def]; split <;> omega) hdl
   (fun j v hj => by rw [Addr.add_lit, Nat.add_assoc]; exact hcs (i * 3 + j) v (by rwa [List.getElem?_drop] at hj))
   (fun j hj => by rw [Nat.add_assoc]; exact hsp _ (by omega)) (fun j hj => by rw [Nat.add_assoc]; exact hfz _ (by omega)) (fun v hv => h1c v (List.mem_of_mem_drop hv))
 obtain ⟨W1, hW1⟩ : ∃ W1, W1 = w.drew.setCells b (off + (i + m) * 3) (cs.drop (i * 3)) := ⟨_, rfl⟩
 have hsp1 : ∀ k, k < (n + m) * 3 → (W1.cell? ⟨b, off + k, none⟩).isSome = true := fun k hk => by
  rw [hW1]
  exact isSome_setCells b _ _ _ (fun j hj => by rw [Nat.add_assoc]; exact hsp _ (by omega)) _ (hsp k hk)
 have hcp2 : ∀ (W : World), (∀ x, W.cell? x = W1.cell? x) → (∀ x, W.frozen? x = W1.frozen? x) → ∀ ty dc, (Builtin.copy_ #[52, 52] ty #[.slice (some ⟨b, off + i * 3, none⟩) (n + m - i) dc, .slice (some ⟨vb, voff, none⟩) m vc]).run Tryz.prog W = .ok (goInt m) (W.setCells b (off + i * 3) vs) := fun W hWc hWf ty dc =>
  run_copy_n W _ _ ty 32 3 b (off + i * 3) (n + m - i) dc ⟨vb, voff, none⟩ m vc m vs Tryz.underlying52 hsz (by simp only [Nat.min_def]; split <;> omega) hvl
   (fun j v hj => by
    rw [Addr.add_lit, hWc, hW1, World.cell?_setCells_out b _ _ _ _ (fun h _ => absurd h hvb)]
    exact hvs j v hj)
   (fun j hj => by rw [hWc, Nat.add_assoc]; exact hsp1 _ (by omega)) (fun j hj => by rw [hWf, hW1, World.frozen?_setCells, Nat.add_assoc]; exact hfz _ (by omega)) h1v
 rw [← hW1] at hcp1
 go_enter Tryz.func148, Tryz.ntmps148
 go_wp2_with (simp only [hov])
 go_region_law_o (refine step_copy_runI rfl _ _ 52 52 rfl _ _ (by simp [Act.eval, Act.put]) (by simp [Act.eval, Act.put]) (hcp1 _ _ _) ?_)
 go_wp2_with (at_builtin; refine wpList_copy_runI _ rfl _ _ 52 52 rfl _ _ rfl rfl (hcp2 _ (fun _ => rfl) (fun _ => rfl) _ _) ?_)
 go_ret
 first | exact ⟨rfl, rfl⟩ | exact ⟨rfl, by rw [hW1]⟩
set_option maxHeartbeats 4000000 in
set_option maxRecDepth 100000 in
/-- i < len(s), no room: a new row. -/
theorem insA_grow (b off n c i vb voff m vc : Nat) (cs vs : List Value) (z : Value) (hz0 : (Tryz.prog.info? 32).map (·.zero) = some (some z)) (w : World) (hi : i < n) (hm : 0 < m) (hnc : n ≤ c) (hroom : c < n + m) (hbig : (n + m) * 24 ≤ 140737488355328)
  (hcl : cs.length = n * 3) (hvl : vs.length = m * 3)
  (hcs : ∀ j v, cs[j]? = some v → w.cell? ⟨b, off + j, none⟩ = some v)
  (hvs : ∀ j v, vs[j]? = some v → w.cell? ⟨vb, voff + j, none⟩ = some v) (h1c : ∀ v ∈ cs, v.oneCell' = true) (h1v : ∀ v ∈ vs, v.oneCell' = true) :
  Calls Tryz.prog 148 #[.slice (some ⟨b, off, none⟩) n c, .int .i64 i, .slice (some ⟨vb, voff, none⟩) m vc] w fun e w' =>
   e = .returned (.slice (some ⟨w.heap.size, 0, none⟩) (n + m) (grownCap w (n + m) c 32)) ∧
   w' = (((w.alloc (.cells ((cs.take (i * 3)).toArray ++ Builtin.zeroCells z.cells (n + m - i) ++ Builtin.zeroCells z.cells (grownCap w (n + m) c 32 - (n + m))) 32)).drew.setCells w.heap.size (i * 3) vs).drew).setCells w.heap.size ((i + m) * 3) (cs.drop (i * 3)) := by
 have u30 := run_underlying Tryz.underlying52
 have z49 := sizeOf_yardarm_api_Addr
 have mixed := mixed_all
 obtain ⟨i0, hi0, hz⟩ := Option.map_eq_some_iff.1 infoOf_yardarm_api_Addr
 simp only [Prod.mk.injEq] at hz
 obtain ⟨hzc, hzs, hzb⟩ := hz
 have hz0 : i0.zero = some z := by rw [hi0] at hz0; simpa using hz0
 have hzc : z.cells.size = 3 := by rw [hz0] at hzc; simpa using hzc
 have hz1 : ¬ ((m : Int) = 0) := by omega
 have hz2 : ¬ ((i : Int) = (n : Int)) := by omega
 have hz3 : (c : Int) < (n : Int) + (m : Int) := by omega
 have hsz : (Tryz.prog.info? 32).map (·.size) = some 3 := by rw [hi0]; simp [hzs]
 have hbw : b < w.heap.size := block_lt_of_cell (hcs 0 _ (List.getElem?_eq_getElem (by omega)))
 have hvw : vb < w.heap.size := block_lt_of_cell (hvs 0 _ (List.getElem?_eq_getElem (by omega)))
 have hkk : (n : Int) + (m : Int) - (i : Int) = ((n + m - i : Nat) : Int) := by omega
 have hik : i + (n + m - i) = n + m := by omega
 have hold : (Builtin.firstCells i0.size i (.slice (some ⟨b, off, none⟩) i c)).run Tryz.prog w.drew = .ok (cs.take (i * 3)).toArray w.drew := by
  rw [hzs]
  exact run_firstCells_some w.drew 3 i ⟨b, off, none⟩ i c (cs.take (i * 3)) (by rw [List.length_take]; omega) (fun j v hj => by
   rw [Addr.add_lit]
   rw [List.getElem?_take] at hj
   split at hj
   ·exact hcs j v hj
   ·cases hj)
 have hrz : ∀ ty, (Builtin.append_ #[52, 3] ty #[.slice (some ⟨b, off, none⟩) i c, .int .i64 ((n : Int) + (m : Int) - (i : Int))]).run Tryz.prog w =
   .ok (.slice (some ⟨w.heap.size, 0, none⟩) (n + m) (grownCap w (n + m) c 32)) (w.drew.alloc (.cells ((cs.take (i * 3)).toArray ++ Builtin.zeroCells z.cells (n + m - i) ++ Builtin.zeroCells z.cells (grownCap w (n + m) c 32 - (n + m))) 32)) := fun ty => by
  have h := Lib.run_append_grow_zeros w 52 3 ty 32 i0 z .i64 .i64 Tryz.underlying52 Tryz.underlying3 hi0 hz0 (some ⟨b, off, none⟩) i c (cs.take (i * 3)) hold (n + m - i) (by omega) (by omega) (by omega) (by omega) (by rw [hzb]; omega) (by rw [hzb, hik]; exact growslice_fits hroom hbig)
  rw [hik] at h
  rw [hkk]
  exact h
 obtain ⟨G, hG⟩ : ∃ G, G = grownCap w (n + m) c 32 := ⟨_, rfl⟩
 obtain ⟨ROW, hROW⟩ : ∃ ROW : Array Value, ROW = (cs.take (i * 3)).toArray ++ Builtin.zeroCells z.cells (n + m - i) ++ Builtin.zeroCells z.cells (G - (n + m)) := ⟨_, rfl⟩
 rw [← hG] at hrz ⊢
 rw [← hROW] at hrz ⊢
 have hRl : (n + m) * 3 ≤ ROW.size := by
  rw [hROW]
  simp [Builtin.zeroCells, hzc]
  omega
 obtain ⟨W1, hW1⟩ : ∃ W1, W1 = w.drew.alloc (.cells ROW 32) := ⟨_, rfl⟩
 rw [← hW1] at hrz
 have hN : ∀ j, j < (n + m) * 3 → (W1.cell? ⟨w.heap.size, j, none⟩).isSome = true := fun j hj => by
  rw [hW1, World.cell?_alloc_at (w := w.drew) ROW _ w.heap.size j rfl, Array.getElem?_eq_getElem (by omega)]; rfl
 have hNf : ∀ j, W1.frozen? ⟨w.heap.size, j, none⟩ = false := fun j => by rw [hW1]; exact World.frozen?_alloc_at (w := w.drew) ROW _ w.heap.size j rfl
 have hOb : ∀ j v, w.cell? ⟨b, j, none⟩ = some v → W1.cell? ⟨b, j, none⟩ = some v := fun j v h => by rw [hW1, World.cell?_alloc_past (w := w.drew) _ b j hbw]; exact h
 have hOv : ∀ j v, w.cell? ⟨vb, j, none⟩ = some v → W1.cell? ⟨vb, j, none⟩ = some v := fun j v h => by rw [hW1, World.cell?_alloc_past (w := w.drew) _ vb j hvw]; exact h
 have hcpA : ∀ (W : World), (∀ x, W.cell? x = W1.cell? x) → (∀ x, W.frozen? x = W1.frozen? x) → ∀ ty dc, (Builtin.copy_ #[52, 52] ty #[.slice (some ⟨w.heap.size, i * 3, none⟩) (n + m - i) dc, .slice (some ⟨vb, voff, none⟩) m vc]).run Tryz.prog W = .ok (goInt (m : Int)) (W.setCells w.heap.size (i * 3) vs) := fun W hWc hWf ty dc =>
  run_copy_n W _ _ ty 32 3 w.heap.size (i * 3) (n + m - i) dc ⟨vb, voff, none⟩ m vc m vs Tryz.underlying52 hsz (by simp only [Nat.min_def]; split <;> omega) hvl
   (fun j v hj => by rw [Addr.add_lit, hWc]; exact hOv _ v (hvs j v hj))
   (fun j hj => by rw [hWc]; exact hN _ (by omega)) (fun j hj => by rw [hWf]; exact hNf _) h1v
 have hGn : n + m ≤ G := by rw [hG]; exact grownCap_ge w _ _ _
 have hG63 : G ≤ 9223372036854775807 := by
  have := grownCap_le_maxLen w (n + m) c 32 (by unfold maxLen; omega)
  rw [← hG] at this
  unfold maxLen at this
  omega
 have hGi : ¬ (G = i) := by omega
 have hGim : ¬ (G = i + m) := by omega
 have hci : ¬ (c = i) := by omega
 have hbN : b ≠ w.heap.size := by omega
 have hdl : (cs.drop (i * 3)).length = (n - i) * 3 := by rw [List.length_drop, hcl]; omega
 have hcpB : ∀ (W : World), (∀ x, W.cell? x = (W1.setCells w.heap.size (i * 3) vs).cell? x) → (∀ x, W.frozen? x = (W1.setCells w.heap.size (i * 3) vs).frozen? x) → ∀ ty dc sc, (Builtin.copy_ #[52, 52] ty #[.slice (some ⟨w.heap.size, (i + m) * 3, none⟩) (n + m - (i + m)) dc, .slice (some ⟨b, off + i * 3, none⟩) (n - i) sc]).run Tryz.prog W = .ok (goInt ((n - i : Nat) : Int)) (W.setCells w.heap.size ((i + m) * 3) (cs.drop (i * 3))) := fun W hWc hWf ty dc sc =>
  run_copy_n W _ _ ty 32 3 w.heap.size ((i + m) * 3) (n + m - (i + m)) dc ⟨b, off + i * 3, none⟩ (n - i) sc (n - i) (cs.drop (i * 3)) Tryz.underlying52 hsz (by simp only [Nat.min_def]; split <;> omega) hdl
   (fun j v hj => by
    rw [Addr.add_lit, hWc, World.cell?_setCells_out _ _ _ _ _ (fun h _ => absurd h hbN), Nat.add_assoc]
    exact hOb _ v (hcs (i * 3 + j) v (by rwa [List.getElem?_drop] at hj)))
   (fun j hj => by rw [hWc]; exact isSome_setCells _ _ _ _ (fun t ht => hN _ (by omega)) _ (hN _ (by omega)))
   (fun j hj => by rw [hWf, World.frozen?_setCells]; exact hNf _) (fun v hv => h1c v (List.mem_of_mem_drop hv))
 subst hW1
 have hE1 : ∀ x, ((w.alloc (.cells ROW 32)).drew).cell? x = (w.drew.alloc (.cells ROW 32)).cell? x := fun x => rfl
 have hE2 : ∀ x, ((w.alloc (.cells ROW 32)).drew).frozen? x = (w.drew.alloc (.cells ROW 32)).frozen? x := fun x => rfl
 have hF1 : ∀ x, (((w.alloc (.cells ROW 32)).drew.setCells w.heap.size (i * 3) vs).drew).cell? x = ((w.drew.alloc (.cells ROW 32)).setCells w.heap.size (i * 3) vs).cell? x := fun x => rfl
 have hF2 : ∀ x, (((w.alloc (.cells ROW 32)).drew.setCells w.heap.size (i * 3) vs).drew).frozen? x = ((w.drew.alloc (.cells ROW 32)).setCells w.heap.size (i * 3) vs).frozen? x := fun x => rfl
 have hw1 : IntKind.i64.wrap ((i : Int) + (m : Int)) = (i : Int) + (m : Int) := by rw [IntKind.wrap_i64]; omega
 have hb1 : (0 : Int) ≤ (i : Int) + (m : Int) := by omega
 have hin : i ≤ n := by omega
 have htn : ((i : Int) + (m : Int)).toNat = i + m := by omega
 have hb3 : (i : Int) ≤ (n : Int) := by omega
 clear hkk hik hold hROW hG hRl
 go_enter Tryz.func148, Tryz.ntmps148
 go_wp2_with (first
  | (at_builtin; refine Lib.wpList_append_run _ rfl _ _ _ _ rfl _ _ rfl rfl _ _ (hrz _) ?_)
  | (at_builtin; refine wpList_copy_runI _ rfl _ _ 52 52 rfl _ _ rfl rfl (hcpA _ hE1 hE2 _ _) ?_)
  | (at_builtin; refine wpList_copy_runI _ rfl _ _ 52 52 rfl _ _ rfl rfl (hcpB _ (fun _ => rfl) (fun _ => rfl) _ _ _) ?_))
 go_region_law_o (refine step_copy_runI rfl _ _ 52 52 rfl (.slice (some ⟨w.heap.size, (i + m) * 3, none⟩) (n + m - (i + m)) (G - (i + m))) (.slice (some ⟨b, off + i * 3, none⟩) (n - i) (c - i)) (by simp [Act.eval, Act.put]) (by simp [Act.eval, Act.put]) (hcpB _ hF1 hF2 3 (G - (i + m)) (c - i)) ?_)
 go_wp2
 go_ret
 exact ⟨rfl, rfl⟩
set_option maxHeartbeats 4000000 in
set_option maxRecDepth 100000 in
/-- At the end: whatever append does. -/
theorem insA_end (v : Value) (base : Option Addr) (n c : Nat) (vb vc m : Nat) (v' : Value) (w w' : World) (hm : 0 < m) (hnc : n ≤ c)
  (hrun : ∀ ty, (Builtin.append_ #[52, 52] ty #[.slice base n c, .slice (some ⟨vb, 0, none⟩) m vc]).run Tryz.prog w = .ok v' w') (hsl : ∃ A N C, v' = .slice A N C) (hnil : base = none → n = 0) :
  Calls Tryz.prog 148 #[.slice base n c, .int .i64 n, .slice (some ⟨vb, 0, none⟩) m vc] w fun e w2 => e = .returned v' ∧ w2 = w' := by
 have u30 := run_underlying Tryz.underlying52
 have z49 := sizeOf_yardarm_api_Addr
 have mixed := mixed_all
 have hz1 : ¬ ((m : Int) = 0) := by omega
 obtain ⟨A, N, C, rfl⟩ := hsl
 go_enter Tryz.func148, Tryz.ntmps148
 cases base with
 | none =>
  have h0 := hnil rfl
  subst h0
  go_wp2_with (at_builtin; refine Lib.wpList_append_run _ rfl _ _ _ _ rfl _ _ rfl rfl _ _ (hrun _) ?_)
  all_goals (go_ret; exact ⟨rfl, rfl⟩)
 | some a =>
  obtain ⟨ab, ao, asp⟩ := a
  go_wp2_with (at_builtin; refine Lib.wpList_append_run _ rfl _ _ _ _ rfl _ _ rfl rfl _ _ (hrun _) ?_)
  all_goals (go_ret; exact ⟨rfl, rfl⟩)
theorem insA_cells {arr : Array Value} {n i : Nat} {cs xs : List Value} (hi : i < n) (hcl : cs.length = n * 3) (hxl : xs.length = 3) (hsz : (n + 1) * 3 ≤ arr.size) (h0 : ∀ q, q < i * 3 → arr[q]? = cs[q]?) :
  (setArr (setArr arr ((i + 1) * 3) (cs.drop (i * 3))) (i * 3) xs).toList.take ((n + 1) * 3) = cs.take (i * 3) ++ xs ++ cs.drop (i * 3) ∧
  (setArr (setArr arr (i * 3) xs) ((i + 1) * 3) (cs.drop (i * 3))).toList.take ((n + 1) * 3) = cs.take (i * 3) ++ xs ++ cs.drop (i * 3) := by
 have hdl : (cs.drop (i * 3)).length = (n - i) * 3 := by rw [List.length_drop, hcl]; omega
 have hrhs : ∀ q : Nat, (cs.take (i * 3) ++ xs ++ cs.drop (i * 3))[q]? = if q < i * 3 then cs[q]? else if q < (i + 1) * 3 then xs[q - i * 3]? else (cs.drop (i * 3))[q - (i + 1) * 3]? := by
  intro q
  rw [List.append_assoc, List.getElem?_append, List.length_take, Nat.min_eq_left (by omega)]
  split
  ·rw [List.getElem?_take, if_pos (by assumption)]
  ·rw [List.getElem?_append, hxl]
   by_cases hq : q < (i + 1) * 3
   ·rw [if_pos (by omega), if_pos hq]
   ·rw [if_neg (by omega), if_neg hq]
    congr 1
    omega
 constructor
 ·apply List.ext_getElem?
  intro q
  rw [hrhs, List.getElem?_take]
  by_cases hq : q < (n + 1) * 3
  ·rw [if_pos hq, Array.getElem?_toList, setArr_get _ _ _ _ (by rw [zq62]; omega)]
   by_cases h1 : q < i * 3
   ·rw [if_neg (by omega), if_pos h1, setArr_get _ _ _ _ (by omega), if_neg (by omega), h0 q h1]
   ·rw [if_neg h1]
    by_cases h2 : q < (i + 1) * 3
    ·rw [if_pos (by omega), if_pos h2]
    ·rw [if_neg (by omega), if_neg h2, setArr_get _ _ _ _ (by omega), if_pos (by omega)]
  ·rw [if_neg hq, if_neg (by omega), if_neg (by omega), List.getElem?_eq_none (by omega)]
 ·apply List.ext_getElem?
  intro q
  rw [hrhs, List.getElem?_take]
  by_cases hq : q < (n + 1) * 3
  ·rw [if_pos hq, Array.getElem?_toList, setArr_get _ _ _ _ (by rw [zq62]; omega)]
   by_cases h1 : q < i * 3
   ·rw [if_neg (by omega), if_pos h1, setArr_get _ _ _ _ (by omega), if_neg (by omega), h0 q h1]
   ·rw [if_neg h1]
    by_cases h2 : q < (i + 1) * 3
    ·rw [if_neg (by omega), if_pos h2, setArr_get _ _ _ _ (by omega), if_pos (by omega)]
    ·rw [if_pos (by omega), if_neg h2]
  ·rw [if_neg hq, if_neg (by omega), if_neg (by omega), List.getElem?_eq_none (by omega)]
theorem insA_main (base : Nat) (w : World) (v u : Value) (n i : Nat) (cs xs : List Value) (h1 : w.ownsRow base 32 3 v n cs) (h2 : w.ownsRow base 32 3 u 1 xs) (hap : ∀ b, v.ownBlock = some b → u.ownBlock ≠ some b) (hc1 : ∀ x ∈ cs, oneC x = true) (hc2 : ∀ x ∈ xs, oneC x = true)
  (hbase : base ≤ w.heap.size) (hin : i ≤ n) (hbig : n + 1 ≤ 274877906944) :
  Calls Tryz.prog 148 #[v, .int .i64 (i : Int), u] w fun r w' => ∃ v', r = .returned v' ∧ w'.ownsRow base 32 3 v' (n + 1) (cs.take (i * 3) ++ xs ++ cs.drop (i * 3)) ∧ w.grownBy w' v.ownBlock ∧ (∀ b, v'.ownBlock = some b → v.ownBlock = some b ∨ w.heap.size ≤ b) := by
 obtain ⟨i0, hi0, hz⟩ := Option.map_eq_some_iff.1 infoOf_yardarm_api_Addr
 simp only [Prod.mk.injEq] at hz
 obtain ⟨hzc, hzs, hzb⟩ := hz
 obtain ⟨z, hz0, hzc⟩ := Option.map_eq_some_iff.1 hzc
 have hcl := h1.1
 have hxl : xs.length = 3 := by have := h2.1; omega
 rcases h2.2 with ⟨_, h0⟩ | ⟨vb, vc, curv, rfl, hvbase, hvheap, hvc, hvcm, hvsz, hvtake⟩
 ·cases h0
 have hvs : ∀ j x, xs[j]? = some x → w.cell? ⟨vb, 0 + j, none⟩ = some x := by
  intro j x hj
  rw [Nat.zero_add, zq15 hvheap, ← Array.getElem?_toList]
  rw [← hvtake, List.getElem?_take] at hj
  split at hj
  ·exact hj
  ·cases hj
 have h1v : ∀ x ∈ xs, x.oneCell' = true := fun x hx => oneC_cell' (hc2 x hx)
 have h1c : ∀ x ∈ cs, x.oneCell' = true := fun x hx => oneC_cell' (hc1 x hx)
 by_cases hine : i = n
 ·subst hine
  have htd : cs.take (i * 3) ++ xs ++ cs.drop (i * 3) = cs ++ xs := by rw [List.take_of_length_le (by omega), List.drop_of_length_le (by omega), List.append_nil]
  rw [htd]
  have hown5 : w.ownsRow base 32 i0.size v i cs := by rw [hzs]; exact h1
  obtain ⟨v', w', hrun, hown', hgb, hblk⟩ := append_own (P := Tryz.prog) w base 52 0 32 i0 z Tryz.underlying52 hi0 hz0 (by rw [hzs]; exact hzc) (by omega) v i cs hown5 (some ⟨vb, 0, none⟩) 1 vc xs (by rw [hzs]; omega) (by simp)
   (fun ad had j x hj => by
    cases had
    rw [add_zero_addr]
    exact hvs j x hj) h1v (by unfold maxLen; omega) (by rw [hzb]; omega) hbase
  have hrun' : ∀ ty, (Builtin.append_ #[52, 52] ty #[v, .slice (some ⟨vb, 0, none⟩) 1 vc]).run Tryz.prog w = .ok v' w' := fun ty => by
   rw [← hrun]
   rfl
  rw [hzs] at hown'
  have hsl : ∃ A N C, v' = .slice A N C := by
   rcases hown'.2 with ⟨h, _⟩ | ⟨g, cp, cur, h, _⟩
   ·exact ⟨_, _, _, h⟩
   ·exact ⟨_, _, _, h⟩
  have hv : ∃ A c, v = .slice A i c ∧ i ≤ c ∧ (A = none → i = 0) := by
   rcases h1.2 with ⟨h, h0⟩ | ⟨g, cp, cur, h, _, _, hc, _⟩
   ·exact ⟨none, 0, by rw [h, h0], by omega, fun _ => h0⟩
   ·exact ⟨_, cp, h, hc, fun h => by cases h⟩
  obtain ⟨A, c, rfl, hc, hnil⟩ := hv
  refine (insA_end (.slice A i c) A i c vb vc 1 v' w w' (by omega) hc hrun' hsl hnil).mono ?_
  rintro e w2 ⟨rfl, rfl⟩
  exact ⟨v', rfl, hown', hgb, hblk⟩
 ·have hi : i < n := by omega
  rcases h1.2 with ⟨_, h0⟩ | ⟨g, cap, cur, rfl, hgbase, hgheap, hnc, hcm, hgsz, hgtake⟩
  ·omega
  have hvbg : vb ≠ g := fun e => hap g rfl (by rw [e]; rfl)
  have hcs : ∀ j x, cs[j]? = some x → w.cell? ⟨g, 0 + j, none⟩ = some x := by
   intro j x hj
   rw [Nat.zero_add, zq15 hgheap, ← Array.getElem?_toList]
   rw [← hgtake, List.getElem?_take] at hj
   split at hj
   ·exact hj
   ·cases hj
  by_cases hroom : n + 1 ≤ cap
  ·refine (insA_shift g 0 n cap i vb 0 1 vc cs xs w hi (by omega) hroom (by unfold maxLen at hcm; omega) hvbg hcl (by omega) hcs
    (fun j hj => by rw [Nat.zero_add, zq15 hgheap, Array.getElem?_eq_getElem (by omega)]; rfl) (fun j hj => by simp [World.frozen?, hgheap]) hvs h1c h1v 32 32 curv.size cur.size
    (by simp [World.shape?, hvheap]) (by simp [World.shape?, hgheap]) (by omega) (by simp [World.frozen?, hvheap]) (by simp [World.frozen?, hvheap])).mono ?_
   rintro e w' ⟨rfl, rfl⟩
   have hg0 : w.drew.heap[g]? = some (.cells cur 32 (0, 0)) := hgheap
   obtain ⟨a1, a2, a3, a4, a5, a6⟩ := zq63 w.drew g (0 + (i + 1) * 3) (cs.drop (i * 3)) cur 32 (0, 0) hg0
   obtain ⟨b1, b2, b3, b4, b5, b6⟩ := zq63 _ g (0 + i * 3) xs _ 32 (0, 0) a1
   have hdl : (cs.drop (i * 3)).length = (n - i) * 3 := by rw [List.length_drop, hcl]; omega
   refine ⟨_, rfl, ⟨?_, .inr ⟨g, cap, _, rfl, hgbase, b1, hroom, hcm, by rw [zq62, zq62]; exact hgsz, ?_⟩⟩, ⟨b4.trans a4, b5.trans a5, b6.trans a6, by rw [b3, a3]; exact Nat.le_refl _, fun k hk hne => ?_⟩, fun b hb => .inl hb⟩
   ·simp only [List.length_append, List.length_take, hdl, hxl]; omega
   ·rw [Nat.zero_add, Nat.zero_add]
    refine (insA_cells hi hcl hxl (by omega) fun q hq => ?_).1
    rw [← hgtake, List.getElem?_take, if_pos (by omega), Array.getElem?_toList]
   ·have hkg : k ≠ g := fun e => hne (by rw [e]; rfl)
    exact (b2 k hkg).trans (a2 k hkg)
  ·refine (insA_grow g 0 n cap i vb 0 1 vc cs xs z (by rw [hi0]; simp [hz0]) w hi (by omega) hnc (by omega) (by omega) hcl (by omega) hcs hvs h1c h1v).mono ?_
   rintro e w' ⟨rfl, rfl⟩
   obtain ⟨G, hG⟩ : ∃ G, G = grownCap w (n + 1) cap 32 := ⟨_, rfl⟩
   have hGn : n + 1 ≤ G := by rw [hG]; exact grownCap_ge w _ _ _
   have hG63 : G ≤ maxLen := by rw [hG]; exact grownCap_le_maxLen w (n + 1) cap 32 (by unfold maxLen; omega)
   rw [← hG]
   obtain ⟨ROW, hROW⟩ : ∃ ROW : Array Value, ROW = (cs.take (i * 3)).toArray ++ Builtin.zeroCells z.cells (n + 1 - i) ++ Builtin.zeroCells z.cells (G - (n + 1)) := ⟨_, rfl⟩
   rw [← hROW]
   have hRs : ROW.size = G * 3 := by
    rw [hROW]
    simp [Builtin.zeroCells, hzc]
    omega
   have hR0 : ∀ q, q < i * 3 → ROW[q]? = cs[q]? := fun q hq => by
    rw [hROW, Array.append_assoc, Array.getElem?_append_left (by simp; omega)]
    simp only [List.getElem?_toArray, List.getElem?_take, if_pos hq]
   have hh : ((w.alloc (.cells ROW 32)).drew).heap[w.heap.size]? = some (.cells ROW 32 (0, 0)) := by
    show (w.heap.push _)[w.heap.size]? = _
    exact Array.getElem?_push_size
   obtain ⟨a1, a2, a3, a4, a5, a6⟩ := zq63 _ w.heap.size (i * 3) xs ROW 32 (0, 0) hh
   have a1' : (((w.alloc (.cells ROW 32)).drew.setCells w.heap.size (i * 3) xs).drew).heap[w.heap.size]? = _ := a1
   obtain ⟨b1, b2, b3, b4, b5, b6⟩ := zq63 _ w.heap.size ((i + 1) * 3) (cs.drop (i * 3)) _ 32 (0, 0) a1'
   have hdl : (cs.drop (i * 3)).length = (n - i) * 3 := by rw [List.length_drop, hcl]; omega
   have hold : ∀ k, k < w.heap.size → ((w.alloc (.cells ROW 32)).drew).heap[k]? = w.heap[k]? := fun k hk => by
    show (w.heap.push _)[k]? = _
    rw [Array.getElem?_push, if_neg (by omega)]
   refine ⟨_, rfl, ⟨?_, .inr ⟨w.heap.size, G, _, rfl, hbase, b1, hGn, hG63, by rw [zq62, zq62]; exact hRs, ?_⟩⟩, ⟨b4.trans a4, b5.trans a5, b6.trans a6, ?_, fun k hk hne => ?_⟩, fun b hb => .inr ?_⟩
   ·simp only [List.length_append, List.length_take, hdl, hxl]; omega
   ·exact (insA_cells hi hcl hxl (by omega) hR0).2
   ·rw [b3]
    show w.heap.size ≤ ((w.alloc (.cells ROW 32)).drew.setCells w.heap.size (i * 3) xs).heap.size
    rw [a3]
    show w.heap.size ≤ (w.heap.push _).size
    simp
   ·exact ((b2 k (by omega)).trans (a2 k (by omega))).trans (hold k hk)
   ·cases hb
    exact Nat.le_refl _
theorem infoOf_yardarm_api_Pool : (Tryz.prog.info? 116).map (fun i => (i.zero.map (·.cells.size), i.size, i.bytes)) = some (some 5, 5, 56) := by kernel_rfl
theorem sizeOf_yardarm_api_Pool (w : World) : (Go.sizeOf 116).run Tryz.prog w = .ok 5 w := by kernel_rfl
set_option maxHeartbeats 4000000 in
set_option maxRecDepth 100000 in
/-- There is room, i < len(s): in place. -/
theorem insP_shift (b off n c i vb voff m vc : Nat) (cs vs : List Value) (w : World) (hi : i < n) (hm : 0 < m) (hroom : n + m ≤ c) (hc63 : c ≤ 9223372036854775807) (hvb : vb ≠ b)
  (hcl : cs.length = n * 5) (hvl : vs.length = m * 5)
  (hcs : ∀ j v, cs[j]? = some v → w.cell? ⟨b, off + j, none⟩ = some v) (hsp : ∀ j, j < (n + m) * 5 → (w.cell? ⟨b, off + j, none⟩).isSome = true) (hfz : ∀ j, j < (n + m) * 5 → w.frozen? ⟨b, off + j, none⟩ = false)
  (hvs : ∀ j v, vs[j]? = some v → w.cell? ⟨vb, voff + j, none⟩ = some v) (h1c : ∀ v ∈ cs, v.oneCell' = true) (h1v : ∀ v ∈ vs, v.oneCell' = true)
  (tA tB : TypeId) (kA kB : Nat) (hsa : w.shape? vb = some (tA, kA)) (hsb : w.shape? b = some (tB, kB)) (hkB : kB ≠ 0) (hfa : w.frozen? ⟨vb, voff, none⟩ = false) (hfe : w.frozen? ⟨vb, kA, none⟩ = false) :
  Calls Tryz.prog 146 #[.slice (some ⟨b, off, none⟩) n c, .int .i64 i, .slice (some ⟨vb, voff, none⟩) m vc] w fun e w' =>
   e = .returned (.slice (some ⟨b, off, none⟩) (n + m) c) ∧ w' = (w.drew.setCells b (off + (i + m) * 5) (cs.drop (i * 5))).setCells b (off + i * 5) vs := by
 have u30 := run_underlying Tryz.underlying42
 have z49 := sizeOf_yardarm_api_Pool
 have hz1 : ¬ ((m : Int) = 0) := by omega
 have hz2 : ¬ ((i : Int) = (n : Int)) := by omega
 have hsz : (Tryz.prog.info? 116).map (·.size) = some 5 := by
  obtain ⟨i0, hi0, hz⟩ := Option.map_eq_some_iff.1 infoOf_yardarm_api_Pool
  simp only [Prod.mk.injEq] at hz
  rw [hi0]; simp [hz.2.1]
 have hov : ∀ lb cb, (callFunc 156 #[.slice (some ⟨vb, voff, none⟩) m vc, .slice (some ⟨b, off + (i + m) * 5, none⟩) lb cb]).run Tryz.prog w = .ok (.value (.bool false)) w := fun lb cb => by
  rw [run_callFunc_extern Tryz.func156 (by kernel_rfl) (by kernel_rfl) (by kernel_rfl) (e := Extern.SlicesOverlaps.overlaps #[42, 42] #[4]) (by kernel_rfl),
   Lib.run_overlaps_apart w 42 4 116 Tryz.underlying42 5 sizeOf_yardarm_api_Pool ⟨vb, voff, none⟩ ⟨b, off + (i + m) * 5, none⟩ m vc lb cb hvb tA tB kA kB hsa hsb hkB hfa hfe]
  rfl
 have hdl : (cs.drop (i * 5)).length = (n - i) * 5 := by rw [List.length_drop, hcl]; omega
 have mixed := mixed_all
 have hw1 : IntKind.i64.wrap ((i : Int) + (m : Int)) = (i : Int) + (m : Int) := by rw [IntKind.wrap_i64]; omega
 have hb1 : (0 : Int) ≤ (i : Int) + (m : Int) := by omega
 have hin : i ≤ n := by omega
 have htn : ((i : Int) + (m : Int)).toNat = i + m := by omega
 have hb2 : ¬ (c = i + m) := by omega
 have hb3 : (i : Int) ≤ (n : Int) + (m : Int) := by omega
 have hb4 : ¬ (c = i) := by omega
 have hcp1 : ∀ ty dc sc, (Builtin.copy_ #[42, 42] ty #[.slice (some ⟨b, off + (i + m) * 5, none⟩) (n + m - (i + m)) dc, .slice (some ⟨b, off + i * 5, none⟩) (n + m - i) sc]).run Tryz.prog w.drew = .ok (goInt ((n - i : Nat) : Int)) (w.drew.setCells b (off + (i + m) * 5) (cs.drop (i * 5))) := fun ty dc sc =>
  run_copy_n w.drew _ _ ty 116 5 b (off + (i + m) * 5) (n + m - (i + m)) dc ⟨b, off + i * 5, none⟩ (n + m - i) sc (n - i) (cs.drop (i * 5)) Tryz.underlying42 hsz (by simp only [Nat.min_def]; split <;> omega) hdl
   (fun j v hj => by rw [Addr.add_lit, Nat.add_assoc]; exact hcs (i * 5 + j) v (by rwa [List.getElem?_drop] at hj))
   (fun j hj => by rw [Nat.add_assoc]; exact hsp _ (by omega)) (fun j hj => by rw [Nat.add_assoc]; exact hfz _ (by omega)) (fun v hv => h1c v (List.mem_of_mem_drop hv))
 obtain ⟨W1, hW1⟩ : ∃ W1, W1 = w.drew.setCells b (off + (i + m) * 5) (cs.drop (i * 5)) := ⟨_, rfl⟩
 have hsp1 : ∀ k, k < (n + m) * 5 → (W1.cell? ⟨b, off + k, none⟩).isSome = true := fun k hk => by
  rw [hW1]
  exact isSome_setCells b _ _ _ (fun j hj => by rw [Nat.add_assoc]; exact hsp _ (by omega)) _ (hsp k hk)
 have hcp2 : ∀ (W : World), (∀ x, W.cell? x = W1.cell? x) → (∀ x, W.frozen? x = W1.frozen? x) → ∀ ty dc, (Builtin.copy_ #[42, 42] ty #[.slice (some ⟨b, off + i * 5, none⟩) (n + m - i) dc, .slice (some ⟨vb, voff, none⟩) m vc]).run Tryz.prog W = .ok (goInt m) (W.setCells b (off + i * 5) vs) := fun W hWc hWf ty dc =>
  run_copy_n W _ _ ty 116 5 b (off + i * 5) (n + m - i) dc ⟨vb, voff, none⟩ m vc m vs Tryz.underlying42 hsz (by simp only [Nat.min_def]; split <;> omega) hvl
   (fun j v hj => by
    rw [Addr.add_lit, hWc, hW1, World.cell?_setCells_out b _ _ _ _ (fun h _ => absurd h hvb)]
    exact hvs j v hj)
   (fun j hj => by rw [hWc, Nat.add_assoc]; exact hsp1 _ (by omega)) (fun j hj => by rw [hWf, hW1, World.frozen?_setCells, Nat.add_assoc]; exact hfz _ (by omega)) h1v
 rw [← hW1] at hcp1
 go_enter Tryz.func146, Tryz.ntmps146
 go_wp2_with (simp only [hov])
 go_region_law_o (refine step_copy_runI rfl _ _ 42 42 rfl _ _ (by simp [Act.eval, Act.put]) (by simp [Act.eval, Act.put]) (hcp1 _ _ _) ?_)
 go_wp2_with (at_builtin; refine wpList_copy_runI _ rfl _ _ 42 42 rfl _ _ rfl rfl (hcp2 _ (fun _ => rfl) (fun _ => rfl) _ _) ?_)
 go_ret
 first | exact ⟨rfl, rfl⟩ | exact ⟨rfl, by rw [hW1]⟩
set_option maxHeartbeats 4000000 in
set_option maxRecDepth 100000 in
/-- i < len(s), no room: a new row. -/
theorem insP_grow (b off n c i vb voff m vc : Nat) (cs vs : List Value) (z : Value) (hz0 : (Tryz.prog.info? 116).map (·.zero) = some (some z)) (w : World) (hi : i < n) (hm : 0 < m) (hnc : n ≤ c) (hroom : c < n + m) (hbig : (n + m) * 56 ≤ 140737488355328)
  (hcl : cs.length = n * 5) (hvl : vs.length = m * 5)
  (hcs : ∀ j v, cs[j]? = some v → w.cell? ⟨b, off + j, none⟩ = some v)
  (hvs : ∀ j v, vs[j]? = some v → w.cell? ⟨vb, voff + j, none⟩ = some v) (h1c : ∀ v ∈ cs, v.oneCell' = true) (h1v : ∀ v ∈ vs, v.oneCell' = true) :
  Calls Tryz.prog 146 #[.slice (some ⟨b, off, none⟩) n c, .int .i64 i, .slice (some ⟨vb, voff, none⟩) m vc] w fun e w' =>
   e = .returned (.slice (some ⟨w.heap.size, 0, none⟩) (n + m) (grownCap w (n + m) c 116)) ∧
   w' = (((w.alloc (.cells ((cs.take (i * 5)).toArray ++ Builtin.zeroCells z.cells (n + m - i) ++ Builtin.zeroCells z.cells (grownCap w (n + m) c 116 - (n + m))) 116)).drew.setCells w.heap.size (i * 5) vs).drew).setCells w.heap.size ((i + m) * 5) (cs.drop (i * 5)) := by
 have u30 := run_underlying Tryz.underlying42
 have z49 := sizeOf_yardarm_api_Pool
 have mixed := mixed_all
 obtain ⟨i0, hi0, hz⟩ := Option.map_eq_some_iff.1 infoOf_yardarm_api_Pool
 simp only [Prod.mk.injEq] at hz
 obtain ⟨hzc, hzs, hzb⟩ := hz
 have hz0 : i0.zero = some z := by rw [hi0] at hz0; simpa using hz0
 have hzc : z.cells.size = 5 := by rw [hz0] at hzc; simpa using hzc
 have hz1 : ¬ ((m : Int) = 0) := by omega
 have hz2 : ¬ ((i : Int) = (n : Int)) := by omega
 have hz3 : (c : Int) < (n : Int) + (m : Int) := by omega
 have hsz : (Tryz.prog.info? 116).map (·.size) = some 5 := by rw [hi0]; simp [hzs]
 have hbw : b < w.heap.size := block_lt_of_cell (hcs 0 _ (List.getElem?_eq_getElem (by omega)))
 have hvw : vb < w.heap.size := block_lt_of_cell (hvs 0 _ (List.getElem?_eq_getElem (by omega)))
 have hkk : (n : Int) + (m : Int) - (i : Int) = ((n + m - i : Nat) : Int) := by omega
 have hik : i + (n + m - i) = n + m := by omega
 have hold : (Builtin.firstCells i0.size i (.slice (some ⟨b, off, none⟩) i c)).run Tryz.prog w.drew = .ok (cs.take (i * 5)).toArray w.drew := by
  rw [hzs]
  exact run_firstCells_some w.drew 5 i ⟨b, off, none⟩ i c (cs.take (i * 5)) (by rw [List.length_take]; omega) (fun j v hj => by
   rw [Addr.add_lit]
   rw [List.getElem?_take] at hj
   split at hj
   ·exact hcs j v hj
   ·cases hj)
 have hrz : ∀ ty, (Builtin.append_ #[42, 3] ty #[.slice (some ⟨b, off, none⟩) i c, .int .i64 ((n : Int) + (m : Int) - (i : Int))]).run Tryz.prog w =
   .ok (.slice (some ⟨w.heap.size, 0, none⟩) (n + m) (grownCap w (n + m) c 116)) (w.drew.alloc (.cells ((cs.take (i * 5)).toArray ++ Builtin.zeroCells z.cells (n + m - i) ++ Builtin.zeroCells z.cells (grownCap w (n + m) c 116 - (n + m))) 116)) := fun ty => by
  have h := Lib.run_append_grow_zeros w 42 3 ty 116 i0 z .i64 .i64 Tryz.underlying42 Tryz.underlying3 hi0 hz0 (some ⟨b, off, none⟩) i c (cs.take (i * 5)) hold (n + m - i) (by omega) (by omega) (by omega) (by omega) (by rw [hzb]; omega) (by rw [hzb, hik]; exact growslice_fits hroom hbig)
  rw [hik] at h
  rw [hkk]
  exact h
 obtain ⟨G, hG⟩ : ∃ G, G = grownCap w (n + m) c 116 := ⟨_, rfl⟩
 obtain ⟨ROW, hROW⟩ : ∃ ROW : Array Value, ROW = (cs.take (i * 5)).toArray ++ Builtin.zeroCells z.cells (n + m - i) ++ Builtin.zeroCells z.cells (G - (n + m)) := ⟨_, rfl⟩
 rw [← hG] at hrz ⊢
 rw [← hROW] at hrz ⊢
 have hRl : (n + m) * 5 ≤ ROW.size := by
  rw [hROW]
  simp [Builtin.zeroCells, hzc]
  omega
 obtain ⟨W1, hW1⟩ : ∃ W1, W1 = w.drew.alloc (.cells ROW 116) := ⟨_, rfl⟩
 rw [← hW1] at hrz
 have hN : ∀ j, j < (n + m) * 5 → (W1.cell? ⟨w.heap.size, j, none⟩).isSome = true := fun j hj => by
  rw [hW1, World.cell?_alloc_at (w := w.drew) ROW _ w.heap.size j rfl, Array.getElem?_eq_getElem (by omega)]; rfl
 have hNf : ∀ j, W1.frozen? ⟨w.heap.size, j, none⟩ = false := fun j => by rw [hW1]; exact World.frozen?_alloc_at (w := w.drew) ROW _ w.heap.size j rfl
 have hOb : ∀ j v, w.cell? ⟨b, j, none⟩ = some v → W1.cell? ⟨b, j, none⟩ = some v := fun j v h => by rw [hW1, World.cell?_alloc_past (w := w.drew) _ b j hbw]; exact h
 have hOv : ∀ j v, w.cell? ⟨vb, j, none⟩ = some v → W1.cell? ⟨vb, j, none⟩ = some v := fun j v h => by rw [hW1, World.cell?_alloc_past (w := w.drew) _ vb j hvw]; exact h
 have hcpA : ∀ (W : World), (∀ x, W.cell? x = W1.cell? x) → (∀ x, W.frozen? x = W1.frozen? x) → ∀ ty dc, (Builtin.copy_ #[42, 42] ty #[.slice (some ⟨w.heap.size, i * 5, none⟩) (n + m - i) dc, .slice (some ⟨vb, voff, none⟩) m vc]).run Tryz.prog W = .ok (goInt (m : Int)) (W.setCells w.heap.size (i * 5) vs) := fun W hWc hWf ty dc =>
  run_copy_n W _ _ ty 116 5 w.heap.size (i * 5) (n + m - i) dc ⟨vb, voff, none⟩ m vc m vs Tryz.underlying42 hsz (by simp only [Nat.min_def]; split <;> omega) hvl
   (fun j v hj => by rw [Addr.add_lit, hWc]; exact hOv _ v (hvs j v hj))
   (fun j hj => by rw [hWc]; exact hN _ (by omega)) (fun j hj => by rw [hWf]; exact hNf _) h1v
 have hGn : n + m ≤ G := by rw [hG]; exact grownCap_ge w _ _ _
 have hG63 : G ≤ 9223372036854775807 := by
  have := grownCap_le_maxLen w (n + m) c 116 (by unfold maxLen; omega)
  rw [← hG] at this
  unfold maxLen at this
  omega
 have hGi : ¬ (G = i) := by omega
 have hGim : ¬ (G = i + m) := by omega
 have hci : ¬ (c = i) := by omega
 have hbN : b ≠ w.heap.size := by omega
 have hdl : (cs.drop (i * 5)).length = (n - i) * 5 := by rw [List.length_drop, hcl]; omega
 have hcpB : ∀ (W : World), (∀ x, W.cell? x = (W1.setCells w.heap.size (i * 5) vs).cell? x) → (∀ x, W.frozen? x = (W1.setCells w.heap.size (i * 5) vs).frozen? x) → ∀ ty dc sc, (Builtin.copy_ #[42, 42] ty #[.slice (some ⟨w.heap.size, (i + m) * 5, none⟩) (n + m - (i + m)) dc, .slice (some ⟨b, off + i * 5, none⟩) (n - i) sc]).run Tryz.prog W = .ok (goInt ((n - i : Nat) : Int)) (W.setCells w.heap.size ((i + m) * 5) (cs.drop (i * 5))) := fun W hWc hWf ty dc sc =>
  run_copy_n W _ _ ty 116 5 w.heap.size ((i + m) * 5) (n + m - (i + m)) dc ⟨b, off + i * 5, none⟩ (n - i) sc (n - i) (cs.drop (i * 5)) Tryz.underlying42 hsz (by simp only [Nat.min_def]; split <;> omega) hdl
   (fun j v hj => by
    rw [Addr.add_lit, hWc, World.cell?_setCells_out _ _ _ _ _ (fun h _ => absurd h hbN), Nat.add_assoc]
    exact hOb _ v (hcs (i * 5 + j) v (by rwa [List.getElem?_drop] at hj)))
   (fun j hj => by rw [hWc]; exact isSome_setCells _ _ _ _ (fun t ht => hN _ (by omega)) _ (hN _ (by omega)))
   (fun j hj => by rw [hWf, World.frozen?_setCells]; exact hNf _) (fun v hv => h1c v (List.mem_of_mem_drop hv))
 subst hW1
 have hE1 : ∀ x, ((w.alloc (.cells ROW 116)).drew).cell? x = (w.drew.alloc (.cells ROW 116)).cell? x := fun x => rfl
 have hE2 : ∀ x, ((w.alloc (.cells ROW 116)).drew).frozen? x = (w.drew.alloc (.cells ROW 116)).frozen? x := fun x => rfl
 have hF1 : ∀ x, (((w.alloc (.cells ROW 116)).drew.setCells w.heap.size (i * 5) vs).drew).cell? x = ((w.drew.alloc (.cells ROW 116)).setCells w.heap.size (i * 5) vs).cell? x := fun x => rfl
 have hF2 : ∀ x, (((w.alloc (.cells ROW 116)).drew.setCells w.heap.size (i * 5) vs).drew).frozen? x = ((w.drew.alloc (.cells ROW 116)).setCells w.heap.size (i * 5) vs).frozen? x := fun x => rfl
 have hw1 : IntKind.i64.wrap ((i : Int) + (m : Int)) = (i : Int) + (m : Int) := by rw [IntKind.wrap_i64]; omega
 have hb1 : (0 : Int) ≤ (i : Int) + (m : Int) := by omega
 have hin : i ≤ n := by omega
 have htn : ((i : Int) + (m : Int)).toNat = i + m := by omega
 have hb3 : (i : Int) ≤ (n : Int) := by omega
 clear hkk hik hold hROW hG hRl
 go_enter Tryz.func146, Tryz.ntmps146
 go_wp2_with (first
  | (at_builtin; refine Lib.wpList_append_run _ rfl _ _ _ _ rfl _ _ rfl rfl _ _ (hrz _) ?_)
  | (at_builtin; refine wpList_copy_runI _ rfl _ _ 42 42 rfl _ _ rfl rfl (hcpA _ hE1 hE2 _ _) ?_)
  | (at_builtin; refine wpList_copy_runI _ rfl _ _ 42 42 rfl _ _ rfl rfl (hcpB _ (fun _ => rfl) (fun _ => rfl) _ _ _) ?_))
 go_region_law_o (refine step_copy_runI rfl _ _ 42 42 rfl (.slice (some ⟨w.heap.size, (i + m) * 5, none⟩) (n + m - (i + m)) (G - (i + m))) (.slice (some ⟨b, off + i * 5, none⟩) (n - i) (c - i)) (by simp [Act.eval, Act.put]) (by simp [Act.eval, Act.put]) (hcpB _ hF1 hF2 3 (G - (i + m)) (c - i)) ?_)
 go_wp2
 go_ret
 exact ⟨rfl, rfl⟩
set_option maxHeartbeats 4000000 in
set_option maxRecDepth 100000 in
/-- At the end: whatever append does. -/
theorem insP_end (v : Value) (base : Option Addr) (n c : Nat) (vb vc m : Nat) (v' : Value) (w w' : World) (hm : 0 < m) (hnc : n ≤ c)
  (hrun : ∀ ty, (Builtin.append_ #[42, 42] ty #[.slice base n c, .slice (some ⟨vb, 0, none⟩) m vc]).run Tryz.prog w = .ok v' w') (hsl : ∃ A N C, v' = .slice A N C) (hnil : base = none → n = 0) :
  Calls Tryz.prog 146 #[.slice base n c, .int .i64 n, .slice (some ⟨vb, 0, none⟩) m vc] w fun e w2 => e = .returned v' ∧ w2 = w' := by
 have u30 := run_underlying Tryz.underlying42
 have z49 := sizeOf_yardarm_api_Pool
 have mixed := mixed_all
 have hz1 : ¬ ((m : Int) = 0) := by omega
 obtain ⟨A, N, C, rfl⟩ := hsl
 go_enter Tryz.func146, Tryz.ntmps146
 cases base with
 | none =>
  have h0 := hnil rfl
  subst h0
  go_wp2_with (at_builtin; refine Lib.wpList_append_run _ rfl _ _ _ _ rfl _ _ rfl rfl _ _ (hrun _) ?_)
  all_goals (go_ret; exact ⟨rfl, rfl⟩)
 | some a =>
  obtain ⟨ab, ao, asp⟩ := a
  go_wp2_with (at_builtin; refine Lib.wpList_append_run _ rfl _ _ _ _ rfl _ _ rfl rfl _ _ (hrun _) ?_)
  all_goals (go_ret; exact ⟨rfl, rfl⟩)
theorem insP_cells {arr : Array Value} {n i : Nat} {cs xs : List Value} (hi : i < n) (hcl : cs.length = n * 5) (hxl : xs.length = 5) (hsz : (n + 1) * 5 ≤ arr.size) (h0 : ∀ q, q < i * 5 → arr[q]? = cs[q]?) :
  (setArr (setArr arr ((i + 1) * 5) (cs.drop (i * 5))) (i * 5) xs).toList.take ((n + 1) * 5) = cs.take (i * 5) ++ xs ++ cs.drop (i * 5) ∧
  (setArr (setArr arr (i * 5) xs) ((i + 1) * 5) (cs.drop (i * 5))).toList.take ((n + 1) * 5) = cs.take (i * 5) ++ xs ++ cs.drop (i * 5) := by
 have hdl : (cs.drop (i * 5)).length = (n - i) * 5 := by rw [List.length_drop, hcl]; omega
 have hrhs : ∀ q : Nat, (cs.take (i * 5) ++ xs ++ cs.drop (i * 5))[q]? = if q < i * 5 then cs[q]? else if q < (i + 1) * 5 then xs[q - i * 5]? else (cs.drop (i * 5))[q - (i + 1) * 5]? := by
  intro q
  rw [List.append_assoc, List.getElem?_append, List.length_take, Nat.min_eq_left (by omega)]
  split
  ·rw [List.getElem?_take, if_pos (by assumption)]
  ·rw [List.getElem?_append, hxl]
   by_cases hq : q < (i + 1) * 5
   ·rw [if_pos (by omega), if_pos hq]
   ·rw [if_neg (by omega), if_neg hq]
    congr 1
    omega
 constructor
 ·apply List.ext_getElem?
  intro q
  rw [hrhs, List.getElem?_take]
  by_cases hq : q < (n + 1) * 5
  ·rw [if_pos hq, Array.getElem?_toList, setArr_get _ _ _ _ (by rw [zq62]; omega)]
   by_cases h1 : q < i * 5
   ·rw [if_neg (by omega), if_pos h1, setArr_get _ _ _ _ (by omega), if_neg (by omega), h0 q h1]
   ·rw [if_neg h1]
    by_cases h2 : q < (i + 1) * 5
    ·rw [if_pos (by omega), if_pos h2]
    ·rw [if_neg (by omega), if_neg h2, setArr_get _ _ _ _ (by omega), if_pos (by omega)]
  ·rw [if_neg hq, if_neg (by omega), if_neg (by omega), List.getElem?_eq_none (by omega)]
 ·apply List.ext_getElem?
  intro q
  rw [hrhs, List.getElem?_take]
  by_cases hq : q < (n + 1) * 5
  ·rw [if_pos hq, Array.getElem?_toList, setArr_get _ _ _ _ (by rw [zq62]; omega)]
   by_cases h1 : q < i * 5
   ·rw [if_neg (by omega), if_pos h1, setArr_get _ _ _ _ (by omega), if_neg (by omega), h0 q h1]
   ·rw [if_neg h1]
    by_cases h2 : q < (i + 1) * 5
    ·rw [if_neg (by omega), if_pos h2, setArr_get _ _ _ _ (by omega), if_pos (by omega)]
    ·rw [if_pos (by omega), if_neg h2]
  ·rw [if_neg hq, if_neg (by omega), if_neg (by omega), List.getElem?_eq_none (by omega)]
theorem insP_main (base : Nat) (w : World) (v u : Value) (n i : Nat) (cs xs : List Value) (h1 : w.ownsRow base 116 5 v n cs) (h2 : w.ownsRow base 116 5 u 1 xs) (hap : ∀ b, v.ownBlock = some b → u.ownBlock ≠ some b) (hc1 : ∀ x ∈ cs, oneC x = true) (hc2 : ∀ x ∈ xs, oneC x = true)
  (hbase : base ≤ w.heap.size) (hin : i ≤ n) (hbig : n + 1 ≤ 274877906944) :
  Calls Tryz.prog 146 #[v, .int .i64 (i : Int), u] w fun r w' => ∃ v', r = .returned v' ∧ w'.ownsRow base 116 5 v' (n + 1) (cs.take (i * 5) ++ xs ++ cs.drop (i * 5)) ∧ w.grownBy w' v.ownBlock ∧ (∀ b, v'.ownBlock = some b → v.ownBlock = some b ∨ w.heap.size ≤ b) := by
 obtain ⟨i0, hi0, hz⟩ := Option.map_eq_some_iff.1 infoOf_yardarm_api_Pool
 simp only [Prod.mk.injEq] at hz
 obtain ⟨hzc, hzs, hzb⟩ := hz
 obtain ⟨z, hz0, hzc⟩ := Option.map_eq_some_iff.1 hzc
 have hcl := h1.1
 have hxl : xs.length = 5 := by have := h2.1; omega
 rcases h2.2 with ⟨_, h0⟩ | ⟨vb, vc, curv, rfl, hvbase, hvheap, hvc, hvcm, hvsz, hvtake⟩
 ·cases h0
 have hvs : ∀ j x, xs[j]? = some x → w.cell? ⟨vb, 0 + j, none⟩ = some x := by
  intro j x hj
  rw [Nat.zero_add, zq15 hvheap, ← Array.getElem?_toList]
  rw [← hvtake, List.getElem?_take] at hj
  split at hj
  ·exact hj
  ·cases hj
 have h1v : ∀ x ∈ xs, x.oneCell' = true := fun x hx => oneC_cell' (hc2 x hx)
 have h1c : ∀ x ∈ cs, x.oneCell' = true := fun x hx => oneC_cell' (hc1 x hx)
 by_cases hine : i = n
 ·subst hine
  have htd : cs.take (i * 5) ++ xs ++ cs.drop (i * 5) = cs ++ xs := by rw [List.take_of_length_le (by omega), List.drop_of_length_le (by omega), List.append_nil]
  rw [htd]
  have hown5 : w.ownsRow base 116 i0.size v i cs := by rw [hzs]; exact h1
  obtain ⟨v', w', hrun, hown', hgb, hblk⟩ := append_own (P := Tryz.prog) w base 42 0 116 i0 z Tryz.underlying42 hi0 hz0 (by rw [hzs]; exact hzc) (by omega) v i cs hown5 (some ⟨vb, 0, none⟩) 1 vc xs (by rw [hzs]; omega) (by simp)
   (fun ad had j x hj => by
    cases had
    rw [add_zero_addr]
    exact hvs j x hj) h1v (by unfold maxLen; omega) (by rw [hzb]; omega) hbase
  have hrun' : ∀ ty, (Builtin.append_ #[42, 42] ty #[v, .slice (some ⟨vb, 0, none⟩) 1 vc]).run Tryz.prog w = .ok v' w' := fun ty => by
   rw [← hrun]
   rfl
  rw [hzs] at hown'
  have hsl : ∃ A N C, v' = .slice A N C := by
   rcases hown'.2 with ⟨h, _⟩ | ⟨g, cp, cur, h, _⟩
   ·exact ⟨_, _, _, h⟩
   ·exact ⟨_, _, _, h⟩
  have hv : ∃ A c, v = .slice A i c ∧ i ≤ c ∧ (A = none → i = 0) := by
   rcases h1.2 with ⟨h, h0⟩ | ⟨g, cp, cur, h, _, _, hc, _⟩
   ·exact ⟨none, 0, by rw [h, h0], by omega, fun _ => h0⟩
   ·exact ⟨_, cp, h, hc, fun h => by cases h⟩
  obtain ⟨A, c, rfl, hc, hnil⟩ := hv
  refine (insP_end (.slice A i c) A i c vb vc 1 v' w w' (by omega) hc hrun' hsl hnil).mono ?_
  rintro e w2 ⟨rfl, rfl⟩
  exact ⟨v', rfl, hown', hgb, hblk⟩
 ·have hi : i < n := by omega
  rcases h1.2 with ⟨_, h0⟩ | ⟨g, cap, cur, rfl, hgbase, hgheap, hnc, hcm, hgsz, hgtake⟩
  ·omega
  have hvbg : vb ≠ g := fun e => hap g rfl (by rw [e]; rfl)
  have hcs : ∀ j x, cs[j]? = some x → w.cell? ⟨g, 0 + j, none⟩ = some x := by
   intro j x hj
   rw [Nat.zero_add, zq15 hgheap, ← Array.getElem?_toList]
   rw [← hgtake, List.getElem?_take] at hj
   split at hj
   ·exact hj
   ·cases hj
  by_cases hroom : n + 1 ≤ cap
  ·refine (insP_shift g 0 n cap i vb 0 1 vc cs xs w hi (by omega) hroom (by unfold maxLen at hcm; omega) hvbg hcl (by omega) hcs
    (fun j hj => by rw [Nat.zero_add, zq15 hgheap, Array.getElem?_eq_getElem (by omega)]; rfl) (fun j hj => by simp [World.frozen?, hgheap]) hvs h1c h1v 116 116 curv.size cur.size
    (by simp [World.shape?, hvheap]) (by simp [World.shape?, hgheap]) (by omega) (by simp [World.frozen?, hvheap]) (by simp [World.frozen?, hvheap])).mono ?_
   rintro e w' ⟨rfl, rfl⟩
   have hg0 : w.drew.heap[g]? = some (.cells cur 116 (0, 0)) := hgheap
   obtain ⟨a1, a2, a3, a4, a5, a6⟩ := zq63 w.drew g (0 + (i + 1) * 5) (cs.drop (i * 5)) cur 116 (0, 0) hg0
   obtain ⟨b1, b2, b3, b4, b5, b6⟩ := zq63 _ g (0 + i * 5) xs _ 116 (0, 0) a1
   have hdl : (cs.drop (i * 5)).length = (n - i) * 5 := by rw [List.length_drop, hcl]; omega
   refine ⟨_, rfl, ⟨?_, .inr ⟨g, cap, _, rfl, hgbase, b1, hroom, hcm, by rw [zq62, zq62]; exact hgsz, ?_⟩⟩, ⟨b4.trans a4, b5.trans a5, b6.trans a6, by rw [b3, a3]; exact Nat.le_refl _, fun k hk hne => ?_⟩, fun b hb => .inl hb⟩
   ·simp only [List.length_append, List.length_take, hdl, hxl]; omega
   ·rw [Nat.zero_add, Nat.zero_add]
    refine (insP_cells hi hcl hxl (by omega) fun q hq => ?_).1
    rw [← hgtake, List.getElem?_take, if_pos (by omega), Array.getElem?_toList]
   ·have hkg : k ≠ g := fun e => hne (by rw [e]; rfl)
    exact (b2 k hkg).trans (a2 k hkg)
  ·refine (insP_grow g 0 n cap i vb 0 1 vc cs xs z (by rw [hi0]; simp [hz0]) w hi (by omega) hnc (by omega) (by omega) hcl (by omega) hcs hvs h1c h1v).mono ?_
   rintro e w' ⟨rfl, rfl⟩
   obtain ⟨G, hG⟩ : ∃ G, G = grownCap w (n + 1) cap 116 := ⟨_, rfl⟩
   have hGn : n + 1 ≤ G := by rw [hG]; exact grownCap_ge w _ _ _
   have hG63 : G ≤ maxLen := by rw [hG]; exact grownCap_le_maxLen w (n + 1) cap 116 (by unfold maxLen; omega)
   rw [← hG]
   obtain ⟨ROW, hROW⟩ : ∃ ROW : Array Value, ROW = (cs.take (i * 5)).toArray ++ Builtin.zeroCells z.cells (n + 1 - i) ++ Builtin.zeroCells z.cells (G - (n + 1)) := ⟨_, rfl⟩
   rw [← hROW]
   have hRs : ROW.size = G * 5 := by
    rw [hROW]
    simp [Builtin.zeroCells, hzc]
    omega
   have hR0 : ∀ q, q < i * 5 → ROW[q]? = cs[q]? := fun q hq => by
    rw [hROW, Array.append_assoc, Array.getElem?_append_left (by simp; omega)]
    simp only [List.getElem?_toArray, List.getElem?_take, if_pos hq]
   have hh : ((w.alloc (.cells ROW 116)).drew).heap[w.heap.size]? = some (.cells ROW 116 (0, 0)) := by
    show (w.heap.push _)[w.heap.size]? = _
    exact Array.getElem?_push_size
   obtain ⟨a1, a2, a3, a4, a5, a6⟩ := zq63 _ w.heap.size (i * 5) xs ROW 116 (0, 0) hh
   have a1' : (((w.alloc (.cells ROW 116)).drew.setCells w.heap.size (i * 5) xs).drew).heap[w.heap.size]? = _ := a1
   obtain ⟨b1, b2, b3, b4, b5, b6⟩ := zq63 _ w.heap.size ((i + 1) * 5) (cs.drop (i * 5)) _ 116 (0, 0) a1'
   have hdl : (cs.drop (i * 5)).length = (n - i) * 5 := by rw [List.length_drop, hcl]; omega
   have hold : ∀ k, k < w.heap.size → ((w.alloc (.cells ROW 116)).drew).heap[k]? = w.heap[k]? := fun k hk => by
    show (w.heap.push _)[k]? = _
    rw [Array.getElem?_push, if_neg (by omega)]
   refine ⟨_, rfl, ⟨?_, .inr ⟨w.heap.size, G, _, rfl, hbase, b1, hGn, hG63, by rw [zq62, zq62]; exact hRs, ?_⟩⟩, ⟨b4.trans a4, b5.trans a5, b6.trans a6, ?_, fun k hk hne => ?_⟩, fun b hb => .inr ?_⟩
   ·simp only [List.length_append, List.length_take, hdl, hxl]; omega
   ·exact (insP_cells hi hcl hxl (by omega) hR0).2
   ·rw [b3]
    show w.heap.size ≤ ((w.alloc (.cells ROW 116)).drew.setCells w.heap.size (i * 5) xs).heap.size
    rw [a3]
    show w.heap.size ≤ (w.heap.push _).size
    simp
   ·exact ((b2 k (by omega)).trans (a2 k (by omega))).trans (hold k hk)
   ·cases hb
    exact Nat.le_refl _
noncomputable def slices_Insert___api_Addr_api_Addr__con : Con := takeCon (insCon .addr 32)
theorem slices_Insert___api_Addr_api_Addr__ok : TrOk Tryz.prog 148 slices_Insert___api_Addr_api_Addr__con := takeCon_ok (ins_ok .addr 32 insA_main)
noncomputable def slices_Insert___api_Pool_api_Pool__con : Con := insNCon .pfx .addr 116 32
theorem slices_Insert___api_Pool_api_Pool__ok : TrOk Tryz.prog 146 slices_Insert___api_Pool_api_Pool__con := insN_ok .pfx .addr 116 32 insP_main
end Go.Proofs.YtjncjiegmnicbabGreat
namespace Go.Proofs.YtjncjiegmnicbabGreat
open Go Go.Ma Go.RowKit Go.Lib Go.Proofs
theorem run_clear_n {P : Program} (w : World) (t e : TypeId) (z : Value) (s : Nat) (ht : P.underlying t = some (.slice e)) (hv : ∀ w, (zeroValue e).run P w = .ok z w) (hz : z.cells.size = s) (h1 : ∀ v ∈ z.cells.toList, v.oneCell' = true) (b o n : Nat) (hn : 0 < n)
  (hc : ∀ j, j < n * s → (w.cell? ⟨b, o + j, none⟩).isSome = true) (hf : ∀ j, j < n * s → w.frozen? ⟨b, o + j, none⟩ = false) :
  ∃ Z : List Value, Z.length = n * s ∧ ∀ ty c, (Builtin.clear_ #[t] ty #[.slice (some ⟨b, o, none⟩) n c]).run P w = .ok (.tuple #[]) (w.setCells b o Z) := by
 have hlen : (Builtin.zeroCells z.cells n).toList.length = n * s := by simp [Builtin.zeroCells, hz]
 have hst := run_storeCells_cells (P := P) b o (Builtin.zeroCells z.cells n).toList 0 w (fun j hj => by rw [hlen] at hj; first | exact hc j (by simpa using hj) | simpa using hc j (by simpa using hj)) (fun j hj => by rw [hlen] at hj; first | exact hf j (by simpa using hj) | simpa using hf j (by simpa using hj)) (fun v hv' => by
  simp only [Builtin.zeroCells, Array.toList_map, List.mem_map] at hv'
  obtain ⟨q, hq, rfl⟩ := hv'
  have hs : 0 < z.cells.size := by
   rcases Nat.eq_zero_or_pos z.cells.size with h0 | h0
   ·simp [h0] at hq
   ·exact h0
  refine h1 _ ?_
  rw [getElem!_pos z.cells _ (Nat.mod_lt _ hs)]
  simp)
 simp only [Nat.add_zero] at hst
 obtain ⟨m, rfl⟩ : ∃ m, n = m + 1 := ⟨n - 1, by omega⟩
 exact ⟨_, hlen, fun ty c => by simp [Builtin.clear_, run_underlying ht, hv, hst]⟩
theorem zeroOf_lease : ∃ z, (∀ w, (zeroValue 127).run Tryz.prog w = .ok z w) ∧ z.cells.size = 5 ∧ ∀ v ∈ z.cells.toList, v.oneCell' = true := by
 obtain ⟨i, d, z, hi, hd, hz, h1, h2, _⟩ := (tyOk.ty 127 rfl).ex
 have h2 : z.cells.toList = [.bool false, .int .u64 0, .int .u64 0, .string .empty, .int .i64 0] := h2.symm
 refine ⟨z, fun w => by simp [zeroValue, typeInfo, hi, hz], by rw [← Array.length_toList, h2]; rfl, fun v hv => ?_⟩
 rw [h2] at hv
 simp only [List.mem_cons, List.not_mem_nil, or_false] at hv
 rcases hv with rfl | rfl | rfl | rfl | rfl <;> rfl
set_option maxHeartbeats 4000000 in
set_option maxRecDepth 100000 in
theorem del_same (A : Option Addr) (n c i : Nat) (w : World) (hin : i ≤ n) (hnc : n ≤ c) (hA : A = none → n = 0 ∧ c = 0) :
  Calls Tryz.prog 153 #[.slice A n c, .int .i64 i, .int .i64 i] w fun e w' => e = .returned (.slice A n c) ∧ w' = w := by
 have u30 := run_underlying Tryz.underlying43
 have z49 := zq64
 have mixed := mixed_all
 cases A with
 | none =>
  obtain ⟨rfl, rfl⟩ := hA rfl
  have h0 : i = 0 := by omega
  subst h0
  go_enter Tryz.func153, Tryz.ntmps153
  go_wp2
  all_goals (go_ret; exact ⟨rfl, rfl⟩)
 | some a =>
  obtain ⟨ab, ao, asp⟩ := a
  go_enter Tryz.func153, Tryz.ntmps153
  go_wp2
  all_goals (go_ret; exact ⟨rfl, rfl⟩)
set_option maxHeartbeats 4000000 in
set_option maxRecDepth 100000 in
theorem del_shift (b n c i j : Nat) (cs : List Value) (w : World) (hij : i < j) (hjn : j ≤ n) (hnc : n ≤ c) (hc63 : c ≤ 9223372036854775807) (hcl : cs.length = n * 5)
  (hcs : ∀ q v, cs[q]? = some v → w.cell? ⟨b, q, none⟩ = some v) (hfz : ∀ q, q < n * 5 → w.frozen? ⟨b, q, none⟩ = false) (h1c : ∀ v ∈ cs, v.oneCell' = true) :
  Calls Tryz.prog 153 #[.slice (some ⟨b, 0, none⟩) n c, .int .i64 i, .int .i64 j] w fun e w' =>
   e = .returned (.slice (some ⟨b, 0, none⟩) (i + (n - j)) c) ∧ ∃ Z : List Value, Z.length = (j - i) * 5 ∧ w' = (w.drew.setCells b (0 + i * 5) (cs.drop (j * 5))).setCells b ((i + (n - j)) * 5) Z := by
 have u30 := run_underlying Tryz.underlying43
 have z49 := zq64
 have mixed := mixed_all
 obtain ⟨i0, hi0, hz⟩ := Option.map_eq_some_iff.1 infoOf_yardarm_api_Lease
 simp only [Prod.mk.injEq] at hz
 obtain ⟨hzc, hzs, hzb⟩ := hz
 obtain ⟨news, hnews⟩ : ∃ news, news = cs.drop (j * 5) := ⟨_, rfl⟩
 have hlen : news.length = (n - j) * 5 := by rw [hnews, List.length_drop, hcl]; omega
 obtain ⟨A, hA, hsrc⟩ : ∃ A : Addr, (if c = j then (some (⟨b, 0, none⟩ : Addr)) else some ⟨b, j * 5, none⟩) = some A ∧ Hid (∀ t u, news[t]? = some u → w.drew.cell? (A.add t) = some u) := by
  by_cases h : c = j
  ·refine ⟨⟨b, 0, none⟩, by simp [h], fun t u hu => ?_⟩
   have h0 : news.length = 0 := by rw [hlen]; omega
   rw [List.length_eq_zero_iff.1 h0] at hu
   simp at hu
  ·refine ⟨⟨b, j * 5, none⟩, by simp [h], fun t u hu => ?_⟩
   rw [hnews, List.getElem?_drop] at hu
   rw [Addr.add_lit]
   exact hcs _ u hu
 have s1 : Hid (news.length = (n - j) * 5) := hlen
 have s2 : Hid (∀ u ∈ news, u.oneCell' = true) := fun u hu => h1c u (List.mem_of_mem_drop (by rw [← hnews]; exact hu))
 have hsome : ∀ q, q < n * 5 → (w.cell? ⟨b, q, none⟩).isSome = true := fun q hq => by
  rw [hcs q _ (List.getElem?_eq_getElem (by omega))]; rfl
 have s3 : Hid (∀ t, t < news.length → (w.drew.cell? ⟨b, 0 + i * 5 + t, none⟩).isSome = true ∧ w.drew.frozen? ⟨b, 0 + i * 5 + t, none⟩ = false) := fun t ht => by
  rw [hlen] at ht
  exact ⟨hsome _ (by omega), hfz _ (by omega)⟩
 obtain ⟨W1, hW1⟩ : ∃ W1, W1 = w.drew.setCells b (0 + i * 5) news := ⟨_, rfl⟩
 obtain ⟨z, zv, zs, zo⟩ := zeroOf_lease
 have hsome1 : ∀ q, q < n * 5 → (W1.cell? ⟨b, q, none⟩).isSome = true := fun q hq => by
  rw [hW1]
  exact isSome_setCells b _ _ _ (fun t ht => by rw [hlen] at ht; exact hsome _ (by omega)) _ (hsome q hq)
 have hfz1 : ∀ q, q < n * 5 → W1.frozen? ⟨b, q, none⟩ = false := fun q hq => by
  rw [hW1, World.frozen?_setCells]; exact hfz q hq
 obtain ⟨Z, hZl, hcl'⟩ : ∃ Z : List Value, Z.length = (j - i) * 5 ∧ ∀ ty cc, (Builtin.clear_ #[43] ty #[.slice (some ⟨b, (i + (n - j)) * 5, none⟩) (n - (i + (n - j))) cc]).run Tryz.prog W1 = .ok (.tuple #[]) (W1.setCells b ((i + (n - j)) * 5) Z) := by
  obtain ⟨Z, h1, h2⟩ := run_clear_n W1 _ _ z 5 Tryz.underlying43 zv zs zo b ((i + (n - j)) * 5) (n - (i + (n - j))) (by omega) (fun q hq => hsome1 _ (by omega)) (fun q hq => hfz1 _ (by omega))
  exact ⟨Z, by rw [h1]; congr 1; omega, h2⟩
 have hW : Hid (W1 = w.drew.setCells b (0 + i * 5) news) := hW1
 have X : Hid (Z.length = (j - i) * 5) := hZl
 have hic : i ≤ c := by omega
 have hjc : j ≤ c := by omega
 have hne : ¬ ((i : Int) = (j : Int)) := by omega
 have hin : i ≤ n := by omega
 have hij' : i ≤ j := by omega
 subst hnews
 clear hZl hW1 hsome1 hfz1 hsome hcs hfz hlen zo zs zv hcl
 go_enter Tryz.func153, Tryz.ntmps153
 go_wp2_with fail
 go_region_law_o (refine step_append_room rfl (.tmp 22) (.tmp 25) 43 rfl 127 i0 5 Tryz.underlying43 hi0 hzs b 0 i c (by simp [Act.eval, Act.put]) A (n - j) (c - j) (cs.drop (j * 5)) (by simp [Act.eval, Act.put]) s1.out hsrc.out s2.out (by omega) s3.out ?_; rw [← hW.out])
 go_wp2
 go_ret
 exact ⟨rfl, Z, X.out, by rw [← hW.out]⟩
theorem del_cells {arr : Array Value} {n i j : Nat} {cs Z : List Value} (hij : i < j) (hjn : j ≤ n) (hcl : cs.length = n * 5) (hZ : Z.length = (j - i) * 5) (hsz : n * 5 ≤ arr.size) (h0 : ∀ q, q < i * 5 → arr[q]? = cs[q]?) :
  (setArr (setArr arr (i * 5) (cs.drop (j * 5))) ((i + (n - j)) * 5) Z).toList.take ((i + (n - j)) * 5) = cs.take (i * 5) ++ cs.drop (j * 5) := by
 have hdl : (cs.drop (j * 5)).length = (n - j) * 5 := by rw [List.length_drop, hcl]; omega
 apply List.ext_getElem?
 intro q
 rw [List.getElem?_take, List.getElem?_append, List.length_take, Nat.min_eq_left (by omega)]
 by_cases hq : q < (i + (n - j)) * 5
 ·rw [if_pos hq, Array.getElem?_toList, setArr_get _ _ _ _ (by rw [zq62]; omega), if_neg (by omega), setArr_get _ _ _ _ (by omega)]
  by_cases h1 : q < i * 5
  ·rw [if_neg (by omega), if_pos h1, List.getElem?_take, if_pos h1, h0 q h1]
  ·rw [if_pos (by omega), if_neg h1]
 ·rw [if_neg hq, if_neg (by omega), List.getElem?_eq_none (by omega)]
theorem del_main (base : Nat) (w : World) (v : Value) (n i j : Nat) (cs : List Value) (h1 : w.ownsRow base 127 5 v n cs) (hc1 : ∀ x ∈ cs, oneC x = true) (_ : base ≤ w.heap.size) (hij : i ≤ j) (hjn : j ≤ n) :
  Calls Tryz.prog 153 #[v, .int .i64 (i : Int), .int .i64 (j : Int)] w fun r w' => ∃ v', r = .returned v' ∧ w'.ownsRow base 127 5 v' (n - (j - i)) (cs.take (i * 5) ++ cs.drop (j * 5)) ∧ w.grownBy w' v.ownBlock ∧ (∀ b, v'.ownBlock = some b → v.ownBlock = some b ∨ w.heap.size ≤ b) := by
 have hcl := h1.1
 by_cases hije : i = j
 ·subst hije
  have hv : ∃ A c, v = .slice A n c ∧ n ≤ c ∧ (A = none → n = 0 ∧ c = 0) := by
   rcases h1.2 with ⟨h, h0⟩ | ⟨g, cp, cur, h, _, _, hc, _⟩
   ·exact ⟨none, 0, by rw [h, h0], by omega, fun _ => ⟨h0, rfl⟩⟩
   ·exact ⟨_, cp, h, hc, fun h => by cases h⟩
  obtain ⟨A, c, rfl, hc, hnil⟩ := hv
  refine (del_same A n c i w hjn hc hnil).mono ?_
  rintro e w' ⟨rfl, rfl⟩
  exact ⟨_, rfl, by rw [Nat.sub_self, Nat.sub_zero, List.take_append_drop]; exact h1, ⟨rfl, rfl, rfl, Nat.le_refl _, fun _ _ _ => rfl⟩, fun b hb => .inl hb⟩
 ·have hlt : i < j := by omega
  rcases h1.2 with ⟨_, h0⟩ | ⟨g, cap, cur, rfl, hgbase, hgheap, hnc, hcm, hgsz, hgtake⟩
  ·omega
  have hcs : ∀ q x, cs[q]? = some x → w.cell? ⟨g, q, none⟩ = some x := by
   intro q x hq
   rw [zq15 hgheap, ← Array.getElem?_toList]
   rw [← hgtake, List.getElem?_take] at hq
   split at hq
   ·exact hq
   ·cases hq
  refine (del_shift g n cap i j cs w hlt hjn hnc (by unfold maxLen at hcm; omega) hcl hcs (fun q hq => by simp [World.frozen?, hgheap]) (fun x hx => oneC_cell' (hc1 x hx))).mono ?_
  rintro e w' ⟨rfl, Z, hZ, rfl⟩
  have hg0 : w.drew.heap[g]? = some (.cells cur 127 (0, 0)) := hgheap
  obtain ⟨a1, a2, a3, a4, a5, a6⟩ := zq63 w.drew g (0 + i * 5) (cs.drop (j * 5)) cur 127 (0, 0) hg0
  obtain ⟨b1, b2, b3, b4, b5, b6⟩ := zq63 _ g ((i + (n - j)) * 5) Z _ 127 (0, 0) a1
  have hdl : (cs.drop (j * 5)).length = (n - j) * 5 := by rw [List.length_drop, hcl]; omega
  have hn' : n - (j - i) = i + (n - j) := by omega
  rw [hn']
  refine ⟨_, rfl, ⟨?_, .inr ⟨g, cap, _, rfl, hgbase, b1, by omega, hcm, by rw [zq62, zq62]; exact hgsz, ?_⟩⟩, ⟨b4.trans a4, b5.trans a5, b6.trans a6, by rw [b3, a3]; exact Nat.le_refl _, fun k hk hne => ?_⟩, fun b hb => .inl hb⟩
  ·simp only [List.length_append, List.length_take, hdl]; omega
  ·rw [Nat.zero_add]
   have : n * 5 ≤ cap * 5 := Nat.mul_le_mul_right _ hnc
   exact del_cells hlt hjn hcl hZ (by omega) fun q hq => by
    rw [← hgtake, List.getElem?_take, if_pos (by omega), Array.getElem?_toList]
  ·have hkg : k ≠ g := fun e => hne (by rw [e]; rfl)
   exact (b2 k hkg).trans (a2 k hkg)
noncomputable def slices_Delete___api_Lease_api_Lease__con : Con := delCon .lease 127
theorem slices_Delete___api_Lease_api_Lease__ok : TrOk Tryz.prog 153 slices_Delete___api_Lease_api_Lease__con := del_ok .lease 127 del_main
end Go.Proofs.YtjncjiegmnicbabGreat
namespace Go.Proofs
open Go.Shelf
def Tryz.sortLs_ren : Go.Shelf.Ren := ⟨fun | 6 => 151 | 15 => 167 | 14 => 166 | 28 => 182 | 29 => 183 | 20 => 174 | 21 => 175 | 22 => 176 | 23 => 177 | 24 => 178 | 25 => 179 | 26 => 180 | 27 => 181 | 46 => 192 | 47 => 193 | 48 => 194 | 49 => 195 | 50 => 196 | 57 => 199 | n => n, fun | 22 => 43 | 24 => 127 | 25 => 195 | 3 => 3 | 39 => 198 | 0 => 0 | 53 => 222 | 55 => 30 | 4 => 4 | 46 => 216 | 45 => 215 | 50 => 186 | 5 => 5 | 9 => 9 | 66 => 227 | 70 => 231 | 76 => 235 | 77 => 236 | n => n, fun | n => n⟩
theorem Tryz.sortLs : Go.Proofs.SlLaysF0.n6 Tryz.prog Tryz.sortLs_ren := {
 mixed := by kernel_rfl
 f6 := ⟨Tryz.f151.name, by decide, Tryz.func151.trans (congrArg some (by kernel_rfl))⟩
 f14 := ⟨Tryz.f166.name, by decide, Tryz.func166.trans (congrArg some (by kernel_rfl))⟩
 f15 := Tryz.func167.trans (congrArg some (by kernel_rfl))
 f20 := ⟨Tryz.f174.name, by decide, Tryz.func174.trans (congrArg some (by kernel_rfl))⟩
 f21 := ⟨Tryz.f175.name, by decide, Tryz.func175.trans (congrArg some (by kernel_rfl))⟩
 f22 := ⟨Tryz.f176.name, by decide, Tryz.func176.trans (congrArg some (by kernel_rfl))⟩
 f23 := ⟨Tryz.f177.name, by decide, Tryz.func177.trans (congrArg some (by kernel_rfl))⟩
 f24 := ⟨Tryz.f178.name, by decide, Tryz.func178.trans (congrArg some (by kernel_rfl))⟩
 f25 := ⟨Tryz.f179.name, by decide, Tryz.func179.trans (congrArg some (by kernel_rfl))⟩
 f26 := ⟨Tryz.f180.name, by decide, Tryz.func180.trans (congrArg some (by kernel_rfl))⟩
 f27 := ⟨Tryz.f181.name, by decide, Tryz.func181.trans (congrArg some (by kernel_rfl))⟩
 f28 := Tryz.func182.trans (congrArg some (by kernel_rfl))
 f29 := Tryz.func183.trans (congrArg some (by kernel_rfl))
 f46 := ⟨Tryz.f192.name, by decide, Tryz.func192.trans (congrArg some (by kernel_rfl))⟩
 f47 := Tryz.func193.trans (congrArg some (by kernel_rfl))
 f48 := Tryz.func194.trans (congrArg some (by kernel_rfl))
 f49 := ⟨Tryz.f195.name, by decide, Tryz.func195.trans (congrArg some (by kernel_rfl))⟩
 f50 := ⟨Tryz.f196.name, by decide, Tryz.func196.trans (congrArg some (by kernel_rfl))⟩
 f57 := ⟨Tryz.f199.name, by decide, Tryz.func199.trans (congrArg some (by kernel_rfl))⟩
 t0 := Tryz.underlying0
 a0 := Tryz.isAgg0
 z0 := Tryz.sizeOf0
 v0 := Tryz.zeroValue0
 t3 := Tryz.underlying3
 a3 := Tryz.isAgg3
 z3 := Tryz.sizeOf3
 v3 := Tryz.zeroValue3
 t4 := Tryz.underlying4
 a4 := Tryz.isAgg4
 z4 := Tryz.sizeOf4
 v4 := Tryz.zeroValue4
 t5 := Tryz.underlying5
 a5 := Tryz.isAgg5
 z5 := Tryz.sizeOf5
 v5 := Tryz.zeroValue5
 t9 := Tryz.underlying9
 a9 := Tryz.isAgg9
 z9 := Tryz.sizeOf9
 v9 := Tryz.zeroValue9
 t22 := Tryz.underlying43
 a22 := Tryz.isAgg43
 z22 := Tryz.sizeOf43
 v22 := Tryz.zeroValue43
 t25 := Tryz.underlying195
 a25 := Tryz.isAgg195
 z25 := Tryz.sizeOf195
 v25 := Tryz.zeroValue195
 t39 := Tryz.underlying198
 a39 := Tryz.isAgg198
 z39 := Tryz.sizeOf198
 v39 := Tryz.zeroValue198
 t45 := Tryz.underlying215
 a45 := Tryz.isAgg215
 z45 := Tryz.sizeOf215
 v45 := Tryz.zeroValue215
 t46 := Tryz.underlying216
 a46 := Tryz.isAgg216
 z46 := Tryz.sizeOf216
 v46 := Tryz.zeroValue216
 t50 := Tryz.underlying186
 a50 := Tryz.isAgg186
 z50 := Tryz.sizeOf186
 v50 := Tryz.zeroValue186
 t53 := Tryz.underlying222
 a53 := Tryz.isAgg222
 z53 := Tryz.sizeOf222
 v53 := Tryz.zeroValue222
 t55 := Tryz.underlying30
 a55 := Tryz.isAgg30
 z55 := Tryz.sizeOf30
 v55 := Tryz.zeroValue30
 t66 := Tryz.underlying227
 a66 := Tryz.isAgg227
 z66 := Tryz.sizeOf227
 v66 := Tryz.zeroValue227
 t70 := Tryz.underlying231
 a70 := Tryz.isAgg231
 z70 := Tryz.sizeOf231
 v70 := Tryz.zeroValue231
 t76 := Tryz.underlying235
 a76 := Tryz.isAgg235
 z76 := Tryz.sizeOf235
 v76 := Tryz.zeroValue235
 t77 := Tryz.underlying236
 a77 := Tryz.isAgg236
 z77 := Tryz.sizeOf236
 v77 := Tryz.zeroValue236 }
end Go.Proofs
namespace Go.Proofs.YtjncjiegmnicbabGreat
open Go Go.Ma Go.RowKit Go.Lib Go.Proofs Go.Sort
def cmpN (x y : Int) : Int := if x < y then -1 else if y < x then 1 else 0
def cmpA (a b : Ad) : Int := if a.v6 != b.v6 then (if b.v6 then -1 else 1) else if a.hi = b.hi then cmpN a.lo b.lo else cmpN a.hi b.hi
def encLs (x : Ls) : List Value := [.bool x.ad.v6, .int .u64 x.ad.hi, .int .u64 x.ad.lo, .string x.who, .int .i64 x.upto]
set_option maxHeartbeats 1000000 in
theorem cmpN_walk (x y : Int) (W : World) : Calls Tryz.prog 131 #[.int .u64 x, .int .u64 y] W fun e w' => e = .returned (.int .i64 (cmpN x y)) ∧ w' = W := by
 unfold cmpN
 by_cases h1 : x < y
 ·rw [if_pos h1]
  go_enter Tryz.func131, Tryz.ntmps131
  go_wp2
  all_goals (go_ret; exact ⟨rfl, rfl⟩)
 ·rw [if_neg h1]
  by_cases h2 : y < x
  ·rw [if_pos h2]
   go_enter Tryz.func131, Tryz.ntmps131
   go_wp2
   all_goals (go_ret; exact ⟨rfl, rfl⟩)
  ·rw [if_neg h2]
   go_enter Tryz.func131, Tryz.ntmps131
   go_wp2
   all_goals (go_ret; exact ⟨rfl, rfl⟩)
set_option maxHeartbeats 2000000 in
set_option maxRecDepth 100000 in
theorem ord_walk (a b : Ad) (W : World) : Calls Tryz.prog 114 #[.agg #[.bool a.v6, .int .u64 a.hi, .int .u64 a.lo], .agg #[.bool b.v6, .int .u64 b.hi, .int .u64 b.lo]] W fun e w' => e = .returned (.int .i64 (cmpA a b)) ∧ ∃ q os', w' = grow (W.drewN q) os' := by
 obtain ⟨av, ah, al⟩ := a
 obtain ⟨bv, bh, bl⟩ := b
 have hx : ∀ x y : Int, ∃ r, cmpN x y = r ∧ Hid (∀ W', Calls Tryz.prog 131 #[.int .u64 x, .int .u64 y] W' fun e w' => e = .returned (.int .i64 r) ∧ w' = W') := fun x y => ⟨_, rfl, cmpN_walk x y⟩
 cases av <;> cases bv
 ·by_cases h : ah = bh
  ·subst h
   obtain ⟨r, hr, hcon⟩ := hx al bl
   rw [show cmpA ⟨false, ah, al⟩ ⟨false, ah, bl⟩ = r by simp [cmpA, hr]]
   go_enter Tryz.func114, Tryz.ntmps114
   go_wp2_with (go_at_call 131; refine (hcon.out _).mono ?_; rintro e w' ⟨rfl, rfl⟩)
   all_goals (go_ret; exact ⟨rfl, 0, _, by rw [alloc_eq_grow, alloc_eq_grow, grow_grow]; rfl⟩)
  ·obtain ⟨r, hr, hcon⟩ := hx ah bh
   rw [show cmpA ⟨false, ah, al⟩ ⟨false, bh, bl⟩ = r by simp [cmpA, hr, h]]
   go_enter Tryz.func114, Tryz.ntmps114
   go_wp2_with (go_at_call 131; refine (hcon.out _).mono ?_; rintro e w' ⟨rfl, rfl⟩)
   all_goals (go_ret; exact ⟨rfl, 0, _, by rw [alloc_eq_grow, alloc_eq_grow, grow_grow]; rfl⟩)
 ·go_enter Tryz.func114, Tryz.ntmps114
  go_wp2
  all_goals (go_ret; exact ⟨rfl, 0, _, by rw [alloc_eq_grow, alloc_eq_grow, grow_grow]; rfl⟩)
 ·go_enter Tryz.func114, Tryz.ntmps114
  go_wp2
  all_goals (go_ret; exact ⟨rfl, 0, _, by rw [alloc_eq_grow, alloc_eq_grow, grow_grow]; rfl⟩)
 ·by_cases h : ah = bh
  ·subst h
   obtain ⟨r, hr, hcon⟩ := hx al bl
   rw [show cmpA ⟨true, ah, al⟩ ⟨true, ah, bl⟩ = r by simp [cmpA, hr]]
   go_enter Tryz.func114, Tryz.ntmps114
   go_wp2_with (go_at_call 131; refine (hcon.out _).mono ?_; rintro e w' ⟨rfl, rfl⟩)
   all_goals (go_ret; exact ⟨rfl, 0, _, by rw [alloc_eq_grow, alloc_eq_grow, grow_grow]; rfl⟩)
  ·obtain ⟨r, hr, hcon⟩ := hx ah bh
   rw [show cmpA ⟨true, ah, al⟩ ⟨true, bh, bl⟩ = r by simp [cmpA, hr, h]]
   go_enter Tryz.func114, Tryz.ntmps114
   go_wp2_with (go_at_call 131; refine (hcon.out _).mono ?_; rintro e w' ⟨rfl, rfl⟩)
   all_goals (go_ret; exact ⟨rfl, 0, _, by rw [alloc_eq_grow, alloc_eq_grow, grow_grow]; rfl⟩)
set_option maxHeartbeats 2000000 in
set_option maxRecDepth 100000 in
theorem lsCmp_walk (x y : Ls) (W : World) : Calls Tryz.prog 152 #[.agg (encLs x).toArray, .agg (encLs y).toArray] W fun e w' => e = .returned (.int .i64 (cmpA x.ad y.ad)) ∧ ∃ q os', w' = grow (W.drewN q) os' := by
 obtain ⟨⟨av, ah, al⟩, aw, au⟩ := x
 obtain ⟨⟨bv, bh, bl⟩, bw, bu⟩ := y
 obtain ⟨r, hr, hcon⟩ : ∃ r, cmpA ⟨av, ah, al⟩ ⟨bv, bh, bl⟩ = r ∧ Hid (∀ W', Calls Tryz.prog 114 #[.agg #[.bool av, .int .u64 ah, .int .u64 al], .agg #[.bool bv, .int .u64 bh, .int .u64 bl]] W' fun e w' => e = .returned (.int .i64 r) ∧ ∃ q os', w' = grow (W'.drewN q) os') := ⟨_, rfl, fun W' => ord_walk ⟨av, ah, al⟩ ⟨bv, bh, bl⟩ W'⟩
 show Calls _ _ _ _ fun e w' => e = .returned (.int .i64 (cmpA ⟨av, ah, al⟩ ⟨bv, bh, bl⟩)) ∧ _
 rw [hr]
 show Calls _ _ #[.agg #[.bool av, .int .u64 ah, .int .u64 al, .string aw, .int .i64 au], .agg #[.bool bv, .int .u64 bh, .int .u64 bl, .string bw, .int .i64 bu]] _ _
 go_enter Tryz.func152, Tryz.ntmps152
 go_wp2_with (go_at_call 114; refine (hcon.out _).mono ?_; rintro e w' ⟨rfl, q, os', rfl⟩)
 all_goals (go_ret; refine ⟨rfl, q, ?_⟩)
 rw [alloc_eq_grow, alloc_eq_grow, grow_grow]
 exact ⟨_, grow_grow (W.drewN q) _ os'⟩
end Go.Proofs.YtjncjiegmnicbabGreat
namespace Go.Ma
open Go Go.Shelf Go.RowKit Go.Lib Go.Proofs Go.Sort
theorem flatMap_get {α : Type} (enc : α → List Value) (k : Nat) (hk : ∀ x, (enc x).length = k) : ∀ (l : List α) (j : Nat), j < l.length * k → (l.flatMap enc)[j]? = (l[j / k]?).bind fun a => (enc a)[j % k]?
 | [], j, h => by simp at h
 | x :: r, j, h => by
  have k0 : 0 < k := by
   rcases Nat.eq_zero_or_pos k with h0 | h0
   ·subst h0; simp at h
   ·exact h0
  rw [List.flatMap_cons]
  by_cases hj : j < k
  ·rw [List.getElem?_append_left (by rw [hk]; exact hj), Nat.div_eq_of_lt hj, Nat.mod_eq_of_lt hj]
   rfl
  ·rw [List.getElem?_append_right (by rw [hk]; omega), hk, flatMap_get enc k hk r (j - k) (by simp [Nat.add_mul] at h; omega)]
   have e1 : j / k = (j - k) / k + 1 := by
    have := Nat.add_div_right (j - k) k0
    rwa [Nat.sub_add_cancel (by omega)] at this
   have e2 : (j - k) % k = j % k := by
    have := Nat.add_mod_right (j - k) k
    rwa [Nat.sub_add_cancel (by omega), eq_comm] at this
   rw [e1, e2, List.getElem?_cons_succ]
theorem flatK_eq {α : Type} [Inhabited α] (enc : α → List Value) (k : Nat) (hk : ∀ x, (enc x).length = k) (d : Array α) : (flatK enc k d).toList = d.toList.flatMap enc := by
 have hlen' : ∀ l : List α, (l.flatMap enc).length = l.length * k := by
  intro l
  induction l with
  | nil => simp
  | cons x r ih => rw [List.flatMap_cons, List.length_append, hk, ih, List.length_cons, Nat.add_mul]; omega
 have hlen : (d.toList.flatMap enc).length = d.size * k := by rw [hlen']; simp
 refine List.ext_getElem? fun j => ?_
 by_cases hj : j < d.size * k
 ·have k0 : 0 < k := by
   rcases Nat.eq_zero_or_pos k with h0 | h0
   ·subst h0; simp at hj
   ·exact h0
  rw [flatMap_get enc k hk d.toList j (by simpa using hj)]
  have hd : j / k < d.size := Nat.div_lt_of_lt_mul (by rw [Nat.mul_comm]; exact hj)
  have hm : j % k < (enc (d[j / k]'hd)).length := by rw [hk]; exact Nat.mod_lt _ k0
  have h1 : (flatK enc k d).toList[j]? = some (flatK enc k d)[j]! := by
   rw [Array.getElem?_toList, Array.getElem?_eq_getElem (by simpa using hj), getElem!_pos _ j (by simpa using hj)]
  rw [h1, get_flatK _ _ _ _ hj, getElem!_pos d _ hd, Array.getElem?_toList, Array.getElem?_eq_getElem hd, Option.bind_some, List.getElem?_eq_getElem hm, getElem!_pos (enc (d[j / k]'hd)) (j % k) hm]
 ·rw [List.getElem?_eq_none (by simpa using hj), List.getElem?_eq_none (by omega)]
theorem putCells_take (F : Array Value) (c : Array Value) (h : F.size ≤ c.size) : (putCells id 0 F c).toList.take F.size = F.toList := by
 refine List.ext_getElem? fun j => ?_
 rw [List.getElem?_take]
 by_cases hj : j < F.size
 ·rw [if_pos hj]
  unfold putCells
  rw [Array.getElem?_toList, Array.getElem?_mapIdx, Array.getElem?_eq_getElem (show j < c.size by omega), Option.map_some, if_pos (by omega), Array.getElem?_toList, Array.getElem?_eq_getElem hj]
  simp [getElem!_pos F j hj]
 ·rw [if_neg hj, List.getElem?_eq_none (by simpa using hj)]
theorem sort_gen {P : Program} {ρ : Ren} {α : Type} [Inhabited α] (L : SlLaysF0.n6 P ρ) (k : Nat) (aE : ∀ w, (isAgg (ρ.t 24)).run P w = .ok true w) (zE : ∀ w, (Go.sizeOf (ρ.t 24)).run P w = .ok k w) (enc : α → List Value) (hk : ∀ x, (enc x).length = k) (h1 : ∀ x, ∀ v ∈ enc x, v.oneCell' = true) (cf : α → α → Int) (hO : SWO (ltOf cf)) (g : Nat) (cb : Array Value)
  (eg : ∀ args w, (callFunc g args).run P w = .ok (.enter g args) w)
  (hcmp : ∀ (w : World) (x y : α), Calls P g (#[.agg (enc x).toArray, .agg (enc y).toArray] ++ cb) w fun e w' => e = .returned (.int .i64 (cf x y)) ∧ ∃ q os', w' = grow (w.drewN q) os')
  (base : Nat) (e : TypeId) (w : World) (v : Value) (l : List α) (hown : w.ownsRow base e k v l.length (l.flatMap enc)) (hl : l ≠ []) (hsz : l.length < 4611686018427387904) :
  Calls P (ρ.f 6) #[v, .func (.func g) #[] cb] w fun r w' => r = .returned (.tuple #[]) ∧ ∃ l' : List α, l'.Perm l ∧ l'.Pairwise (fun a b => ltOf cf b a = false) ∧ w'.ownsRow base e k v l'.length (l'.flatMap enc) ∧ w.grownBy w' v.ownBlock := by
 obtain ⟨hlen, ⟨_, h0⟩ | ⟨b, cap, cur, rfl, hb, hg, hnc, hcm, hcs, htake⟩⟩ := hown
 ·exact absurd (List.eq_nil_of_length_eq_zero h0) hl
 have hblk : b < w.heap.size := (Array.getElem?_eq_some_iff.1 hg).1
 have hkc : l.length * k ≤ cur.size := by rw [hcs]; exact Nat.mul_le_mul_right k hnc
 have hflat : (flatK enc k l.toArray).toList = l.flatMap enc := by rw [flatK_eq enc k hk]
 have hH : HoldsK enc k w b 0 l.toArray := by
  intro j hj
  have hj : j < l.length * k := by simpa using hj
  refine ⟨?_, ?_⟩
  ·have hc : w.cell? ⟨b, 0 + j, none⟩ = cur[j]? := by simp [World.cell?, hg]
   rw [hc]
   have e1 : cur[j]? = (flatK enc k l.toArray)[j]? := by
    rw [← Array.getElem?_toList, ← Array.getElem?_toList, hflat, ← htake, List.getElem?_take, if_pos hj]
   rw [e1, Array.getElem?_eq_getElem (by simpa using hj), getElem!_pos _ j (by simpa using hj)]
   rfl
  ·simp [World.frozen?, hg]
 refine (AnyQ.slices_SortFunc L k aE zE enc hk h1 cf hO g cb b 0 cap l.toArray w eg (fun m os dk _ x y => hcmp _ x y) hH hblk (by simpa using hsz)).mono ?_
 rintro r w' ⟨rfl, d', n, os, hp, hs, rfl⟩
 obtain ⟨hsize, _, hperm⟩ := hp
 have hsize : d'.size = l.length := by simpa using hsize
 have hperm : d'.toList.Perm l := by
  have e1 : d'.extract 0 l.length = d' := by rw [← hsize]; simp
  have e2 : l.toArray.extract 0 l.length = l.toArray := by simp
  have : l.toArray.size = l.length := by simp
  rw [this, e1, e2] at hperm
  simpa using hperm
 have hheap : (sortWorldK enc k w b 0 n d' os).heap[b]? = some (.cells (putCells id 0 (flatK enc k d') cur) e (0, 0)) := by
  simp only [sortWorldK, grow, putRowK, putRow, mapBlock, Sort.ahead]
  rw [Array.getElem?_append_left (by simpa using hblk), Array.getElem?_modify, if_pos rfl, hg]
  rfl
 refine ⟨rfl, d'.toList, hperm, ?_, ⟨?_, .inr ⟨b, cap, _, ?_, hb, hheap, ?_, hcm, ?_, ?_⟩⟩, ⟨rfl, rfl, rfl, ?_, ?_⟩⟩
 ·rw [List.pairwise_iff_getElem]
  intro i j hi hj hij
  have hj' : j < d'.size := by simpa using hj
  have := hs i j (Nat.zero_le _) hij (by simp; omega)
  rw [getElem!_pos d' j hj', getElem!_pos d' i (by omega)] at this
  simpa using this
 ·rw [← flatK_eq enc k hk]; simp
 ·simp [hsize]
 ·simp [hsize]; omega
 ·simp [putCells, hcs]
 ·have hf : (flatK enc k d').size = d'.toList.length * k := by simp
  rw [← flatK_eq enc k hk, ← hf, putCells_take]
  simp only [size_flatK, hsize]
  exact hkc
 ·simp [sortWorldK, grow, putRowK, putRow, mapBlock, Sort.ahead]
 ·intro q hq hne
  have hne : b ≠ q := fun e => hne (by simp [Value.ownBlock, e])
  simp only [sortWorldK, grow, putRowK, putRow, mapBlock, Sort.ahead]
  rw [Array.getElem?_append_left (by simpa using hq), Array.getElem?_modify, if_neg hne]
end Go.Ma
namespace Go.Proofs.YtjncjiegmnicbabGreat
open Go Go.Ma Go.RowKit Go.Lib Go.Proofs Go.Sort
theorem cmpA_lt (a b : Ad) : decide (cmpA a b < 0) = adLt a b := by
 unfold cmpA cmpN adLt
 obtain ⟨av, ah, al⟩ := a
 obtain ⟨bv, bh, bl⟩ := b
 cases av <;> cases bv <;> simp
 all_goals
  by_cases h : ah = bh
  ·subst h
   by_cases h1 : al < bl
   ·simp [h1]
   ·by_cases h2 : bl < al <;> simp [h1, h2]
  ·by_cases h1 : ah < bh
   ·simp [h, h1]
   ·by_cases h2 : bh < ah <;> simp [h, h1, h2]
theorem ltOf_ls (x y : Ls) : ltOf (fun x y : Ls => cmpA x.ad y.ad) x y = adLt x.ad y.ad := cmpA_lt _ _
theorem swo_ls : SWO (ltOf fun x y : Ls => cmpA x.ad y.ad) where
 irrefl x := by rw [ltOf_ls]; exact adLt_irrefl _
 trans x y z h1 h2 := by rw [ltOf_ls] at *; exact adLt_trans h1 h2
 ntrans x y z h1 h2 := by rw [ltOf_ls] at *; exact adLt_ntrans h1 h2
theorem encLs_K (ρ : Nat → Value) (x : Ls) : denL ρ (K.enc .lease x) = encLs x := rfl
noncomputable def slices_SortFunc___api_Lease_api_Lease__con : Con := sortCon .lease sortOkL sortL 127 152
theorem slices_SortFunc___api_Lease_api_Lease__ok : TrOk Tryz.prog 151 slices_SortFunc___api_Lease_api_Lease__con := by
 refine sort_ok .lease sortOkL sortL _ _ (fun W hG base w v l ρ hb hown hbase hok => ?_)
 simp only [sortOkL, Bool.and_eq_true, Bool.not_eq_true'] at hok
 obtain ⟨h1, h2, h3⟩ := hok
 have h1 : l ≠ [] := fun e => by rw [e] at h1; cases h1
 have hsz : l.length < 4611686018427387904 := by
  have := Nat.le_of_ble_eq_true (show Nat.ble ((l.length : Int).toNat + (0 : Int).toNat) 274877906944 = true from h2)
  have e : (0 : Int).toNat = 0 := rfl
  omega
 have e0 : (fun a : Ls => denL ρ (K.enc .lease a)) = encLs := funext fun x => encLs_K ρ x
 have hown' : w.ownsRow base 127 5 v l.length (l.flatMap encLs) := by rw [← e0]; exact hown
 have hm := sort_gen Tryz.sortLs 5 (fun w => Tryz.isAgg127 w) (fun w => Tryz.sizeOf127 w) encLs (fun _ => rfl) (fun x v hv => by
   simp only [encLs, List.mem_cons, List.not_mem_nil, or_false] at hv
   rcases hv with rfl | rfl | rfl | rfl | rfl <;> rfl) (fun x y : Ls => cmpA x.ad y.ad) swo_ls 152 #[] (enters_of Tryz.func152 (by kernel_rfl) rfl)
  (fun w x y => lsCmp_walk x y w) base 127 w v l hown' h1 hsz
 refine hm.mono ?_
 rintro r w' ⟨rfl, l', hp, hpw, hown2, hgb⟩
 have hl' : l' = sortL l := sort_uniq hp (hpw.imp fun {a b} h => by
  rw [ltOf_ls] at h
  exact h) h3
 subst hl'
 refine ⟨rfl, ?_, hgb⟩
 show w'.ownsRow base 127 5 v (sortL l).length ((sortL l).flatMap fun a : Ls => denL ρ (K.enc .lease a))
 rw [e0]
 exact hown2
end Go.Proofs.YtjncjiegmnicbabGreat
namespace Go.Proofs.YtjncjiegmnicbabGreat
open Go Go.Ma Go.RowKit Go.Lib
end Go.Proofs.YtjncjiegmnicbabGreat
namespace Go.Proofs.YtjncjiegmnicbabGreat
open Go Go.Ma
def zq46 : LoopS := { n := 49, base := 10, head := { keep := [0, 2, 4, 8, 9, 10], vals := [.one (.cst (.row 6)), .one (.cst (.fn 164 [])), .one (.cst (.ptr 10 0)), .one (.fl .int), .one (.fl .int), .one (.fl .int)], objs := [.row .addr 32 false, .row .lease 127 false, .blk [.fl .bool, .fl .u64, .fl .u64, .fl .int, .cst (.row 0)] 116 false, .blk [.fl .str] 9 false, .row .lease 127 false, .blk [.fl .addr] 32 false, .row .lease 127 false, .blk [.fl .bool, .fl .u64, .fl .u64, .fl .int, .cst (.row 0), .cst (.row 6)] 204 false, .blk [.fl .addr] 32 false, .blk [.fl .lease] 127 false, .blk [.fl .lease] 127 true] }, exits := [⟨some 0, { keep := [0, 2, 4, 8, 9], vals := [.one (.cst (.row 6)), .one (.cst (.fn 164 [])), .one (.cst (.ptr 10 0)), .one (.fl .int), .one (.fl .int)], objs := [.row .addr 32 false, .row .lease 127 false, .blk [.fl .bool, .fl .u64, .fl .u64, .fl .int, .cst (.row 0)] 116 false, .blk [.fl .str] 9 false, .row .lease 127 false, .blk [.fl .addr] 32 false, .row .lease 127 false, .blk [.fl .bool, .fl .u64, .fl .u64, .fl .int, .cst (.row 0), .cst (.row 6)] 204 false, .blk [.fl .addr] 32 false, .blk [.fl .lease] 127 false, .blk [.fl .lease] 127 true] }⟩] }
noncomputable def zq48 : Env := mkEnv ty fnB [(164, lease_Raw_2_con)] [(3, (loopTr zq46 (loopN zq45 FUEL)))]
theorem zq49 : EnvOk Tryz.prog zq48 := envOk tyOk fn_ok (callsCons lease_Raw_2_ok callsNil) _
theorem zq47 : LOk Tryz.prog (nthLoop (codeOf Tryz.f163) 0) (loopTr zq46 (loopN zq45 FUEL)) := by
 have h : loopsOf (nthLoop (codeOf Tryz.f163) 0) = [] := by kernel_rfl
 refine loop_ok zq49 (loopsOk h lsNil) zq46 zq45 FUEL (fun rec x => ?_)
 kernel_rfl
theorem zq50 : TrOk Tryz.prog 163 (flCon zq48 Tryz.f163 [.one (.fl .int), .one (.fl .bool)]) := by
 have h : loopsOf (codeOf Tryz.f163) = [(nthLoop (codeOf Tryz.f163) 0)] := by kernel_rfl
 exact flCon_ok zq49 Tryz.func163 (bodyOk h (lsCons (one_loop (t := (loopTr zq46 (loopN zq45 FUEL))) (by kernel_rfl) zq47) lsNil)) [.one (.fl .int), .one (.fl .bool)] rfl
def zq52 : LoopS := { n := 19, base := 8, head := { keep := [0, 1, 7, 8], vals := [.one (.cst (.row 6)), .one (.cst (.fn 161 [.ptr 3 0])), .one (.fl .int), .one (.fl .int)], objs := [.row .addr 32 false, .row .lease 127 false, .blk [.fl .bool, .fl .u64, .fl .u64, .fl .int, .cst (.row 0)] 116 true, .blk [.fl .str] 9 true, .row .lease 127 true, .blk [.fl .addr] 32 true, .row .lease 127 true, .blk [.fl .bool, .fl .u64, .fl .u64, .fl .int, .cst (.row 0), .cst (.row 6)] 204 true] }, exits := [⟨none, { keep := [4], vals := [.one (.fl .int)], objs := [.row .addr 32 false, .row .lease 127 false, .blk [.fl .bool, .fl .u64, .fl .u64, .fl .int, .cst (.row 0)] 116 true, .blk [.fl .str] 9 true, .row .lease 127 true, .blk [.fl .addr] 32 true, .row .lease 127 true, .blk [.fl .bool, .fl .u64, .fl .u64, .fl .int, .cst (.row 0), .cst (.row 6)] 204 true] }⟩, ⟨some 0, { keep := [], vals := [], objs := [.row .addr 32 false, .row .lease 127 false, .blk [.fl .bool, .fl .u64, .fl .u64, .fl .int, .cst (.row 0)] 116 true, .blk [.fl .str] 9 true, .row .lease 127 true, .blk [.fl .addr] 32 true, .row .lease 127 true, .blk [.fl .bool, .fl .u64, .fl .u64, .fl .int, .cst (.row 0), .cst (.row 6)] 204 true] }⟩] }
noncomputable def zq53 : Env := mkEnv ty fnB [(161, lease_Raw_1_con)] [(2, (loopTr zq52 (loopN zq51 FUEL)))]
theorem zq54 : EnvOk Tryz.prog zq53 := envOk tyOk fn_ok (callsCons lease_Raw_1_ok callsNil) _
theorem lease_Raw_slices_IndexFunc___api_Lease_api_Lease__L2_ok : LOk Tryz.prog (nthLoop (codeOf Tryz.f132) 0) (loopTr zq52 (loopN zq51 FUEL)) := by
 have h : loopsOf (nthLoop (codeOf Tryz.f132) 0) = [] := by kernel_rfl
 refine loop_ok zq54 (loopsOk h lsNil) zq52 zq51 FUEL (fun rec x => ?_)
 kernel_rfl
theorem lease_Raw_slices_IndexFunc___api_Lease_api_Lease__inl : TrOk Tryz.prog 132 (inlCon zq53 Tryz.f132) := by
 have h : loopsOf (codeOf Tryz.f132) = [(nthLoop (codeOf Tryz.f132) 0)] := by kernel_rfl
 exact inl_ok zq54 Tryz.func132 (bodyOk h (lsCons (one_loop (t := (loopTr zq52 (loopN zq51 FUEL))) (by kernel_rfl) lease_Raw_slices_IndexFunc___api_Lease_api_Lease__L2_ok) lsNil))
noncomputable def lease_Raw_env : Env := mkEnv ty fnB [(140, lease_Live_con), (162, m_lease_book__first_con), (163, (flCon zq48 Tryz.f163 [.one (.fl .int), .one (.fl .bool)])), (165, slices_Insert___api_Lease_api_Lease__con), (132, (inlCon zq53 Tryz.f132))] []
theorem lease_Raw_envOk : EnvOk Tryz.prog lease_Raw_env := envOk tyOk fn_ok (callsCons lease_Live_ok (callsCons m_lease_book__first_ok (callsCons zq50 (callsCons slices_Insert___api_Lease_api_Lease__ok (callsCons lease_Raw_slices_IndexFunc___api_Lease_api_Lease__inl callsNil))))) _
noncomputable def lease_Raw_con : Con := con [.agg [.fl .pfx, .row .addr 32], .one (.row .lease 127), .one (.fl .str), .one (.fl .int), .one (.fl .int)] [.one (.row .lease 127), .one (.fl .addr), .one (.fl .bool)] (fun x => lease_Raw_t x.1.1 x.1.2.1 x.2.1 x.2.2.1 x.2.2.2.1 x.2.2.2.2.1)
theorem lease_Raw_ok : TrOk Tryz.prog 150 lease_Raw_con := by
 have h : loopsOf (codeOf Tryz.f150) = [] := by kernel_rfl
 refine con_ok lease_Raw_envOk Tryz.func150 (bodyOk h lsNil) _ _ _ (fun x => ?_)
 kernel_rfl
def zq90 : LoopS := { n := 49, base := 17, head := { keep := [0, 2, 4, 8, 9, 10], vals := [.one (.cst (.row 11)), .one (.cst (.fn 145 [])), .one (.cst (.ptr 17 0)), .one (.fl .int), .one (.fl .int), .one (.fl .int)], objs := [.bag .addr 32 false false, .nest .pfx 0 116 false, .row .lease 127 false, .blk [.cst (.row 1), .cst (.row 2), .fl .int] 45 false, .blk [.fl .op] 36 false, .blk [.cst (.row 7), .cst (.row 8), .fl .int] 45 false, .bag .addr 32 false false, .nest .pfx 6 116 false, .row .lease 127 false, .blk [.fl .addr] 32 false, .bag .addr 32 false false, .nest .pfx 10 116 false, .row .lease 127 false, .blk [.cst (.row 11), .cst (.row 12), .fl .int] 174 false, .blk [.fl .op] 36 false, .blk [.fl .addr] 32 false, .blk [.fl .pfx] 34 false, .blk [.fl .pfx] 34 true] }, exits := [⟨some 0, { keep := [0, 2, 4, 8, 9], vals := [.one (.cst (.row 11)), .one (.cst (.fn 145 [])), .one (.cst (.ptr 17 0)), .one (.fl .int), .one (.fl .int)], objs := [.bag .addr 32 false false, .nest .pfx 0 116 false, .row .lease 127 false, .blk [.cst (.row 1), .cst (.row 2), .fl .int] 45 false, .blk [.fl .op] 36 false, .blk [.cst (.row 7), .cst (.row 8), .fl .int] 45 false, .bag .addr 32 false false, .nest .pfx 6 116 false, .row .lease 127 false, .blk [.fl .addr] 32 false, .bag .addr 32 false false, .nest .pfx 10 116 false, .row .lease 127 false, .blk [.cst (.row 11), .cst (.row 12), .fl .int] 174 false, .blk [.fl .op] 36 false, .blk [.fl .addr] 32 false, .blk [.fl .pfx] 34 false, .blk [.fl .pfx] 34 true] }⟩] }
noncomputable def zq92 : Env := mkEnv ty fnB [(145, m_state_doer__pool_2_con)] [(3, (loopTr zq90 (loopN zq89 FUEL)))]
theorem zq93 : EnvOk Tryz.prog zq92 := envOk tyOk fn_ok (callsCons m_state_doer__pool_2_ok callsNil) _
theorem zq91 : LOk Tryz.prog (nthLoop (codeOf Tryz.f144) 0) (loopTr zq90 (loopN zq89 FUEL)) := by
 have h : loopsOf (nthLoop (codeOf Tryz.f144) 0) = [] := by kernel_rfl
 refine loop_ok zq93 (loopsOk h lsNil) zq90 zq89 FUEL (fun rec x => ?_)
 kernel_rfl
theorem zq94 : TrOk Tryz.prog 144 (flCon zq92 Tryz.f144 [.one (.fl .int), .one (.fl .bool)]) := by
 have h : loopsOf (codeOf Tryz.f144) = [(nthLoop (codeOf Tryz.f144) 0)] := by kernel_rfl
 exact flCon_ok zq93 Tryz.func144 (bodyOk h (lsCons (one_loop (t := (loopTr zq90 (loopN zq89 FUEL))) (by kernel_rfl) zq91) lsNil)) [.one (.fl .int), .one (.fl .bool)] rfl
def zq99 : LoopS := { n := 19, base := 17, head := { keep := [0, 1, 7, 8], vals := [.one (.cst (.row 11)), .one (.cst (.fn 143 [.ptr 16 0])), .one (.fl .int), .one (.fl .int)], objs := [.bag .addr 32 false false, .nest .pfx 0 116 false, .row .lease 127 false, .blk [.cst (.row 1), .cst (.row 2), .fl .int] 45 true, .blk [.fl .op] 36 true, .blk [.cst (.row 7), .cst (.row 8), .fl .int] 45 true, .bag .addr 32 true true, .nest .pfx 6 116 true, .row .lease 127 true, .blk [.fl .addr] 32 true, .bag .addr 32 true true, .nest .pfx 10 116 true, .row .lease 127 true, .blk [.cst (.row 11), .cst (.row 12), .fl .int] 174 true, .blk [.fl .op] 36 true, .blk [.fl .addr] 32 true, .blk [.fl .pfx] 34 true] }, exits := [⟨none, { keep := [4], vals := [.one (.fl .int)], objs := [.bag .addr 32 false false, .nest .pfx 0 116 false, .row .lease 127 false, .blk [.cst (.row 1), .cst (.row 2), .fl .int] 45 true, .blk [.fl .op] 36 true, .blk [.cst (.row 7), .cst (.row 8), .fl .int] 45 true, .bag .addr 32 true true, .nest .pfx 6 116 true, .row .lease 127 true, .blk [.fl .addr] 32 true, .bag .addr 32 true true, .nest .pfx 10 116 true, .row .lease 127 true, .blk [.cst (.row 11), .cst (.row 12), .fl .int] 174 true, .blk [.fl .op] 36 true, .blk [.fl .addr] 32 true, .blk [.fl .pfx] 34 true] }⟩, ⟨some 0, { keep := [], vals := [], objs := [.bag .addr 32 false false, .nest .pfx 0 116 false, .row .lease 127 false, .blk [.cst (.row 1), .cst (.row 2), .fl .int] 45 true, .blk [.fl .op] 36 true, .blk [.cst (.row 7), .cst (.row 8), .fl .int] 45 true, .bag .addr 32 true true, .nest .pfx 6 116 true, .row .lease 127 true, .blk [.fl .addr] 32 true, .bag .addr 32 true true, .nest .pfx 10 116 true, .row .lease 127 true, .blk [.cst (.row 11), .cst (.row 12), .fl .int] 174 true, .blk [.fl .op] 36 true, .blk [.fl .addr] 32 true, .blk [.fl .pfx] 34 true] }⟩] }
noncomputable def zq101 : Env := mkEnv ty fnB [(143, m_state_doer__pool_1_con)] [(2, (loopTr zq99 (loopN zq98 FUEL)))]
theorem zq102 : EnvOk Tryz.prog zq101 := envOk tyOk fn_ok (callsCons m_state_doer__pool_1_ok callsNil) _
theorem zq100 : LOk Tryz.prog (nthLoop (codeOf Tryz.f118) 0) (loopTr zq99 (loopN zq98 FUEL)) := by
 have h : loopsOf (nthLoop (codeOf Tryz.f118) 0) = [] := by kernel_rfl
 refine loop_ok zq102 (loopsOk h lsNil) zq99 zq98 FUEL (fun rec x => ?_)
 kernel_rfl
theorem zq103 : TrOk Tryz.prog 118 (inlCon zq101 Tryz.f118) := by
 have h : loopsOf (codeOf Tryz.f118) = [(nthLoop (codeOf Tryz.f118) 0)] := by kernel_rfl
 exact inl_ok zq102 Tryz.func118 (bodyOk h (lsCons (one_loop (t := (loopTr zq99 (loopN zq98 FUEL))) (by kernel_rfl) zq100) lsNil))
noncomputable def zq95 : Env := mkEnv ty fnB [(118, (inlCon zq101 Tryz.f118))] []
theorem zq96 : EnvOk Tryz.prog zq95 := envOk tyOk fn_ok (callsCons zq103 callsNil) _
theorem zq97 : TrOk Tryz.prog 142 (inlCon zq95 Tryz.f142) := by
 have h : loopsOf (codeOf Tryz.f142) = [] := by kernel_rfl
 exact inl_ok zq96 Tryz.func142 (bodyOk h lsNil)
noncomputable def zq87 : Env := mkEnv ty fnB [(144, (flCon zq92 Tryz.f144 [.one (.fl .int), .one (.fl .bool)])), (146, slices_Insert___api_Pool_api_Pool__con), (142, (inlCon zq95 Tryz.f142))] []
theorem state_Raw___state_doer__do___state_doer__pool_envOk : EnvOk Tryz.prog zq87 := envOk tyOk fn_ok (callsCons zq94 (callsCons slices_Insert___api_Pool_api_Pool__ok (callsCons zq97 callsNil))) _
theorem state_Raw___state_doer__do___state_doer__pool_inl : TrOk Tryz.prog 136 (inlCon zq87 Tryz.f136) := by
 have h : loopsOf (codeOf Tryz.f136) = [] := by kernel_rfl
 exact inl_ok state_Raw___state_doer__do___state_doer__pool_envOk Tryz.func136 (bodyOk h lsNil)
def zq82 : LoopS := { n := 49, base := 17, head := { keep := [0, 2, 4, 8, 9, 10], vals := [.one (.inn 10), .one (.cst (.fn 114 [])), .one (.cst (.ptr 17 0)), .one (.fl .int), .one (.fl .int), .one (.fl .int)], objs := [.bag .addr 32 false false, .nest .pfx 0 116 false, .row .lease 127 false, .blk [.cst (.row 1), .cst (.row 2), .fl .int] 45 false, .blk [.fl .op] 36 false, .blk [.cst (.row 7), .cst (.row 8), .fl .int] 45 false, .bag .addr 32 false false, .nest .pfx 6 116 false, .row .lease 127 false, .blk [.fl .addr] 32 false, .bag .addr 32 false false, .nest .pfx 10 116 false, .row .lease 127 false, .blk [.cst (.row 11), .cst (.row 12), .fl .int] 174 false, .blk [.fl .op] 36 false, .blk [.fl .addr] 32 false, .blk [.fl .addr] 32 false, .blk [.fl .addr] 32 true] }, exits := [⟨some 0, { keep := [0, 2, 4, 8, 9], vals := [.one (.inn 10), .one (.cst (.fn 114 [])), .one (.cst (.ptr 17 0)), .one (.fl .int), .one (.fl .int)], objs := [.bag .addr 32 false false, .nest .pfx 0 116 false, .row .lease 127 false, .blk [.cst (.row 1), .cst (.row 2), .fl .int] 45 false, .blk [.fl .op] 36 false, .blk [.cst (.row 7), .cst (.row 8), .fl .int] 45 false, .bag .addr 32 false false, .nest .pfx 6 116 false, .row .lease 127 false, .blk [.fl .addr] 32 false, .bag .addr 32 false false, .nest .pfx 10 116 false, .row .lease 127 false, .blk [.cst (.row 11), .cst (.row 12), .fl .int] 174 false, .blk [.fl .op] 36 false, .blk [.fl .addr] 32 false, .blk [.fl .addr] 32 false, .blk [.fl .addr] 32 true] }⟩] }
noncomputable def zq84 : Env := mkEnv ty fnB [(114, addr_Order_con)] [(3, (loopTr zq82 (loopN zq81 FUEL)))]
theorem zq85 : EnvOk Tryz.prog zq84 := envOk tyOk fn_ok (callsCons addr_Order_ok callsNil) _
theorem zq83 : LOk Tryz.prog (nthLoop (codeOf Tryz.f147) 0) (loopTr zq82 (loopN zq81 FUEL)) := by
 have h : loopsOf (nthLoop (codeOf Tryz.f147) 0) = [] := by kernel_rfl
 refine loop_ok zq85 (loopsOk h lsNil) zq82 zq81 FUEL (fun rec x => ?_)
 kernel_rfl
theorem zq86 : TrOk Tryz.prog 147 (flCon zq84 Tryz.f147 [.one (.fl .int), .one (.fl .bool)]) := by
 have h : loopsOf (codeOf Tryz.f147) = [(nthLoop (codeOf Tryz.f147) 0)] := by kernel_rfl
 exact flCon_ok zq85 Tryz.func147 (bodyOk h (lsCons (one_loop (t := (loopTr zq82 (loopN zq81 FUEL))) (by kernel_rfl) zq83) lsNil)) [.one (.fl .int), .one (.fl .bool)] rfl
noncomputable def zq80 : Env := mkEnv ty fnB [(77, state_poolOf_con), (147, (flCon zq84 Tryz.f147 [.one (.fl .int), .one (.fl .bool)])), (148, slices_Insert___api_Addr_api_Addr__con)] []
theorem state_Raw___state_doer__do___state_doer__keep_envOk : EnvOk Tryz.prog zq80 := envOk tyOk fn_ok (callsCons state_poolOf_ok (callsCons zq86 (callsCons slices_Insert___api_Addr_api_Addr__ok callsNil))) _
theorem state_Raw___state_doer__do___state_doer__keep_inl : TrOk Tryz.prog 137 (inlCon zq80 Tryz.f137) := by
 have h : loopsOf (codeOf Tryz.f137) = [] := by kernel_rfl
 exact inl_ok state_Raw___state_doer__do___state_doer__keep_envOk Tryz.func137 (bodyOk h lsNil)
def zq77 : LoopS := { n := 121, base := 16, head := { keep := [0, 1, 3, 8, 10, 12, 13, 61, 62, 63], vals := [.one (.cst (.ptr 13 0)), .one (.fl .str), .one (.fl .int), .one (.cst (.ptr 16 0)), .one (.cst (.ptr 17 0)), .one (.cst (.row 18)), .one (.cst (.row 19)), .one (.cst (.row 12)), .one (.fl .int), .one (.fl .int)], objs := [.bag .addr 32 false false, .nest .pfx 0 116 false, .row .lease 127 false, .blk [.cst (.row 1), .cst (.row 2), .fl .int] 45 true, .blk [.fl .op] 36 true, .blk [.cst (.row 7), .cst (.row 8), .fl .int] 45 true, .bag .addr 32 true true, .nest .pfx 6 116 true, .row .lease 127 true, .blk [.fl .addr] 32 true, .bag .addr 32 true true, .nest .pfx 10 116 true, .row .lease 127 true, .blk [.cst (.row 11), .cst (.row 12), .fl .int] 174 true, .blk [.fl .op] 36 true, .blk [.fl .addr] 32 true, .blk [.fl .addr] 32 true, .blk [.fl .bool, .fl .u64, .fl .u64, .fl .int, .inn 10] 116 true, .row .lease 127 true, .row .lease 127 true] }, exits := [⟨some 0, { keep := [0, 1, 3, 8, 10, 12, 13], vals := [.one (.cst (.ptr 13 0)), .one (.fl .str), .one (.fl .int), .one (.cst (.ptr 16 0)), .one (.cst (.ptr 17 0)), .one (.cst (.row 18)), .one (.cst (.row 19))], objs := [.bag .addr 32 false false, .nest .pfx 0 116 false, .row .lease 127 false, .blk [.cst (.row 1), .cst (.row 2), .fl .int] 45 true, .blk [.fl .op] 36 true, .blk [.cst (.row 7), .cst (.row 8), .fl .int] 45 true, .bag .addr 32 true true, .nest .pfx 6 116 true, .row .lease 127 true, .blk [.fl .addr] 32 true, .bag .addr 32 true true, .nest .pfx 10 116 true, .row .lease 127 true, .blk [.cst (.row 11), .cst (.row 12), .fl .int] 174 true, .blk [.fl .op] 36 true, .blk [.fl .addr] 32 true, .blk [.fl .addr] 32 true, .blk [.fl .bool, .fl .u64, .fl .u64, .fl .int, .inn 10] 116 true, .row .lease 127 true, .row .lease 127 true] }⟩] }
noncomputable def zq78 : Env := mkEnv ty fnB [(149, m_state_doer__find_con), (113, prefix_Holds_con), (150, lease_Raw_con), (151, slices_SortFunc___api_Lease_api_Lease__con)] [(9, (loopTr zq77 (loopN zq76 FUEL)))]
theorem zq79 : EnvOk Tryz.prog zq78 := envOk tyOk fn_ok (callsCons m_state_doer__find_ok (callsCons prefix_Holds_ok (callsCons lease_Raw_ok (callsCons slices_SortFunc___api_Lease_api_Lease__ok callsNil)))) _
theorem state_Raw___state_doer__do___state_doer__grant_L9_ok : LOk Tryz.prog (nthLoop (codeOf Tryz.f138) 0) (loopTr zq77 (loopN zq76 FUEL)) := by
 have h : loopsOf (nthLoop (codeOf Tryz.f138) 0) = [] := by kernel_rfl
 refine loop_ok zq79 (loopsOk h lsNil) zq77 zq76 FUEL (fun rec x => ?_)
 kernel_rfl
theorem state_Raw___state_doer__do___state_doer__grant_inl : TrOk Tryz.prog 138 (inlCon zq78 Tryz.f138) := by
 have h : loopsOf (codeOf Tryz.f138) = [(nthLoop (codeOf Tryz.f138) 0)] := by kernel_rfl
 exact inl_ok zq79 Tryz.func138 (bodyOk h (lsCons (one_loop (t := (loopTr zq77 (loopN zq76 FUEL))) (by kernel_rfl) state_Raw___state_doer__do___state_doer__grant_L9_ok) lsNil))
noncomputable def zq75 : Env := mkEnv ty fnB [(149, m_state_doer__find_con), (153, slices_Delete___api_Lease_api_Lease__con)] []
theorem state_Raw___state_doer__do___state_doer__free_envOk : EnvOk Tryz.prog zq75 := envOk tyOk fn_ok (callsCons m_state_doer__find_ok (callsCons slices_Delete___api_Lease_api_Lease__ok callsNil)) _
theorem state_Raw___state_doer__do___state_doer__free_inl : TrOk Tryz.prog 139 (inlCon zq75 Tryz.f139) := by
 have h : loopsOf (codeOf Tryz.f139) = [] := by kernel_rfl
 exact inl_ok state_Raw___state_doer__do___state_doer__free_envOk Tryz.func139 (bodyOk h lsNil)
noncomputable def state_Raw___state_doer__do_env : Env := mkEnv ty fnB [(136, (inlCon zq87 Tryz.f136)), (137, (inlCon zq80 Tryz.f137)), (138, (inlCon zq78 Tryz.f138)), (139, (inlCon zq75 Tryz.f139)), (140, lease_Live_con)] []
theorem state_Raw___state_doer__do_envOk : EnvOk Tryz.prog state_Raw___state_doer__do_env := envOk tyOk fn_ok (callsCons state_Raw___state_doer__do___state_doer__pool_inl (callsCons state_Raw___state_doer__do___state_doer__keep_inl (callsCons state_Raw___state_doer__do___state_doer__grant_inl (callsCons state_Raw___state_doer__do___state_doer__free_inl (callsCons lease_Live_ok callsNil))))) _
theorem state_Raw___state_doer__do_inl : TrOk Tryz.prog 128 (inlCon state_Raw___state_doer__do_env Tryz.f128) := by
 have h : loopsOf (codeOf Tryz.f128) = [] := by kernel_rfl
 exact inl_ok state_Raw___state_doer__do_envOk Tryz.func128 (bodyOk h lsNil)
noncomputable def state_Raw_env : Env := mkEnv ty fnB [(71, state_Form_con), (127, state_Own_con), (128, (inlCon state_Raw___state_doer__do_env Tryz.f128))] []
theorem state_Raw_envOk : EnvOk Tryz.prog state_Raw_env := envOk tyOk fn_ok (callsCons state_Form_ok (callsCons state_Own_ok (callsCons state_Raw___state_doer__do_inl callsNil))) _
noncomputable def state_Raw_con : Con := con [.agg [.nest .pfx .addr 116 32 true, .row .lease 127, .fl .int], .one (.fl .op)] [.agg [.nest .pfx .addr 116 32 true, .row .lease 127, .fl .int], .one (.fl .addr), .one (.fl .int)] (fun x => state_Raw_t x.1.1 x.1.2.1 x.1.2.2.1 x.2.1)
theorem state_Raw_ok : TrOk Tryz.prog 107 state_Raw_con := by
 have h : loopsOf (codeOf Tryz.f107) = [] := by kernel_rfl
 refine con_ok state_Raw_envOk Tryz.func107 (bodyOk h lsNil) _ _ _ (fun x => ?_)
 kernel_rfl
noncomputable def log_All___log_player__play_env : Env := mkEnv ty fnB [(107, state_Raw_con)] []
theorem log_All___log_player__play_envOk : EnvOk Tryz.prog log_All___log_player__play_env := envOk tyOk fn_ok (callsCons state_Raw_ok callsNil) _
theorem log_All___log_player__play_inl : TrOk Tryz.prog 89 (inlCon log_All___log_player__play_env Tryz.f89) := by
 have h : loopsOf (codeOf Tryz.f89) = [] := by kernel_rfl
 exact inl_ok log_All___log_player__play_envOk Tryz.func89 (bodyOk h lsNil)
def log_All_L3_S : LoopS := { n := 27, base := 1, head := { keep := [2, 4, 9, 10, 11], vals := [.one (.cst (.ptr 1 0)), .one (.cst (.ptr 2 0)), .one (.cst (.row 0)), .one (.fl .int), .one (.fl .int)], objs := [.row .entry 68 false, .blk [.cst (.row 3), .cst (.row 4), .fl .int] 45 true, .blk [.cst (.row 5), .cst (.row 6), .fl .int, .cst (.row 7)] 138 true, .nest .pfx 8 116 true, .row .lease 127 true, .nest .pfx 9 116 true, .row .lease 127 true, .row .addr 32 true, .bag .addr 32 true true, .bag .addr 32 true true] }, exits := [⟨some 0, { keep := [2, 4], vals := [.one (.cst (.ptr 1 0)), .one (.cst (.ptr 2 0))], objs := [.row .entry 68 false, .blk [.cst (.row 3), .cst (.row 4), .fl .int] 45 true, .blk [.cst (.row 5), .cst (.row 6), .fl .int, .cst (.row 7)] 138 true, .nest .pfx 8 116 true, .row .lease 127 true, .nest .pfx 9 116 true, .row .lease 127 true, .row .addr 32 true, .bag .addr 32 true true, .bag .addr 32 true true] }⟩] }
noncomputable def log_All_env : Env := mkEnv ty fnB [(89, (inlCon log_All___log_player__play_env Tryz.f89))] [(3, (loopTr log_All_L3_S (loopN log_All_L3 FUEL)))]
theorem log_All_envOk : EnvOk Tryz.prog log_All_env := envOk tyOk fn_ok (callsCons log_All___log_player__play_inl callsNil) _
theorem log_All_L3_ok : LOk Tryz.prog (nthLoop (codeOf Tryz.f43) 0) (loopTr log_All_L3_S (loopN log_All_L3 FUEL)) := by
 have h : loopsOf (nthLoop (codeOf Tryz.f43) 0) = [] := by kernel_rfl
 refine loop_ok log_All_envOk (loopsOk h lsNil) log_All_L3_S log_All_L3 FUEL (fun rec x => ?_)
 kernel_rfl
noncomputable def log_All_con : Con := con [.one (.row .entry 68)] [.agg [.nest .pfx .addr 116 32 true, .row .lease 127, .fl .int], .one (.row .addr 32)] (fun x => log_All_t x.1)
theorem log_All_ok : TrOk Tryz.prog 43 log_All_con := by
 have h : loopsOf (codeOf Tryz.f43) = [(nthLoop (codeOf Tryz.f43) 0)] := by kernel_rfl
 refine con_ok log_All_envOk Tryz.func43 (bodyOk h (lsCons (one_loop (t := (loopTr log_All_L3_S (loopN log_All_L3 FUEL))) (by kernel_rfl) log_All_L3_ok) lsNil)) _ _ _ (fun x => ?_)
 kernel_rfl
noncomputable def cluster_Seen_env : Env := mkEnv ty fnB [(16, cluster_Check_con), (42, cluster_within_con), (43, log_All_con)] []
theorem cluster_Seen_envOk : EnvOk Tryz.prog cluster_Seen_env := envOk tyOk fn_ok (callsCons cluster_Check_ok (callsCons cluster_within_ok (callsCons log_All_ok callsNil))) _
noncomputable def cluster_Seen_con : Con := con [.agg [.fl .int, .fl .int, .fl .int, .fl .int, .row .entry 68, .nest .int .entry 56 68 true], .one (.fl .int)] [.agg [.nest .pfx .addr 116 32 true, .row .lease 127, .fl .int], .one (.fl .int)] (fun x => zq21 x.1.1 x.1.2.1 x.1.2.2.1 x.1.2.2.2.1 x.1.2.2.2.2.1 x.1.2.2.2.2.2.1 x.2.1)
theorem cluster_Seen_ok : TrOk Tryz.prog 10 cluster_Seen_con := by
 have h : loopsOf (codeOf Tryz.f10) = [] := by kernel_rfl
 refine con_ok cluster_Seen_envOk Tryz.func10 (bodyOk h lsNil) _ _ _ (fun x => ?_)
 kernel_rfl
noncomputable def law_clusterBegun_env : Env := mkEnv ty fnB [(52, law_events_con), (19, cluster_Run_con), (10, cluster_Seen_con), (53, cluster_New_con), (16, cluster_Check_con)] []
theorem law_clusterBegun_envOk : EnvOk Tryz.prog law_clusterBegun_env := envOk tyOk fn_ok (callsCons law_events_ok (callsCons cluster_Run_ok (callsCons cluster_Seen_ok (callsCons cluster_New_ok (callsCons cluster_Check_ok callsNil))))) _
noncomputable def law_clusterBegun_con : Con := con [] [.one (.fl .bool)] (fun x => law_clusterBegun_t)
theorem law_clusterBegun_ok : TrOk Tryz.prog 15 law_clusterBegun_con := by
 have h : loopsOf (codeOf Tryz.f15) = [] := by kernel_rfl
 refine con_ok law_clusterBegun_envOk Tryz.func15 (bodyOk h lsNil) _ _ _ (fun x => ?_)
 kernel_rfl
noncomputable def log_Replay_env : Env := mkEnv ty fnB [(57, log_Check_con), (43, log_All_con)] []
theorem log_Replay_envOk : EnvOk Tryz.prog log_Replay_env := envOk tyOk fn_ok (callsCons log_Check_ok (callsCons log_All_ok callsNil)) _
noncomputable def log_Replay_con : Con := con [.one (.row .entry 68)] [.agg [.nest .pfx .addr 116 32 true, .row .lease 127, .fl .int], .one (.row .addr 32), .one (.fl .int)] (fun x => log_Replay_t x.1)
theorem log_Replay_ok : TrOk Tryz.prog 29 log_Replay_con := by
 have h : loopsOf (codeOf Tryz.f29) = [] := by kernel_rfl
 refine con_ok log_Replay_envOk Tryz.func29 (bodyOk h lsNil) _ _ _ (fun x => ?_)
 kernel_rfl
noncomputable def law_logBegun_env : Env := mkEnv ty fnB [(56, law_entries_con), (33, law_some_con), (34, log_Add_con), (29, log_Replay_con), (26, log_Begins_con), (57, log_Check_con), (58, law_v4_con)] []
theorem law_logBegun_envOk : EnvOk Tryz.prog law_logBegun_env := envOk tyOk fn_ok (callsCons law_entries_ok (callsCons law_some_ok (callsCons log_Add_ok (callsCons log_Replay_ok (callsCons log_Begins_ok (callsCons log_Check_ok (callsCons law_v4_ok callsNil))))))) _
noncomputable def law_logBegun_con : Con := con [] [.one (.fl .bool)] (fun x => law_logBegun_t)
theorem law_logBegun_ok : TrOk Tryz.prog 21 law_logBegun_con := by
 have h : loopsOf (codeOf Tryz.f21) = [] := by kernel_rfl
 refine con_ok law_logBegun_envOk Tryz.func21 (bodyOk h lsNil) _ _ _ (fun x => ?_)
 kernel_rfl
noncomputable def law_ClusterTurns_env : Env := mkEnv ty fnB [(15, law_clusterBegun_con), (21, law_logBegun_con), (16, cluster_Check_con), (22, R_CheckOp_con), (9, cluster_Do_con), (10, cluster_Seen_con), (23, R_SameState_con)] []
theorem law_ClusterTurns_envOk : EnvOk Tryz.prog law_ClusterTurns_env := envOk tyOk fn_ok (callsCons law_clusterBegun_ok (callsCons law_logBegun_ok (callsCons cluster_Check_ok (callsCons R_CheckOp_ok (callsCons cluster_Do_ok (callsCons cluster_Seen_ok (callsCons R_SameState_ok callsNil))))))) _
noncomputable def law_ClusterTurns_con : Con := con [.agg [.fl .int, .fl .int, .fl .int, .fl .int, .row .entry 68, .nest .int .entry 56 68 true], .one (.fl .int), .one (.fl .op)] [.one (.fl .bool)] (fun x => law_ClusterTurns_t x.1.1 x.1.2.1 x.1.2.2.1 x.1.2.2.2.1 x.1.2.2.2.2.1 x.1.2.2.2.2.2.1 x.2.1 x.2.2.1)
theorem law_ClusterTurns_ok : TrOk Tryz.prog 5 law_ClusterTurns_con := by
 have h : loopsOf (codeOf Tryz.f5) = [] := by kernel_rfl
 refine con_ok law_ClusterTurns_envOk Tryz.func5 (bodyOk h lsNil) _ _ _ (fun x => ?_)
 kernel_rfl
end Go.Proofs.YtjncjiegmnicbabGreat
namespace Go.Proofs.YtjncjiegmnicbabGreat
open Go Go.Ma Go.ChangeShapes Go.WideShapes Go.ChangeAt Go.RowKit
set_option linter.unusedVariables false
theorem clusterTurns_own : ownKnob Tryz.prog.godebug = none := by kernel_rfl
theorem clusterTurns_laidOut : laidOutB Tryz.prog = true := by kernel_rfl
theorem clusterTurns_plain : ∀ x, PsIn [.agg [.fl .int, .fl .int, .fl .int, .fl .int, .row .entry 68, .nest .int .entry 56 68 true], .one (.fl .int), .one (.fl .op)] x → (fun x => law_ClusterTurns_t x.1.1 x.1.2.1 x.1.2.2.1 x.1.2.2.2.1 x.1.2.2.2.2.1 x.1.2.2.2.2.2.1 x.2.1 x.2.2.1) x = some ((true : Bool), ()) := fun x hx => ClusterTurns_eq x.1.1 x.1.2.1 x.1.2.2.1 x.1.2.2.2.1 hx.1.2.2.2.2.1.2 x.1.2.2.2.2.2.1.1 (fun c hc => (hx.1.2.2.2.2.2.1.2.2 c hc).2) hx.1.2.2.2.2.2.1.2.1 x.2.1 hx.2.2.1
set_option maxRecDepth 100000 in
theorem clusterTurns_lifted (os : Os) (started : os.Started) (H : Type) (enc : TypeId × Value → H) :
  ReturnsInHanded {} Tryz.checked os 5 .any (Rows.clusterTurnsSpec.pre6 enc Tryz.prog Tryz.f5 Rows.clusterTurnsRow.domain false) (Rows.clusterTurnsSpec.post enc Tryz.prog Tryz.f5 false true false false) := by
 refine returnsInHanded_of_change (C := Tryz.checked) clusterTurns_own started (by kernel_rfl) Tryz.func5
  (ChangeSpec.witness6 (enc := enc) (C := Tryz.checked) false ⟨#[], #[.agg #[.int .i64 0, .int .i64 0, .int .i64 0, .int .i64 0, .slice none 0 0, .slice none 0 0], .int .i64 0, .agg #[.int .i64 0, .bool false, .int .u64 0, .int .u64 0, .int .i64 0, .bool false, .int .u64 0, .int .u64 0, .string ByteArray.empty, .int .i64 0, .int .i64 0]], []⟩ 8 (by kernel_rfl) (by kernel_rfl) (by kernel_rfl) (by kernel_rfl)) ?_
 intro W base args ds gs before hval0 hW hcnd _
 have hval : ∀ (j : Nat) t v, Tryz.f5.params[j]? = some t → args[j]? = some v → Value.okWide Tryz.prog W .any base t v := hval0
 have hW' := hW
 obtain ⟨p, q, hA0, hV, rfl, hfz, hnd⟩ := hW
 have hA : DataW.TrodAll enc Tryz.prog W 0 (fun _ => true) true Tryz.f5.params.toList args.toList ds p := hA0
 rw [Tryz.params5] at hA hval
 have hA2 := hA
 obtain ⟨v0, vs0, d0, ds0, p0, q0, hargs, rfl, rfl, h0, r0⟩ := trodAll_cons hA
 obtain ⟨v1, vs1, d1, ds1, p1, q1, rfl, rfl, rfl, h1, r1⟩ := trodAll_cons r0
 obtain ⟨v2, vs2, d2, ds2, p2, q2, rfl, rfl, rfl, h2, r2⟩ := trodAll_cons r1
 obtain ⟨rfl, rfl, rfl⟩ := trodAll_nil r2
 obtain rfl : args = #[v0, v1, v2] := by cases args; simp_all
 obtain ⟨rfl, rfl⟩ := trodVars_none hV
 have call := law_calls (enc := enc) (Glob.none (by kernel_rfl) (by kernel_rfl) (by kernel_rfl) (by kernel_rfl) (by kernel_rfl)) law_ClusterTurns_ok clusterTurns_plain (fun x => rfl) (fun x => rfl) (ts := [29, 3, 36]) (vs := [v0, v1, v2]) (by kernel_rfl) (fun j t v h1 h2 => hval j t v (by simpa using h1) (by simpa using h2)) hA2
 refine call.mono fun e W' ⟨he, bel⟩ => ?_
 subst he
 exact ⟨_, rfl, _, _, _, [], _, [], hW', trodAll_mk1 (shut_bool Tryz.underlying4 _), all_back clusterTurns_laidOut bel _ _ _ _ (by kernel_rfl) hA2, rfl, bel.frame _, fun h => by cases h⟩
theorem clusterTurns_over : Rows.clusterTurnsRow.holds Tryz.pinned (OpenSpec.ofChange Rows.clusterTurnsSpec) :=
 OpenClaim.holds_of_wide 5 Tryz.f5 rfl rfl rfl rfl rfl rfl rfl ⟨rfl, rfl, rfl, rfl, rfl⟩ rfl rfl rfl rfl rfl (by kernel_rfl) Tryz.func5 (by kernel_rfl)
  (of_decide_eq_true (by kernel_rfl)) (by unfold Func.isWrapper; rw [if_neg (of_decide_eq_false (by kernel_rfl))]; exact ⟨rfl, rfl⟩)
  (fun os started H enc _ => clusterTurns_lifted os started H enc)
theorem clusterTurns_said : Rows.ClusterTurnsSaid := clusterTurns_over
end Go.Proofs.YtjncjiegmnicbabGreat
