/-
  slices.Insert of one lease: into a row of the caller's own. The walk by hand (after the shelf's SlicesInsert, SlicesInsertGrow, at elements of five cells).
-/
import Derived.Test.YthmdbgejdeblnaaGreatDoorTy
import Derived.Test.YthmdbgejdeblnaaGreatDoorMaS
import Derived.WalkKit
import Derived.ProofKit
import Derived.Lib.Walk
import Derived.Lib.SliceRun
import Derived.Lib.JoinLaws
import Derived.Lib.AppendZeros
import Derived.Lib.AppendZerosOnto
import Derived.Lib.Overlaps
import Derived.Laws.Externs
import Derived.Laws.IdiomCopy
import Derived.Laws.AppendOwn
import Derived.Shelf.Spec.SlicesInsertGrow
namespace Go.Proofs.YthmdbgejdeblnaaGreatDoor
open Go Go.Ma Go.RowKit Go.Lib Go.Proofs

theorem run_copy_n {P : Program} (w : World) (dT sT ty elem : TypeId) (s : Nat) (b o dLen dCap : Nat) (a : Addr) (sLen sCap q : Nat) (cs : List Value)
    (hu : P.underlying dT = some (.slice elem)) (hs : (P.info? elem).map (·.size) = some s) (hq : q = Nat.min sLen dLen) (hn : cs.length = q * s)
    (hsrc : ∀ j v, cs[j]? = some v → w.cell? (a.add j) = some v) (hc : ∀ j, j < cs.length → (w.cell? ⟨b, o + j, none⟩).isSome = true) (hf : ∀ j, j < cs.length → w.frozen? ⟨b, o + j, none⟩ = false) (h1 : ∀ v ∈ cs, v.oneCell' = true) :
    (Builtin.copy_ #[dT, sT] ty #[.slice (some ⟨b, o, none⟩) dLen dCap, .slice (some a) sLen sCap]).run P w = .ok (goInt q) (w.setCells b o cs) := by
  have hl := run_loadCells_list (P := P) w a cs hsrc
  have hst := run_storeCells_cells (P := P) b o cs 0 w (by simpa using hc) (by simpa using hf) h1
  cases hq' : P.info? elem with
  | none => simp [hq'] at hs
  | some i =>
    have hi : i.size = s := by simpa [hq'] using hs
    rw [hn] at hl
    subst hi
    simp [Builtin.copy_, run_underlying hu, Builtin.lenOf, Builtin.firstCells, sizeOf, typeInfo, hq', ← hq, hl, hst]

theorem infoOf_yardarm_api_Lease : (Tryz.prog.info? 40).map (fun i => (i.zero.map (·.cells.size), i.size, i.bytes)) = some (some 5, 5, 48) := by kernel_rfl
theorem sizeOf_yardarm_api_Lease (w : World) : (Go.sizeOf 40).run Tryz.prog w = .ok 5 w := by kernel_rfl
theorem mixed_all : Tryz.prog.follows .mixedOrders = true := by kernel_rfl

set_option maxHeartbeats 4000000 in
set_option maxRecDepth 100000 in
/-- There is room, i < len(s): in place. -/
theorem ins_shift (b off n c i vb voff m vc : Nat) (cs vs : List Value) (w : World) (hi : i < n) (hm : 0 < m) (hroom : n + m ≤ c) (hc63 : c ≤ 9223372036854775807) (hvb : vb ≠ b)
    (hcl : cs.length = n * 5) (hvl : vs.length = m * 5)
    (hcs : ∀ j v, cs[j]? = some v → w.cell? ⟨b, off + j, none⟩ = some v) (hsp : ∀ j, j < (n + m) * 5 → (w.cell? ⟨b, off + j, none⟩).isSome = true) (hfz : ∀ j, j < (n + m) * 5 → w.frozen? ⟨b, off + j, none⟩ = false)
    (hvs : ∀ j v, vs[j]? = some v → w.cell? ⟨vb, voff + j, none⟩ = some v) (h1c : ∀ v ∈ cs, v.oneCell' = true) (h1v : ∀ v ∈ vs, v.oneCell' = true)
    (tA tB : TypeId) (kA kB : Nat) (hsa : w.shape? vb = some (tA, kA)) (hsb : w.shape? b = some (tB, kB)) (hkB : kB ≠ 0) (hfa : w.frozen? ⟨vb, voff, none⟩ = false) (hfe : w.frozen? ⟨vb, kA, none⟩ = false) :
    Calls Tryz.prog 57 #[.slice (some ⟨b, off, none⟩) n c, .int .i64 i, .slice (some ⟨vb, voff, none⟩) m vc] w fun e w' =>
      e = .returned (.slice (some ⟨b, off, none⟩) (n + m) c) ∧ w' = (w.drew.setCells b (off + (i + m) * 5) (cs.drop (i * 5))).setCells b (off + i * 5) vs := by
  have u30 := run_underlying Tryz.underlying30
  have z49 := sizeOf_yardarm_api_Lease
  have hz1 : ¬ ((m : Int) = 0) := by omega
  have hz2 : ¬ ((i : Int) = (n : Int)) := by omega
  have hsz : (Tryz.prog.info? 40).map (·.size) = some 5 := by
    obtain ⟨i0, hi0, hz⟩ := Option.map_eq_some_iff.1 infoOf_yardarm_api_Lease
    simp only [Prod.mk.injEq] at hz
    rw [hi0]; simp [hz.2.1]
  have hov : ∀ lb cb, (callFunc 83 #[.slice (some ⟨vb, voff, none⟩) m vc, .slice (some ⟨b, off + (i + m) * 5, none⟩) lb cb]).run Tryz.prog w = .ok (.value (.bool false)) w := fun lb cb => by
    rw [run_callFunc_extern Tryz.func83 (by kernel_rfl) (by kernel_rfl) (by kernel_rfl) (e := Extern.SlicesOverlaps.overlaps #[30, 30] #[4]) (by kernel_rfl),
      Lib.run_overlaps_apart w 30 4 40 Tryz.underlying30 5 sizeOf_yardarm_api_Lease ⟨vb, voff, none⟩ ⟨b, off + (i + m) * 5, none⟩ m vc lb cb hvb tA tB kA kB hsa hsb hkB hfa hfe]
    rfl
  have hdl : (cs.drop (i * 5)).length = (n - i) * 5 := by rw [List.length_drop, hcl]; omega
  have mixed := mixed_all
  have hw1 : IntKind.i64.wrap ((i : Int) + (m : Int)) = (i : Int) + (m : Int) := by rw [IntKind.wrap_i64]; omega
  have hb1 : (0 : Int) ≤ (i : Int) + (m : Int) := by omega
  have hin : i ≤ n := by omega
  have htn : ((i : Int) + (m : Int)).toNat = i + m := by omega
  have hb2 : ¬ (c = i + m) := by omega
  have hb3 : (i : Int) ≤ (n : Int) + (m : Int) := by omega
  have hb4 : ¬ (c = i) := by omega
  have hcp1 : ∀ ty dc sc, (Builtin.copy_ #[30, 30] ty #[.slice (some ⟨b, off + (i + m) * 5, none⟩) (n + m - (i + m)) dc, .slice (some ⟨b, off + i * 5, none⟩) (n + m - i) sc]).run Tryz.prog w.drew = .ok (goInt ((n - i : Nat) : Int)) (w.drew.setCells b (off + (i + m) * 5) (cs.drop (i * 5))) := fun ty dc sc =>
    run_copy_n w.drew _ _ ty 40 5 b (off + (i + m) * 5) (n + m - (i + m)) dc ⟨b, off + i * 5, none⟩ (n + m - i) sc (n - i) (cs.drop (i * 5)) Tryz.underlying30 hsz (by simp only [Nat.min_def]; split <;> omega) hdl
      (fun j v hj => by rw [Addr.add_lit, Nat.add_assoc]; exact hcs (i * 5 + j) v (by rwa [List.getElem?_drop] at hj))
      (fun j hj => by rw [Nat.add_assoc]; exact hsp _ (by omega)) (fun j hj => by rw [Nat.add_assoc]; exact hfz _ (by omega)) (fun v hv => h1c v (List.mem_of_mem_drop hv))
  obtain ⟨W1, hW1⟩ : ∃ W1, W1 = w.drew.setCells b (off + (i + m) * 5) (cs.drop (i * 5)) := ⟨_, rfl⟩
  have hsp1 : ∀ k, k < (n + m) * 5 → (W1.cell? ⟨b, off + k, none⟩).isSome = true := fun k hk => by
    rw [hW1]
    exact isSome_setCells b _ _ _ (fun j hj => by rw [Nat.add_assoc]; exact hsp _ (by omega)) _ (hsp k hk)
  have hcp2 : ∀ (W : World), (∀ x, W.cell? x = W1.cell? x) → (∀ x, W.frozen? x = W1.frozen? x) → ∀ ty dc, (Builtin.copy_ #[30, 30] ty #[.slice (some ⟨b, off + i * 5, none⟩) (n + m - i) dc, .slice (some ⟨vb, voff, none⟩) m vc]).run Tryz.prog W = .ok (goInt m) (W.setCells b (off + i * 5) vs) := fun W hWc hWf ty dc =>
    run_copy_n W _ _ ty 40 5 b (off + i * 5) (n + m - i) dc ⟨vb, voff, none⟩ m vc m vs Tryz.underlying30 hsz (by simp only [Nat.min_def]; split <;> omega) hvl
      (fun j v hj => by
        rw [Addr.add_lit, hWc, hW1, World.cell?_setCells_out b _ _ _ _ (fun h _ => absurd h hvb)]
        exact hvs j v hj)
      (fun j hj => by rw [hWc, Nat.add_assoc]; exact hsp1 _ (by omega)) (fun j hj => by rw [hWf, hW1, World.frozen?_setCells, Nat.add_assoc]; exact hfz _ (by omega)) h1v
  rw [← hW1] at hcp1
  go_enter Tryz.func57, Tryz.ntmps57
  go_wp2_with (simp only [hov])
  go_region_law_o (refine step_copy_runI rfl _ _ 30 30 rfl _ _ (by simp [Act.eval, Act.put]) (by simp [Act.eval, Act.put]) (hcp1 _ _ _) ?_)
  go_wp2_with (at_builtin; refine wpList_copy_runI _ rfl _ _ 30 30 rfl _ _ rfl rfl (hcp2 _ (fun _ => rfl) (fun _ => rfl) _ _) ?_)
  go_ret
  first | exact ⟨rfl, rfl⟩ | exact ⟨rfl, by rw [hW1]⟩

set_option maxHeartbeats 4000000 in
set_option maxRecDepth 100000 in
/-- i < len(s), no room: a new row. -/
theorem ins_grow (b off n c i vb voff m vc : Nat) (cs vs : List Value) (z : Value) (hz0 : (Tryz.prog.info? 40).map (·.zero) = some (some z)) (w : World) (hi : i < n) (hm : 0 < m) (hnc : n ≤ c) (hroom : c < n + m) (hbig : (n + m) * 48 ≤ 140737488355328)
    (hcl : cs.length = n * 5) (hvl : vs.length = m * 5)
    (hcs : ∀ j v, cs[j]? = some v → w.cell? ⟨b, off + j, none⟩ = some v)
    (hvs : ∀ j v, vs[j]? = some v → w.cell? ⟨vb, voff + j, none⟩ = some v) (h1c : ∀ v ∈ cs, v.oneCell' = true) (h1v : ∀ v ∈ vs, v.oneCell' = true) :
    Calls Tryz.prog 57 #[.slice (some ⟨b, off, none⟩) n c, .int .i64 i, .slice (some ⟨vb, voff, none⟩) m vc] w fun e w' =>
      e = .returned (.slice (some ⟨w.heap.size, 0, none⟩) (n + m) (grownCap w (n + m) c 40)) ∧
      w' = (((w.alloc (.cells ((cs.take (i * 5)).toArray ++ Builtin.zeroCells z.cells (n + m - i) ++ Builtin.zeroCells z.cells (grownCap w (n + m) c 40 - (n + m))) 40)).drew.setCells w.heap.size (i * 5) vs).drew).setCells w.heap.size ((i + m) * 5) (cs.drop (i * 5)) := by
  have u30 := run_underlying Tryz.underlying30
  have z49 := sizeOf_yardarm_api_Lease
  have mixed := mixed_all
  obtain ⟨i0, hi0, hz⟩ := Option.map_eq_some_iff.1 infoOf_yardarm_api_Lease
  simp only [Prod.mk.injEq] at hz
  obtain ⟨hzc, hzs, hzb⟩ := hz
  have hz0 : i0.zero = some z := by rw [hi0] at hz0; simpa using hz0
  have hzc : z.cells.size = 5 := by rw [hz0] at hzc; simpa using hzc
  have hz1 : ¬ ((m : Int) = 0) := by omega
  have hz2 : ¬ ((i : Int) = (n : Int)) := by omega
  have hz3 : (c : Int) < (n : Int) + (m : Int) := by omega
  have hsz : (Tryz.prog.info? 40).map (·.size) = some 5 := by rw [hi0]; simp [hzs]
  have hbw : b < w.heap.size := block_lt_of_cell (hcs 0 _ (List.getElem?_eq_getElem (by omega)))
  have hvw : vb < w.heap.size := block_lt_of_cell (hvs 0 _ (List.getElem?_eq_getElem (by omega)))
  have hkk : (n : Int) + (m : Int) - (i : Int) = ((n + m - i : Nat) : Int) := by omega
  have hik : i + (n + m - i) = n + m := by omega
  have hold : (Builtin.firstCells i0.size i (.slice (some ⟨b, off, none⟩) i c)).run Tryz.prog w.drew = .ok (cs.take (i * 5)).toArray w.drew := by
    rw [hzs]
    exact run_firstCells_some w.drew 5 i ⟨b, off, none⟩ i c (cs.take (i * 5)) (by rw [List.length_take]; omega) (fun j v hj => by
      rw [Addr.add_lit]
      rw [List.getElem?_take] at hj
      split at hj
      · exact hcs j v hj
      · cases hj)
  have hrz : ∀ ty, (Builtin.append_ #[30, 3] ty #[.slice (some ⟨b, off, none⟩) i c, .int .i64 ((n : Int) + (m : Int) - (i : Int))]).run Tryz.prog w =
      .ok (.slice (some ⟨w.heap.size, 0, none⟩) (n + m) (grownCap w (n + m) c 40)) (w.drew.alloc (.cells ((cs.take (i * 5)).toArray ++ Builtin.zeroCells z.cells (n + m - i) ++ Builtin.zeroCells z.cells (grownCap w (n + m) c 40 - (n + m))) 40)) := fun ty => by
    have h := Lib.run_append_grow_zeros w 30 3 ty 40 i0 z .i64 .i64 Tryz.underlying30 Tryz.underlying3 hi0 hz0 (some ⟨b, off, none⟩) i c (cs.take (i * 5)) hold (n + m - i) (by omega) (by omega) (by omega) (by omega) (by rw [hzb]; omega) (by rw [hzb, hik]; exact growslice_fits hroom hbig)
    rw [hik] at h
    rw [hkk]
    exact h
  obtain ⟨G, hG⟩ : ∃ G, G = grownCap w (n + m) c 40 := ⟨_, rfl⟩
  obtain ⟨ROW, hROW⟩ : ∃ ROW : Array Value, ROW = (cs.take (i * 5)).toArray ++ Builtin.zeroCells z.cells (n + m - i) ++ Builtin.zeroCells z.cells (G - (n + m)) := ⟨_, rfl⟩
  rw [← hG] at hrz ⊢
  rw [← hROW] at hrz ⊢
  have hRl : (n + m) * 5 ≤ ROW.size := by
    rw [hROW]
    simp [Builtin.zeroCells, hzc]
    omega
  obtain ⟨W1, hW1⟩ : ∃ W1, W1 = w.drew.alloc (.cells ROW 40) := ⟨_, rfl⟩
  rw [← hW1] at hrz
  have hN : ∀ j, j < (n + m) * 5 → (W1.cell? ⟨w.heap.size, j, none⟩).isSome = true := fun j hj => by
    rw [hW1, World.cell?_alloc_at (w := w.drew) ROW _ w.heap.size j rfl, Array.getElem?_eq_getElem (by omega)]; rfl
  have hNf : ∀ j, W1.frozen? ⟨w.heap.size, j, none⟩ = false := fun j => by rw [hW1]; exact World.frozen?_alloc_at (w := w.drew) ROW _ w.heap.size j rfl
  have hOb : ∀ j v, w.cell? ⟨b, j, none⟩ = some v → W1.cell? ⟨b, j, none⟩ = some v := fun j v h => by rw [hW1, World.cell?_alloc_past (w := w.drew) _ b j hbw]; exact h
  have hOv : ∀ j v, w.cell? ⟨vb, j, none⟩ = some v → W1.cell? ⟨vb, j, none⟩ = some v := fun j v h => by rw [hW1, World.cell?_alloc_past (w := w.drew) _ vb j hvw]; exact h
  have hcpA : ∀ (W : World), (∀ x, W.cell? x = W1.cell? x) → (∀ x, W.frozen? x = W1.frozen? x) → ∀ ty dc, (Builtin.copy_ #[30, 30] ty #[.slice (some ⟨w.heap.size, i * 5, none⟩) (n + m - i) dc, .slice (some ⟨vb, voff, none⟩) m vc]).run Tryz.prog W = .ok (goInt (m : Int)) (W.setCells w.heap.size (i * 5) vs) := fun W hWc hWf ty dc =>
    run_copy_n W _ _ ty 40 5 w.heap.size (i * 5) (n + m - i) dc ⟨vb, voff, none⟩ m vc m vs Tryz.underlying30 hsz (by simp only [Nat.min_def]; split <;> omega) hvl
      (fun j v hj => by rw [Addr.add_lit, hWc]; exact hOv _ v (hvs j v hj))
      (fun j hj => by rw [hWc]; exact hN _ (by omega)) (fun j hj => by rw [hWf]; exact hNf _) h1v
  have hGn : n + m ≤ G := by rw [hG]; exact grownCap_ge w _ _ _
  have hG63 : G ≤ 9223372036854775807 := by
    have := grownCap_le_maxLen w (n + m) c 40 (by unfold maxLen; omega)
    rw [← hG] at this
    unfold maxLen at this
    omega
  have hGi : ¬ (G = i) := by omega
  have hGim : ¬ (G = i + m) := by omega
  have hci : ¬ (c = i) := by omega
  have hbN : b ≠ w.heap.size := by omega
  have hdl : (cs.drop (i * 5)).length = (n - i) * 5 := by rw [List.length_drop, hcl]; omega
  have hcpB : ∀ (W : World), (∀ x, W.cell? x = (W1.setCells w.heap.size (i * 5) vs).cell? x) → (∀ x, W.frozen? x = (W1.setCells w.heap.size (i * 5) vs).frozen? x) → ∀ ty dc sc, (Builtin.copy_ #[30, 30] ty #[.slice (some ⟨w.heap.size, (i + m) * 5, none⟩) (n + m - (i + m)) dc, .slice (some ⟨b, off + i * 5, none⟩) (n - i) sc]).run Tryz.prog W = .ok (goInt ((n - i : Nat) : Int)) (W.setCells w.heap.size ((i + m) * 5) (cs.drop (i * 5))) := fun W hWc hWf ty dc sc =>
    run_copy_n W _ _ ty 40 5 w.heap.size ((i + m) * 5) (n + m - (i + m)) dc ⟨b, off + i * 5, none⟩ (n - i) sc (n - i) (cs.drop (i * 5)) Tryz.underlying30 hsz (by simp only [Nat.min_def]; split <;> omega) hdl
      (fun j v hj => by
        rw [Addr.add_lit, hWc, World.cell?_setCells_out _ _ _ _ _ (fun h _ => absurd h hbN), Nat.add_assoc]
        exact hOb _ v (hcs (i * 5 + j) v (by rwa [List.getElem?_drop] at hj)))
      (fun j hj => by rw [hWc]; exact isSome_setCells _ _ _ _ (fun t ht => hN _ (by omega)) _ (hN _ (by omega)))
      (fun j hj => by rw [hWf, World.frozen?_setCells]; exact hNf _) (fun v hv => h1c v (List.mem_of_mem_drop hv))
  subst hW1
  have hE1 : ∀ x, ((w.alloc (.cells ROW 40)).drew).cell? x = (w.drew.alloc (.cells ROW 40)).cell? x := fun x => rfl
  have hE2 : ∀ x, ((w.alloc (.cells ROW 40)).drew).frozen? x = (w.drew.alloc (.cells ROW 40)).frozen? x := fun x => rfl
  have hF1 : ∀ x, (((w.alloc (.cells ROW 40)).drew.setCells w.heap.size (i * 5) vs).drew).cell? x = ((w.drew.alloc (.cells ROW 40)).setCells w.heap.size (i * 5) vs).cell? x := fun x => rfl
  have hF2 : ∀ x, (((w.alloc (.cells ROW 40)).drew.setCells w.heap.size (i * 5) vs).drew).frozen? x = ((w.drew.alloc (.cells ROW 40)).setCells w.heap.size (i * 5) vs).frozen? x := fun x => rfl
  have hw1 : IntKind.i64.wrap ((i : Int) + (m : Int)) = (i : Int) + (m : Int) := by rw [IntKind.wrap_i64]; omega
  have hb1 : (0 : Int) ≤ (i : Int) + (m : Int) := by omega
  have hin : i ≤ n := by omega
  have htn : ((i : Int) + (m : Int)).toNat = i + m := by omega
  have hb3 : (i : Int) ≤ (n : Int) := by omega
  clear hkk hik hold hROW hG hRl
  go_enter Tryz.func57, Tryz.ntmps57
  go_wp2_with (first
    | (at_builtin; refine Lib.wpList_append_run _ rfl _ _ _ _ rfl _ _ rfl rfl _ _ (hrz _) ?_)
    | (at_builtin; refine wpList_copy_runI _ rfl _ _ 30 30 rfl _ _ rfl rfl (hcpA _ hE1 hE2 _ _) ?_)
    | (at_builtin; refine wpList_copy_runI _ rfl _ _ 30 30 rfl _ _ rfl rfl (hcpB _ (fun _ => rfl) (fun _ => rfl) _ _ _) ?_))
  go_region_law_o (refine step_copy_runI rfl _ _ 30 30 rfl (.slice (some ⟨w.heap.size, (i + m) * 5, none⟩) (n + m - (i + m)) (G - (i + m))) (.slice (some ⟨b, off + i * 5, none⟩) (n - i) (c - i)) (by simp [Act.eval, Act.put]) (by simp [Act.eval, Act.put]) (hcpB _ hF1 hF2 3 (G - (i + m)) (c - i)) ?_)
  go_wp2
  go_ret
  exact ⟨rfl, rfl⟩

set_option maxHeartbeats 4000000 in
set_option maxRecDepth 100000 in
/-- At the end: whatever append does. -/
theorem ins_end (v : Value) (base : Option Addr) (n c : Nat) (vb vc m : Nat) (v' : Value) (w w' : World) (hm : 0 < m) (hnc : n ≤ c)
    (hrun : ∀ ty, (Builtin.append_ #[30, 30] ty #[.slice base n c, .slice (some ⟨vb, 0, none⟩) m vc]).run Tryz.prog w = .ok v' w') (hsl : ∃ A N C, v' = .slice A N C) (hnil : base = none → n = 0) :
    Calls Tryz.prog 57 #[.slice base n c, .int .i64 n, .slice (some ⟨vb, 0, none⟩) m vc] w fun e w2 => e = .returned v' ∧ w2 = w' := by
  have u30 := run_underlying Tryz.underlying30
  have z49 := sizeOf_yardarm_api_Lease
  have mixed := mixed_all
  have hz1 : ¬ ((m : Int) = 0) := by omega
  obtain ⟨A, N, C, rfl⟩ := hsl
  go_enter Tryz.func57, Tryz.ntmps57
  cases base with
  | none =>
    have h0 := hnil rfl
    subst h0
    go_wp2_with (at_builtin; refine Lib.wpList_append_run _ rfl _ _ _ _ rfl _ _ rfl rfl _ _ (hrun _) ?_)
    all_goals (go_ret; exact ⟨rfl, rfl⟩)
  | some a =>
    obtain ⟨ab, ao, asp⟩ := a
    go_wp2_with (at_builtin; refine Lib.wpList_append_run _ rfl _ _ _ _ rfl _ _ rfl rfl _ _ (hrun _) ?_)
    all_goals (go_ret; exact ⟨rfl, rfl⟩)

/-- The cells behind it. -/
theorem ins_cells {arr : Array Value} {n i : Nat} {cs xs : List Value} (hi : i < n) (hcl : cs.length = n * 5) (hxl : xs.length = 5) (hsz : (n + 1) * 5 ≤ arr.size) (h0 : ∀ q, q < i * 5 → arr[q]? = cs[q]?) :
    (setArr (setArr arr ((i + 1) * 5) (cs.drop (i * 5))) (i * 5) xs).toList.take ((n + 1) * 5) = cs.take (i * 5) ++ xs ++ cs.drop (i * 5) ∧
    (setArr (setArr arr (i * 5) xs) ((i + 1) * 5) (cs.drop (i * 5))).toList.take ((n + 1) * 5) = cs.take (i * 5) ++ xs ++ cs.drop (i * 5) := by
  have hdl : (cs.drop (i * 5)).length = (n - i) * 5 := by rw [List.length_drop, hcl]; omega
  have hrhs : ∀ q : Nat, (cs.take (i * 5) ++ xs ++ cs.drop (i * 5))[q]? = if q < i * 5 then cs[q]? else if q < (i + 1) * 5 then xs[q - i * 5]? else (cs.drop (i * 5))[q - (i + 1) * 5]? := by
    intro q
    rw [List.append_assoc, List.getElem?_append, List.length_take, Nat.min_eq_left (by omega)]
    split
    · rw [List.getElem?_take, if_pos (by assumption)]
    · rw [List.getElem?_append, hxl]
      by_cases hq : q < (i + 1) * 5
      · rw [if_pos (by omega), if_pos hq]
      · rw [if_neg (by omega), if_neg hq]
        congr 1
        omega
  constructor
  · apply List.ext_getElem?
    intro q
    rw [hrhs, List.getElem?_take]
    by_cases hq : q < (n + 1) * 5
    · rw [if_pos hq, Array.getElem?_toList, setArr_get _ _ _ _ (by rw [setArr_size]; omega)]
      by_cases h1 : q < i * 5
      · rw [if_neg (by omega), if_pos h1, setArr_get _ _ _ _ (by omega), if_neg (by omega), h0 q h1]
      · rw [if_neg h1]
        by_cases h2 : q < (i + 1) * 5
        · rw [if_pos (by omega), if_pos h2]
        · rw [if_neg (by omega), if_neg h2, setArr_get _ _ _ _ (by omega), if_pos (by omega)]
    · rw [if_neg hq, if_neg (by omega), if_neg (by omega), List.getElem?_eq_none (by omega)]
  · apply List.ext_getElem?
    intro q
    rw [hrhs, List.getElem?_take]
    by_cases hq : q < (n + 1) * 5
    · rw [if_pos hq, Array.getElem?_toList, setArr_get _ _ _ _ (by rw [setArr_size]; omega)]
      by_cases h1 : q < i * 5
      · rw [if_neg (by omega), if_pos h1, setArr_get _ _ _ _ (by omega), if_neg (by omega), h0 q h1]
      · rw [if_neg h1]
        by_cases h2 : q < (i + 1) * 5
        · rw [if_neg (by omega), if_pos h2, setArr_get _ _ _ _ (by omega), if_pos (by omega)]
        · rw [if_pos (by omega), if_neg h2]
    · rw [if_neg hq, if_neg (by omega), if_neg (by omega), List.getElem?_eq_none (by omega)]

theorem ins_main (base : Nat) (w : World) (v u : Value) (n i : Nat) (cs xs : List Value) (h1 : w.ownsRow base 40 5 v n cs) (h2 : w.ownsRow base 40 5 u 1 xs) (hap : ∀ b, v.ownBlock = some b → u.ownBlock ≠ some b) (hc1 : ∀ x ∈ cs, oneC x = true) (hc2 : ∀ x ∈ xs, oneC x = true)
    (hbase : base ≤ w.heap.size) (hin : i ≤ n) (hbig : n + 1 ≤ 274877906944) :
    Calls Tryz.prog 57 #[v, .int .i64 (i : Int), u] w fun r w' => ∃ v', r = .returned v' ∧ w'.ownsRow base 40 5 v' (n + 1) (cs.take (i * 5) ++ xs ++ cs.drop (i * 5)) ∧ w.grownBy w' v.ownBlock ∧ (∀ b, v'.ownBlock = some b → v.ownBlock = some b ∨ w.heap.size ≤ b) := by
  obtain ⟨i0, hi0, hz⟩ := Option.map_eq_some_iff.1 infoOf_yardarm_api_Lease
  simp only [Prod.mk.injEq] at hz
  obtain ⟨hzc, hzs, hzb⟩ := hz
  obtain ⟨z, hz0, hzc⟩ := Option.map_eq_some_iff.1 hzc
  have hcl := h1.1
  have hxl : xs.length = 5 := by have := h2.1; omega
  rcases h2.2 with ⟨_, h0⟩ | ⟨vb, vc, curv, rfl, hvbase, hvheap, hvc, hvcm, hvsz, hvtake⟩
  · cases h0
  have hvs : ∀ j x, xs[j]? = some x → w.cell? ⟨vb, 0 + j, none⟩ = some x := by
    intro j x hj
    rw [Nat.zero_add, cells_of_blk hvheap, ← Array.getElem?_toList]
    rw [← hvtake, List.getElem?_take] at hj
    split at hj
    · exact hj
    · cases hj
  have h1v : ∀ x ∈ xs, x.oneCell' = true := fun x hx => oneC_cell' (hc2 x hx)
  have h1c : ∀ x ∈ cs, x.oneCell' = true := fun x hx => oneC_cell' (hc1 x hx)
  by_cases hine : i = n
  · subst hine
    have htd : cs.take (i * 5) ++ xs ++ cs.drop (i * 5) = cs ++ xs := by rw [List.take_of_length_le (by omega), List.drop_of_length_le (by omega), List.append_nil]
    rw [htd]
    have hown5 : w.ownsRow base 40 i0.size v i cs := by rw [hzs]; exact h1
    obtain ⟨v', w', hrun, hown', hgb, hblk⟩ := append_own (P := Tryz.prog) w base 30 0 40 i0 z Tryz.underlying30 hi0 hz0 (by rw [hzs]; exact hzc) (by omega) v i cs hown5 (some ⟨vb, 0, none⟩) 1 vc xs (by rw [hzs]; omega) (by simp)
      (fun ad had j x hj => by
        cases had
        rw [add_zero_addr]
        exact hvs j x hj) h1v (by unfold maxLen; omega) (by rw [hzb]; omega) hbase
    have hrun' : ∀ ty, (Builtin.append_ #[30, 30] ty #[v, .slice (some ⟨vb, 0, none⟩) 1 vc]).run Tryz.prog w = .ok v' w' := fun ty => by
      rw [← hrun]
      rfl
    rw [hzs] at hown'
    have hsl : ∃ A N C, v' = .slice A N C := by
      rcases hown'.2 with ⟨h, _⟩ | ⟨g, cp, cur, h, _⟩
      · exact ⟨_, _, _, h⟩
      · exact ⟨_, _, _, h⟩
    have hv : ∃ A c, v = .slice A i c ∧ i ≤ c ∧ (A = none → i = 0) := by
      rcases h1.2 with ⟨h, h0⟩ | ⟨g, cp, cur, h, _, _, hc, _⟩
      · exact ⟨none, 0, by rw [h, h0], by omega, fun _ => h0⟩
      · exact ⟨_, cp, h, hc, fun h => by cases h⟩
    obtain ⟨A, c, rfl, hc, hnil⟩ := hv
    refine (ins_end (.slice A i c) A i c vb vc 1 v' w w' (by omega) hc hrun' hsl hnil).mono ?_
    rintro e w2 ⟨rfl, rfl⟩
    exact ⟨v', rfl, hown', hgb, hblk⟩
  · have hi : i < n := by omega
    rcases h1.2 with ⟨_, h0⟩ | ⟨g, cap, cur, rfl, hgbase, hgheap, hnc, hcm, hgsz, hgtake⟩
    · omega
    have hvbg : vb ≠ g := fun e => hap g rfl (by rw [e]; rfl)
    have hcs : ∀ j x, cs[j]? = some x → w.cell? ⟨g, 0 + j, none⟩ = some x := by
      intro j x hj
      rw [Nat.zero_add, cells_of_blk hgheap, ← Array.getElem?_toList]
      rw [← hgtake, List.getElem?_take] at hj
      split at hj
      · exact hj
      · cases hj
    by_cases hroom : n + 1 ≤ cap
    · refine (ins_shift g 0 n cap i vb 0 1 vc cs xs w hi (by omega) hroom (by unfold maxLen at hcm; omega) hvbg hcl (by omega) hcs
        (fun j hj => by rw [Nat.zero_add, cells_of_blk hgheap, Array.getElem?_eq_getElem (by omega)]; rfl) (fun j hj => by simp [World.frozen?, hgheap]) hvs h1c h1v 40 40 curv.size cur.size
        (by simp [World.shape?, hvheap]) (by simp [World.shape?, hgheap]) (by omega) (by simp [World.frozen?, hvheap]) (by simp [World.frozen?, hvheap])).mono ?_
      rintro e w' ⟨rfl, rfl⟩
      have hg0 : w.drew.heap[g]? = some (.cells cur 40 (0, 0)) := hgheap
      obtain ⟨a1, a2, a3, a4, a5, a6⟩ := setCells_spec w.drew g (0 + (i + 1) * 5) (cs.drop (i * 5)) cur 40 (0, 0) hg0
      obtain ⟨b1, b2, b3, b4, b5, b6⟩ := setCells_spec _ g (0 + i * 5) xs _ 40 (0, 0) a1
      have hdl : (cs.drop (i * 5)).length = (n - i) * 5 := by rw [List.length_drop, hcl]; omega
      refine ⟨_, rfl, ⟨?_, .inr ⟨g, cap, _, rfl, hgbase, b1, hroom, hcm, by rw [setArr_size, setArr_size]; exact hgsz, ?_⟩⟩, ⟨b4.trans a4, b5.trans a5, b6.trans a6, by rw [b3, a3]; exact Nat.le_refl _, fun k hk hne => ?_⟩, fun b hb => .inl hb⟩
      · simp only [List.length_append, List.length_take, hdl, hxl]; omega
      · rw [Nat.zero_add, Nat.zero_add]
        refine (ins_cells hi hcl hxl (by omega) fun q hq => ?_).1
        rw [← hgtake, List.getElem?_take, if_pos (by omega), Array.getElem?_toList]
      · have hkg : k ≠ g := fun e => hne (by rw [e]; rfl)
        exact (b2 k hkg).trans (a2 k hkg)
    · refine (ins_grow g 0 n cap i vb 0 1 vc cs xs z (by rw [hi0]; simp [hz0]) w hi (by omega) hnc (by omega) (by omega) hcl (by omega) hcs hvs h1c h1v).mono ?_
      rintro e w' ⟨rfl, rfl⟩
      obtain ⟨G, hG⟩ : ∃ G, G = grownCap w (n + 1) cap 40 := ⟨_, rfl⟩
      have hGn : n + 1 ≤ G := by rw [hG]; exact grownCap_ge w _ _ _
      have hG63 : G ≤ maxLen := by rw [hG]; exact grownCap_le_maxLen w (n + 1) cap 40 (by unfold maxLen; omega)
      rw [← hG]
      obtain ⟨ROW, hROW⟩ : ∃ ROW : Array Value, ROW = (cs.take (i * 5)).toArray ++ Builtin.zeroCells z.cells (n + 1 - i) ++ Builtin.zeroCells z.cells (G - (n + 1)) := ⟨_, rfl⟩
      rw [← hROW]
      have hRs : ROW.size = G * 5 := by
        rw [hROW]
        simp [Builtin.zeroCells, hzc]
        omega
      have hR0 : ∀ q, q < i * 5 → ROW[q]? = cs[q]? := fun q hq => by
        rw [hROW, Array.append_assoc, Array.getElem?_append_left (by simp; omega)]
        simp only [List.getElem?_toArray, List.getElem?_take, if_pos hq]
      have hh : ((w.alloc (.cells ROW 40)).drew).heap[w.heap.size]? = some (.cells ROW 40 (0, 0)) := by
        show (w.heap.push _)[w.heap.size]? = _
        exact Array.getElem?_push_size
      obtain ⟨a1, a2, a3, a4, a5, a6⟩ := setCells_spec _ w.heap.size (i * 5) xs ROW 40 (0, 0) hh
      have a1' : (((w.alloc (.cells ROW 40)).drew.setCells w.heap.size (i * 5) xs).drew).heap[w.heap.size]? = _ := a1
      obtain ⟨b1, b2, b3, b4, b5, b6⟩ := setCells_spec _ w.heap.size ((i + 1) * 5) (cs.drop (i * 5)) _ 40 (0, 0) a1'
      have hdl : (cs.drop (i * 5)).length = (n - i) * 5 := by rw [List.length_drop, hcl]; omega
      have hold : ∀ k, k < w.heap.size → ((w.alloc (.cells ROW 40)).drew).heap[k]? = w.heap[k]? := fun k hk => by
        show (w.heap.push _)[k]? = _
        rw [Array.getElem?_push, if_neg (by omega)]
      refine ⟨_, rfl, ⟨?_, .inr ⟨w.heap.size, G, _, rfl, hbase, b1, hGn, hG63, by rw [setArr_size, setArr_size]; exact hRs, ?_⟩⟩, ⟨b4.trans a4, b5.trans a5, b6.trans a6, ?_, fun k hk hne => ?_⟩, fun b hb => .inr ?_⟩
      · simp only [List.length_append, List.length_take, hdl, hxl]; omega
      · exact (ins_cells hi hcl hxl (by omega) hR0).2
      · rw [b3]
        show w.heap.size ≤ ((w.alloc (.cells ROW 40)).drew.setCells w.heap.size (i * 5) xs).heap.size
        rw [a3]
        show w.heap.size ≤ (w.heap.push _).size
        simp
      · exact ((b2 k (by omega)).trans (a2 k (by omega))).trans (hold k hk)
      · cases hb
        exact Nat.le_refl _

/-- **slices.Insert of one lease.** -/
noncomputable def slices_Insert___api_Lease_api_Lease__con : Con := insCon .lease 40
theorem slices_Insert___api_Lease_api_Lease__ok : TrOk Tryz.prog 57 slices_Insert___api_Lease_api_Lease__con := ins_ok .lease 40 ins_main
end Go.Proofs.YthmdbgejdeblnaaGreatDoor
