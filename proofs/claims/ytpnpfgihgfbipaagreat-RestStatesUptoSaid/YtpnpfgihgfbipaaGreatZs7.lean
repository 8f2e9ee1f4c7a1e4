/-
  For every input whose arguments are together of bulk at most 1048576, RestStates of the package yardarmlaw returns true, and each of its arguments reads behind the call as it read before.
-/
import Derived.WalkKit
import Derived.ProofKit
import Derived.Lib.Walk
import Derived.Lib.SliceRun
import Derived.Lib.JoinLaws
import Derived.Lib.AppendZeros
import Derived.Lib.AppendZerosOnto
import Derived.Lib.Overlaps
import Derived.Laws.Externs
import Derived.Laws.IdiomCopy
import Derived.Laws.AppendOwn
import Derived.Shelf.Spec.SlicesInsertGrow
import Derived.Deep.RegionLaw
import Derived.Shelf.SlSortCmp.WholeK
import Derived.Test.YtpnpfgihgfbipaaGreatProg
import Derived.Test.YtpnpfgihgfbipaaGreatRows
import Derived.OpenShut
import Derived.ShutString
import Derived.ChangeOld
import Derived.Below
import Derived.JoinedCond
import Derived.Test.YtpnpfgihgfbipaaGreatZs6
set_option linter.unusedVariables false
set_option linter.unusedSimpArgs false
open List renaming getElem?_eq_getElem → zc0,getElem?_take → zc14,drop_of_length_le → zc18,length_take → zc20,getElem?_eq_none → zc22,length_append → zc24,mem_cons → zc28,getElem?_append → zc29,getElem?_drop → zc38,length_drop → zc39,append_assoc → zc45
open Option renaming map_eq_some_iff → zc7
open Prod.mk renaming injEq → zc11
open Array renaming getElem?_toList → zc25,getElem?_eq_getElem → zc43
open Nat renaming le_refl → zc46
noncomputable section
namespace Go.Proofs.YtpnpfgihgfbipaaGreat
open Go Go.Ma Go.RowKit Go.Lib Go.Proofs
theorem zq705 : (Tryz.prog.info? 28).map (fun i => (i.zero.map (·.cells.size),i.size,i.bytes)) = some (some 3,3,24):=by kernel_rfl
theorem zq1477 (w : World) : (Go.sizeOf 28).run Tryz.prog w = .ok 3 w:=by kernel_rfl
set_option maxHeartbeats 4000000 in
set_option maxRecDepth 100000 in
theorem zq718 (b off n c i vb voff m vc : Nat) (cs vs : List Value) (w : World) (hi : i < n) (hm : 0 < m) (hroom : n + m ≤ c) (hc63 : c ≤ 9223372036854775807) (hvb : vb ≠ b)
  (hcl : cs.length = n * 3) (hvl : vs.length = m * 3)
  (hcs : ∀ j v,cs[j]? = some v → w.cell? ⟨b,off + j,none⟩ = some v) (hsp : ∀ j,j < (n + m) * 3 → (w.cell? ⟨b,off + j,none⟩).isSome = true) (hfz : ∀ j,j < (n + m) * 3 → w.frozen? ⟨b,off + j,none⟩ = false)
  (hvs : ∀ j v,vs[j]? = some v → w.cell? ⟨vb,voff + j,none⟩ = some v) (h1c : ∀ v ∈ cs,v.oneCell' = true) (h1v : ∀ v ∈ vs,v.oneCell' = true)
  (tA tB : TypeId) (kA kB : Nat) (hsa : w.shape? vb = some (tA,kA)) (hsb : w.shape? b = some (tB,kB)) (hkB : kB ≠ 0) (hfa : w.frozen? ⟨vb,voff,none⟩ = false) (hfe : w.frozen? ⟨vb,kA,none⟩ = false) :
  Calls Tryz.prog 101 #[.slice (some ⟨b,off,none⟩) n c,.int .i64 i,.slice (some ⟨vb,voff,none⟩) m vc] w fun e w' =>
   e = .returned (.slice (some ⟨b,off,none⟩) (n + m) c) ∧ w' = (w.drew.setCells b (off + (i + m) * 3) (cs.drop (i * 3))).setCells b (off + i * 3) vs:=by
 have u30:=run_underlying Tryz.underlying33
 have z49:=zq1477
 have hz1 : ¬ ((m : Int) = 0):=by omega
 have hz2 : ¬ ((i : Int) = (n : Int)):=by omega
 have hsz : (Tryz.prog.info? 28).map (·.size) = some 3:=by
  obtain ⟨i0,hi0,hz⟩:=zc7.1 zq705
  simp only [zc11] at hz
  rw [hi0];simp [hz.2.1]
 have hov : ∀ lb cb,(callFunc 114 #[.slice (some ⟨vb,voff,none⟩) m vc,.slice (some ⟨b,off + (i + m) * 3,none⟩) lb cb]).run Tryz.prog w = .ok (.value (.bool false)) w:=fun lb cb => by
  rw [run_callFunc_extern Tryz.func114 (by kernel_rfl) (by kernel_rfl) (by kernel_rfl) (e:=Extern.SlicesOverlaps.overlaps #[33,33] #[4]) (by kernel_rfl),
   Lib.run_overlaps_apart w 33 4 28 Tryz.underlying33 3 zq1477 ⟨vb,voff,none⟩ ⟨b,off + (i + m) * 3,none⟩ m vc lb cb hvb tA tB kA kB hsa hsb hkB hfa hfe]
  rfl
 have hdl : (cs.drop (i * 3)).length = (n - i) * 3:=by rw [zc39,hcl];omega
 have mixed:=zq1060
 have hw1 : IntKind.i64.wrap ((i : Int) + (m : Int)) = (i : Int) + (m : Int):=by rw [IntKind.wrap_i64];omega
 have hb1 : (0 : Int) ≤ (i : Int) + (m : Int):=by omega
 have hin : i ≤ n:=by omega
 have htn : ((i : Int) + (m : Int)).toNat = i + m:=by omega
 have hb2 : ¬ (c = i + m):=by omega
 have hb3 : (i : Int) ≤ (n : Int) + (m : Int):=by omega
 have hb4 : ¬ (c = i):=by omega
 have hcp1 : ∀ ty dc sc,(Builtin.copy_ #[33,33] ty #[.slice (some ⟨b,off + (i + m) * 3,none⟩) (n + m - (i + m)) dc,.slice (some ⟨b,off + i * 3,none⟩) (n + m - i) sc]).run Tryz.prog w.drew = .ok (goInt ((n - i : Nat) : Int)) (w.drew.setCells b (off + (i + m) * 3) (cs.drop (i * 3))):=fun ty dc sc =>
  zq1443 w.drew _ _ ty 28 3 b (off + (i + m) * 3) (n + m - (i + m)) dc ⟨b,off + i * 3,none⟩ (n + m - i) sc (n - i) (cs.drop (i * 3)) Tryz.underlying33 hsz (by simp only [Nat.min_def];split <;> omega) hdl
   (fun j v hj => by rw [Addr.add_lit,Nat.add_assoc];exact hcs (i * 3 + j) v (by rwa [zc38] at hj))
   (fun j hj => by rw [Nat.add_assoc];exact hsp _ (by omega)) (fun j hj => by rw [Nat.add_assoc];exact hfz _ (by omega)) (fun v hv => h1c v (List.mem_of_mem_drop hv))
 obtain ⟨W1,hW1⟩ : ∃ W1,W1 = w.drew.setCells b (off + (i + m) * 3) (cs.drop (i * 3)):=⟨_,rfl⟩
 have hsp1 : ∀ k,k < (n + m) * 3 → (W1.cell? ⟨b,off + k,none⟩).isSome = true:=fun k hk => by
  rw [hW1]
  exact isSome_setCells b _ _ _ (fun j hj => by rw [Nat.add_assoc];exact hsp _ (by omega)) _ (hsp k hk)
 have hcp2 : ∀ (W : World),(∀ x,W.cell? x = W1.cell? x) → (∀ x,W.frozen? x = W1.frozen? x) → ∀ ty dc,(Builtin.copy_ #[33,33] ty #[.slice (some ⟨b,off + i * 3,none⟩) (n + m - i) dc,.slice (some ⟨vb,voff,none⟩) m vc]).run Tryz.prog W = .ok (goInt m) (W.setCells b (off + i * 3) vs):=fun W hWc hWf ty dc =>
  zq1443 W _ _ ty 28 3 b (off + i * 3) (n + m - i) dc ⟨vb,voff,none⟩ m vc m vs Tryz.underlying33 hsz (by simp only [Nat.min_def];split <;> omega) hvl
   (fun j v hj => by
    rw [Addr.add_lit,hWc,hW1,World.cell?_setCells_out b _ _ _ _ (fun h _ => absurd h hvb)]
    exact hvs j v hj)
   (fun j hj => by rw [hWc,Nat.add_assoc];exact hsp1 _ (by omega)) (fun j hj => by rw [hWf,hW1,World.frozen?_setCells,Nat.add_assoc];exact hfz _ (by omega)) h1v
 rw [← hW1] at hcp1
 go_enter Tryz.func101,Tryz.ntmps101
 go_wp2_with (simp only [hov])
 go_region_law_o (refine step_copy_runI rfl _ _ 33 33 rfl _ _ (by simp [Act.eval,Act.put]) (by simp [Act.eval,Act.put]) (hcp1 _ _ _) ?_)
 go_wp2_with (at_builtin;refine wpList_copy_runI _ rfl _ _ 33 33 rfl _ _ rfl rfl (hcp2 _ (fun _ => rfl) (fun _ => rfl) _ _) ?_)
 go_ret
 first | exact ⟨rfl,rfl⟩ | exact ⟨rfl,by rw [hW1]⟩
set_option maxHeartbeats 4000000 in
set_option maxRecDepth 100000 in
theorem zq716 (b off n c i vb voff m vc : Nat) (cs vs : List Value) (z : Value) (hz0 : (Tryz.prog.info? 28).map (·.zero) = some (some z)) (w : World) (hi : i < n) (hm : 0 < m) (hnc : n ≤ c) (hroom : c < n + m) (hbig : (n + m) * 24 ≤ 140737488355328)
  (hcl : cs.length = n * 3) (hvl : vs.length = m * 3)
  (hcs : ∀ j v,cs[j]? = some v → w.cell? ⟨b,off + j,none⟩ = some v)
  (hvs : ∀ j v,vs[j]? = some v → w.cell? ⟨vb,voff + j,none⟩ = some v) (h1c : ∀ v ∈ cs,v.oneCell' = true) (h1v : ∀ v ∈ vs,v.oneCell' = true) :
  Calls Tryz.prog 101 #[.slice (some ⟨b,off,none⟩) n c,.int .i64 i,.slice (some ⟨vb,voff,none⟩) m vc] w fun e w' =>
   e = .returned (.slice (some ⟨w.heap.size,0,none⟩) (n + m) (grownCap w (n + m) c 28)) ∧
   w' = (((w.alloc (.cells ((cs.take (i * 3)).toArray ++ Builtin.zeroCells z.cells (n + m - i) ++ Builtin.zeroCells z.cells (grownCap w (n + m) c 28 - (n + m))) 28)).drew.setCells w.heap.size (i * 3) vs).drew).setCells w.heap.size ((i + m) * 3) (cs.drop (i * 3)):=by
 have u30:=run_underlying Tryz.underlying33
 have z49:=zq1477
 have mixed:=zq1060
 obtain ⟨i0,hi0,hz⟩:=zc7.1 zq705
 simp only [zc11] at hz
 obtain ⟨hzc,hzs,hzb⟩:=hz
 have hz0 : i0.zero = some z:=by rw [hi0] at hz0;simpa using hz0
 have hzc : z.cells.size = 3:=by rw [hz0] at hzc;simpa using hzc
 have hz1 : ¬ ((m : Int) = 0):=by omega
 have hz2 : ¬ ((i : Int) = (n : Int)):=by omega
 have hz3 : (c : Int) < (n : Int) + (m : Int):=by omega
 have hsz : (Tryz.prog.info? 28).map (·.size) = some 3:=by rw [hi0];simp [hzs]
 have hbw : b < w.heap.size:=block_lt_of_cell (hcs 0 _ (zc0 (by omega)))
 have hvw : vb < w.heap.size:=block_lt_of_cell (hvs 0 _ (zc0 (by omega)))
 have hkk : (n : Int) + (m : Int) - (i : Int) = ((n + m - i : Nat) : Int):=by omega
 have hik : i + (n + m - i) = n + m:=by omega
 have hold : (Builtin.firstCells i0.size i (.slice (some ⟨b,off,none⟩) i c)).run Tryz.prog w.drew = .ok (cs.take (i * 3)).toArray w.drew:=by
  rw [hzs]
  exact run_firstCells_some w.drew 3 i ⟨b,off,none⟩ i c (cs.take (i * 3)) (by rw [zc20];omega) (fun j v hj => by
   rw [Addr.add_lit]
   rw [zc14] at hj
   split at hj
   ·exact hcs j v hj
   ·cases hj)
 have hrz : ∀ ty,(Builtin.append_ #[33,3] ty #[.slice (some ⟨b,off,none⟩) i c,.int .i64 ((n : Int) + (m : Int) - (i : Int))]).run Tryz.prog w =
   .ok (.slice (some ⟨w.heap.size,0,none⟩) (n + m) (grownCap w (n + m) c 28)) (w.drew.alloc (.cells ((cs.take (i * 3)).toArray ++ Builtin.zeroCells z.cells (n + m - i) ++ Builtin.zeroCells z.cells (grownCap w (n + m) c 28 - (n + m))) 28)):=fun ty => by
  have h:=Lib.run_append_grow_zeros w 33 3 ty 28 i0 z .i64 .i64 Tryz.underlying33 Tryz.underlying3 hi0 hz0 (some ⟨b,off,none⟩) i c (cs.take (i * 3)) hold (n + m - i) (by omega) (by omega) (by omega) (by omega) (by rw [hzb];omega) (by rw [hzb,hik];exact growslice_fits hroom hbig)
  rw [hik] at h
  rw [hkk]
  exact h
 obtain ⟨G,hG⟩ : ∃ G,G = grownCap w (n + m) c 28:=⟨_,rfl⟩
 obtain ⟨ROW,hROW⟩ : ∃ ROW : Array Value,ROW = (cs.take (i * 3)).toArray ++ Builtin.zeroCells z.cells (n + m - i) ++ Builtin.zeroCells z.cells (G - (n + m)):=⟨_,rfl⟩
 rw [← hG] at hrz ⊢
 rw [← hROW] at hrz ⊢
 have hRl : (n + m) * 3 ≤ ROW.size:=by
  rw [hROW]
  simp [Builtin.zeroCells,hzc]
  omega
 obtain ⟨W1,hW1⟩ : ∃ W1,W1 = w.drew.alloc (.cells ROW 28):=⟨_,rfl⟩
 rw [← hW1] at hrz
 have hN : ∀ j,j < (n + m) * 3 → (W1.cell? ⟨w.heap.size,j,none⟩).isSome = true:=fun j hj => by
  rw [hW1,World.cell?_alloc_at (w:=w.drew) ROW _ w.heap.size j rfl,zc43 (by omega)];rfl
 have hNf : ∀ j,W1.frozen? ⟨w.heap.size,j,none⟩ = false:=fun j => by rw [hW1];exact World.frozen?_alloc_at (w:=w.drew) ROW _ w.heap.size j rfl
 have hOb : ∀ j v,w.cell? ⟨b,j,none⟩ = some v → W1.cell? ⟨b,j,none⟩ = some v:=fun j v h => by rw [hW1,World.cell?_alloc_past (w:=w.drew) _ b j hbw];exact h
 have hOv : ∀ j v,w.cell? ⟨vb,j,none⟩ = some v → W1.cell? ⟨vb,j,none⟩ = some v:=fun j v h => by rw [hW1,World.cell?_alloc_past (w:=w.drew) _ vb j hvw];exact h
 have hcpA : ∀ (W : World),(∀ x,W.cell? x = W1.cell? x) → (∀ x,W.frozen? x = W1.frozen? x) → ∀ ty dc,(Builtin.copy_ #[33,33] ty #[.slice (some ⟨w.heap.size,i * 3,none⟩) (n + m - i) dc,.slice (some ⟨vb,voff,none⟩) m vc]).run Tryz.prog W = .ok (goInt (m : Int)) (W.setCells w.heap.size (i * 3) vs):=fun W hWc hWf ty dc =>
  zq1443 W _ _ ty 28 3 w.heap.size (i * 3) (n + m - i) dc ⟨vb,voff,none⟩ m vc m vs Tryz.underlying33 hsz (by simp only [Nat.min_def];split <;> omega) hvl
   (fun j v hj => by rw [Addr.add_lit,hWc];exact hOv _ v (hvs j v hj))
   (fun j hj => by rw [hWc];exact hN _ (by omega)) (fun j hj => by rw [hWf];exact hNf _) h1v
 have hGn : n + m ≤ G:=by rw [hG];exact grownCap_ge w _ _ _
 have hG63 : G ≤ 9223372036854775807:=by
  have:=grownCap_le_maxLen w (n + m) c 28 (by unfold maxLen;omega)
  rw [← hG] at this
  unfold maxLen at this
  omega
 have hGi : ¬ (G = i):=by omega
 have hGim : ¬ (G = i + m):=by omega
 have hci : ¬ (c = i):=by omega
 have hbN : b ≠ w.heap.size:=by omega
 have hdl : (cs.drop (i * 3)).length = (n - i) * 3:=by rw [zc39,hcl];omega
 have hcpB : ∀ (W : World),(∀ x,W.cell? x = (W1.setCells w.heap.size (i * 3) vs).cell? x) → (∀ x,W.frozen? x = (W1.setCells w.heap.size (i * 3) vs).frozen? x) → ∀ ty dc sc,(Builtin.copy_ #[33,33] ty #[.slice (some ⟨w.heap.size,(i + m) * 3,none⟩) (n + m - (i + m)) dc,.slice (some ⟨b,off + i * 3,none⟩) (n - i) sc]).run Tryz.prog W = .ok (goInt ((n - i : Nat) : Int)) (W.setCells w.heap.size ((i + m) * 3) (cs.drop (i * 3))):=fun W hWc hWf ty dc sc =>
  zq1443 W _ _ ty 28 3 w.heap.size ((i + m) * 3) (n + m - (i + m)) dc ⟨b,off + i * 3,none⟩ (n - i) sc (n - i) (cs.drop (i * 3)) Tryz.underlying33 hsz (by simp only [Nat.min_def];split <;> omega) hdl
   (fun j v hj => by
    rw [Addr.add_lit,hWc,World.cell?_setCells_out _ _ _ _ _ (fun h _ => absurd h hbN),Nat.add_assoc]
    exact hOb _ v (hcs (i * 3 + j) v (by rwa [zc38] at hj)))
   (fun j hj => by rw [hWc];exact isSome_setCells _ _ _ _ (fun t ht => hN _ (by omega)) _ (hN _ (by omega)))
   (fun j hj => by rw [hWf,World.frozen?_setCells];exact hNf _) (fun v hv => h1c v (List.mem_of_mem_drop hv))
 subst hW1
 have hE1 : ∀ x,((w.alloc (.cells ROW 28)).drew).cell? x = (w.drew.alloc (.cells ROW 28)).cell? x:=fun x => rfl
 have hE2 : ∀ x,((w.alloc (.cells ROW 28)).drew).frozen? x = (w.drew.alloc (.cells ROW 28)).frozen? x:=fun x => rfl
 have hF1 : ∀ x,(((w.alloc (.cells ROW 28)).drew.setCells w.heap.size (i * 3) vs).drew).cell? x = ((w.drew.alloc (.cells ROW 28)).setCells w.heap.size (i * 3) vs).cell? x:=fun x => rfl
 have hF2 : ∀ x,(((w.alloc (.cells ROW 28)).drew.setCells w.heap.size (i * 3) vs).drew).frozen? x = ((w.drew.alloc (.cells ROW 28)).setCells w.heap.size (i * 3) vs).frozen? x:=fun x => rfl
 have hw1 : IntKind.i64.wrap ((i : Int) + (m : Int)) = (i : Int) + (m : Int):=by rw [IntKind.wrap_i64];omega
 have hb1 : (0 : Int) ≤ (i : Int) + (m : Int):=by omega
 have hin : i ≤ n:=by omega
 have htn : ((i : Int) + (m : Int)).toNat = i + m:=by omega
 have hb3 : (i : Int) ≤ (n : Int):=by omega
 clear hkk hik hold hROW hG hRl
 go_enter Tryz.func101,Tryz.ntmps101
 go_wp2_with (first
  | (at_builtin;refine Lib.wpList_append_run _ rfl _ _ _ _ rfl _ _ rfl rfl _ _ (hrz _) ?_)
  | (at_builtin;refine wpList_copy_runI _ rfl _ _ 33 33 rfl _ _ rfl rfl (hcpA _ hE1 hE2 _ _) ?_)
  | (at_builtin;refine wpList_copy_runI _ rfl _ _ 33 33 rfl _ _ rfl rfl (hcpB _ (fun _ => rfl) (fun _ => rfl) _ _ _) ?_))
 go_region_law_o (refine step_copy_runI rfl _ _ 33 33 rfl (.slice (some ⟨w.heap.size,(i + m) * 3,none⟩) (n + m - (i + m)) (G - (i + m))) (.slice (some ⟨b,off + i * 3,none⟩) (n - i) (c - i)) (by simp [Act.eval,Act.put]) (by simp [Act.eval,Act.put]) (hcpB _ hF1 hF2 3 (G - (i + m)) (c - i)) ?_)
 go_wp2
 go_ret
 exact ⟨rfl,rfl⟩
set_option maxHeartbeats 4000000 in
set_option maxRecDepth 100000 in
theorem zq715 (v : Value) (base : Option Addr) (n c : Nat) (vb vc m : Nat) (v' : Value) (w w' : World) (hm : 0 < m) (hnc : n ≤ c)
  (hrun : ∀ ty,(Builtin.append_ #[33,33] ty #[.slice base n c,.slice (some ⟨vb,0,none⟩) m vc]).run Tryz.prog w = .ok v' w') (hsl : ∃ A N C,v' = .slice A N C) (hnil : base = none → n = 0) :
  Calls Tryz.prog 101 #[.slice base n c,.int .i64 n,.slice (some ⟨vb,0,none⟩) m vc] w fun e w2 => e = .returned v' ∧ w2 = w':=by
 have u30:=run_underlying Tryz.underlying33
 have z49:=zq1477
 have mixed:=zq1060
 have hz1 : ¬ ((m : Int) = 0):=by omega
 obtain ⟨A,N,C,rfl⟩:=hsl
 go_enter Tryz.func101,Tryz.ntmps101
 cases base with
 | none =>
  have h0:=hnil rfl
  subst h0
  go_wp2_with (at_builtin;refine Lib.wpList_append_run _ rfl _ _ _ _ rfl _ _ rfl rfl _ _ (hrun _) ?_)
  all_goals (go_ret;exact ⟨rfl,rfl⟩)
 | some a =>
  obtain ⟨ab,ao,asp⟩:=a
  go_wp2_with (at_builtin;refine Lib.wpList_append_run _ rfl _ _ _ _ rfl _ _ rfl rfl _ _ (hrun _) ?_)
  all_goals (go_ret;exact ⟨rfl,rfl⟩)
theorem zq714 {arr : Array Value} {n i : Nat} {cs xs : List Value} (hi : i < n) (hcl : cs.length = n * 3) (hxl : xs.length = 3) (hsz : (n + 1) * 3 ≤ arr.size) (h0 : ∀ q,q < i * 3 → arr[q]? = cs[q]?) :
  (zq1454 (zq1454 arr ((i + 1) * 3) (cs.drop (i * 3))) (i * 3) xs).toList.take ((n + 1) * 3) = cs.take (i * 3) ++ xs ++ cs.drop (i * 3) ∧
  (zq1454 (zq1454 arr (i * 3) xs) ((i + 1) * 3) (cs.drop (i * 3))).toList.take ((n + 1) * 3) = cs.take (i * 3) ++ xs ++ cs.drop (i * 3):=by
 have hdl : (cs.drop (i * 3)).length = (n - i) * 3:=by rw [zc39,hcl];omega
 have hrhs : ∀ q : Nat,(cs.take (i * 3) ++ xs ++ cs.drop (i * 3))[q]? = if q < i * 3 then cs[q]? else if q < (i + 1) * 3 then xs[q - i * 3]? else (cs.drop (i * 3))[q - (i + 1) * 3]?:=by
  intro q
  rw [zc45,zc29,zc20,Nat.min_eq_left (by omega)]
  split
  ·rw [zc14,if_pos (by assumption)]
  ·rw [zc29,hxl]
   by_cases hq : q < (i + 1) * 3
   ·rw [if_pos (by omega),if_pos hq]
   ·rw [if_neg (by omega),if_neg hq]
    congr 1
    omega
 constructor
 ·apply List.ext_getElem?
  intro q
  rw [hrhs,zc14]
  by_cases hq : q < (n + 1) * 3
  ·rw [if_pos hq,zc25,zq1455 _ _ _ _ (by rw [zq1456];omega)]
   by_cases h1 : q < i * 3
   ·rw [if_neg (by omega),if_pos h1,zq1455 _ _ _ _ (by omega),if_neg (by omega),h0 q h1]
   ·rw [if_neg h1]
    by_cases h2 : q < (i + 1) * 3
    ·rw [if_pos (by omega),if_pos h2]
    ·rw [if_neg (by omega),if_neg h2,zq1455 _ _ _ _ (by omega),if_pos (by omega)]
  ·rw [if_neg hq,if_neg (by omega),if_neg (by omega),zc22 (by omega)]
 ·apply List.ext_getElem?
  intro q
  rw [hrhs,zc14]
  by_cases hq : q < (n + 1) * 3
  ·rw [if_pos hq,zc25,zq1455 _ _ _ _ (by rw [zq1456];omega)]
   by_cases h1 : q < i * 3
   ·rw [if_neg (by omega),if_pos h1,zq1455 _ _ _ _ (by omega),if_neg (by omega),h0 q h1]
   ·rw [if_neg h1]
    by_cases h2 : q < (i + 1) * 3
    ·rw [if_neg (by omega),if_pos h2,zq1455 _ _ _ _ (by omega),if_pos (by omega)]
    ·rw [if_pos (by omega),if_neg h2]
  ·rw [if_neg hq,if_neg (by omega),if_neg (by omega),zc22 (by omega)]
theorem zq717 (base : Nat) (w : World) (v u : Value) (n i : Nat) (cs xs : List Value) (h1 : w.ownsRow base 28 3 v n cs) (h2 : w.ownsRow base 28 3 u 1 xs) (hap : ∀ b,v.ownBlock = some b → u.ownBlock ≠ some b) (hc1 : ∀ x ∈ cs,oneC x = true) (hc2 : ∀ x ∈ xs,oneC x = true)
  (hbase : base ≤ w.heap.size) (hin : i ≤ n) (hbig : n + 1 ≤ 274877906944) :
  Calls Tryz.prog 101 #[v,.int .i64 (i : Int),u] w fun r w' => ∃ v',r = .returned v' ∧ w'.ownsRow base 28 3 v' (n + 1) (cs.take (i * 3) ++ xs ++ cs.drop (i * 3)) ∧ w.grownBy w' v.ownBlock ∧ (∀ b,v'.ownBlock = some b → v.ownBlock = some b ∨ w.heap.size ≤ b):=by
 obtain ⟨i0,hi0,hz⟩:=zc7.1 zq705
 simp only [zc11] at hz
 obtain ⟨hzc,hzs,hzb⟩:=hz
 obtain ⟨z,hz0,hzc⟩:=zc7.1 hzc
 have hcl:=h1.1
 have hxl : xs.length = 3:=by have:=h2.1;omega
 rcases h2.2 with ⟨_,h0⟩ | ⟨vb,vc,curv,rfl,hvbase,hvheap,hvc,hvcm,hvsz,hvtake⟩
 ·cases h0
 have hvs : ∀ j x,xs[j]? = some x → w.cell? ⟨vb,0 + j,none⟩ = some x:=by
  intro j x hj
  rw [Nat.zero_add,zq475 hvheap,← zc25]
  rw [← hvtake,zc14] at hj
  split at hj
  ·exact hj
  ·cases hj
 have h1v : ∀ x ∈ xs,x.oneCell' = true:=fun x hx => zq1111 (hc2 x hx)
 have h1c : ∀ x ∈ cs,x.oneCell' = true:=fun x hx => zq1111 (hc1 x hx)
 by_cases hine : i = n
 ·subst hine
  have htd : cs.take (i * 3) ++ xs ++ cs.drop (i * 3) = cs ++ xs:=by rw [List.take_of_length_le (by omega),zc18 (by omega),List.append_nil]
  rw [htd]
  have hown5 : w.ownsRow base 28 i0.size v i cs:=by rw [hzs];exact h1
  obtain ⟨v',w',hrun,hown',hgb,hblk⟩:=zq397 (P:=Tryz.prog) w base 33 0 28 i0 z Tryz.underlying33 hi0 hz0 (by rw [hzs];exact hzc) (by omega) v i cs hown5 (some ⟨vb,0,none⟩) 1 vc xs (by rw [hzs];omega) (by simp)
   (fun ad had j x hj => by
    cases had
    rw [zq324]
    exact hvs j x hj) h1v (by unfold maxLen;omega) (by rw [hzb];omega) hbase
  have hrun' : ∀ ty,(Builtin.append_ #[33,33] ty #[v,.slice (some ⟨vb,0,none⟩) 1 vc]).run Tryz.prog w = .ok v' w':=fun ty => by
   rw [← hrun]
   rfl
  rw [hzs] at hown'
  have hsl : ∃ A N C,v' = .slice A N C:=by
   rcases hown'.2 with ⟨h,_⟩ | ⟨g,cp,cur,h,_⟩
   ·exact ⟨_,_,_,h⟩
   ·exact ⟨_,_,_,h⟩
  have hv : ∃ A c,v = .slice A i c ∧ i ≤ c ∧ (A = none → i = 0):=by
   rcases h1.2 with ⟨h,h0⟩ | ⟨g,cp,cur,h,_,_,hc,_⟩
   ·exact ⟨none,0,by rw [h,h0],by omega,fun _ => h0⟩
   ·exact ⟨_,cp,h,hc,fun h => by cases h⟩
  obtain ⟨A,c,rfl,hc,hnil⟩:=hv
  refine (zq715 (.slice A i c) A i c vb vc 1 v' w w' (by omega) hc hrun' hsl hnil).mono ?_
  rintro e w2 ⟨rfl,rfl⟩
  exact ⟨v',rfl,hown',hgb,hblk⟩
 ·have hi : i < n:=by omega
  rcases h1.2 with ⟨_,h0⟩ | ⟨g,cap,cur,rfl,hgbase,hgheap,hnc,hcm,hgsz,hgtake⟩
  ·omega
  have hvbg : vb ≠ g:=fun e => hap g rfl (by rw [e];rfl)
  have hcs : ∀ j x,cs[j]? = some x → w.cell? ⟨g,0 + j,none⟩ = some x:=by
   intro j x hj
   rw [Nat.zero_add,zq475 hgheap,← zc25]
   rw [← hgtake,zc14] at hj
   split at hj
   ·exact hj
   ·cases hj
  by_cases hroom : n + 1 ≤ cap
  ·refine (zq718 g 0 n cap i vb 0 1 vc cs xs w hi (by omega) hroom (by unfold maxLen at hcm;omega) hvbg hcl (by omega) hcs
    (fun j hj => by rw [Nat.zero_add,zq475 hgheap,zc43 (by omega)];rfl) (fun j hj => by simp [World.frozen?,hgheap]) hvs h1c h1v 28 28 curv.size cur.size
    (by simp [World.shape?,hvheap]) (by simp [World.shape?,hgheap]) (by omega) (by simp [World.frozen?,hvheap]) (by simp [World.frozen?,hvheap])).mono ?_
   rintro e w' ⟨rfl,rfl⟩
   have hg0 : w.drew.heap[g]? = some (.cells cur 28 (0,0)):=hgheap
   obtain ⟨a1,a2,a3,a4,a5,a6⟩:=zq1458 w.drew g (0 + (i + 1) * 3) (cs.drop (i * 3)) cur 28 (0,0) hg0
   obtain ⟨b1,b2,b3,b4,b5,b6⟩:=zq1458 _ g (0 + i * 3) xs _ 28 (0,0) a1
   have hdl : (cs.drop (i * 3)).length = (n - i) * 3:=by rw [zc39,hcl];omega
   refine ⟨_,rfl,⟨?_,.inr ⟨g,cap,_,rfl,hgbase,b1,hroom,hcm,by rw [zq1456,zq1456];exact hgsz,?_⟩⟩,⟨b4.trans a4,b5.trans a5,b6.trans a6,by rw [b3,a3];exact zc46 _,fun k hk hne => ?_⟩,fun b hb => .inl hb⟩
   ·simp only [zc24,zc20,hdl,hxl];omega
   ·rw [Nat.zero_add,Nat.zero_add]
    refine (zq714 hi hcl hxl (by omega) fun q hq => ?_).1
    rw [← hgtake,zc14,if_pos (by omega),zc25]
   ·have hkg : k ≠ g:=fun e => hne (by rw [e];rfl)
    exact (b2 k hkg).trans (a2 k hkg)
  ·refine (zq716 g 0 n cap i vb 0 1 vc cs xs z (by rw [hi0];simp [hz0]) w hi (by omega) hnc (by omega) (by omega) hcl (by omega) hcs hvs h1c h1v).mono ?_
   rintro e w' ⟨rfl,rfl⟩
   obtain ⟨G,hG⟩ : ∃ G,G = grownCap w (n + 1) cap 28:=⟨_,rfl⟩
   have hGn : n + 1 ≤ G:=by rw [hG];exact grownCap_ge w _ _ _
   have hG63 : G ≤ maxLen:=by rw [hG];exact grownCap_le_maxLen w (n + 1) cap 28 (by unfold maxLen;omega)
   rw [← hG]
   obtain ⟨ROW,hROW⟩ : ∃ ROW : Array Value,ROW = (cs.take (i * 3)).toArray ++ Builtin.zeroCells z.cells (n + 1 - i) ++ Builtin.zeroCells z.cells (G - (n + 1)):=⟨_,rfl⟩
   rw [← hROW]
   have hRs : ROW.size = G * 3:=by
    rw [hROW]
    simp [Builtin.zeroCells,hzc]
    omega
   have hR0 : ∀ q,q < i * 3 → ROW[q]? = cs[q]?:=fun q hq => by
    rw [hROW,Array.append_assoc,Array.getElem?_append_left (by simp;omega)]
    simp only [List.getElem?_toArray,zc14,if_pos hq]
   have hh : ((w.alloc (.cells ROW 28)).drew).heap[w.heap.size]? = some (.cells ROW 28 (0,0)):=by
    show (w.heap.push _)[w.heap.size]? = _
    exact Array.getElem?_push_size
   obtain ⟨a1,a2,a3,a4,a5,a6⟩:=zq1458 _ w.heap.size (i * 3) xs ROW 28 (0,0) hh
   have a1' : (((w.alloc (.cells ROW 28)).drew.setCells w.heap.size (i * 3) xs).drew).heap[w.heap.size]? = _:=a1
   obtain ⟨b1,b2,b3,b4,b5,b6⟩:=zq1458 _ w.heap.size ((i + 1) * 3) (cs.drop (i * 3)) _ 28 (0,0) a1'
   have hdl : (cs.drop (i * 3)).length = (n - i) * 3:=by rw [zc39,hcl];omega
   have hold : ∀ k,k < w.heap.size → ((w.alloc (.cells ROW 28)).drew).heap[k]? = w.heap[k]?:=fun k hk => by
    show (w.heap.push _)[k]? = _
    rw [Array.getElem?_push,if_neg (by omega)]
   refine ⟨_,rfl,⟨?_,.inr ⟨w.heap.size,G,_,rfl,hbase,b1,hGn,hG63,by rw [zq1456,zq1456];exact hRs,?_⟩⟩,⟨b4.trans a4,b5.trans a5,b6.trans a6,?_,fun k hk hne => ?_⟩,fun b hb => .inr ?_⟩
   ·simp only [zc24,zc20,hdl,hxl];omega
   ·exact (zq714 hi hcl hxl (by omega) hR0).2
   ·rw [b3]
    show w.heap.size ≤ ((w.alloc (.cells ROW 28)).drew.setCells w.heap.size (i * 3) xs).heap.size
    rw [a3]
    show w.heap.size ≤ (w.heap.push _).size
    simp
   ·exact ((b2 k (by omega)).trans (a2 k (by omega))).trans (hold k hk)
   ·cases hb
    exact zc46 _
theorem zq707 : (Tryz.prog.info? 35).map (fun i => (i.zero.map (·.cells.size),i.size,i.bytes)) = some (some 5,5,56):=by kernel_rfl
theorem zq1479 (w : World) : (Go.sizeOf 35).run Tryz.prog w = .ok 5 w:=by kernel_rfl
set_option maxHeartbeats 4000000 in
set_option maxRecDepth 100000 in
theorem zq729 (b off n c i vb voff m vc : Nat) (cs vs : List Value) (w : World) (hi : i < n) (hm : 0 < m) (hroom : n + m ≤ c) (hc63 : c ≤ 9223372036854775807) (hvb : vb ≠ b)
  (hcl : cs.length = n * 5) (hvl : vs.length = m * 5)
  (hcs : ∀ j v,cs[j]? = some v → w.cell? ⟨b,off + j,none⟩ = some v) (hsp : ∀ j,j < (n + m) * 5 → (w.cell? ⟨b,off + j,none⟩).isSome = true) (hfz : ∀ j,j < (n + m) * 5 → w.frozen? ⟨b,off + j,none⟩ = false)
  (hvs : ∀ j v,vs[j]? = some v → w.cell? ⟨vb,voff + j,none⟩ = some v) (h1c : ∀ v ∈ cs,v.oneCell' = true) (h1v : ∀ v ∈ vs,v.oneCell' = true)
  (tA tB : TypeId) (kA kB : Nat) (hsa : w.shape? vb = some (tA,kA)) (hsb : w.shape? b = some (tB,kB)) (hkB : kB ≠ 0) (hfa : w.frozen? ⟨vb,voff,none⟩ = false) (hfe : w.frozen? ⟨vb,kA,none⟩ = false) :
  Calls Tryz.prog 99 #[.slice (some ⟨b,off,none⟩) n c,.int .i64 i,.slice (some ⟨vb,voff,none⟩) m vc] w fun e w' =>
   e = .returned (.slice (some ⟨b,off,none⟩) (n + m) c) ∧ w' = (w.drew.setCells b (off + (i + m) * 5) (cs.drop (i * 5))).setCells b (off + i * 5) vs:=by
 have u30:=run_underlying Tryz.underlying22
 have z49:=zq1479
 have hz1 : ¬ ((m : Int) = 0):=by omega
 have hz2 : ¬ ((i : Int) = (n : Int)):=by omega
 have hsz : (Tryz.prog.info? 35).map (·.size) = some 5:=by
  obtain ⟨i0,hi0,hz⟩:=zc7.1 zq707
  simp only [zc11] at hz
  rw [hi0];simp [hz.2.1]
 have hov : ∀ lb cb,(callFunc 112 #[.slice (some ⟨vb,voff,none⟩) m vc,.slice (some ⟨b,off + (i + m) * 5,none⟩) lb cb]).run Tryz.prog w = .ok (.value (.bool false)) w:=fun lb cb => by
  rw [run_callFunc_extern Tryz.func112 (by kernel_rfl) (by kernel_rfl) (by kernel_rfl) (e:=Extern.SlicesOverlaps.overlaps #[22,22] #[4]) (by kernel_rfl),
   Lib.run_overlaps_apart w 22 4 35 Tryz.underlying22 5 zq1479 ⟨vb,voff,none⟩ ⟨b,off + (i + m) * 5,none⟩ m vc lb cb hvb tA tB kA kB hsa hsb hkB hfa hfe]
  rfl
 have hdl : (cs.drop (i * 5)).length = (n - i) * 5:=by rw [zc39,hcl];omega
 have mixed:=zq1060
 have hw1 : IntKind.i64.wrap ((i : Int) + (m : Int)) = (i : Int) + (m : Int):=by rw [IntKind.wrap_i64];omega
 have hb1 : (0 : Int) ≤ (i : Int) + (m : Int):=by omega
 have hin : i ≤ n:=by omega
 have htn : ((i : Int) + (m : Int)).toNat = i + m:=by omega
 have hb2 : ¬ (c = i + m):=by omega
 have hb3 : (i : Int) ≤ (n : Int) + (m : Int):=by omega
 have hb4 : ¬ (c = i):=by omega
 have hcp1 : ∀ ty dc sc,(Builtin.copy_ #[22,22] ty #[.slice (some ⟨b,off + (i + m) * 5,none⟩) (n + m - (i + m)) dc,.slice (some ⟨b,off + i * 5,none⟩) (n + m - i) sc]).run Tryz.prog w.drew = .ok (goInt ((n - i : Nat) : Int)) (w.drew.setCells b (off + (i + m) * 5) (cs.drop (i * 5))):=fun ty dc sc =>
  zq1443 w.drew _ _ ty 35 5 b (off + (i + m) * 5) (n + m - (i + m)) dc ⟨b,off + i * 5,none⟩ (n + m - i) sc (n - i) (cs.drop (i * 5)) Tryz.underlying22 hsz (by simp only [Nat.min_def];split <;> omega) hdl
   (fun j v hj => by rw [Addr.add_lit,Nat.add_assoc];exact hcs (i * 5 + j) v (by rwa [zc38] at hj))
   (fun j hj => by rw [Nat.add_assoc];exact hsp _ (by omega)) (fun j hj => by rw [Nat.add_assoc];exact hfz _ (by omega)) (fun v hv => h1c v (List.mem_of_mem_drop hv))
 obtain ⟨W1,hW1⟩ : ∃ W1,W1 = w.drew.setCells b (off + (i + m) * 5) (cs.drop (i * 5)):=⟨_,rfl⟩
 have hsp1 : ∀ k,k < (n + m) * 5 → (W1.cell? ⟨b,off + k,none⟩).isSome = true:=fun k hk => by
  rw [hW1]
  exact isSome_setCells b _ _ _ (fun j hj => by rw [Nat.add_assoc];exact hsp _ (by omega)) _ (hsp k hk)
 have hcp2 : ∀ (W : World),(∀ x,W.cell? x = W1.cell? x) → (∀ x,W.frozen? x = W1.frozen? x) → ∀ ty dc,(Builtin.copy_ #[22,22] ty #[.slice (some ⟨b,off + i * 5,none⟩) (n + m - i) dc,.slice (some ⟨vb,voff,none⟩) m vc]).run Tryz.prog W = .ok (goInt m) (W.setCells b (off + i * 5) vs):=fun W hWc hWf ty dc =>
  zq1443 W _ _ ty 35 5 b (off + i * 5) (n + m - i) dc ⟨vb,voff,none⟩ m vc m vs Tryz.underlying22 hsz (by simp only [Nat.min_def];split <;> omega) hvl
   (fun j v hj => by
    rw [Addr.add_lit,hWc,hW1,World.cell?_setCells_out b _ _ _ _ (fun h _ => absurd h hvb)]
    exact hvs j v hj)
   (fun j hj => by rw [hWc,Nat.add_assoc];exact hsp1 _ (by omega)) (fun j hj => by rw [hWf,hW1,World.frozen?_setCells,Nat.add_assoc];exact hfz _ (by omega)) h1v
 rw [← hW1] at hcp1
 go_enter Tryz.func99,Tryz.ntmps99
 go_wp2_with (simp only [hov])
 go_region_law_o (refine step_copy_runI rfl _ _ 22 22 rfl _ _ (by simp [Act.eval,Act.put]) (by simp [Act.eval,Act.put]) (hcp1 _ _ _) ?_)
 go_wp2_with (at_builtin;refine wpList_copy_runI _ rfl _ _ 22 22 rfl _ _ rfl rfl (hcp2 _ (fun _ => rfl) (fun _ => rfl) _ _) ?_)
 go_ret
 first | exact ⟨rfl,rfl⟩ | exact ⟨rfl,by rw [hW1]⟩
set_option maxHeartbeats 4000000 in
set_option maxRecDepth 100000 in
theorem zq727 (b off n c i vb voff m vc : Nat) (cs vs : List Value) (z : Value) (hz0 : (Tryz.prog.info? 35).map (·.zero) = some (some z)) (w : World) (hi : i < n) (hm : 0 < m) (hnc : n ≤ c) (hroom : c < n + m) (hbig : (n + m) * 56 ≤ 140737488355328)
  (hcl : cs.length = n * 5) (hvl : vs.length = m * 5)
  (hcs : ∀ j v,cs[j]? = some v → w.cell? ⟨b,off + j,none⟩ = some v)
  (hvs : ∀ j v,vs[j]? = some v → w.cell? ⟨vb,voff + j,none⟩ = some v) (h1c : ∀ v ∈ cs,v.oneCell' = true) (h1v : ∀ v ∈ vs,v.oneCell' = true) :
  Calls Tryz.prog 99 #[.slice (some ⟨b,off,none⟩) n c,.int .i64 i,.slice (some ⟨vb,voff,none⟩) m vc] w fun e w' =>
   e = .returned (.slice (some ⟨w.heap.size,0,none⟩) (n + m) (grownCap w (n + m) c 35)) ∧
   w' = (((w.alloc (.cells ((cs.take (i * 5)).toArray ++ Builtin.zeroCells z.cells (n + m - i) ++ Builtin.zeroCells z.cells (grownCap w (n + m) c 35 - (n + m))) 35)).drew.setCells w.heap.size (i * 5) vs).drew).setCells w.heap.size ((i + m) * 5) (cs.drop (i * 5)):=by
 have u30:=run_underlying Tryz.underlying22
 have z49:=zq1479
 have mixed:=zq1060
 obtain ⟨i0,hi0,hz⟩:=zc7.1 zq707
 simp only [zc11] at hz
 obtain ⟨hzc,hzs,hzb⟩:=hz
 have hz0 : i0.zero = some z:=by rw [hi0] at hz0;simpa using hz0
 have hzc : z.cells.size = 5:=by rw [hz0] at hzc;simpa using hzc
 have hz1 : ¬ ((m : Int) = 0):=by omega
 have hz2 : ¬ ((i : Int) = (n : Int)):=by omega
 have hz3 : (c : Int) < (n : Int) + (m : Int):=by omega
 have hsz : (Tryz.prog.info? 35).map (·.size) = some 5:=by rw [hi0];simp [hzs]
 have hbw : b < w.heap.size:=block_lt_of_cell (hcs 0 _ (zc0 (by omega)))
 have hvw : vb < w.heap.size:=block_lt_of_cell (hvs 0 _ (zc0 (by omega)))
 have hkk : (n : Int) + (m : Int) - (i : Int) = ((n + m - i : Nat) : Int):=by omega
 have hik : i + (n + m - i) = n + m:=by omega
 have hold : (Builtin.firstCells i0.size i (.slice (some ⟨b,off,none⟩) i c)).run Tryz.prog w.drew = .ok (cs.take (i * 5)).toArray w.drew:=by
  rw [hzs]
  exact run_firstCells_some w.drew 5 i ⟨b,off,none⟩ i c (cs.take (i * 5)) (by rw [zc20];omega) (fun j v hj => by
   rw [Addr.add_lit]
   rw [zc14] at hj
   split at hj
   ·exact hcs j v hj
   ·cases hj)
 have hrz : ∀ ty,(Builtin.append_ #[22,3] ty #[.slice (some ⟨b,off,none⟩) i c,.int .i64 ((n : Int) + (m : Int) - (i : Int))]).run Tryz.prog w =
   .ok (.slice (some ⟨w.heap.size,0,none⟩) (n + m) (grownCap w (n + m) c 35)) (w.drew.alloc (.cells ((cs.take (i * 5)).toArray ++ Builtin.zeroCells z.cells (n + m - i) ++ Builtin.zeroCells z.cells (grownCap w (n + m) c 35 - (n + m))) 35)):=fun ty => by
  have h:=Lib.run_append_grow_zeros w 22 3 ty 35 i0 z .i64 .i64 Tryz.underlying22 Tryz.underlying3 hi0 hz0 (some ⟨b,off,none⟩) i c (cs.take (i * 5)) hold (n + m - i) (by omega) (by omega) (by omega) (by omega) (by rw [hzb];omega) (by rw [hzb,hik];exact growslice_fits hroom hbig)
  rw [hik] at h
  rw [hkk]
  exact h
 obtain ⟨G,hG⟩ : ∃ G,G = grownCap w (n + m) c 35:=⟨_,rfl⟩
 obtain ⟨ROW,hROW⟩ : ∃ ROW : Array Value,ROW = (cs.take (i * 5)).toArray ++ Builtin.zeroCells z.cells (n + m - i) ++ Builtin.zeroCells z.cells (G - (n + m)):=⟨_,rfl⟩
 rw [← hG] at hrz ⊢
 rw [← hROW] at hrz ⊢
 have hRl : (n + m) * 5 ≤ ROW.size:=by
  rw [hROW]
  simp [Builtin.zeroCells,hzc]
  omega
 obtain ⟨W1,hW1⟩ : ∃ W1,W1 = w.drew.alloc (.cells ROW 35):=⟨_,rfl⟩
 rw [← hW1] at hrz
 have hN : ∀ j,j < (n + m) * 5 → (W1.cell? ⟨w.heap.size,j,none⟩).isSome = true:=fun j hj => by
  rw [hW1,World.cell?_alloc_at (w:=w.drew) ROW _ w.heap.size j rfl,zc43 (by omega)];rfl
 have hNf : ∀ j,W1.frozen? ⟨w.heap.size,j,none⟩ = false:=fun j => by rw [hW1];exact World.frozen?_alloc_at (w:=w.drew) ROW _ w.heap.size j rfl
 have hOb : ∀ j v,w.cell? ⟨b,j,none⟩ = some v → W1.cell? ⟨b,j,none⟩ = some v:=fun j v h => by rw [hW1,World.cell?_alloc_past (w:=w.drew) _ b j hbw];exact h
 have hOv : ∀ j v,w.cell? ⟨vb,j,none⟩ = some v → W1.cell? ⟨vb,j,none⟩ = some v:=fun j v h => by rw [hW1,World.cell?_alloc_past (w:=w.drew) _ vb j hvw];exact h
 have hcpA : ∀ (W : World),(∀ x,W.cell? x = W1.cell? x) → (∀ x,W.frozen? x = W1.frozen? x) → ∀ ty dc,(Builtin.copy_ #[22,22] ty #[.slice (some ⟨w.heap.size,i * 5,none⟩) (n + m - i) dc,.slice (some ⟨vb,voff,none⟩) m vc]).run Tryz.prog W = .ok (goInt (m : Int)) (W.setCells w.heap.size (i * 5) vs):=fun W hWc hWf ty dc =>
  zq1443 W _ _ ty 35 5 w.heap.size (i * 5) (n + m - i) dc ⟨vb,voff,none⟩ m vc m vs Tryz.underlying22 hsz (by simp only [Nat.min_def];split <;> omega) hvl
   (fun j v hj => by rw [Addr.add_lit,hWc];exact hOv _ v (hvs j v hj))
   (fun j hj => by rw [hWc];exact hN _ (by omega)) (fun j hj => by rw [hWf];exact hNf _) h1v
 have hGn : n + m ≤ G:=by rw [hG];exact grownCap_ge w _ _ _
 have hG63 : G ≤ 9223372036854775807:=by
  have:=grownCap_le_maxLen w (n + m) c 35 (by unfold maxLen;omega)
  rw [← hG] at this
  unfold maxLen at this
  omega
 have hGi : ¬ (G = i):=by omega
 have hGim : ¬ (G = i + m):=by omega
 have hci : ¬ (c = i):=by omega
 have hbN : b ≠ w.heap.size:=by omega
 have hdl : (cs.drop (i * 5)).length = (n - i) * 5:=by rw [zc39,hcl];omega
 have hcpB : ∀ (W : World),(∀ x,W.cell? x = (W1.setCells w.heap.size (i * 5) vs).cell? x) → (∀ x,W.frozen? x = (W1.setCells w.heap.size (i * 5) vs).frozen? x) → ∀ ty dc sc,(Builtin.copy_ #[22,22] ty #[.slice (some ⟨w.heap.size,(i + m) * 5,none⟩) (n + m - (i + m)) dc,.slice (some ⟨b,off + i * 5,none⟩) (n - i) sc]).run Tryz.prog W = .ok (goInt ((n - i : Nat) : Int)) (W.setCells w.heap.size ((i + m) * 5) (cs.drop (i * 5))):=fun W hWc hWf ty dc sc =>
  zq1443 W _ _ ty 35 5 w.heap.size ((i + m) * 5) (n + m - (i + m)) dc ⟨b,off + i * 5,none⟩ (n - i) sc (n - i) (cs.drop (i * 5)) Tryz.underlying22 hsz (by simp only [Nat.min_def];split <;> omega) hdl
   (fun j v hj => by
    rw [Addr.add_lit,hWc,World.cell?_setCells_out _ _ _ _ _ (fun h _ => absurd h hbN),Nat.add_assoc]
    exact hOb _ v (hcs (i * 5 + j) v (by rwa [zc38] at hj)))
   (fun j hj => by rw [hWc];exact isSome_setCells _ _ _ _ (fun t ht => hN _ (by omega)) _ (hN _ (by omega)))
   (fun j hj => by rw [hWf,World.frozen?_setCells];exact hNf _) (fun v hv => h1c v (List.mem_of_mem_drop hv))
 subst hW1
 have hE1 : ∀ x,((w.alloc (.cells ROW 35)).drew).cell? x = (w.drew.alloc (.cells ROW 35)).cell? x:=fun x => rfl
 have hE2 : ∀ x,((w.alloc (.cells ROW 35)).drew).frozen? x = (w.drew.alloc (.cells ROW 35)).frozen? x:=fun x => rfl
 have hF1 : ∀ x,(((w.alloc (.cells ROW 35)).drew.setCells w.heap.size (i * 5) vs).drew).cell? x = ((w.drew.alloc (.cells ROW 35)).setCells w.heap.size (i * 5) vs).cell? x:=fun x => rfl
 have hF2 : ∀ x,(((w.alloc (.cells ROW 35)).drew.setCells w.heap.size (i * 5) vs).drew).frozen? x = ((w.drew.alloc (.cells ROW 35)).setCells w.heap.size (i * 5) vs).frozen? x:=fun x => rfl
 have hw1 : IntKind.i64.wrap ((i : Int) + (m : Int)) = (i : Int) + (m : Int):=by rw [IntKind.wrap_i64];omega
 have hb1 : (0 : Int) ≤ (i : Int) + (m : Int):=by omega
 have hin : i ≤ n:=by omega
 have htn : ((i : Int) + (m : Int)).toNat = i + m:=by omega
 have hb3 : (i : Int) ≤ (n : Int):=by omega
 clear hkk hik hold hROW hG hRl
 go_enter Tryz.func99,Tryz.ntmps99
 go_wp2_with (first
  | (at_builtin;refine Lib.wpList_append_run _ rfl _ _ _ _ rfl _ _ rfl rfl _ _ (hrz _) ?_)
  | (at_builtin;refine wpList_copy_runI _ rfl _ _ 22 22 rfl _ _ rfl rfl (hcpA _ hE1 hE2 _ _) ?_)
  | (at_builtin;refine wpList_copy_runI _ rfl _ _ 22 22 rfl _ _ rfl rfl (hcpB _ (fun _ => rfl) (fun _ => rfl) _ _ _) ?_))
 go_region_law_o (refine step_copy_runI rfl _ _ 22 22 rfl (.slice (some ⟨w.heap.size,(i + m) * 5,none⟩) (n + m - (i + m)) (G - (i + m))) (.slice (some ⟨b,off + i * 5,none⟩) (n - i) (c - i)) (by simp [Act.eval,Act.put]) (by simp [Act.eval,Act.put]) (hcpB _ hF1 hF2 3 (G - (i + m)) (c - i)) ?_)
 go_wp2
 go_ret
 exact ⟨rfl,rfl⟩
set_option maxHeartbeats 4000000 in
set_option maxRecDepth 100000 in
theorem zq726 (v : Value) (base : Option Addr) (n c : Nat) (vb vc m : Nat) (v' : Value) (w w' : World) (hm : 0 < m) (hnc : n ≤ c)
  (hrun : ∀ ty,(Builtin.append_ #[22,22] ty #[.slice base n c,.slice (some ⟨vb,0,none⟩) m vc]).run Tryz.prog w = .ok v' w') (hsl : ∃ A N C,v' = .slice A N C) (hnil : base = none → n = 0) :
  Calls Tryz.prog 99 #[.slice base n c,.int .i64 n,.slice (some ⟨vb,0,none⟩) m vc] w fun e w2 => e = .returned v' ∧ w2 = w':=by
 have u30:=run_underlying Tryz.underlying22
 have z49:=zq1479
 have mixed:=zq1060
 have hz1 : ¬ ((m : Int) = 0):=by omega
 obtain ⟨A,N,C,rfl⟩:=hsl
 go_enter Tryz.func99,Tryz.ntmps99
 cases base with
 | none =>
  have h0:=hnil rfl
  subst h0
  go_wp2_with (at_builtin;refine Lib.wpList_append_run _ rfl _ _ _ _ rfl _ _ rfl rfl _ _ (hrun _) ?_)
  all_goals (go_ret;exact ⟨rfl,rfl⟩)
 | some a =>
  obtain ⟨ab,ao,asp⟩:=a
  go_wp2_with (at_builtin;refine Lib.wpList_append_run _ rfl _ _ _ _ rfl _ _ rfl rfl _ _ (hrun _) ?_)
  all_goals (go_ret;exact ⟨rfl,rfl⟩)
theorem zq725 {arr : Array Value} {n i : Nat} {cs xs : List Value} (hi : i < n) (hcl : cs.length = n * 5) (hxl : xs.length = 5) (hsz : (n + 1) * 5 ≤ arr.size) (h0 : ∀ q,q < i * 5 → arr[q]? = cs[q]?) :
  (zq1454 (zq1454 arr ((i + 1) * 5) (cs.drop (i * 5))) (i * 5) xs).toList.take ((n + 1) * 5) = cs.take (i * 5) ++ xs ++ cs.drop (i * 5) ∧
  (zq1454 (zq1454 arr (i * 5) xs) ((i + 1) * 5) (cs.drop (i * 5))).toList.take ((n + 1) * 5) = cs.take (i * 5) ++ xs ++ cs.drop (i * 5):=by
 have hdl : (cs.drop (i * 5)).length = (n - i) * 5:=by rw [zc39,hcl];omega
 have hrhs : ∀ q : Nat,(cs.take (i * 5) ++ xs ++ cs.drop (i * 5))[q]? = if q < i * 5 then cs[q]? else if q < (i + 1) * 5 then xs[q - i * 5]? else (cs.drop (i * 5))[q - (i + 1) * 5]?:=by
  intro q
  rw [zc45,zc29,zc20,Nat.min_eq_left (by omega)]
  split
  ·rw [zc14,if_pos (by assumption)]
  ·rw [zc29,hxl]
   by_cases hq : q < (i + 1) * 5
   ·rw [if_pos (by omega),if_pos hq]
   ·rw [if_neg (by omega),if_neg hq]
    congr 1
    omega
 constructor
 ·apply List.ext_getElem?
  intro q
  rw [hrhs,zc14]
  by_cases hq : q < (n + 1) * 5
  ·rw [if_pos hq,zc25,zq1455 _ _ _ _ (by rw [zq1456];omega)]
   by_cases h1 : q < i * 5
   ·rw [if_neg (by omega),if_pos h1,zq1455 _ _ _ _ (by omega),if_neg (by omega),h0 q h1]
   ·rw [if_neg h1]
    by_cases h2 : q < (i + 1) * 5
    ·rw [if_pos (by omega),if_pos h2]
    ·rw [if_neg (by omega),if_neg h2,zq1455 _ _ _ _ (by omega),if_pos (by omega)]
  ·rw [if_neg hq,if_neg (by omega),if_neg (by omega),zc22 (by omega)]
 ·apply List.ext_getElem?
  intro q
  rw [hrhs,zc14]
  by_cases hq : q < (n + 1) * 5
  ·rw [if_pos hq,zc25,zq1455 _ _ _ _ (by rw [zq1456];omega)]
   by_cases h1 : q < i * 5
   ·rw [if_neg (by omega),if_pos h1,zq1455 _ _ _ _ (by omega),if_neg (by omega),h0 q h1]
   ·rw [if_neg h1]
    by_cases h2 : q < (i + 1) * 5
    ·rw [if_neg (by omega),if_pos h2,zq1455 _ _ _ _ (by omega),if_pos (by omega)]
    ·rw [if_pos (by omega),if_neg h2]
  ·rw [if_neg hq,if_neg (by omega),if_neg (by omega),zc22 (by omega)]
theorem zq728 (base : Nat) (w : World) (v u : Value) (n i : Nat) (cs xs : List Value) (h1 : w.ownsRow base 35 5 v n cs) (h2 : w.ownsRow base 35 5 u 1 xs) (hap : ∀ b,v.ownBlock = some b → u.ownBlock ≠ some b) (hc1 : ∀ x ∈ cs,oneC x = true) (hc2 : ∀ x ∈ xs,oneC x = true)
  (hbase : base ≤ w.heap.size) (hin : i ≤ n) (hbig : n + 1 ≤ 274877906944) :
  Calls Tryz.prog 99 #[v,.int .i64 (i : Int),u] w fun r w' => ∃ v',r = .returned v' ∧ w'.ownsRow base 35 5 v' (n + 1) (cs.take (i * 5) ++ xs ++ cs.drop (i * 5)) ∧ w.grownBy w' v.ownBlock ∧ (∀ b,v'.ownBlock = some b → v.ownBlock = some b ∨ w.heap.size ≤ b):=by
 obtain ⟨i0,hi0,hz⟩:=zc7.1 zq707
 simp only [zc11] at hz
 obtain ⟨hzc,hzs,hzb⟩:=hz
 obtain ⟨z,hz0,hzc⟩:=zc7.1 hzc
 have hcl:=h1.1
 have hxl : xs.length = 5:=by have:=h2.1;omega
 rcases h2.2 with ⟨_,h0⟩ | ⟨vb,vc,curv,rfl,hvbase,hvheap,hvc,hvcm,hvsz,hvtake⟩
 ·cases h0
 have hvs : ∀ j x,xs[j]? = some x → w.cell? ⟨vb,0 + j,none⟩ = some x:=by
  intro j x hj
  rw [Nat.zero_add,zq475 hvheap,← zc25]
  rw [← hvtake,zc14] at hj
  split at hj
  ·exact hj
  ·cases hj
 have h1v : ∀ x ∈ xs,x.oneCell' = true:=fun x hx => zq1111 (hc2 x hx)
 have h1c : ∀ x ∈ cs,x.oneCell' = true:=fun x hx => zq1111 (hc1 x hx)
 by_cases hine : i = n
 ·subst hine
  have htd : cs.take (i * 5) ++ xs ++ cs.drop (i * 5) = cs ++ xs:=by rw [List.take_of_length_le (by omega),zc18 (by omega),List.append_nil]
  rw [htd]
  have hown5 : w.ownsRow base 35 i0.size v i cs:=by rw [hzs];exact h1
  obtain ⟨v',w',hrun,hown',hgb,hblk⟩:=zq397 (P:=Tryz.prog) w base 22 0 35 i0 z Tryz.underlying22 hi0 hz0 (by rw [hzs];exact hzc) (by omega) v i cs hown5 (some ⟨vb,0,none⟩) 1 vc xs (by rw [hzs];omega) (by simp)
   (fun ad had j x hj => by
    cases had
    rw [zq324]
    exact hvs j x hj) h1v (by unfold maxLen;omega) (by rw [hzb];omega) hbase
  have hrun' : ∀ ty,(Builtin.append_ #[22,22] ty #[v,.slice (some ⟨vb,0,none⟩) 1 vc]).run Tryz.prog w = .ok v' w':=fun ty => by
   rw [← hrun]
   rfl
  rw [hzs] at hown'
  have hsl : ∃ A N C,v' = .slice A N C:=by
   rcases hown'.2 with ⟨h,_⟩ | ⟨g,cp,cur,h,_⟩
   ·exact ⟨_,_,_,h⟩
   ·exact ⟨_,_,_,h⟩
  have hv : ∃ A c,v = .slice A i c ∧ i ≤ c ∧ (A = none → i = 0):=by
   rcases h1.2 with ⟨h,h0⟩ | ⟨g,cp,cur,h,_,_,hc,_⟩
   ·exact ⟨none,0,by rw [h,h0],by omega,fun _ => h0⟩
   ·exact ⟨_,cp,h,hc,fun h => by cases h⟩
  obtain ⟨A,c,rfl,hc,hnil⟩:=hv
  refine (zq726 (.slice A i c) A i c vb vc 1 v' w w' (by omega) hc hrun' hsl hnil).mono ?_
  rintro e w2 ⟨rfl,rfl⟩
  exact ⟨v',rfl,hown',hgb,hblk⟩
 ·have hi : i < n:=by omega
  rcases h1.2 with ⟨_,h0⟩ | ⟨g,cap,cur,rfl,hgbase,hgheap,hnc,hcm,hgsz,hgtake⟩
  ·omega
  have hvbg : vb ≠ g:=fun e => hap g rfl (by rw [e];rfl)
  have hcs : ∀ j x,cs[j]? = some x → w.cell? ⟨g,0 + j,none⟩ = some x:=by
   intro j x hj
   rw [Nat.zero_add,zq475 hgheap,← zc25]
   rw [← hgtake,zc14] at hj
   split at hj
   ·exact hj
   ·cases hj
  by_cases hroom : n + 1 ≤ cap
  ·refine (zq729 g 0 n cap i vb 0 1 vc cs xs w hi (by omega) hroom (by unfold maxLen at hcm;omega) hvbg hcl (by omega) hcs
    (fun j hj => by rw [Nat.zero_add,zq475 hgheap,zc43 (by omega)];rfl) (fun j hj => by simp [World.frozen?,hgheap]) hvs h1c h1v 35 35 curv.size cur.size
    (by simp [World.shape?,hvheap]) (by simp [World.shape?,hgheap]) (by omega) (by simp [World.frozen?,hvheap]) (by simp [World.frozen?,hvheap])).mono ?_
   rintro e w' ⟨rfl,rfl⟩
   have hg0 : w.drew.heap[g]? = some (.cells cur 35 (0,0)):=hgheap
   obtain ⟨a1,a2,a3,a4,a5,a6⟩:=zq1458 w.drew g (0 + (i + 1) * 5) (cs.drop (i * 5)) cur 35 (0,0) hg0
   obtain ⟨b1,b2,b3,b4,b5,b6⟩:=zq1458 _ g (0 + i * 5) xs _ 35 (0,0) a1
   have hdl : (cs.drop (i * 5)).length = (n - i) * 5:=by rw [zc39,hcl];omega
   refine ⟨_,rfl,⟨?_,.inr ⟨g,cap,_,rfl,hgbase,b1,hroom,hcm,by rw [zq1456,zq1456];exact hgsz,?_⟩⟩,⟨b4.trans a4,b5.trans a5,b6.trans a6,by rw [b3,a3];exact zc46 _,fun k hk hne => ?_⟩,fun b hb => .inl hb⟩
   ·simp only [zc24,zc20,hdl,hxl];omega
   ·rw [Nat.zero_add,Nat.zero_add]
    refine (zq725 hi hcl hxl (by omega) fun q hq => ?_).1
    rw [← hgtake,zc14,if_pos (by omega),zc25]
   ·have hkg : k ≠ g:=fun e => hne (by rw [e];rfl)
    exact (b2 k hkg).trans (a2 k hkg)
  ·refine (zq727 g 0 n cap i vb 0 1 vc cs xs z (by rw [hi0];simp [hz0]) w hi (by omega) hnc (by omega) (by omega) hcl (by omega) hcs hvs h1c h1v).mono ?_
   rintro e w' ⟨rfl,rfl⟩
   obtain ⟨G,hG⟩ : ∃ G,G = grownCap w (n + 1) cap 35:=⟨_,rfl⟩
   have hGn : n + 1 ≤ G:=by rw [hG];exact grownCap_ge w _ _ _
   have hG63 : G ≤ maxLen:=by rw [hG];exact grownCap_le_maxLen w (n + 1) cap 35 (by unfold maxLen;omega)
   rw [← hG]
   obtain ⟨ROW,hROW⟩ : ∃ ROW : Array Value,ROW = (cs.take (i * 5)).toArray ++ Builtin.zeroCells z.cells (n + 1 - i) ++ Builtin.zeroCells z.cells (G - (n + 1)):=⟨_,rfl⟩
   rw [← hROW]
   have hRs : ROW.size = G * 5:=by
    rw [hROW]
    simp [Builtin.zeroCells,hzc]
    omega
   have hR0 : ∀ q,q < i * 5 → ROW[q]? = cs[q]?:=fun q hq => by
    rw [hROW,Array.append_assoc,Array.getElem?_append_left (by simp;omega)]
    simp only [List.getElem?_toArray,zc14,if_pos hq]
   have hh : ((w.alloc (.cells ROW 35)).drew).heap[w.heap.size]? = some (.cells ROW 35 (0,0)):=by
    show (w.heap.push _)[w.heap.size]? = _
    exact Array.getElem?_push_size
   obtain ⟨a1,a2,a3,a4,a5,a6⟩:=zq1458 _ w.heap.size (i * 5) xs ROW 35 (0,0) hh
   have a1' : (((w.alloc (.cells ROW 35)).drew.setCells w.heap.size (i * 5) xs).drew).heap[w.heap.size]? = _:=a1
   obtain ⟨b1,b2,b3,b4,b5,b6⟩:=zq1458 _ w.heap.size ((i + 1) * 5) (cs.drop (i * 5)) _ 35 (0,0) a1'
   have hdl : (cs.drop (i * 5)).length = (n - i) * 5:=by rw [zc39,hcl];omega
   have hold : ∀ k,k < w.heap.size → ((w.alloc (.cells ROW 35)).drew).heap[k]? = w.heap[k]?:=fun k hk => by
    show (w.heap.push _)[k]? = _
    rw [Array.getElem?_push,if_neg (by omega)]
   refine ⟨_,rfl,⟨?_,.inr ⟨w.heap.size,G,_,rfl,hbase,b1,hGn,hG63,by rw [zq1456,zq1456];exact hRs,?_⟩⟩,⟨b4.trans a4,b5.trans a5,b6.trans a6,?_,fun k hk hne => ?_⟩,fun b hb => .inr ?_⟩
   ·simp only [zc24,zc20,hdl,hxl];omega
   ·exact (zq725 hi hcl hxl (by omega) hR0).2
   ·rw [b3]
    show w.heap.size ≤ ((w.alloc (.cells ROW 35)).drew.setCells w.heap.size (i * 5) xs).heap.size
    rw [a3]
    show w.heap.size ≤ (w.heap.push _).size
    simp
   ·exact ((b2 k (by omega)).trans (a2 k (by omega))).trans (hold k hk)
   ·cases hb
    exact zc46 _
def zq1509 : Con:=zq1683 (zq720 .addr 28)
theorem zq1510 : TrOk Tryz.prog 101 zq1509:=zq1684 (zq743 .addr 28 zq717)
def zq1513 : Con:=zq722 .pfx .addr 35 28
theorem zq1514 : TrOk Tryz.prog 99 zq1513:=zq724 .pfx .addr 35 28 zq728
end Go.Proofs.YtpnpfgihgfbipaaGreat
namespace Go.Proofs.YtpnpfgihgfbipaaGreat
open Go Go.Ma Go.RowKit Go.Lib Go.Proofs
theorem zq1442 {P : Program} (w : World) (t e : TypeId) (z : Value) (s : Nat) (ht : P.underlying t = some (.slice e)) (hv : ∀ w,(zeroValue e).run P w = .ok z w) (hz : z.cells.size = s) (h1 : ∀ v ∈ z.cells.toList,v.oneCell' = true) (b o n : Nat) (hn : 0 < n)
  (hc : ∀ j,j < n * s → (w.cell? ⟨b,o + j,none⟩).isSome = true) (hf : ∀ j,j < n * s → w.frozen? ⟨b,o + j,none⟩ = false) :
  ∃ Z : List Value,Z.length = n * s ∧ ∀ ty c,(Builtin.clear_ #[t] ty #[.slice (some ⟨b,o,none⟩) n c]).run P w = .ok (.tuple #[]) (w.setCells b o Z):=by
 have hlen : (Builtin.zeroCells z.cells n).toList.length = n * s:=by simp [Builtin.zeroCells,hz]
 have hst:=run_storeCells_cells (P:=P) b o (Builtin.zeroCells z.cells n).toList 0 w (fun j hj => by rw [hlen] at hj;first | exact hc j (by simpa using hj) | simpa using hc j (by simpa using hj)) (fun j hj => by rw [hlen] at hj;first | exact hf j (by simpa using hj) | simpa using hf j (by simpa using hj)) (fun v hv' => by
  simp only [Builtin.zeroCells,Array.toList_map,List.mem_map] at hv'
  obtain ⟨q,hq,rfl⟩:=hv'
  have hs : 0 < z.cells.size:=by
   rcases Nat.eq_zero_or_pos z.cells.size with h0 | h0
   ·simp [h0] at hq
   ·exact h0
  refine h1 _ ?_
  rw [getElem!_pos z.cells _ (Nat.mod_lt _ hs)]
  simp)
 simp only [Nat.add_zero] at hst
 obtain ⟨m,rfl⟩ : ∃ m,n = m + 1:=⟨n - 1,by omega⟩
 exact ⟨_,hlen,fun ty c => by simp [Builtin.clear_,run_underlying ht,hv,hst]⟩
theorem zq1747 : ∃ z,(∀ w,(zeroValue 52).run Tryz.prog w = .ok z w) ∧ z.cells.size = 5 ∧ ∀ v ∈ z.cells.toList,v.oneCell' = true:=by
 obtain ⟨i,d,z,hi,hd,hz,h1,h2,_⟩:=(tyOk.ty 52 rfl).ex
 have h2 : z.cells.toList = [.bool false,.int .u64 0,.int .u64 0,.string .empty,.int .i64 0]:=h2.symm
 refine ⟨z,fun w => by simp [zeroValue,typeInfo,hi,hz],by rw [← Array.length_toList,h2];rfl,fun v hv => ?_⟩
 rw [h2] at hv
 simp only [zc28,List.not_mem_nil,or_false] at hv
 rcases hv with rfl | rfl | rfl | rfl | rfl <;> rfl
set_option maxHeartbeats 4000000 in
set_option maxRecDepth 100000 in
theorem zq544 (A : Option Addr) (n c i : Nat) (w : World) (hin : i ≤ n) (hnc : n ≤ c) (hA : A = none → n = 0 ∧ c = 0) :
  Calls Tryz.prog 105 #[.slice A n c,.int .i64 i,.int .i64 i] w fun e w' => e = .returned (.slice A n c) ∧ w' = w:=by
 have u30:=run_underlying Tryz.underlying23
 have z49:=zq1478
 have mixed:=zq1060
 cases A with
 | none =>
  obtain ⟨rfl,rfl⟩:=hA rfl
  have h0 : i = 0:=by omega
  subst h0
  go_enter Tryz.func105,Tryz.ntmps105
  go_wp2
  all_goals (go_ret;exact ⟨rfl,rfl⟩)
 | some a =>
  obtain ⟨ab,ao,asp⟩:=a
  go_enter Tryz.func105,Tryz.ntmps105
  go_wp2
  all_goals (go_ret;exact ⟨rfl,rfl⟩)
set_option maxHeartbeats 4000000 in
set_option maxRecDepth 100000 in
theorem zq545 (b n c i j : Nat) (cs : List Value) (w : World) (hij : i < j) (hjn : j ≤ n) (hnc : n ≤ c) (hc63 : c ≤ 9223372036854775807) (hcl : cs.length = n * 5)
  (hcs : ∀ q v,cs[q]? = some v → w.cell? ⟨b,q,none⟩ = some v) (hfz : ∀ q,q < n * 5 → w.frozen? ⟨b,q,none⟩ = false) (h1c : ∀ v ∈ cs,v.oneCell' = true) :
  Calls Tryz.prog 105 #[.slice (some ⟨b,0,none⟩) n c,.int .i64 i,.int .i64 j] w fun e w' =>
   e = .returned (.slice (some ⟨b,0,none⟩) (i + (n - j)) c) ∧ ∃ Z : List Value,Z.length = (j - i) * 5 ∧ w' = (w.drew.setCells b (0 + i * 5) (cs.drop (j * 5))).setCells b ((i + (n - j)) * 5) Z:=by
 have u30:=run_underlying Tryz.underlying23
 have z49:=zq1478
 have mixed:=zq1060
 obtain ⟨i0,hi0,hz⟩:=zc7.1 zq706
 simp only [zc11] at hz
 obtain ⟨hzc,hzs,hzb⟩:=hz
 obtain ⟨news,hnews⟩ : ∃ news,news = cs.drop (j * 5):=⟨_,rfl⟩
 have hlen : news.length = (n - j) * 5:=by rw [hnews,zc39,hcl];omega
 obtain ⟨A,hA,hsrc⟩ : ∃ A : Addr,(if c = j then (some (⟨b,0,none⟩ : Addr)) else some ⟨b,j * 5,none⟩) = some A ∧ Hid (∀ t u,news[t]? = some u → w.drew.cell? (A.add t) = some u):=by
  by_cases h : c = j
  ·refine ⟨⟨b,0,none⟩,by simp [h],fun t u hu => ?_⟩
   have h0 : news.length = 0:=by rw [hlen];omega
   rw [List.length_eq_zero_iff.1 h0] at hu
   simp at hu
  ·refine ⟨⟨b,j * 5,none⟩,by simp [h],fun t u hu => ?_⟩
   rw [hnews,zc38] at hu
   rw [Addr.add_lit]
   exact hcs _ u hu
 have s1 : Hid (news.length = (n - j) * 5):=hlen
 have s2 : Hid (∀ u ∈ news,u.oneCell' = true):=fun u hu => h1c u (List.mem_of_mem_drop (by rw [← hnews];exact hu))
 have hsome : ∀ q,q < n * 5 → (w.cell? ⟨b,q,none⟩).isSome = true:=fun q hq => by
  rw [hcs q _ (zc0 (by omega))];rfl
 have s3 : Hid (∀ t,t < news.length → (w.drew.cell? ⟨b,0 + i * 5 + t,none⟩).isSome = true ∧ w.drew.frozen? ⟨b,0 + i * 5 + t,none⟩ = false):=fun t ht => by
  rw [hlen] at ht
  exact ⟨hsome _ (by omega),hfz _ (by omega)⟩
 obtain ⟨W1,hW1⟩ : ∃ W1,W1 = w.drew.setCells b (0 + i * 5) news:=⟨_,rfl⟩
 obtain ⟨z,zv,zs,zo⟩:=zq1747
 have hsome1 : ∀ q,q < n * 5 → (W1.cell? ⟨b,q,none⟩).isSome = true:=fun q hq => by
  rw [hW1]
  exact isSome_setCells b _ _ _ (fun t ht => by rw [hlen] at ht;exact hsome _ (by omega)) _ (hsome q hq)
 have hfz1 : ∀ q,q < n * 5 → W1.frozen? ⟨b,q,none⟩ = false:=fun q hq => by
  rw [hW1,World.frozen?_setCells];exact hfz q hq
 obtain ⟨Z,hZl,hcl'⟩ : ∃ Z : List Value,Z.length = (j - i) * 5 ∧ ∀ ty cc,(Builtin.clear_ #[23] ty #[.slice (some ⟨b,(i + (n - j)) * 5,none⟩) (n - (i + (n - j))) cc]).run Tryz.prog W1 = .ok (.tuple #[]) (W1.setCells b ((i + (n - j)) * 5) Z):=by
  obtain ⟨Z,h1,h2⟩:=zq1442 W1 _ _ z 5 Tryz.underlying23 zv zs zo b ((i + (n - j)) * 5) (n - (i + (n - j))) (by omega) (fun q hq => hsome1 _ (by omega)) (fun q hq => hfz1 _ (by omega))
  exact ⟨Z,by rw [h1];congr 1;omega,h2⟩
 have hW : Hid (W1 = w.drew.setCells b (0 + i * 5) news):=hW1
 have X : Hid (Z.length = (j - i) * 5):=hZl
 have hic : i ≤ c:=by omega
 have hjc : j ≤ c:=by omega
 have hne : ¬ ((i : Int) = (j : Int)):=by omega
 have hin : i ≤ n:=by omega
 have hij' : i ≤ j:=by omega
 subst hnews
 clear hZl hW1 hsome1 hfz1 hsome hcs hfz hlen zo zs zv hcl
 go_enter Tryz.func105,Tryz.ntmps105
 go_wp2_with fail
 go_region_law_o (refine step_append_room rfl (.tmp 22) (.tmp 25) 23 rfl 52 i0 5 Tryz.underlying23 hi0 hzs b 0 i c (by simp [Act.eval,Act.put]) A (n - j) (c - j) (cs.drop (j * 5)) (by simp [Act.eval,Act.put]) s1.out hsrc.out s2.out (by omega) s3.out ?_;rw [← hW.out])
 go_wp2
 go_ret
 exact ⟨rfl,Z,X.out,by rw [← hW.out]⟩
theorem zq542 {arr : Array Value} {n i j : Nat} {cs Z : List Value} (hij : i < j) (hjn : j ≤ n) (hcl : cs.length = n * 5) (hZ : Z.length = (j - i) * 5) (hsz : n * 5 ≤ arr.size) (h0 : ∀ q,q < i * 5 → arr[q]? = cs[q]?) :
  (zq1454 (zq1454 arr (i * 5) (cs.drop (j * 5))) ((i + (n - j)) * 5) Z).toList.take ((i + (n - j)) * 5) = cs.take (i * 5) ++ cs.drop (j * 5):=by
 have hdl : (cs.drop (j * 5)).length = (n - j) * 5:=by rw [zc39,hcl];omega
 apply List.ext_getElem?
 intro q
 rw [zc14,zc29,zc20,Nat.min_eq_left (by omega)]
 by_cases hq : q < (i + (n - j)) * 5
 ·rw [if_pos hq,zc25,zq1455 _ _ _ _ (by rw [zq1456];omega),if_neg (by omega),zq1455 _ _ _ _ (by omega)]
  by_cases h1 : q < i * 5
  ·rw [if_neg (by omega),if_pos h1,zc14,if_pos h1,h0 q h1]
  ·rw [if_pos (by omega),if_neg h1]
 ·rw [if_neg hq,if_neg (by omega),zc22 (by omega)]
theorem zq543 (base : Nat) (w : World) (v : Value) (n i j : Nat) (cs : List Value) (h1 : w.ownsRow base 52 5 v n cs) (hc1 : ∀ x ∈ cs,oneC x = true) (_ : base ≤ w.heap.size) (hij : i ≤ j) (hjn : j ≤ n) :
  Calls Tryz.prog 105 #[v,.int .i64 (i : Int),.int .i64 (j : Int)] w fun r w' => ∃ v',r = .returned v' ∧ w'.ownsRow base 52 5 v' (n - (j - i)) (cs.take (i * 5) ++ cs.drop (j * 5)) ∧ w.grownBy w' v.ownBlock ∧ (∀ b,v'.ownBlock = some b → v.ownBlock = some b ∨ w.heap.size ≤ b):=by
 have hcl:=h1.1
 by_cases hije : i = j
 ·subst hije
  have hv : ∃ A c,v = .slice A n c ∧ n ≤ c ∧ (A = none → n = 0 ∧ c = 0):=by
   rcases h1.2 with ⟨h,h0⟩ | ⟨g,cp,cur,h,_,_,hc,_⟩
   ·exact ⟨none,0,by rw [h,h0],by omega,fun _ => ⟨h0,rfl⟩⟩
   ·exact ⟨_,cp,h,hc,fun h => by cases h⟩
  obtain ⟨A,c,rfl,hc,hnil⟩:=hv
  refine (zq544 A n c i w hjn hc hnil).mono ?_
  rintro e w' ⟨rfl,rfl⟩
  exact ⟨_,rfl,by rw [Nat.sub_self,Nat.sub_zero,List.take_append_drop];exact h1,⟨rfl,rfl,rfl,zc46 _,fun _ _ _ => rfl⟩,fun b hb => .inl hb⟩
 ·have hlt : i < j:=by omega
  rcases h1.2 with ⟨_,h0⟩ | ⟨g,cap,cur,rfl,hgbase,hgheap,hnc,hcm,hgsz,hgtake⟩
  ·omega
  have hcs : ∀ q x,cs[q]? = some x → w.cell? ⟨g,q,none⟩ = some x:=by
   intro q x hq
   rw [zq475 hgheap,← zc25]
   rw [← hgtake,zc14] at hq
   split at hq
   ·exact hq
   ·cases hq
  refine (zq545 g n cap i j cs w hlt hjn hnc (by unfold maxLen at hcm;omega) hcl hcs (fun q hq => by simp [World.frozen?,hgheap]) (fun x hx => zq1111 (hc1 x hx))).mono ?_
  rintro e w' ⟨rfl,Z,hZ,rfl⟩
  have hg0 : w.drew.heap[g]? = some (.cells cur 52 (0,0)):=hgheap
  obtain ⟨a1,a2,a3,a4,a5,a6⟩:=zq1458 w.drew g (0 + i * 5) (cs.drop (j * 5)) cur 52 (0,0) hg0
  obtain ⟨b1,b2,b3,b4,b5,b6⟩:=zq1458 _ g ((i + (n - j)) * 5) Z _ 52 (0,0) a1
  have hdl : (cs.drop (j * 5)).length = (n - j) * 5:=by rw [zc39,hcl];omega
  have hn' : n - (j - i) = i + (n - j):=by omega
  rw [hn']
  refine ⟨_,rfl,⟨?_,.inr ⟨g,cap,_,rfl,hgbase,b1,by omega,hcm,by rw [zq1456,zq1456];exact hgsz,?_⟩⟩,⟨b4.trans a4,b5.trans a5,b6.trans a6,by rw [b3,a3];exact zc46 _,fun k hk hne => ?_⟩,fun b hb => .inl hb⟩
  ·simp only [zc24,zc20,hdl];omega
  ·rw [Nat.zero_add]
   have : n * 5 ≤ cap * 5:=Nat.mul_le_mul_right _ hnc
   exact zq542 hlt hjn hcl hZ (by omega) fun q hq => by
    rw [← hgtake,zc14,if_pos (by omega),zc25]
  ·have hkg : k ≠ g:=fun e => hne (by rw [e];rfl)
   exact (b2 k hkg).trans (a2 k hkg)
def zq1499 : Con:=zq541 .lease 52
theorem zq1500 : TrOk Tryz.prog 105 zq1499:=del_ok .lease 52 zq543
end Go.Proofs.YtpnpfgihgfbipaaGreat
namespace Go.Proofs
open Go.Shelf
def Tryz.sortLs_ren : Go.Shelf.Ren:=⟨fun | 6 => 103 | 15 => 118 | 14 => 117 | 28 => 131 | 29 => 132 | 20 => 123 | 21 => 124 | 22 => 125 | 23 => 126 | 24 => 127 | 25 => 128 | 26 => 129 | 27 => 130 | 46 => 135 | 47 => 136 | 48 => 137 | 49 => 138 | 50 => 139 | 57 => 140 | n => n,fun | 22 => 23 | 24 => 52 | 25 => 98 | 3 => 3 | 39 => 118 | 0 => 0 | 53 => 146 | 55 => 26 | 4 => 4 | 46 => 140 | 45 => 139 | 50 => 96 | 5 => 5 | 9 => 9 | 66 => 150 | 70 => 154 | 76 => 156 | 77 => 157 | n => n,fun | n => n⟩
theorem Tryz.sortLs : Go.Proofs.SlLaysF0.n6 Tryz.prog Tryz.sortLs_ren:={
 mixed:=by kernel_rfl
 f6:=⟨Tryz.f103.name,by decide,Tryz.func103.trans (congrArg some (by kernel_rfl))⟩
 f14:=⟨Tryz.f117.name,by decide,Tryz.func117.trans (congrArg some (by kernel_rfl))⟩
 f15:=Tryz.func118.trans (congrArg some (by kernel_rfl))
 f20:=⟨Tryz.f123.name,by decide,Tryz.func123.trans (congrArg some (by kernel_rfl))⟩
 f21:=⟨Tryz.f124.name,by decide,Tryz.func124.trans (congrArg some (by kernel_rfl))⟩
 f22:=⟨Tryz.f125.name,by decide,Tryz.func125.trans (congrArg some (by kernel_rfl))⟩
 f23:=⟨Tryz.f126.name,by decide,Tryz.func126.trans (congrArg some (by kernel_rfl))⟩
 f24:=⟨Tryz.f127.name,by decide,Tryz.func127.trans (congrArg some (by kernel_rfl))⟩
 f25:=⟨Tryz.f128.name,by decide,Tryz.func128.trans (congrArg some (by kernel_rfl))⟩
 f26:=⟨Tryz.f129.name,by decide,Tryz.func129.trans (congrArg some (by kernel_rfl))⟩
 f27:=⟨Tryz.f130.name,by decide,Tryz.func130.trans (congrArg some (by kernel_rfl))⟩
 f28:=Tryz.func131.trans (congrArg some (by kernel_rfl))
 f29:=Tryz.func132.trans (congrArg some (by kernel_rfl))
 f46:=⟨Tryz.f135.name,by decide,Tryz.func135.trans (congrArg some (by kernel_rfl))⟩
 f47:=Tryz.func136.trans (congrArg some (by kernel_rfl))
 f48:=Tryz.func137.trans (congrArg some (by kernel_rfl))
 f49:=⟨Tryz.f138.name,by decide,Tryz.func138.trans (congrArg some (by kernel_rfl))⟩
 f50:=⟨Tryz.f139.name,by decide,Tryz.func139.trans (congrArg some (by kernel_rfl))⟩
 f57:=⟨Tryz.f140.name,by decide,Tryz.func140.trans (congrArg some (by kernel_rfl))⟩
 t0:=Tryz.underlying0
 a0:=Tryz.isAgg0
 z0:=Tryz.sizeOf0
 v0:=Tryz.zeroValue0
 t3:=Tryz.underlying3
 a3:=Tryz.isAgg3
 z3:=Tryz.sizeOf3
 v3:=Tryz.zeroValue3
 t4:=Tryz.underlying4
 a4:=Tryz.isAgg4
 z4:=Tryz.sizeOf4
 v4:=Tryz.zeroValue4
 t5:=Tryz.underlying5
 a5:=Tryz.isAgg5
 z5:=Tryz.sizeOf5
 v5:=Tryz.zeroValue5
 t9:=Tryz.underlying9
 a9:=Tryz.isAgg9
 z9:=Tryz.sizeOf9
 v9:=Tryz.zeroValue9
 t22:=Tryz.underlying23
 a22:=Tryz.isAgg23
 z22:=Tryz.sizeOf23
 v22:=Tryz.zeroValue23
 t25:=Tryz.underlying98
 a25:=Tryz.isAgg98
 z25:=Tryz.sizeOf98
 v25:=Tryz.zeroValue98
 t39:=Tryz.underlying118
 a39:=Tryz.isAgg118
 z39:=Tryz.sizeOf118
 v39:=Tryz.zeroValue118
 t45:=Tryz.underlying139
 a45:=Tryz.isAgg139
 z45:=Tryz.sizeOf139
 v45:=Tryz.zeroValue139
 t46:=Tryz.underlying140
 a46:=Tryz.isAgg140
 z46:=Tryz.sizeOf140
 v46:=Tryz.zeroValue140
 t50:=Tryz.underlying96
 a50:=Tryz.isAgg96
 z50:=Tryz.sizeOf96
 v50:=Tryz.zeroValue96
 t53:=Tryz.underlying146
 a53:=Tryz.isAgg146
 z53:=Tryz.sizeOf146
 v53:=Tryz.zeroValue146
 t55:=Tryz.underlying26
 a55:=Tryz.isAgg26
 z55:=Tryz.sizeOf26
 v55:=Tryz.zeroValue26
 t66:=Tryz.underlying150
 a66:=Tryz.isAgg150
 z66:=Tryz.sizeOf150
 v66:=Tryz.zeroValue150
 t70:=Tryz.underlying154
 a70:=Tryz.isAgg154
 z70:=Tryz.sizeOf154
 v70:=Tryz.zeroValue154
 t76:=Tryz.underlying156
 a76:=Tryz.isAgg156
 z76:=Tryz.sizeOf156
 v76:=Tryz.zeroValue156
 t77:=Tryz.underlying157
 a77:=Tryz.isAgg157
 z77:=Tryz.sizeOf157
 v77:=Tryz.zeroValue157 }
end Go.Proofs
namespace Go.Proofs.YtpnpfgihgfbipaaGreat
open Go Go.Ma Go.RowKit Go.Lib Go.Proofs Go.Sort
def cmpN (x y : Int) : Int:=if x < y then -1 else if y < x then 1 else 0
def cmpA (a b : Ad) : Int:=if a.v6 != b.v6 then (if b.v6 then -1 else 1) else if a.hi = b.hi then cmpN a.lo b.lo else cmpN a.hi b.hi
def encLs (x : Ls) : List Value:=[.bool x.ad.v6,.int .u64 x.ad.hi,.int .u64 x.ad.lo,.string x.who,.int .i64 x.upto]
set_option maxHeartbeats 1000000 in
theorem zq503 (x y : Int) (W : World) : Calls Tryz.prog 82 #[.int .u64 x,.int .u64 y] W fun e w' => e = .returned (.int .i64 (cmpN x y)) ∧ w' = W:=by
 unfold cmpN
 by_cases h1 : x < y
 ·rw [if_pos h1]
  go_enter Tryz.func82,Tryz.ntmps82
  go_wp2
  all_goals (go_ret;exact ⟨rfl,rfl⟩)
 ·rw [if_neg h1]
  by_cases h2 : y < x
  ·rw [if_pos h2]
   go_enter Tryz.func82,Tryz.ntmps82
   go_wp2
   all_goals (go_ret;exact ⟨rfl,rfl⟩)
  ·rw [if_neg h2]
   go_enter Tryz.func82,Tryz.ntmps82
   go_wp2
   all_goals (go_ret;exact ⟨rfl,rfl⟩)
set_option maxHeartbeats 2000000 in
set_option maxRecDepth 100000 in
theorem zq1182 (a b : Ad) (W : World) : Calls Tryz.prog 55 #[.agg #[.bool a.v6,.int .u64 a.hi,.int .u64 a.lo],.agg #[.bool b.v6,.int .u64 b.hi,.int .u64 b.lo]] W fun e w' => e = .returned (.int .i64 (cmpA a b)) ∧ ∃ q os',w' = grow (W.drewN q) os':=by
 obtain ⟨av,ah,al⟩:=a
 obtain ⟨bv,bh,bl⟩:=b
 have hx : ∀ x y : Int,∃ r,cmpN x y = r ∧ Hid (∀ W',Calls Tryz.prog 82 #[.int .u64 x,.int .u64 y] W' fun e w' => e = .returned (.int .i64 r) ∧ w' = W'):=fun x y => ⟨_,rfl,zq503 x y⟩
 cases av <;> cases bv
 ·by_cases h : ah = bh
  ·subst h
   obtain ⟨r,hr,hcon⟩:=hx al bl
   rw [show cmpA ⟨false,ah,al⟩ ⟨false,ah,bl⟩ = r by simp [cmpA,hr]]
   go_enter Tryz.func55,Tryz.ntmps55
   go_wp2_with (go_at_call 82;refine (hcon.out _).mono ?_;rintro e w' ⟨rfl,rfl⟩)
   all_goals (go_ret;exact ⟨rfl,0,_,by rw [alloc_eq_grow,alloc_eq_grow,grow_grow];rfl⟩)
  ·obtain ⟨r,hr,hcon⟩:=hx ah bh
   rw [show cmpA ⟨false,ah,al⟩ ⟨false,bh,bl⟩ = r by simp [cmpA,hr,h]]
   go_enter Tryz.func55,Tryz.ntmps55
   go_wp2_with (go_at_call 82;refine (hcon.out _).mono ?_;rintro e w' ⟨rfl,rfl⟩)
   all_goals (go_ret;exact ⟨rfl,0,_,by rw [alloc_eq_grow,alloc_eq_grow,grow_grow];rfl⟩)
 ·go_enter Tryz.func55,Tryz.ntmps55
  go_wp2
  all_goals (go_ret;exact ⟨rfl,0,_,by rw [alloc_eq_grow,alloc_eq_grow,grow_grow];rfl⟩)
 ·go_enter Tryz.func55,Tryz.ntmps55
  go_wp2
  all_goals (go_ret;exact ⟨rfl,0,_,by rw [alloc_eq_grow,alloc_eq_grow,grow_grow];rfl⟩)
 ·by_cases h : ah = bh
  ·subst h
   obtain ⟨r,hr,hcon⟩:=hx al bl
   rw [show cmpA ⟨true,ah,al⟩ ⟨true,ah,bl⟩ = r by simp [cmpA,hr]]
   go_enter Tryz.func55,Tryz.ntmps55
   go_wp2_with (go_at_call 82;refine (hcon.out _).mono ?_;rintro e w' ⟨rfl,rfl⟩)
   all_goals (go_ret;exact ⟨rfl,0,_,by rw [alloc_eq_grow,alloc_eq_grow,grow_grow];rfl⟩)
  ·obtain ⟨r,hr,hcon⟩:=hx ah bh
   rw [show cmpA ⟨true,ah,al⟩ ⟨true,bh,bl⟩ = r by simp [cmpA,hr,h]]
   go_enter Tryz.func55,Tryz.ntmps55
   go_wp2_with (go_at_call 82;refine (hcon.out _).mono ?_;rintro e w' ⟨rfl,rfl⟩)
   all_goals (go_ret;exact ⟨rfl,0,_,by rw [alloc_eq_grow,alloc_eq_grow,grow_grow];rfl⟩)
set_option maxHeartbeats 2000000 in
set_option maxRecDepth 100000 in
theorem zq1022 (x y : Ls) (W : World) : Calls Tryz.prog 104 #[.agg (encLs x).toArray,.agg (encLs y).toArray] W fun e w' => e = .returned (.int .i64 (cmpA x.ad y.ad)) ∧ ∃ q os',w' = grow (W.drewN q) os':=by
 obtain ⟨⟨av,ah,al⟩,aw,au⟩:=x
 obtain ⟨⟨bv,bh,bl⟩,bw,bu⟩:=y
 obtain ⟨r,hr,hcon⟩ : ∃ r,cmpA ⟨av,ah,al⟩ ⟨bv,bh,bl⟩ = r ∧ Hid (∀ W',Calls Tryz.prog 55 #[.agg #[.bool av,.int .u64 ah,.int .u64 al],.agg #[.bool bv,.int .u64 bh,.int .u64 bl]] W' fun e w' => e = .returned (.int .i64 r) ∧ ∃ q os',w' = grow (W'.drewN q) os'):=⟨_,rfl,fun W' => zq1182 ⟨av,ah,al⟩ ⟨bv,bh,bl⟩ W'⟩
 show Calls _ _ _ _ fun e w' => e = .returned (.int .i64 (cmpA ⟨av,ah,al⟩ ⟨bv,bh,bl⟩)) ∧ _
 rw [hr]
 show Calls _ _ #[.agg #[.bool av,.int .u64 ah,.int .u64 al,.string aw,.int .i64 au],.agg #[.bool bv,.int .u64 bh,.int .u64 bl,.string bw,.int .i64 bu]] _ _
 go_enter Tryz.func104,Tryz.ntmps104
 go_wp2_with (go_at_call 55;refine (hcon.out _).mono ?_;rintro e w' ⟨rfl,q,os',rfl⟩)
 all_goals (go_ret;refine ⟨rfl,q,?_⟩)
 rw [alloc_eq_grow,alloc_eq_grow,grow_grow]
 exact ⟨_,grow_grow (W.drewN q) _ os'⟩
end Go.Proofs.YtpnpfgihgfbipaaGreat
namespace Go.Ma
open Go Go.Shelf Go.RowKit Go.Lib Go.Proofs Go.Sort
theorem zq620 {α : Type} (enc : α → List Value) (k : Nat) (hk : ∀ x,(enc x).length = k) : ∀ (l : List α) (j : Nat),j < l.length * k → (l.flatMap enc)[j]? = (l[j / k]?).bind fun a => (enc a)[j % k]?
 | [],j,h => by simp at h
 | x :: r,j,h => by
  have k0 : 0 < k:=by
   rcases Nat.eq_zero_or_pos k with h0 | h0
   ·subst h0;simp at h
   ·exact h0
  rw [List.flatMap_cons]
  by_cases hj : j < k
  ·rw [List.getElem?_append_left (by rw [hk];exact hj),Nat.div_eq_of_lt hj,Nat.mod_eq_of_lt hj]
   rfl
  ·rw [List.getElem?_append_right (by rw [hk];omega),hk,zq620 enc k hk r (j - k) (by simp [Nat.add_mul] at h;omega)]
   have e1 : j / k = (j - k) / k + 1:=by
    have:=Nat.add_div_right (j - k) k0
    rwa [Nat.sub_add_cancel (by omega)] at this
   have e2 : (j - k) % k = j % k:=by
    have:=Nat.add_mod_right (j - k) k
    rwa [Nat.sub_add_cancel (by omega),eq_comm] at this
   rw [e1,e2,List.getElem?_cons_succ]
theorem zq619 {α : Type} [Inhabited α] (enc : α → List Value) (k : Nat) (hk : ∀ x,(enc x).length = k) (d : Array α) : (flatK enc k d).toList = d.toList.flatMap enc:=by
 have hlen' : ∀ l : List α,(l.flatMap enc).length = l.length * k:=by
  intro l
  induction l with
  | nil => simp
  | cons x r ih => rw [List.flatMap_cons,zc24,hk,ih,List.length_cons,Nat.add_mul];omega
 have hlen : (d.toList.flatMap enc).length = d.size * k:=by rw [hlen'];simp
 refine List.ext_getElem? fun j => ?_
 by_cases hj : j < d.size * k
 ·have k0 : 0 < k:=by
   rcases Nat.eq_zero_or_pos k with h0 | h0
   ·subst h0;simp at hj
   ·exact h0
  rw [zq620 enc k hk d.toList j (by simpa using hj)]
  have hd : j / k < d.size:=Nat.div_lt_of_lt_mul (by rw [Nat.mul_comm];exact hj)
  have hm : j % k < (enc (d[j / k]'hd)).length:=by rw [hk];exact Nat.mod_lt _ k0
  have h1 : (flatK enc k d).toList[j]? = some (flatK enc k d)[j]!:=by
   rw [zc25,zc43 (by simpa using hj),getElem!_pos _ j (by simpa using hj)]
  rw [h1,get_flatK _ _ _ _ hj,getElem!_pos d _ hd,zc25,zc43 hd,Option.bind_some,zc0 hm,getElem!_pos (enc (d[j / k]'hd)) (j % k) hm]
 ·rw [zc22 (by simpa using hj),zc22 (by omega)]
theorem zq1304 (F : Array Value) (c : Array Value) (h : F.size ≤ c.size) : (putCells id 0 F c).toList.take F.size = F.toList:=by
 refine List.ext_getElem? fun j => ?_
 rw [zc14]
 by_cases hj : j < F.size
 ·rw [if_pos hj]
  unfold putCells
  rw [zc25,Array.getElem?_mapIdx,zc43 (show j < c.size by omega),Option.map_some,if_pos (by omega),zc25,zc43 hj]
  simp [getElem!_pos F j hj]
 ·rw [if_neg hj,zc22 (by simpa using hj)]
theorem zq1531 {P : Program} {ρ : Ren} {α : Type} [Inhabited α] (L : SlLaysF0.n6 P ρ) (k : Nat) (aE : ∀ w,(isAgg (ρ.t 24)).run P w = .ok true w) (zE : ∀ w,(Go.sizeOf (ρ.t 24)).run P w = .ok k w) (enc : α → List Value) (hk : ∀ x,(enc x).length = k) (h1 : ∀ x,∀ v ∈ enc x,v.oneCell' = true) (cf : α → α → Int) (hO : SWO (ltOf cf)) (g : Nat) (cb : Array Value)
  (eg : ∀ args w,(callFunc g args).run P w = .ok (.enter g args) w)
  (hcmp : ∀ (w : World) (x y : α),Calls P g (#[.agg (enc x).toArray,.agg (enc y).toArray] ++ cb) w fun e w' => e = .returned (.int .i64 (cf x y)) ∧ ∃ q os',w' = grow (w.drewN q) os')
  (base : Nat) (e : TypeId) (w : World) (v : Value) (l : List α) (hown : w.ownsRow base e k v l.length (l.flatMap enc)) (hl : l ≠ []) (hsz : l.length < 4611686018427387904) :
  Calls P (ρ.f 6) #[v,.func (.func g) #[] cb] w fun r w' => r = .returned (.tuple #[]) ∧ ∃ l' : List α,l'.Perm l ∧ l'.Pairwise (fun a b => ltOf cf b a = false) ∧ w'.ownsRow base e k v l'.length (l'.flatMap enc) ∧ w.grownBy w' v.ownBlock:=by
 obtain ⟨hlen,⟨_,h0⟩ | ⟨b,cap,cur,rfl,hb,hg,hnc,hcm,hcs,htake⟩⟩:=hown
 ·exact absurd (List.eq_nil_of_length_eq_zero h0) hl
 have hblk : b < w.heap.size:=(Array.getElem?_eq_some_iff.1 hg).1
 have hkc : l.length * k ≤ cur.size:=by rw [hcs];exact Nat.mul_le_mul_right k hnc
 have hflat : (flatK enc k l.toArray).toList = l.flatMap enc:=by rw [zq619 enc k hk]
 have hH : HoldsK enc k w b 0 l.toArray:=by
  intro j hj
  have hj : j < l.length * k:=by simpa using hj
  refine ⟨?_,?_⟩
  ·have hc : w.cell? ⟨b,0 + j,none⟩ = cur[j]?:=by simp [World.cell?,hg]
   rw [hc]
   have e1 : cur[j]? = (flatK enc k l.toArray)[j]?:=by
    rw [← zc25,← zc25,hflat,← htake,zc14,if_pos hj]
   rw [e1,zc43 (by simpa using hj),getElem!_pos _ j (by simpa using hj)]
   rfl
  ·simp [World.frozen?,hg]
 refine (AnyQ.slices_SortFunc L k aE zE enc hk h1 cf hO g cb b 0 cap l.toArray w eg (fun m os dk _ x y => hcmp _ x y) hH hblk (by simpa using hsz)).mono ?_
 rintro r w' ⟨rfl,d',n,os,hp,hs,rfl⟩
 obtain ⟨hsize,_,hperm⟩:=hp
 have hsize : d'.size = l.length:=by simpa using hsize
 have hperm : d'.toList.Perm l:=by
  have e1 : d'.extract 0 l.length = d':=by rw [← hsize];simp
  have e2 : l.toArray.extract 0 l.length = l.toArray:=by simp
  have : l.toArray.size = l.length:=by simp
  rw [this,e1,e2] at hperm
  simpa using hperm
 have hheap : (sortWorldK enc k w b 0 n d' os).heap[b]? = some (.cells (putCells id 0 (flatK enc k d') cur) e (0,0)):=by
  simp only [sortWorldK,grow,putRowK,putRow,mapBlock,Sort.ahead]
  rw [Array.getElem?_append_left (by simpa using hblk),Array.getElem?_modify,if_pos rfl,hg]
  rfl
 refine ⟨rfl,d'.toList,hperm,?_,⟨?_,.inr ⟨b,cap,_,?_,hb,hheap,?_,hcm,?_,?_⟩⟩,⟨rfl,rfl,rfl,?_,?_⟩⟩
 ·rw [List.pairwise_iff_getElem]
  intro i j hi hj hij
  have hj' : j < d'.size:=by simpa using hj
  have:=hs i j (Nat.zero_le _) hij (by simp;omega)
  rw [getElem!_pos d' j hj',getElem!_pos d' i (by omega)] at this
  simpa using this
 ·rw [← zq619 enc k hk];simp
 ·simp [hsize]
 ·simp [hsize];omega
 ·simp [putCells,hcs]
 ·have hf : (flatK enc k d').size = d'.toList.length * k:=by simp
  rw [← zq619 enc k hk,← hf,zq1304]
  simp only [size_flatK,hsize]
  exact hkc
 ·simp [sortWorldK,grow,putRowK,putRow,mapBlock,Sort.ahead]
 ·intro q hq hne
  have hne : b ≠ q:=fun e => hne (by simp [Value.ownBlock,e])
  simp only [sortWorldK,grow,putRowK,putRow,mapBlock,Sort.ahead]
  rw [Array.getElem?_append_left (by simpa using hq),Array.getElem?_modify,if_neg hne]
end Go.Ma
namespace Go.Proofs.YtpnpfgihgfbipaaGreat
open Go Go.Ma Go.RowKit Go.Lib Go.Proofs Go.Sort
theorem zq502 (a b : Ad) : decide (cmpA a b < 0) = adLt a b:=by
 unfold cmpA cmpN adLt
 obtain ⟨av,ah,al⟩:=a
 obtain ⟨bv,bh,bl⟩:=b
 cases av <;> cases bv <;> simp
 all_goals
  by_cases h : ah = bh
  ·subst h
   by_cases h1 : al < bl
   ·simp [h1]
   ·by_cases h2 : bl < al <;> simp [h1,h2]
  ·by_cases h1 : ah < bh
   ·simp [h,h1]
   ·by_cases h2 : bh < ah <;> simp [h,h1,h2]
theorem zq1031 (x y : Ls) : ltOf (fun x y : Ls => cmpA x.ad y.ad) x y = adLt x.ad y.ad:=zq502 _ _
theorem swo_ls : SWO (ltOf fun x y : Ls => cmpA x.ad y.ad) where
 irrefl x:=by rw [zq1031];exact zq314 _
 trans x y z h1 h2:=by rw [zq1031] at *;exact zq318 h1 h2
 ntrans x y z h1 h2:=by rw [zq1031] at *;exact zq316 h1 h2
theorem zq579 (ρ : Nat → Value) (x : Ls) : denL ρ (K.enc .lease x) = encLs x:=rfl
def zq1515 : Con:=zq1527 .lease zq1530 sortL 52 104
theorem zq1516 : TrOk Tryz.prog 103 zq1515:=by
 refine zq1532 .lease zq1530 sortL _ _ (fun W hG base w v l ρ hb hown hbase hok => ?_)
 simp only [zq1530,Bool.and_eq_true,Bool.not_eq_true'] at hok
 obtain ⟨h1,h2,h3⟩:=hok
 have h1 : l ≠ []:=fun e => by rw [e] at h1;cases h1
 have hsz : l.length < 4611686018427387904:=by
  have:=Nat.le_of_ble_eq_true (show Nat.ble ((l.length : Int).toNat + (0 : Int).toNat) 274877906944 = true from h2)
  have e : (0 : Int).toNat = 0:=rfl
  omega
 have e0 : (fun a : Ls => denL ρ (K.enc .lease a)) = encLs:=funext fun x => zq579 ρ x
 have hown' : w.ownsRow base 52 5 v l.length (l.flatMap encLs):=by rw [← e0];exact hown
 have hm:=zq1531 Tryz.sortLs 5 (fun w => Tryz.isAgg52 w) (fun w => Tryz.sizeOf52 w) encLs (fun _ => rfl) (fun x v hv => by
   simp only [encLs,zc28,List.not_mem_nil,or_false] at hv
   rcases hv with rfl | rfl | rfl | rfl | rfl <;> rfl) (fun x y : Ls => cmpA x.ad y.ad) swo_ls 104 #[] (enters_of Tryz.func104 (by kernel_rfl) rfl)
  (fun w x y => zq1022 x y w) base 52 w v l hown' h1 hsz
 refine hm.mono ?_
 rintro r w' ⟨rfl,l',hp,hpw,hown2,hgb⟩
 have hl' : l' = sortL l:=zq1533 hp (hpw.imp fun {a b} h => by
  rw [zq1031] at h
  exact h) h3
 subst hl'
 refine ⟨rfl,?_,hgb⟩
 show w'.ownsRow base 52 5 v (sortL l).length ((sortL l).flatMap fun a : Ls => denL ρ (K.enc .lease a))
 rw [e0]
 exact hown2
end Go.Proofs.YtpnpfgihgfbipaaGreat
namespace Go.Proofs.YtpnpfgihgfbipaaGreat
open Go Go.Ma
def zq1558 : LoopS:={ n:=105,base:=3,head:={ keep:=[1,15,16,17],vals:=[.one (.cst (.ptr 3 0)),.one (.cst (.row 1)),.one (.fl .int),.one (.fl .int)],objs:=[.bag .addr 28 false false,.nest .pfx 0 35 false,.row .lease 52 false,.blk [.cst (.row 1),.cst (.row 2),.fl .int] 25 true] },exits:=[⟨none,{ keep:=[2],vals:=[.one (.fl .int)],objs:=[.bag .addr 28 false false,.nest .pfx 0 35 false,.row .lease 52 false] }⟩,⟨some 0,{ keep:=[1],vals:=[.one (.cst (.ptr 3 0))],objs:=[.bag .addr 28 false false,.nest .pfx 0 35 false,.row .lease 52 false,.blk [.cst (.row 1),.cst (.row 2),.fl .int] 25 true] }⟩] }
def zq1552 : LoopS:={ n:=105,base:=3,head:={ keep:=[1,6],vals:=[.one (.cst (.ptr 3 0)),.one (.fl .int)],objs:=[.bag .addr 28 false false,.nest .pfx 0 35 false,.row .lease 52 false,.blk [.cst (.row 1),.cst (.row 2),.fl .int] 25 true] },exits:=[⟨none,{ keep:=[2],vals:=[.one (.fl .int)],objs:=[.bag .addr 28 false false,.nest .pfx 0 35 false,.row .lease 52 false] }⟩,⟨some 2,{ keep:=[1],vals:=[.one (.cst (.ptr 3 0))],objs:=[.bag .addr 28 false false,.nest .pfx 0 35 false,.row .lease 52 false,.blk [.cst (.row 1),.cst (.row 2),.fl .int] 25 true] }⟩] }
def zq1555 : LoopS:={ n:=105,base:=3,head:={ keep:=[1,78,79,80],vals:=[.one (.cst (.ptr 3 0)),.one (.cst (.row 2)),.one (.fl .int),.one (.fl .int)],objs:=[.bag .addr 28 false false,.nest .pfx 0 35 false,.row .lease 52 false,.blk [.cst (.row 1),.cst (.row 2),.fl .int] 25 true] },exits:=[⟨none,{ keep:=[2],vals:=[.one (.fl .int)],objs:=[.bag .addr 28 false false,.nest .pfx 0 35 false,.row .lease 52 false] }⟩,⟨some 4,{ keep:=[],vals:=[],objs:=[.bag .addr 28 false false,.nest .pfx 0 35 false,.row .lease 52 false] }⟩] }
def zq1561 : Env:=mkEnv ty fnB [(23,zq933),(45,zq1275),(46,zq1269),(47,zq1657),(42,zq874),(48,zq1645),(49,zq968)] [(4,(zq1011 zq1558 (loopN zq1557 FUEL))),(11,(zq1011 zq1552 (loopN zq1551 FUEL))),(21,(zq1011 zq1555 (loopN zq1554 FUEL)))]
theorem zq1562 : EnvOk Tryz.prog zq1561:=envOk tyOk fn_ok (zq466 zq937 (zq466 zq1279 (zq466 zq1273 (zq466 zq1661 (zq466 zq878 (zq466 zq1649 (zq466 zq969 zq467))))))) _
theorem zq1556 : LOk Tryz.prog (zq1091 (zq504 Tryz.f19) 2) (zq1011 zq1555 (loopN zq1554 FUEL)):=by
 have h : zq1017 (zq1091 (zq504 Tryz.f19) 2) = []:=by kernel_rfl
 refine zq1012 zq1562 (zq1018 h lsNil) zq1555 zq1554 FUEL (fun rec x => ?_)
 kernel_rfl
theorem zq1559 : LOk Tryz.prog (zq1091 (zq504 Tryz.f19) 0) (zq1011 zq1558 (loopN zq1557 FUEL)):=by
 have h : zq1017 (zq1091 (zq504 Tryz.f19) 0) = []:=by kernel_rfl
 refine zq1012 zq1562 (zq1018 h lsNil) zq1558 zq1557 FUEL (fun rec x => ?_)
 kernel_rfl
theorem zq1553 : LOk Tryz.prog (zq1091 (zq504 Tryz.f19) 1) (zq1011 zq1552 (loopN zq1551 FUEL)):=by
 have h : zq1017 (zq1091 (zq504 Tryz.f19) 1) = []:=by kernel_rfl
 refine zq1012 zq1562 (zq1018 h lsNil) zq1552 zq1551 FUEL (fun rec x => ?_)
 kernel_rfl
def zq1560 : Con:=con [.agg [.nest .pfx .addr 35 28 true,.row .lease 52,.fl .int]] [.one (.fl .int)] (fun x => zq1565 x.1.1 x.1.2.1 x.1.2.2.1)
theorem zq1564 : TrOk Tryz.prog 19 zq1560:=by
 have h : zq1017 (zq504 Tryz.f19) = [(zq1091 (zq504 Tryz.f19) 0),(zq1091 (zq504 Tryz.f19) 1),(zq1091 (zq504 Tryz.f19) 2)]:=by kernel_rfl
 refine zq506 zq1562 Tryz.func19 (zq439 h (zq1023 (zq1115 (t:=(zq1011 zq1558 (loopN zq1557 FUEL))) (by kernel_rfl) zq1559) (zq1023 (zq1115 (t:=(zq1011 zq1552 (loopN zq1551 FUEL))) (by kernel_rfl) zq1553) (zq1023 (zq1115 (t:=(zq1011 zq1555 (loopN zq1554 FUEL))) (by kernel_rfl) zq1556) lsNil)))) _ _ _ (fun x => ?_)
 kernel_rfl
def zq956 : LoopS:={ n:=49,base:=10,head:={ keep:=[0,2,4,8,9,10],vals:=[.one (.cst (.row 6)),.one (.cst (.fn 69 [])),.one (.cst (.ptr 10 0)),.one (.fl .int),.one (.fl .int),.one (.fl .int)],objs:=[.row .addr 28 false,.row .lease 52 false,.blk [.fl .bool,.fl .u64,.fl .u64,.fl .int,.cst (.row 0)] 35 false,.blk [.fl .str] 9 false,.row .lease 52 false,.blk [.fl .addr] 28 false,.row .lease 52 false,.blk [.fl .bool,.fl .u64,.fl .u64,.fl .int,.cst (.row 0),.cst (.row 6)] 92 false,.blk [.fl .addr] 28 false,.blk [.fl .lease] 52 false,.blk [.fl .lease] 52 true] },exits:=[⟨some 0,{ keep:=[0,2,4,8,9],vals:=[.one (.cst (.row 6)),.one (.cst (.fn 69 [])),.one (.cst (.ptr 10 0)),.one (.fl .int),.one (.fl .int)],objs:=[.row .addr 28 false,.row .lease 52 false,.blk [.fl .bool,.fl .u64,.fl .u64,.fl .int,.cst (.row 0)] 35 false,.blk [.fl .str] 9 false,.row .lease 52 false,.blk [.fl .addr] 28 false,.row .lease 52 false,.blk [.fl .bool,.fl .u64,.fl .u64,.fl .int,.cst (.row 0),.cst (.row 6)] 92 false,.blk [.fl .addr] 28 false,.blk [.fl .lease] 52 false,.blk [.fl .lease] 52 true] }⟩] }
def zq958 : Env:=mkEnv ty fnB [(69,zq944)] [(3,(zq1011 zq956 (loopN zq955 FUEL)))]
theorem zq959 : EnvOk Tryz.prog zq958:=envOk tyOk fn_ok (zq466 zq947 zq467) _
theorem zq957 : LOk Tryz.prog (zq1091 (zq504 Tryz.f68) 0) (zq1011 zq956 (loopN zq955 FUEL)):=by
 have h : zq1017 (zq1091 (zq504 Tryz.f68) 0) = []:=by kernel_rfl
 refine zq1012 zq959 (zq1018 h lsNil) zq956 zq955 FUEL (fun rec x => ?_)
 kernel_rfl
theorem zq960 : TrOk Tryz.prog 68 (flCon zq958 Tryz.f68 [.one (.fl .int),.one (.fl .bool)]):=by
 have h : zq1017 (zq504 Tryz.f68) = [(zq1091 (zq504 Tryz.f68) 0)]:=by kernel_rfl
 exact zq616 zq959 Tryz.func68 (zq439 h (zq1023 (zq1115 (t:=(zq1011 zq956 (loopN zq955 FUEL))) (by kernel_rfl) zq957) lsNil)) [.one (.fl .int),.one (.fl .bool)] rfl
def zq962 : LoopS:={ n:=19,base:=8,head:={ keep:=[0,1,7,8],vals:=[.one (.cst (.row 6)),.one (.cst (.fn 66 [.ptr 3 0])),.one (.fl .int),.one (.fl .int)],objs:=[.row .addr 28 false,.row .lease 52 false,.blk [.fl .bool,.fl .u64,.fl .u64,.fl .int,.cst (.row 0)] 35 true,.blk [.fl .str] 9 true,.row .lease 52 true,.blk [.fl .addr] 28 true,.row .lease 52 true,.blk [.fl .bool,.fl .u64,.fl .u64,.fl .int,.cst (.row 0),.cst (.row 6)] 92 true] },exits:=[⟨none,{ keep:=[4],vals:=[.one (.fl .int)],objs:=[.row .addr 28 false,.row .lease 52 false,.blk [.fl .bool,.fl .u64,.fl .u64,.fl .int,.cst (.row 0)] 35 true,.blk [.fl .str] 9 true,.row .lease 52 true,.blk [.fl .addr] 28 true,.row .lease 52 true,.blk [.fl .bool,.fl .u64,.fl .u64,.fl .int,.cst (.row 0),.cst (.row 6)] 92 true] }⟩,⟨some 0,{ keep:=[],vals:=[],objs:=[.row .addr 28 false,.row .lease 52 false,.blk [.fl .bool,.fl .u64,.fl .u64,.fl .int,.cst (.row 0)] 35 true,.blk [.fl .str] 9 true,.row .lease 52 true,.blk [.fl .addr] 28 true,.row .lease 52 true,.blk [.fl .bool,.fl .u64,.fl .u64,.fl .int,.cst (.row 0),.cst (.row 6)] 92 true] }⟩] }
def zq964 : Env:=mkEnv ty fnB [(66,zq939)] [(2,(zq1011 zq962 (loopN zq961 FUEL)))]
theorem zq965 : EnvOk Tryz.prog zq964:=envOk tyOk fn_ok (zq466 zq942 zq467) _
theorem zq963 : LOk Tryz.prog (zq1091 (zq504 Tryz.f65) 0) (zq1011 zq962 (loopN zq961 FUEL)):=by
 have h : zq1017 (zq1091 (zq504 Tryz.f65) 0) = []:=by kernel_rfl
 refine zq1012 zq965 (zq1018 h lsNil) zq962 zq961 FUEL (fun rec x => ?_)
 kernel_rfl
theorem zq966 : TrOk Tryz.prog 65 (zq708 zq964 Tryz.f65):=by
 have h : zq1017 (zq504 Tryz.f65) = [(zq1091 (zq504 Tryz.f65) 0)]:=by kernel_rfl
 exact zq709 zq965 Tryz.func65 (zq439 h (zq1023 (zq1115 (t:=(zq1011 zq962 (loopN zq961 FUEL))) (by kernel_rfl) zq963) lsNil))
def zq950 : Env:=mkEnv ty fnB [(43,zq906),(67,zq262),(68,(flCon zq958 Tryz.f68 [.one (.fl .int),.one (.fl .bool)])),(70,zq1511),(65,(zq708 zq964 Tryz.f65))] []
theorem zq951 : EnvOk Tryz.prog zq950:=envOk tyOk fn_ok (zq466 zq910 (zq466 zq263 (zq466 zq960 (zq466 zq1512 (zq466 zq966 zq467))))) _
def zq949 : Con:=con [.agg [.fl .pfx,.row .addr 28],.one (.row .lease 52),.one (.fl .str),.one (.fl .int),.one (.fl .int)] [.one (.row .lease 52),.one (.fl .addr),.one (.fl .bool)] (fun x => zq967 x.1.1 x.1.2.1 x.2.1 x.2.2.1 x.2.2.2.1 x.2.2.2.2.1)
theorem zq953 : TrOk Tryz.prog 41 zq949:=by
 have h : zq1017 (zq504 Tryz.f41) = []:=by kernel_rfl
 refine zq506 zq951 Tryz.func41 (zq439 h lsNil) _ _ _ (fun x => ?_)
 kernel_rfl
def zq1610 : LoopS:={ n:=49,base:=17,head:={ keep:=[0,2,4,8,9,10],vals:=[.one (.cst (.row 11)),.one (.cst (.fn 98 [])),.one (.cst (.ptr 17 0)),.one (.fl .int),.one (.fl .int),.one (.fl .int)],objs:=[.bag .addr 28 false false,.nest .pfx 0 35 false,.row .lease 52 false,.blk [.cst (.row 1),.cst (.row 2),.fl .int] 25 false,.blk [.fl .op] 32 false,.blk [.cst (.row 7),.cst (.row 8),.fl .int] 25 false,.bag .addr 28 false false,.nest .pfx 6 35 false,.row .lease 52 false,.blk [.fl .addr] 28 false,.bag .addr 28 false false,.nest .pfx 10 35 false,.row .lease 52 false,.blk [.cst (.row 11),.cst (.row 12),.fl .int] 87 false,.blk [.fl .op] 32 false,.blk [.fl .addr] 28 false,.blk [.fl .pfx] 30 false,.blk [.fl .pfx] 30 true] },exits:=[⟨some 0,{ keep:=[0,2,4,8,9],vals:=[.one (.cst (.row 11)),.one (.cst (.fn 98 [])),.one (.cst (.ptr 17 0)),.one (.fl .int),.one (.fl .int)],objs:=[.bag .addr 28 false false,.nest .pfx 0 35 false,.row .lease 52 false,.blk [.cst (.row 1),.cst (.row 2),.fl .int] 25 false,.blk [.fl .op] 32 false,.blk [.cst (.row 7),.cst (.row 8),.fl .int] 25 false,.bag .addr 28 false false,.nest .pfx 6 35 false,.row .lease 52 false,.blk [.fl .addr] 28 false,.bag .addr 28 false false,.nest .pfx 10 35 false,.row .lease 52 false,.blk [.cst (.row 11),.cst (.row 12),.fl .int] 87 false,.blk [.fl .op] 32 false,.blk [.fl .addr] 28 false,.blk [.fl .pfx] 30 false,.blk [.fl .pfx] 30 true] }⟩] }
def zq1612 : Env:=mkEnv ty fnB [(98,zq305)] [(3,(zq1011 zq1610 (loopN zq1609 FUEL)))]
theorem zq1613 : EnvOk Tryz.prog zq1612:=envOk tyOk fn_ok (zq466 zq308 zq467) _
theorem zq1611 : LOk Tryz.prog (zq1091 (zq504 Tryz.f97) 0) (zq1011 zq1610 (loopN zq1609 FUEL)):=by
 have h : zq1017 (zq1091 (zq504 Tryz.f97) 0) = []:=by kernel_rfl
 refine zq1012 zq1613 (zq1018 h lsNil) zq1610 zq1609 FUEL (fun rec x => ?_)
 kernel_rfl
theorem zq1614 : TrOk Tryz.prog 97 (flCon zq1612 Tryz.f97 [.one (.fl .int),.one (.fl .bool)]):=by
 have h : zq1017 (zq504 Tryz.f97) = [(zq1091 (zq504 Tryz.f97) 0)]:=by kernel_rfl
 exact zq616 zq1613 Tryz.func97 (zq439 h (zq1023 (zq1115 (t:=(zq1011 zq1610 (loopN zq1609 FUEL))) (by kernel_rfl) zq1611) lsNil)) [.one (.fl .int),.one (.fl .bool)] rfl
def zq1619 : LoopS:={ n:=19,base:=17,head:={ keep:=[0,1,7,8],vals:=[.one (.cst (.row 11)),.one (.cst (.fn 96 [.ptr 16 0])),.one (.fl .int),.one (.fl .int)],objs:=[.bag .addr 28 false false,.nest .pfx 0 35 false,.row .lease 52 false,.blk [.cst (.row 1),.cst (.row 2),.fl .int] 25 true,.blk [.fl .op] 32 true,.blk [.cst (.row 7),.cst (.row 8),.fl .int] 25 true,.bag .addr 28 true true,.nest .pfx 6 35 true,.row .lease 52 true,.blk [.fl .addr] 28 true,.bag .addr 28 true true,.nest .pfx 10 35 true,.row .lease 52 true,.blk [.cst (.row 11),.cst (.row 12),.fl .int] 87 true,.blk [.fl .op] 32 true,.blk [.fl .addr] 28 true,.blk [.fl .pfx] 30 true] },exits:=[⟨none,{ keep:=[4],vals:=[.one (.fl .int)],objs:=[.bag .addr 28 false false,.nest .pfx 0 35 false,.row .lease 52 false,.blk [.cst (.row 1),.cst (.row 2),.fl .int] 25 true,.blk [.fl .op] 32 true,.blk [.cst (.row 7),.cst (.row 8),.fl .int] 25 true,.bag .addr 28 true true,.nest .pfx 6 35 true,.row .lease 52 true,.blk [.fl .addr] 28 true,.bag .addr 28 true true,.nest .pfx 10 35 true,.row .lease 52 true,.blk [.cst (.row 11),.cst (.row 12),.fl .int] 87 true,.blk [.fl .op] 32 true,.blk [.fl .addr] 28 true,.blk [.fl .pfx] 30 true] }⟩,⟨some 0,{ keep:=[],vals:=[],objs:=[.bag .addr 28 false false,.nest .pfx 0 35 false,.row .lease 52 false,.blk [.cst (.row 1),.cst (.row 2),.fl .int] 25 true,.blk [.fl .op] 32 true,.blk [.cst (.row 7),.cst (.row 8),.fl .int] 25 true,.bag .addr 28 true true,.nest .pfx 6 35 true,.row .lease 52 true,.blk [.fl .addr] 28 true,.bag .addr 28 true true,.nest .pfx 10 35 true,.row .lease 52 true,.blk [.cst (.row 11),.cst (.row 12),.fl .int] 87 true,.blk [.fl .op] 32 true,.blk [.fl .addr] 28 true,.blk [.fl .pfx] 30 true] }⟩] }
def zq1621 : Env:=mkEnv ty fnB [(96,zq300)] [(2,(zq1011 zq1619 (loopN zq1618 FUEL)))]
theorem zq1622 : EnvOk Tryz.prog zq1621:=envOk tyOk fn_ok (zq466 zq303 zq467) _
theorem zq1620 : LOk Tryz.prog (zq1091 (zq504 Tryz.f76) 0) (zq1011 zq1619 (loopN zq1618 FUEL)):=by
 have h : zq1017 (zq1091 (zq504 Tryz.f76) 0) = []:=by kernel_rfl
 refine zq1012 zq1622 (zq1018 h lsNil) zq1619 zq1618 FUEL (fun rec x => ?_)
 kernel_rfl
theorem zq1623 : TrOk Tryz.prog 76 (zq708 zq1621 Tryz.f76):=by
 have h : zq1017 (zq504 Tryz.f76) = [(zq1091 (zq504 Tryz.f76) 0)]:=by kernel_rfl
 exact zq709 zq1622 Tryz.func76 (zq439 h (zq1023 (zq1115 (t:=(zq1011 zq1619 (loopN zq1618 FUEL))) (by kernel_rfl) zq1620) lsNil))
def zq1615 : Env:=mkEnv ty fnB [(76,(zq708 zq1621 Tryz.f76))] []
theorem zq1616 : EnvOk Tryz.prog zq1615:=envOk tyOk fn_ok (zq466 zq1623 zq467) _
theorem zq1617 : TrOk Tryz.prog 95 (zq708 zq1615 Tryz.f95):=by
 have h : zq1017 (zq504 Tryz.f95) = []:=by kernel_rfl
 exact zq709 zq1616 Tryz.func95 (zq439 h lsNil)
def zq1605 : Env:=mkEnv ty fnB [(97,(flCon zq1612 Tryz.f97 [.one (.fl .int),.one (.fl .bool)])),(99,zq1513),(95,(zq708 zq1615 Tryz.f95))] []
theorem zq1606 : EnvOk Tryz.prog zq1605:=envOk tyOk fn_ok (zq466 zq1614 (zq466 zq1514 (zq466 zq1617 zq467))) _
theorem zq1607 : TrOk Tryz.prog 86 (zq708 zq1605 Tryz.f86):=by
 have h : zq1017 (zq504 Tryz.f86) = []:=by kernel_rfl
 exact zq709 zq1606 Tryz.func86 (zq439 h lsNil)
def zq1600 : LoopS:={ n:=49,base:=17,head:={ keep:=[0,2,4,8,9,10],vals:=[.one (.inn 10),.one (.cst (.fn 55 [])),.one (.cst (.ptr 17 0)),.one (.fl .int),.one (.fl .int),.one (.fl .int)],objs:=[.bag .addr 28 false false,.nest .pfx 0 35 false,.row .lease 52 false,.blk [.cst (.row 1),.cst (.row 2),.fl .int] 25 false,.blk [.fl .op] 32 false,.blk [.cst (.row 7),.cst (.row 8),.fl .int] 25 false,.bag .addr 28 false false,.nest .pfx 6 35 false,.row .lease 52 false,.blk [.fl .addr] 28 false,.bag .addr 28 false false,.nest .pfx 10 35 false,.row .lease 52 false,.blk [.cst (.row 11),.cst (.row 12),.fl .int] 87 false,.blk [.fl .op] 32 false,.blk [.fl .addr] 28 false,.blk [.fl .addr] 28 false,.blk [.fl .addr] 28 true] },exits:=[⟨some 0,{ keep:=[0,2,4,8,9],vals:=[.one (.inn 10),.one (.cst (.fn 55 [])),.one (.cst (.ptr 17 0)),.one (.fl .int),.one (.fl .int)],objs:=[.bag .addr 28 false false,.nest .pfx 0 35 false,.row .lease 52 false,.blk [.cst (.row 1),.cst (.row 2),.fl .int] 25 false,.blk [.fl .op] 32 false,.blk [.cst (.row 7),.cst (.row 8),.fl .int] 25 false,.bag .addr 28 false false,.nest .pfx 6 35 false,.row .lease 52 false,.blk [.fl .addr] 28 false,.bag .addr 28 false false,.nest .pfx 10 35 false,.row .lease 52 false,.blk [.cst (.row 11),.cst (.row 12),.fl .int] 87 false,.blk [.fl .op] 32 false,.blk [.fl .addr] 28 false,.blk [.fl .addr] 28 false,.blk [.fl .addr] 28 true] }⟩] }
def zq1602 : Env:=mkEnv ty fnB [(55,zq344)] [(3,(zq1011 zq1600 (loopN zq1599 FUEL)))]
theorem zq1603 : EnvOk Tryz.prog zq1602:=envOk tyOk fn_ok (zq466 zq348 zq467) _
theorem zq1601 : LOk Tryz.prog (zq1091 (zq504 Tryz.f100) 0) (zq1011 zq1600 (loopN zq1599 FUEL)):=by
 have h : zq1017 (zq1091 (zq504 Tryz.f100) 0) = []:=by kernel_rfl
 refine zq1012 zq1603 (zq1018 h lsNil) zq1600 zq1599 FUEL (fun rec x => ?_)
 kernel_rfl
theorem zq1604 : TrOk Tryz.prog 100 (flCon zq1602 Tryz.f100 [.one (.fl .int),.one (.fl .bool)]):=by
 have h : zq1017 (zq504 Tryz.f100) = [(zq1091 (zq504 Tryz.f100) 0)]:=by kernel_rfl
 exact zq616 zq1603 Tryz.func100 (zq439 h (zq1023 (zq1115 (t:=(zq1011 zq1600 (loopN zq1599 FUEL))) (by kernel_rfl) zq1601) lsNil)) [.one (.fl .int),.one (.fl .bool)] rfl
def zq1596 : Env:=mkEnv ty fnB [(48,zq1645),(100,(flCon zq1602 Tryz.f100 [.one (.fl .int),.one (.fl .bool)])),(101,zq1509)] []
theorem zq1597 : EnvOk Tryz.prog zq1596:=envOk tyOk fn_ok (zq466 zq1649 (zq466 zq1604 (zq466 zq1510 zq467))) _
theorem zq1598 : TrOk Tryz.prog 87 (zq708 zq1596 Tryz.f87):=by
 have h : zq1017 (zq504 Tryz.f87) = []:=by kernel_rfl
 exact zq709 zq1597 Tryz.func87 (zq439 h lsNil)
def zq1591 : LoopS:={ n:=121,base:=16,head:={ keep:=[0,1,3,8,10,12,13,61,62,63],vals:=[.one (.cst (.ptr 13 0)),.one (.fl .str),.one (.fl .int),.one (.cst (.ptr 16 0)),.one (.cst (.ptr 17 0)),.one (.cst (.row 18)),.one (.cst (.row 19)),.one (.cst (.row 12)),.one (.fl .int),.one (.fl .int)],objs:=[.bag .addr 28 false false,.nest .pfx 0 35 false,.row .lease 52 false,.blk [.cst (.row 1),.cst (.row 2),.fl .int] 25 true,.blk [.fl .op] 32 true,.blk [.cst (.row 7),.cst (.row 8),.fl .int] 25 true,.bag .addr 28 true true,.nest .pfx 6 35 true,.row .lease 52 true,.blk [.fl .addr] 28 true,.bag .addr 28 true true,.nest .pfx 10 35 true,.row .lease 52 true,.blk [.cst (.row 11),.cst (.row 12),.fl .int] 87 true,.blk [.fl .op] 32 true,.blk [.fl .addr] 28 true,.blk [.fl .addr] 28 true,.blk [.fl .bool,.fl .u64,.fl .u64,.fl .int,.inn 10] 35 true,.row .lease 52 true,.row .lease 52 true] },exits:=[⟨some 0,{ keep:=[0,1,3,8,10,12,13],vals:=[.one (.cst (.ptr 13 0)),.one (.fl .str),.one (.fl .int),.one (.cst (.ptr 16 0)),.one (.cst (.ptr 17 0)),.one (.cst (.row 18)),.one (.cst (.row 19))],objs:=[.bag .addr 28 false false,.nest .pfx 0 35 false,.row .lease 52 false,.blk [.cst (.row 1),.cst (.row 2),.fl .int] 25 true,.blk [.fl .op] 32 true,.blk [.cst (.row 7),.cst (.row 8),.fl .int] 25 true,.bag .addr 28 true true,.nest .pfx 6 35 true,.row .lease 52 true,.blk [.fl .addr] 28 true,.bag .addr 28 true true,.nest .pfx 10 35 true,.row .lease 52 true,.blk [.cst (.row 11),.cst (.row 12),.fl .int] 87 true,.blk [.fl .op] 32 true,.blk [.fl .addr] 28 true,.blk [.fl .addr] 28 true,.blk [.fl .bool,.fl .u64,.fl .u64,.fl .int,.inn 10] 35 true,.row .lease 52 true,.row .lease 52 true] }⟩] }
def zq1593 : Env:=mkEnv ty fnB [(102,zq289),(54,zq1257),(41,zq949),(103,zq1515)] [(9,(zq1011 zq1591 (loopN zq1590 FUEL)))]
theorem zq1594 : EnvOk Tryz.prog zq1593:=envOk tyOk fn_ok (zq466 zq292 (zq466 zq1261 (zq466 zq953 (zq466 zq1516 zq467)))) _
theorem zq1592 : LOk Tryz.prog (zq1091 (zq504 Tryz.f88) 0) (zq1011 zq1591 (loopN zq1590 FUEL)):=by
 have h : zq1017 (zq1091 (zq504 Tryz.f88) 0) = []:=by kernel_rfl
 refine zq1012 zq1594 (zq1018 h lsNil) zq1591 zq1590 FUEL (fun rec x => ?_)
 kernel_rfl
theorem zq1595 : TrOk Tryz.prog 88 (zq708 zq1593 Tryz.f88):=by
 have h : zq1017 (zq504 Tryz.f88) = [(zq1091 (zq504 Tryz.f88) 0)]:=by kernel_rfl
 exact zq709 zq1594 Tryz.func88 (zq439 h (zq1023 (zq1115 (t:=(zq1011 zq1591 (loopN zq1590 FUEL))) (by kernel_rfl) zq1592) lsNil))
def zq1587 : Env:=mkEnv ty fnB [(102,zq289),(105,zq1499)] []
theorem zq1588 : EnvOk Tryz.prog zq1587:=envOk tyOk fn_ok (zq466 zq292 (zq466 zq1500 zq467)) _
theorem zq1589 : TrOk Tryz.prog 89 (zq708 zq1587 Tryz.f89):=by
 have h : zq1017 (zq504 Tryz.f89) = []:=by kernel_rfl
 exact zq709 zq1588 Tryz.func89 (zq439 h lsNil)
def zq1624 : Env:=mkEnv ty fnB [(86,(zq708 zq1605 Tryz.f86)),(87,(zq708 zq1596 Tryz.f87)),(88,(zq708 zq1593 Tryz.f88)),(89,(zq708 zq1587 Tryz.f89)),(43,zq906)] []
theorem zq1625 : EnvOk Tryz.prog zq1624:=envOk tyOk fn_ok (zq466 zq1607 (zq466 zq1598 (zq466 zq1595 (zq466 zq1589 (zq466 zq910 zq467))))) _
theorem zq1626 : TrOk Tryz.prog 64 (zq708 zq1624 Tryz.f64):=by
 have h : zq1017 (zq504 Tryz.f64) = []:=by kernel_rfl
 exact zq709 zq1625 Tryz.func64 (zq439 h lsNil)
def zq1628 : Env:=mkEnv ty fnB [(20,zq1572),(63,zq1581),(64,(zq708 zq1624 Tryz.f64))] []
theorem zq1629 : EnvOk Tryz.prog zq1628:=envOk tyOk fn_ok (zq466 zq1576 (zq466 zq1585 (zq466 zq1626 zq467))) _
def zq1627 : Con:=con [.agg [.nest .pfx .addr 35 28 true,.row .lease 52,.fl .int],.one (.fl .op)] [.agg [.nest .pfx .addr 35 28 true,.row .lease 52,.fl .int],.one (.fl .addr),.one (.fl .int)] (fun x => zq1632 x.1.1 x.1.2.1 x.1.2.2.1 x.2.1)
theorem zq1631 : TrOk Tryz.prog 38 zq1627:=by
 have h : zq1017 (zq504 Tryz.f38) = []:=by kernel_rfl
 refine zq506 zq1629 Tryz.func38 (zq439 h lsNil) _ _ _ (fun x => ?_)
 kernel_rfl
def zq1567 : Env:=mkEnv ty fnB [(19,zq1560),(38,zq1627)] []
theorem zq1568 : EnvOk Tryz.prog zq1567:=envOk tyOk fn_ok (zq466 zq1564 (zq466 zq1631 zq467)) _
def zq1566 : Con:=con [.agg [.nest .pfx .addr 35 28 true,.row .lease 52,.fl .int],.one (.fl .op)] [.agg [.nest .pfx .addr 35 28 true,.row .lease 52,.fl .int],.one (.fl .addr),.one (.fl .int)] (fun x => zq1571 x.1.1 x.1.2.1 x.1.2.2.1 x.2.1)
theorem zq1570 : TrOk Tryz.prog 9 zq1566:=by
 have h : zq1017 (zq504 Tryz.f9) = []:=by kernel_rfl
 refine zq506 zq1568 Tryz.func9 (zq439 h lsNil) _ _ _ (fun x => ?_)
 kernel_rfl
def zq817 : LoopS:={ n:=36,base:=1,head:={ keep:=[0,2,3,5,6,7],vals:=[.one (.cst (.row 0)),.one (.cst (.ptr 1 0)),.one (.cst (.ptr 2 0)),.one (.cst (.ptr 3 0)),.one (.cst (.ptr 4 0)),.one (.fl .int)],objs:=[.row .op 32 false,.blk [.cst (.row 5),.cst (.row 6),.fl .int] 25 true,.blk [.fl .addr] 28 true,.blk [.cst (.row 7),.cst (.row 8),.fl .int] 25 true,.blk [.fl .addr] 28 true,.nest .pfx 9 35 true,.row .lease 52 true,.nest .pfx 10 35 true,.row .lease 52 true,.bag .addr 28 true true,.bag .addr 28 true true] },exits:=[⟨none,{ keep:=[2,3,4],vals:=[.one (.cst (.ptr 1 0)),.one (.cst (.ptr 2 0)),.one (.fl .int)],objs:=[.row .op 32 false,.blk [.cst (.row 3),.cst (.row 4),.fl .int] 25 true,.blk [.fl .addr] 28 true,.nest .pfx 5 35 true,.row .lease 52 true,.bag .addr 28 true true] }⟩,⟨some 0,{ keep:=[2,3,5,6],vals:=[.one (.cst (.ptr 1 0)),.one (.cst (.ptr 2 0)),.one (.cst (.ptr 3 0)),.one (.cst (.ptr 4 0))],objs:=[.row .op 32 false,.blk [.cst (.row 5),.cst (.row 6),.fl .int] 25 true,.blk [.fl .addr] 28 true,.blk [.cst (.row 7),.cst (.row 8),.fl .int] 25 true,.blk [.fl .addr] 28 true,.nest .pfx 9 35 true,.row .lease 52 true,.nest .pfx 10 35 true,.row .lease 52 true,.bag .addr 28 true true,.bag .addr 28 true true] }⟩] }
def zq820 : Env:=mkEnv ty fnB [(9,zq1566)] [(4,(zq1011 zq817 (loopN zq816 FUEL)))]
theorem zq821 : EnvOk Tryz.prog zq820:=envOk tyOk fn_ok (zq466 zq1570 zq467) _
theorem zq818 : LOk Tryz.prog (zq1091 (zq504 Tryz.f17) 0) (zq1011 zq817 (loopN zq816 FUEL)):=by
 have h : zq1017 (zq1091 (zq504 Tryz.f17) 0) = []:=by kernel_rfl
 refine zq1012 zq821 (zq1018 h lsNil) zq817 zq816 FUEL (fun rec x => ?_)
 kernel_rfl
def zq819 : Con:=con [.one (.row .op 32)] [.agg [.nest .pfx .addr 35 28 true,.row .lease 52,.fl .int],.one (.fl .addr),.one (.fl .int)] (fun x => zq824 x.1)
theorem zq823 : TrOk Tryz.prog 17 zq819:=by
 have h : zq1017 (zq504 Tryz.f17) = [(zq1091 (zq504 Tryz.f17) 0)]:=by kernel_rfl
 refine zq506 zq821 Tryz.func17 (zq439 h (zq1023 (zq1115 (t:=(zq1011 zq817 (loopN zq816 FUEL))) (by kernel_rfl) zq818) lsNil)) _ _ _ (fun x => ?_)
 kernel_rfl
def zq847 : Env:=mkEnv ty fnB [(18,zq840),(17,zq819),(9,zq1566),(19,zq1560),(20,zq1572),(21,zq857)] []
theorem zq848 : EnvOk Tryz.prog zq847:=envOk tyOk fn_ok (zq466 zq844 (zq466 zq823 (zq466 zq1570 (zq466 zq1564 (zq466 zq1576 (zq466 zq860 zq467)))))) _
def zq846 : Con:=con [] [.one (.fl .bool)] (fun x => zq850)
theorem zq849 : TrOk Tryz.prog 4 zq846:=by
 have h : zq1017 (zq504 Tryz.f4) = []:=by kernel_rfl
 refine zq506 zq848 Tryz.func4 (zq439 h lsNil) _ _ _ (fun x => ?_)
 kernel_rfl
def zq881 : LoopS:={ n:=41,base:=2,head:={ keep:=[1,3,20,21,22],vals:=[.one (.cst (.row 1)),.one (.cst (.ptr 2 0)),.one (.cst (.row 1)),.one (.fl .int),.one (.fl .int)],objs:=[.row .addr 28 false,.row .lease 52 false,.blk [.fl .bool,.fl .u64,.fl .u64,.fl .int,.cst (.row 0)] 35 true] },exits:=[⟨none,{ keep:=[6],vals:=[.one (.fl .int)],objs:=[.row .addr 28 false,.row .lease 52 false] }⟩,⟨some 0,{ keep:=[],vals:=[],objs:=[.row .addr 28 false,.row .lease 52 false] }⟩] }
def zq884 : Env:=mkEnv ty fnB [(23,zq933),(42,zq874),(54,zq1257),(49,zq968)] [(7,(zq1011 zq881 (loopN zq880 FUEL)))]
theorem zq885 : EnvOk Tryz.prog zq884:=envOk tyOk fn_ok (zq466 zq937 (zq466 zq878 (zq466 zq1261 (zq466 zq969 zq467)))) _
theorem zq882 : LOk Tryz.prog (zq1091 (zq504 Tryz.f24) 0) (zq1011 zq881 (loopN zq880 FUEL)):=by
 have h : zq1017 (zq1091 (zq504 Tryz.f24) 0) = []:=by kernel_rfl
 refine zq1012 zq885 (zq1018 h lsNil) zq881 zq880 FUEL (fun rec x => ?_)
 kernel_rfl
def zq883 : Con:=con [.agg [.fl .pfx,.row .addr 28],.one (.row .lease 52),.one (.fl .int)] [.one (.fl .int)] (fun x => zq888 x.1.1 x.1.2.1 x.2.1 x.2.2.1)
theorem zq887 : TrOk Tryz.prog 24 zq883:=by
 have h : zq1017 (zq504 Tryz.f24) = [(zq1091 (zq504 Tryz.f24) 0)]:=by kernel_rfl
 refine zq506 zq885 Tryz.func24 (zq439 h (zq1023 (zq1115 (t:=(zq1011 zq881 (loopN zq880 FUEL))) (by kernel_rfl) zq882) lsNil)) _ _ _ (fun x => ?_)
 kernel_rfl
def zq896 : Env:=mkEnv ty fnB [(24,zq883),(41,zq949),(39,zq974),(40,zq986)] []
theorem zq897 : EnvOk Tryz.prog zq896:=envOk tyOk fn_ok (zq466 zq887 (zq466 zq953 (zq466 zq978 (zq466 zq990 zq467)))) _
def zq895 : Con:=con [.agg [.fl .pfx,.row .addr 28],.one (.row .lease 52),.one (.fl .str),.one (.fl .int),.one (.fl .int)] [.one (.row .lease 52),.one (.fl .addr),.one (.fl .int)] (fun x => zq900 x.1.1 x.1.2.1 x.2.1 x.2.2.1 x.2.2.2.1 x.2.2.2.2.1)
theorem zq899 : TrOk Tryz.prog 11 zq895:=by
 have h : zq1017 (zq504 Tryz.f11) = []:=by kernel_rfl
 refine zq506 zq897 Tryz.func11 (zq439 h lsNil) _ _ _ (fun x => ?_)
 kernel_rfl
def zq826 : Env:=mkEnv ty fnB [(22,zq835),(11,zq895),(12,zq889),(23,zq933),(24,zq883),(21,zq857)] []
theorem zq827 : EnvOk Tryz.prog zq826:=envOk tyOk fn_ok (zq466 zq838 (zq466 zq899 (zq466 zq893 (zq466 zq937 (zq466 zq887 (zq466 zq860 zq467)))))) _
def zq825 : Con:=con [] [.one (.fl .bool)] (fun x => zq829)
theorem zq828 : TrOk Tryz.prog 5 zq825:=by
 have h : zq1017 (zq504 Tryz.f5) = []:=by kernel_rfl
 refine zq506 zq827 Tryz.func5 (zq439 h lsNil) _ _ _ (fun x => ?_)
 kernel_rfl
def zq121 : LoopS:={ n:=135,base:=2,head:={ keep:=[2,3,4,5,11,13,15,16,17,18,19],vals:=[.one (.fl .str),.one (.fl .int),.one (.fl .int),.one (.cst (.ptr 2 0)),.one (.cst (.ptr 3 0)),.one (.cst (.row 4)),.one (.cst (.row 5)),.one (.cst (.ptr 6 0)),.one (.fl .int),.one (.fl .bool),.one (.fl .int)],objs:=[.row .addr 28 false,.row .lease 52 false,.blk [.fl .bool,.fl .u64,.fl .u64,.fl .int,.cst (.row 0)] 35 true,.blk [.fl .addr] 28 true,.row .lease 52 true,.row .lease 52 true,.blk [.fl .addr] 28 true] },exits:=[⟨some 2,{ keep:=[2,3,4,5,11,13,15,16,17,18],vals:=[.one (.fl .str),.one (.fl .int),.one (.fl .int),.one (.cst (.ptr 2 0)),.one (.cst (.ptr 3 0)),.one (.cst (.row 4)),.one (.cst (.row 5)),.one (.cst (.ptr 6 0)),.one (.fl .int),.one (.fl .bool)],objs:=[.row .addr 28 false,.row .lease 52 false,.blk [.fl .bool,.fl .u64,.fl .u64,.fl .int,.cst (.row 0)] 35 true,.blk [.fl .addr] 28 true,.row .lease 52 true,.row .lease 52 true,.blk [.fl .addr] 28 true] }⟩] }
def zq124 : LoopS:={ n:=135,base:=2,head:={ keep:=[11,13,15,16,20,21,22],vals:=[.one (.cst (.ptr 2 0)),.one (.cst (.row 3)),.one (.cst (.row 4)),.one (.cst (.ptr 5 0)),.one (.cst (.ptr 6 0)),.one (.fl .bool),.one (.fl .int)],objs:=[.row .addr 28 false,.row .lease 52 false,.blk [.fl .addr] 28 true,.row .lease 52 true,.row .lease 52 true,.blk [.fl .addr] 28 true,.blk [.fl .lease] 52 true] },exits:=[⟨some 4,{ keep:=[11,15,16,20,21],vals:=[.one (.cst (.ptr 2 0)),.one (.cst (.row 3)),.one (.cst (.ptr 4 0)),.one (.cst (.ptr 5 0)),.one (.fl .bool)],objs:=[.row .addr 28 false,.row .lease 52 false,.blk [.fl .addr] 28 true,.row .lease 52 true,.blk [.fl .addr] 28 true,.blk [.fl .lease] 52 true] }⟩] }
def zq127 : LoopS:={ n:=135,base:=2,head:={ keep:=[2,3,4,5,11,13,15,16,17],vals:=[.one (.fl .str),.one (.fl .int),.one (.fl .int),.one (.cst (.ptr 2 0)),.one (.cst (.ptr 3 0)),.one (.cst (.row 4)),.one (.cst (.row 5)),.one (.cst (.ptr 6 0)),.one (.fl .int)],objs:=[.row .addr 28 false,.row .lease 52 false,.blk [.fl .bool,.fl .u64,.fl .u64,.fl .int,.cst (.row 0)] 35 true,.blk [.fl .addr] 28 true,.row .lease 52 true,.row .lease 52 true,.blk [.fl .addr] 28 true] },exits:=[⟨none,{ keep:=[10,11,12],vals:=[.one (.cst (.row 2)),.one (.cst (.ptr 3 0)),.one (.fl .bool)],objs:=[.row .addr 28 false,.row .lease 52 false,.row .lease 52 true,.blk [.fl .addr] 28 true] }⟩,⟨some 0,{ keep:=[11],vals:=[.one (.cst (.ptr 2 0))],objs:=[.row .addr 28 false,.row .lease 52 false,.blk [.fl .addr] 28 true] }⟩] }
def zq130 : Env:=mkEnv ty fnB [(37,zq174),(31,zq229),(35,zq135),(33,zq244),(34,zq150),(62,zq180)] [(13,(zq1011 zq121 (loopN zq120 FUEL))),(20,(zq1011 zq124 (loopN zq123 FUEL))),(9,(zq1011 zq127 (loopN zq126 FUEL)))]
theorem zq131 : EnvOk Tryz.prog zq130:=envOk tyOk fn_ok (zq466 zq178 (zq466 zq233 (zq466 zq139 (zq466 zq248 (zq466 zq154 (zq466 zq182 zq467)))))) _
theorem zq125 : LOk Tryz.prog (zq1091 (zq1091 (zq504 Tryz.f36) 0) 1) (zq1011 zq124 (loopN zq123 FUEL)):=by
 have h : zq1017 (zq1091 (zq1091 (zq504 Tryz.f36) 0) 1) = []:=by kernel_rfl
 refine zq1012 zq131 (zq1018 h lsNil) zq124 zq123 FUEL (fun rec x => ?_)
 kernel_rfl
theorem zq122 : LOk Tryz.prog (zq1091 (zq1091 (zq504 Tryz.f36) 0) 0) (zq1011 zq121 (loopN zq120 FUEL)):=by
 have h : zq1017 (zq1091 (zq1091 (zq504 Tryz.f36) 0) 0) = []:=by kernel_rfl
 refine zq1012 zq131 (zq1018 h lsNil) zq121 zq120 FUEL (fun rec x => ?_)
 kernel_rfl
theorem zq128 : LOk Tryz.prog (zq1091 (zq504 Tryz.f36) 0) (zq1011 zq127 (loopN zq126 FUEL)):=by
 have h : zq1017 (zq1091 (zq504 Tryz.f36) 0) = [(zq1091 (zq1091 (zq504 Tryz.f36) 0) 0),(zq1091 (zq1091 (zq504 Tryz.f36) 0) 1)]:=by kernel_rfl
 refine zq1012 zq131 (zq1018 h (zq1023 (zq1115 (t:=(zq1011 zq121 (loopN zq120 FUEL))) (by kernel_rfl) zq122) (zq1023 (zq1115 (t:=(zq1011 zq124 (loopN zq123 FUEL))) (by kernel_rfl) zq125) lsNil))) zq127 zq126 FUEL (fun rec x => ?_)
 kernel_rfl
def zq129 : Con:=con [.agg [.fl .pfx,.row .addr 28],.one (.row .lease 52),.one (.fl .str),.one (.fl .int),.one (.fl .int)] [.one (.row .lease 52),.one (.fl .addr),.one (.fl .bool)] (fun x => zq134 x.1.1 x.1.2.1 x.2.1 x.2.2.1 x.2.2.2.1 x.2.2.2.2.1)
theorem zq133 : TrOk Tryz.prog 36 zq129:=by
 have h : zq1017 (zq504 Tryz.f36) = [(zq1091 (zq504 Tryz.f36) 0)]:=by kernel_rfl
 refine zq506 zq131 Tryz.func36 (zq439 h (zq1023 (zq1115 (t:=(zq1011 zq127 (loopN zq126 FUEL))) (by kernel_rfl) zq128) lsNil)) _ _ _ (fun x => ?_)
 kernel_rfl
def zq97 : LoopS:={ n:=421,base:=4,head:={ keep:=[2,3,4,5,8,9,10],vals:=[.one (.cst (.ptr 4 0)),.one (.cst (.ptr 5 0)),.one (.cst (.ptr 6 0)),.one (.cst (.ptr 7 0)),.one (.cst (.ptr 8 0)),.one (.fl .bool),.one (.fl .int)],objs:=[.bag .addr 28 false false,.nest .pfx 0 35 false,.row .lease 52 false,.ghost,.blk [.cst (.row 1),.cst (.row 2),.fl .int] 25 true,.blk [.fl .op] 32 true,.blk [.cst (.row 9),.cst (.row 10),.fl .int] 25 true,.blk [.fl .addr] 28 true,.blk [.cst (.row 11),.cst (.row 2),.fl .int] 25 true,.nest .pfx 12 35 true,.row .lease 52 true,.nest .pfx 13 35 true,.bag .addr 28 true true,.bag .addr 28 false false] },exits:=[⟨none,{ keep:=[4,5,6],vals:=[.one (.cst (.ptr 4 0)),.one (.cst (.ptr 5 0)),.one (.fl .int)],objs:=[.bag .addr 28 false false,.nest .pfx 0 35 false,.row .lease 52 false,.ghost,.blk [.cst (.row 6),.cst (.row 7),.fl .int] 25 true,.blk [.fl .addr] 28 true,.nest .pfx 8 35 true,.row .lease 52 true,.bag .addr 28 true true] }⟩,⟨some 1,{ keep:=[3,4,5,8,9],vals:=[.one (.cst (.ptr 4 0)),.one (.cst (.ptr 5 0)),.one (.cst (.ptr 6 0)),.one (.cst (.ptr 7 0)),.one (.fl .bool)],objs:=[.bag .addr 28 false false,.nest .pfx 0 35 false,.row .lease 52 false,.ghost,.blk [.fl .op] 32 true,.blk [.cst (.row 8),.cst (.row 9),.fl .int] 25 true,.blk [.fl .addr] 28 true,.blk [.cst (.row 10),.cst (.row 2),.fl .int] 25 true,.nest .pfx 11 35 true,.row .lease 52 true,.nest .pfx 12 35 true,.bag .addr 28 true true,.bag .addr 28 false false] }⟩] }
def zq100 : LoopS:={ n:=421,base:=4,head:={ keep:=[2,4,5,8,11,12,13],vals:=[.one (.cst (.ptr 4 0)),.one (.cst (.ptr 5 0)),.one (.cst (.ptr 6 0)),.one (.cst (.ptr 7 0)),.one (.fl .int),.one (.cst (.row 8)),.one (.fl .int)],objs:=[.bag .addr 28 false false,.nest .pfx 0 35 false,.row .lease 52 false,.ghost,.blk [.cst (.row 1),.cst (.row 2),.fl .int] 25 true,.blk [.cst (.row 9),.cst (.row 10),.fl .int] 25 true,.blk [.fl .addr] 28 true,.blk [.cst (.row 1),.cst (.row 2),.fl .int] 25 true,.row .addr 28 true,.nest .pfx 11 35 true,.row .lease 52 true,.bag .addr 28 true true] },exits:=[⟨some 4,{ keep:=[2,4,5,8,11,12],vals:=[.one (.cst (.ptr 4 0)),.one (.cst (.ptr 5 0)),.one (.cst (.ptr 6 0)),.one (.cst (.ptr 7 0)),.one (.fl .int),.one (.cst (.row 8))],objs:=[.bag .addr 28 false false,.nest .pfx 0 35 false,.row .lease 52 false,.ghost,.blk [.cst (.row 1),.cst (.row 2),.fl .int] 25 true,.blk [.cst (.row 9),.cst (.row 10),.fl .int] 25 true,.blk [.fl .addr] 28 true,.blk [.cst (.row 1),.cst (.row 2),.fl .int] 25 true,.row .addr 28 true,.nest .pfx 11 35 true,.row .lease 52 true,.bag .addr 28 true true] }⟩] }
def zq103 : LoopS:={ n:=421,base:=4,head:={ keep:=[2,3,4,5,8,14,16,17],vals:=[.one (.cst (.ptr 4 0)),.one (.cst (.ptr 5 0)),.one (.cst (.ptr 6 0)),.one (.cst (.ptr 7 0)),.one (.cst (.ptr 8 0)),.one (.cst (.ptr 9 0)),.one (.cst (.row 10)),.one (.fl .int)],objs:=[.bag .addr 28 false false,.nest .pfx 0 35 false,.row .lease 52 false,.ghost,.blk [.cst (.row 1),.cst (.row 2),.fl .int] 25 true,.blk [.fl .op] 32 true,.blk [.cst (.row 11),.cst (.row 12),.fl .int] 25 true,.blk [.fl .addr] 28 true,.blk [.cst (.row 1),.cst (.row 2),.fl .int] 25 true,.blk [.fl .bool,.fl .u64,.fl .u64,.fl .int,.inn 0] 35 true,.row .lease 52 true,.nest .pfx 13 35 true,.row .lease 52 true,.bag .addr 28 true true] },exits:=[⟨some 6,{ keep:=[2,3,4,5,8,14,16],vals:=[.one (.cst (.ptr 4 0)),.one (.cst (.ptr 5 0)),.one (.cst (.ptr 6 0)),.one (.cst (.ptr 7 0)),.one (.cst (.ptr 8 0)),.one (.cst (.ptr 9 0)),.one (.cst (.row 10))],objs:=[.bag .addr 28 false false,.nest .pfx 0 35 false,.row .lease 52 false,.ghost,.blk [.cst (.row 1),.cst (.row 2),.fl .int] 25 true,.blk [.fl .op] 32 true,.blk [.cst (.row 11),.cst (.row 12),.fl .int] 25 true,.blk [.fl .addr] 28 true,.blk [.cst (.row 1),.cst (.row 2),.fl .int] 25 true,.blk [.fl .bool,.fl .u64,.fl .u64,.fl .int,.inn 0] 35 true,.row .lease 52 true,.nest .pfx 13 35 true,.row .lease 52 true,.bag .addr 28 true true] }⟩] }
def zq106 : LoopS:={ n:=421,base:=4,head:={ keep:=[2,4,5,8,14,18,19,21],vals:=[.one (.cst (.ptr 4 0)),.one (.cst (.ptr 5 0)),.one (.cst (.ptr 6 0)),.one (.cst (.ptr 7 0)),.one (.cst (.ptr 8 0)),.one (.cst (.row 9)),.one (.cst (.ptr 10 0)),.one (.fl .int)],objs:=[.bag .addr 28 false false,.nest .pfx 0 35 false,.row .lease 52 false,.ghost,.blk [.cst (.row 1),.cst (.row 2),.fl .int] 25 true,.blk [.cst (.row 11),.cst (.row 12),.fl .int] 25 true,.blk [.fl .addr] 28 true,.blk [.cst (.row 1),.cst (.row 13),.fl .int] 25 true,.blk [.fl .bool,.fl .u64,.fl .u64,.fl .int,.inn 0] 35 true,.row .lease 52 true,.blk [.fl .addr] 28 true,.nest .pfx 14 35 true,.row .lease 52 true,.row .lease 52 true,.bag .addr 28 true true] },exits:=[⟨some 8,{ keep:=[4,5,8,18,19],vals:=[.one (.cst (.ptr 4 0)),.one (.cst (.ptr 5 0)),.one (.cst (.ptr 6 0)),.one (.cst (.row 7)),.one (.cst (.ptr 8 0))],objs:=[.bag .addr 28 false false,.nest .pfx 0 35 false,.row .lease 52 false,.ghost,.blk [.cst (.row 9),.cst (.row 10),.fl .int] 25 true,.blk [.fl .addr] 28 true,.blk [.cst (.row 1),.cst (.row 11),.fl .int] 25 true,.row .lease 52 true,.blk [.fl .addr] 28 true,.nest .pfx 12 35 true,.row .lease 52 true,.row .lease 52 true,.bag .addr 28 true true] }⟩] }
def zq112 : LoopS:={ n:=421,base:=4,head:={ keep:=[4,5,8,18,19,22,23],vals:=[.one (.cst (.ptr 4 0)),.one (.cst (.ptr 5 0)),.one (.cst (.ptr 6 0)),.one (.cst (.row 7)),.one (.cst (.ptr 8 0)),.one (.fl .int),.one (.fl .int)],objs:=[.bag .addr 28 false false,.nest .pfx 0 35 false,.row .lease 52 false,.ghost,.blk [.cst (.row 9),.cst (.row 10),.fl .int] 25 true,.blk [.fl .addr] 28 true,.blk [.cst (.row 1),.cst (.row 11),.fl .int] 25 true,.row .lease 52 true,.blk [.fl .addr] 28 true,.nest .pfx 12 35 true,.row .lease 52 true,.row .lease 52 true,.bag .addr 28 true true] },exits:=[⟨some 12,{ keep:=[4,5,8,18,19,22],vals:=[.one (.cst (.ptr 4 0)),.one (.cst (.ptr 5 0)),.one (.cst (.ptr 6 0)),.one (.cst (.row 7)),.one (.cst (.ptr 8 0)),.one (.fl .int)],objs:=[.bag .addr 28 false false,.nest .pfx 0 35 false,.row .lease 52 false,.ghost,.blk [.cst (.row 9),.cst (.row 10),.fl .int] 25 true,.blk [.fl .addr] 28 true,.blk [.cst (.row 1),.cst (.row 11),.fl .int] 25 true,.row .lease 52 true,.blk [.fl .addr] 28 true,.nest .pfx 12 35 true,.row .lease 52 true,.row .lease 52 true,.bag .addr 28 true true] }⟩] }
def zq109 : LoopS:={ n:=421,base:=4,head:={ keep:=[4,5,8,18,19,22],vals:=[.one (.cst (.ptr 4 0)),.one (.cst (.ptr 5 0)),.one (.cst (.ptr 6 0)),.one (.cst (.row 7)),.one (.cst (.ptr 8 0)),.one (.fl .int)],objs:=[.bag .addr 28 false false,.nest .pfx 0 35 false,.row .lease 52 false,.ghost,.blk [.cst (.row 9),.cst (.row 10),.fl .int] 25 true,.blk [.fl .addr] 28 true,.blk [.cst (.row 1),.cst (.row 11),.fl .int] 25 true,.row .lease 52 true,.blk [.fl .addr] 28 true,.nest .pfx 12 35 true,.row .lease 52 true,.row .lease 52 true,.bag .addr 28 true true] },exits:=[⟨some 10,{ keep:=[4,5,8,19],vals:=[.one (.cst (.ptr 4 0)),.one (.cst (.ptr 5 0)),.one (.cst (.ptr 6 0)),.one (.cst (.ptr 7 0))],objs:=[.bag .addr 28 false false,.nest .pfx 0 35 false,.row .lease 52 false,.ghost,.blk [.cst (.row 8),.cst (.row 9),.fl .int] 25 true,.blk [.fl .addr] 28 true,.blk [.cst (.row 1),.cst (.row 10),.fl .int] 25 true,.blk [.fl .addr] 28 true,.nest .pfx 11 35 true,.row .lease 52 true,.row .lease 52 true,.bag .addr 28 true true] }⟩] }
def zq115 : Env:=mkEnv ty fnB [(32,zq48),(27,zq90),(26,zq193),(30,zq187),(33,zq244),(34,zq150),(31,zq229),(35,zq135),(36,zq129),(37,zq174)] [(10,(zq1011 zq97 (loopN zq96 FUEL))),(33,(zq1011 zq100 (loopN zq99 FUEL))),(48,(zq1011 zq103 (loopN zq102 FUEL))),(57,(zq1011 zq106 (loopN zq105 FUEL))),(66,(zq1011 zq112 (loopN zq111 FUEL))),(62,(zq1011 zq109 (loopN zq108 FUEL)))]
theorem zq116 : EnvOk Tryz.prog zq115:=envOk tyOk fn_ok (zq466 zq52 (zq466 zq94 (zq466 zq197 (zq466 zq191 (zq466 zq248 (zq466 zq154 (zq466 zq233 (zq466 zq139 (zq466 zq133 (zq466 zq178 zq467)))))))))) _
theorem zq113 : LOk Tryz.prog (zq1091 (zq1091 (zq504 Tryz.f8) 4) 0) (zq1011 zq112 (loopN zq111 FUEL)):=by
 have h : zq1017 (zq1091 (zq1091 (zq504 Tryz.f8) 4) 0) = []:=by kernel_rfl
 refine zq1012 zq116 (zq1018 h lsNil) zq112 zq111 FUEL (fun rec x => ?_)
 kernel_rfl
theorem zq110 : LOk Tryz.prog (zq1091 (zq504 Tryz.f8) 4) (zq1011 zq109 (loopN zq108 FUEL)):=by
 have h : zq1017 (zq1091 (zq504 Tryz.f8) 4) = [(zq1091 (zq1091 (zq504 Tryz.f8) 4) 0)]:=by kernel_rfl
 refine zq1012 zq116 (zq1018 h (zq1023 (zq1115 (t:=(zq1011 zq112 (loopN zq111 FUEL))) (by kernel_rfl) zq113) lsNil)) zq109 zq108 FUEL (fun rec x => ?_)
 kernel_rfl
theorem zq101 : LOk Tryz.prog (zq1091 (zq504 Tryz.f8) 1) (zq1011 zq100 (loopN zq99 FUEL)):=by
 have h : zq1017 (zq1091 (zq504 Tryz.f8) 1) = []:=by kernel_rfl
 refine zq1012 zq116 (zq1018 h lsNil) zq100 zq99 FUEL (fun rec x => ?_)
 kernel_rfl
theorem zq104 : LOk Tryz.prog (zq1091 (zq504 Tryz.f8) 2) (zq1011 zq103 (loopN zq102 FUEL)):=by
 have h : zq1017 (zq1091 (zq504 Tryz.f8) 2) = []:=by kernel_rfl
 refine zq1012 zq116 (zq1018 h lsNil) zq103 zq102 FUEL (fun rec x => ?_)
 kernel_rfl
theorem zq107 : LOk Tryz.prog (zq1091 (zq504 Tryz.f8) 3) (zq1011 zq106 (loopN zq105 FUEL)):=by
 have h : zq1017 (zq1091 (zq504 Tryz.f8) 3) = []:=by kernel_rfl
 refine zq1012 zq116 (zq1018 h lsNil) zq106 zq105 FUEL (fun rec x => ?_)
 kernel_rfl
theorem zq98 : LOk Tryz.prog (zq1091 (zq504 Tryz.f8) 0) (zq1011 zq97 (loopN zq96 FUEL)):=by
 have h : zq1017 (zq1091 (zq504 Tryz.f8) 0) = []:=by kernel_rfl
 refine zq1012 zq116 (zq1018 h lsNil) zq97 zq96 FUEL (fun rec x => ?_)
 kernel_rfl
def zq114 : Con:=lcon [.agg [.nest .pfx .addr 35 28 true,.row .lease 52,.fl .int],.one (.fl .op)] [.agg [.nest .pfx .addr 35 28 false,.row .lease 52,.fl .int],.one (.fl .addr),.one (.fl .int)] (fun x => zq119 x.1.1 x.1.2.1 x.1.2.2.1 x.2.1)
theorem zq118 : TrOk Tryz.prog 8 zq114:=by
 have h : zq1017 (zq504 Tryz.f8) = [(zq1091 (zq504 Tryz.f8) 0),(zq1091 (zq504 Tryz.f8) 1),(zq1091 (zq504 Tryz.f8) 2),(zq1091 (zq504 Tryz.f8) 3),(zq1091 (zq504 Tryz.f8) 4)]:=by kernel_rfl
 refine zq866 zq116 Tryz.func8 (zq439 h (zq1023 (zq1115 (t:=(zq1011 zq97 (loopN zq96 FUEL))) (by kernel_rfl) zq98) (zq1023 (zq1115 (t:=(zq1011 zq100 (loopN zq99 FUEL))) (by kernel_rfl) zq101) (zq1023 (zq1115 (t:=(zq1011 zq103 (loopN zq102 FUEL))) (by kernel_rfl) zq104) (zq1023 (zq1115 (t:=(zq1011 zq106 (loopN zq105 FUEL))) (by kernel_rfl) zq107) (zq1023 (zq1115 (t:=(zq1011 zq109 (loopN zq108 FUEL))) (by kernel_rfl) zq110) lsNil)))))) _ _ rfl rfl _ (fun x => ?_)
 kernel_rfl
def zq799 : LoopS:={ n:=50,base:=30,head:={ keep:=[1,2,3],vals:=[.one (.cst (.ptr 30 0)),.one (.fl .int),.one (.fl .int)],objs:=[.bag .addr 28 false false,.nest .pfx 0 35 false,.row .lease 52 false,.row .addr 28 false,.row .lease 52 false,.blk [.cst (.row 1),.cst (.row 2),.fl .int] 25 true,.blk [.fl .op] 32 true,.blk [.fl .bool,.fl .u64,.fl .u64,.fl .int,.cst (.row 3)] 35 true,.blk [.cst (.row 12),.cst (.row 13),.fl .int] 25 true,.blk [.fl .bool,.fl .u64,.fl .u64,.fl .int,.cst (.row 14)] 35 true,.row .lease 52 true,.blk [.cst (.row 15),.cst (.row 16),.fl .int] 25 true,.nest .pfx 17 35 true,.row .lease 52 true,.row .addr 28 true,.nest .pfx 18 35 false,.row .lease 52 false,.bag .addr 28 true true,.bag .addr 28 false false,.bag .addr 28 true true,.nest .pfx 19 35 true,.row .lease 52 true,.blk [.cst (.row 20),.cst (.row 21),.fl .int] 25 true,.bag .addr 28 true true,.nest .pfx 23 35 true,.row .lease 52 true,.blk [.fl .addr] 28 true,.row .lease 52 true,.blk [.fl .addr] 28 true,.row .lease 52 true,.blk [.cst (.row 20),.cst (.row 21),.fl .int] 25 true] },exits:=[⟨some 2,{ keep:=[1,2],vals:=[.one (.cst (.ptr 30 0)),.one (.fl .int)],objs:=[.bag .addr 28 false false,.nest .pfx 0 35 false,.row .lease 52 false,.row .addr 28 false,.row .lease 52 false,.blk [.cst (.row 1),.cst (.row 2),.fl .int] 25 true,.blk [.fl .op] 32 true,.blk [.fl .bool,.fl .u64,.fl .u64,.fl .int,.cst (.row 3)] 35 true,.blk [.cst (.row 12),.cst (.row 13),.fl .int] 25 true,.blk [.fl .bool,.fl .u64,.fl .u64,.fl .int,.cst (.row 14)] 35 true,.row .lease 52 true,.blk [.cst (.row 15),.cst (.row 16),.fl .int] 25 true,.nest .pfx 17 35 true,.row .lease 52 true,.row .addr 28 true,.nest .pfx 18 35 false,.row .lease 52 false,.bag .addr 28 true true,.bag .addr 28 false false,.bag .addr 28 true true,.nest .pfx 19 35 true,.row .lease 52 true,.blk [.cst (.row 20),.cst (.row 21),.fl .int] 25 true,.bag .addr 28 true true,.nest .pfx 23 35 true,.row .lease 52 true,.blk [.fl .addr] 28 true,.row .lease 52 true,.blk [.fl .addr] 28 true,.row .lease 52 true,.blk [.cst (.row 20),.cst (.row 21),.fl .int] 25 true] }⟩] }
def zq796 : LoopS:={ n:=50,base:=30,head:={ keep:=[1,2],vals:=[.one (.cst (.ptr 30 0)),.one (.fl .int)],objs:=[.bag .addr 28 false false,.nest .pfx 0 35 false,.row .lease 52 false,.row .addr 28 false,.row .lease 52 false,.blk [.cst (.row 1),.cst (.row 2),.fl .int] 25 true,.blk [.fl .op] 32 true,.blk [.fl .bool,.fl .u64,.fl .u64,.fl .int,.cst (.row 3)] 35 true,.blk [.cst (.row 12),.cst (.row 13),.fl .int] 25 true,.blk [.fl .bool,.fl .u64,.fl .u64,.fl .int,.cst (.row 14)] 35 true,.row .lease 52 true,.blk [.cst (.row 15),.cst (.row 16),.fl .int] 25 true,.nest .pfx 17 35 true,.row .lease 52 true,.row .addr 28 true,.nest .pfx 18 35 false,.row .lease 52 false,.bag .addr 28 true true,.bag .addr 28 false false,.bag .addr 28 true true,.nest .pfx 19 35 true,.row .lease 52 true,.blk [.cst (.row 20),.cst (.row 21),.fl .int] 25 true,.bag .addr 28 true true,.nest .pfx 23 35 true,.row .lease 52 true,.blk [.fl .addr] 28 true,.row .lease 52 true,.blk [.fl .addr] 28 true,.row .lease 52 true,.blk [.cst (.row 20),.cst (.row 21),.fl .int] 25 true] },exits:=[⟨some 0,{ keep:=[1],vals:=[.one (.cst (.ptr 30 0))],objs:=[.bag .addr 28 false false,.nest .pfx 0 35 false,.row .lease 52 false,.row .addr 28 false,.row .lease 52 false,.blk [.cst (.row 1),.cst (.row 2),.fl .int] 25 true,.blk [.fl .op] 32 true,.blk [.fl .bool,.fl .u64,.fl .u64,.fl .int,.cst (.row 3)] 35 true,.blk [.cst (.row 12),.cst (.row 13),.fl .int] 25 true,.blk [.fl .bool,.fl .u64,.fl .u64,.fl .int,.cst (.row 14)] 35 true,.row .lease 52 true,.blk [.cst (.row 15),.cst (.row 16),.fl .int] 25 true,.nest .pfx 17 35 true,.row .lease 52 true,.row .addr 28 true,.nest .pfx 18 35 false,.row .lease 52 false,.bag .addr 28 true true,.bag .addr 28 false false,.bag .addr 28 true true,.nest .pfx 19 35 true,.row .lease 52 true,.blk [.cst (.row 20),.cst (.row 21),.fl .int] 25 true,.bag .addr 28 true true,.nest .pfx 23 35 true,.row .lease 52 true,.blk [.fl .addr] 28 true,.row .lease 52 true,.blk [.fl .addr] 28 true,.row .lease 52 true,.blk [.cst (.row 20),.cst (.row 21),.fl .int] 25 true] }⟩] }
def zq793 : LoopS:={ n:=50,base:=30,head:={ keep:=[1,4],vals:=[.one (.cst (.ptr 30 0)),.one (.fl .int)],objs:=[.bag .addr 28 false false,.nest .pfx 0 35 false,.row .lease 52 false,.row .addr 28 false,.row .lease 52 false,.blk [.cst (.row 1),.cst (.row 2),.fl .int] 25 true,.blk [.fl .op] 32 true,.blk [.fl .bool,.fl .u64,.fl .u64,.fl .int,.cst (.row 3)] 35 true,.blk [.cst (.row 12),.cst (.row 13),.fl .int] 25 true,.blk [.fl .bool,.fl .u64,.fl .u64,.fl .int,.cst (.row 14)] 35 true,.row .lease 52 true,.blk [.cst (.row 15),.cst (.row 16),.fl .int] 25 true,.nest .pfx 17 35 true,.row .lease 52 true,.row .addr 28 true,.nest .pfx 18 35 false,.row .lease 52 false,.bag .addr 28 true true,.bag .addr 28 false false,.bag .addr 28 true true,.nest .pfx 19 35 true,.row .lease 52 true,.blk [.cst (.row 20),.cst (.row 21),.fl .int] 25 true,.bag .addr 28 true true,.nest .pfx 23 35 true,.row .lease 52 true,.blk [.fl .addr] 28 true,.row .lease 52 true,.blk [.fl .addr] 28 true,.row .lease 52 true,.blk [.cst (.row 20),.cst (.row 21),.fl .int] 25 true] },exits:=[⟨some 4,{ keep:=[],vals:=[],objs:=[.bag .addr 28 false false,.nest .pfx 0 35 false,.row .lease 52 false,.row .addr 28 false,.row .lease 52 false,.blk [.cst (.row 1),.cst (.row 2),.fl .int] 25 true,.blk [.fl .op] 32 true,.blk [.fl .bool,.fl .u64,.fl .u64,.fl .int,.cst (.row 3)] 35 true,.blk [.cst (.row 12),.cst (.row 13),.fl .int] 25 true,.blk [.fl .bool,.fl .u64,.fl .u64,.fl .int,.cst (.row 14)] 35 true,.row .lease 52 true,.blk [.cst (.row 15),.cst (.row 16),.fl .int] 25 true,.nest .pfx 17 35 true,.row .lease 52 true,.row .addr 28 true,.nest .pfx 18 35 false,.row .lease 52 false,.bag .addr 28 true true,.bag .addr 28 false false,.bag .addr 28 true true,.nest .pfx 19 35 true,.row .lease 52 true,.blk [.cst (.row 20),.cst (.row 21),.fl .int] 25 true,.bag .addr 28 true true,.nest .pfx 23 35 true,.row .lease 52 true,.blk [.fl .addr] 28 true,.row .lease 52 true,.blk [.fl .addr] 28 true,.row .lease 52 true] }⟩] }
def zq801 : Env:=mkEnv ty fnB [] [(5,(zq1011 zq799 (loopN zq798 FUEL))),(2,(zq1011 zq796 (loopN zq795 FUEL))),(10,(zq1011 zq793 (loopN zq792 FUEL)))]
theorem zq802 : EnvOk Tryz.prog zq801:=envOk tyOk fn_ok zq467 _
theorem zq800 : LOk Tryz.prog (zq1091 (zq1091 (zq504 Tryz.f16) 0) 0) (zq1011 zq799 (loopN zq798 FUEL)):=by
 have h : zq1017 (zq1091 (zq1091 (zq504 Tryz.f16) 0) 0) = []:=by kernel_rfl
 refine zq1012 zq802 (zq1018 h lsNil) zq799 zq798 FUEL (fun rec x => ?_)
 kernel_rfl
theorem zq794 : LOk Tryz.prog (zq1091 (zq504 Tryz.f16) 1) (zq1011 zq793 (loopN zq792 FUEL)):=by
 have h : zq1017 (zq1091 (zq504 Tryz.f16) 1) = []:=by kernel_rfl
 refine zq1012 zq802 (zq1018 h lsNil) zq793 zq792 FUEL (fun rec x => ?_)
 kernel_rfl
theorem zq797 : LOk Tryz.prog (zq1091 (zq504 Tryz.f16) 0) (zq1011 zq796 (loopN zq795 FUEL)):=by
 have h : zq1017 (zq1091 (zq504 Tryz.f16) 0) = [(zq1091 (zq1091 (zq504 Tryz.f16) 0) 0)]:=by kernel_rfl
 refine zq1012 zq802 (zq1018 h (zq1023 (zq1115 (t:=(zq1011 zq799 (loopN zq798 FUEL))) (by kernel_rfl) zq800) lsNil)) zq796 zq795 FUEL (fun rec x => ?_)
 kernel_rfl
theorem zq803 : TrOk Tryz.prog 16 (zq708 zq801 Tryz.f16):=by
 have h : zq1017 (zq504 Tryz.f16) = [(zq1091 (zq504 Tryz.f16) 0),(zq1091 (zq504 Tryz.f16) 1)]:=by kernel_rfl
 exact zq709 zq802 Tryz.func16 (zq439 h (zq1023 (zq1115 (t:=(zq1011 zq796 (loopN zq795 FUEL))) (by kernel_rfl) zq797) (zq1023 (zq1115 (t:=(zq1011 zq793 (loopN zq792 FUEL))) (by kernel_rfl) zq794) lsNil)))
def zq780 : LoopS:={ n:=132,base:=5,head:={ keep:=[3,4,5,6,7,11,12,13,14,15,16,20,23,26],vals:=[.one (.cst (.row 4)),.one (.fl .str),.one (.cst (.ptr 5 0)),.one (.cst (.ptr 6 0)),.one (.cst (.ptr 7 0)),.one (.cst (.ptr 8 0)),.one (.cst (.ptr 9 0)),.one (.cst (.row 10)),.one (.fl .int),.one (.cst (.ptr 11 0)),.one (.fl .int),.one (.cst (.row 12)),.one (.cst (.row 13)),.one (.fl .int)],objs:=[.bag .addr 28 false false,.nest .pfx 0 35 false,.row .lease 52 false,.row .addr 28 false,.row .lease 52 false,.blk [.cst (.row 1),.cst (.row 2),.fl .int] 25 true,.blk [.fl .op] 32 true,.blk [.fl .bool,.fl .u64,.fl .u64,.fl .int,.cst (.row 3)] 35 true,.blk [.cst (.row 14),.cst (.row 15),.fl .int] 25 true,.blk [.fl .bool,.fl .u64,.fl .u64,.fl .int,.cst (.row 16)] 35 true,.row .lease 52 true,.blk [.cst (.row 17),.cst (.row 18),.fl .int] 25 true,.row .lease 52 true,.row .lease 52 true,.nest .pfx 19 35 true,.row .lease 52 true,.row .addr 28 true,.nest .pfx 20 35 false,.row .lease 52 false,.bag .addr 28 true true,.bag .addr 28 false false] },exits:=[⟨some 2,{ keep:=[3,4,5,6,7,11,12,13,14,15,16,23],vals:=[.one (.cst (.row 4)),.one (.fl .str),.one (.cst (.ptr 5 0)),.one (.cst (.ptr 6 0)),.one (.cst (.ptr 7 0)),.one (.cst (.ptr 8 0)),.one (.cst (.ptr 9 0)),.one (.cst (.row 10)),.one (.fl .int),.one (.cst (.ptr 11 0)),.one (.fl .int),.one (.cst (.row 12))],objs:=[.bag .addr 28 false false,.nest .pfx 0 35 false,.row .lease 52 false,.row .addr 28 false,.row .lease 52 false,.blk [.cst (.row 1),.cst (.row 2),.fl .int] 25 true,.blk [.fl .op] 32 true,.blk [.fl .bool,.fl .u64,.fl .u64,.fl .int,.cst (.row 3)] 35 true,.blk [.cst (.row 13),.cst (.row 14),.fl .int] 25 true,.blk [.fl .bool,.fl .u64,.fl .u64,.fl .int,.cst (.row 15)] 35 true,.row .lease 52 true,.blk [.cst (.row 16),.cst (.row 17),.fl .int] 25 true,.row .lease 52 true,.nest .pfx 18 35 true,.row .lease 52 true,.row .addr 28 true,.nest .pfx 19 35 false,.row .lease 52 false,.bag .addr 28 true true,.bag .addr 28 false false] }⟩] }
def zq783 : LoopS:={ n:=132,base:=5,head:={ keep:=[3,4,5,6,7,11,12,13,14,15,16,23,27],vals:=[.one (.cst (.row 4)),.one (.fl .str),.one (.cst (.ptr 5 0)),.one (.cst (.ptr 6 0)),.one (.cst (.ptr 7 0)),.one (.cst (.ptr 8 0)),.one (.cst (.ptr 9 0)),.one (.cst (.row 10)),.one (.fl .int),.one (.cst (.ptr 11 0)),.one (.fl .int),.one (.cst (.row 12)),.one (.fl .int)],objs:=[.bag .addr 28 false false,.nest .pfx 0 35 false,.row .lease 52 false,.row .addr 28 false,.row .lease 52 false,.blk [.cst (.row 1),.cst (.row 2),.fl .int] 25 true,.blk [.fl .op] 32 true,.blk [.fl .bool,.fl .u64,.fl .u64,.fl .int,.cst (.row 3)] 35 true,.blk [.cst (.row 13),.cst (.row 14),.fl .int] 25 true,.blk [.fl .bool,.fl .u64,.fl .u64,.fl .int,.cst (.row 15)] 35 true,.row .lease 52 true,.blk [.cst (.row 16),.cst (.row 17),.fl .int] 25 true,.row .lease 52 true,.nest .pfx 18 35 true,.row .lease 52 true,.row .addr 28 true,.nest .pfx 19 35 false,.row .lease 52 false,.bag .addr 28 true true,.bag .addr 28 false false] },exits:=[⟨some 4,{ keep:=[3,4,5,6,7,11,12,13,14,15,16],vals:=[.one (.cst (.row 4)),.one (.fl .str),.one (.cst (.ptr 5 0)),.one (.cst (.ptr 6 0)),.one (.cst (.ptr 7 0)),.one (.cst (.ptr 8 0)),.one (.cst (.ptr 9 0)),.one (.cst (.row 10)),.one (.fl .int),.one (.cst (.ptr 11 0)),.one (.fl .int)],objs:=[.bag .addr 28 false false,.nest .pfx 0 35 false,.row .lease 52 false,.row .addr 28 false,.row .lease 52 false,.blk [.cst (.row 1),.cst (.row 2),.fl .int] 25 true,.blk [.fl .op] 32 true,.blk [.fl .bool,.fl .u64,.fl .u64,.fl .int,.cst (.row 3)] 35 true,.blk [.cst (.row 12),.cst (.row 13),.fl .int] 25 true,.blk [.fl .bool,.fl .u64,.fl .u64,.fl .int,.cst (.row 14)] 35 true,.row .lease 52 true,.blk [.cst (.row 15),.cst (.row 16),.fl .int] 25 true,.nest .pfx 17 35 true,.row .lease 52 true,.row .addr 28 true,.nest .pfx 18 35 false,.row .lease 52 false,.bag .addr 28 true true,.bag .addr 28 false false] }⟩] }
def zq786 : LoopS:={ n:=132,base:=5,head:={ keep:=[3,4,5,6,7,11,12,13,14,15,16],vals:=[.one (.cst (.row 4)),.one (.fl .str),.one (.cst (.ptr 5 0)),.one (.cst (.ptr 6 0)),.one (.cst (.ptr 7 0)),.one (.cst (.ptr 8 0)),.one (.cst (.ptr 9 0)),.one (.cst (.row 10)),.one (.fl .int),.one (.cst (.ptr 11 0)),.one (.fl .int)],objs:=[.bag .addr 28 false false,.nest .pfx 0 35 false,.row .lease 52 false,.row .addr 28 false,.row .lease 52 false,.blk [.cst (.row 1),.cst (.row 2),.fl .int] 25 true,.blk [.fl .op] 32 true,.blk [.fl .bool,.fl .u64,.fl .u64,.fl .int,.cst (.row 3)] 35 true,.blk [.cst (.row 12),.cst (.row 13),.fl .int] 25 true,.blk [.fl .bool,.fl .u64,.fl .u64,.fl .int,.cst (.row 14)] 35 true,.row .lease 52 true,.blk [.cst (.row 15),.cst (.row 16),.fl .int] 25 true,.nest .pfx 17 35 true,.row .lease 52 true,.row .addr 28 true,.nest .pfx 18 35 false,.row .lease 52 false,.bag .addr 28 true true,.bag .addr 28 false false] },exits:=[⟨none,{ keep:=[10],vals:=[.one (.fl .bool)],objs:=[.bag .addr 28 false false,.nest .pfx 0 35 false,.row .lease 52 false,.row .addr 28 false,.row .lease 52 false] }⟩,⟨some 0,{ keep:=[],vals:=[],objs:=[.bag .addr 28 false false,.nest .pfx 0 35 false,.row .lease 52 false,.row .addr 28 false,.row .lease 52 false] }⟩] }
def zq777 : List (Nat × JoinS):=[(2000003,{ n:=132,exits:=[⟨some BIG,{ keep:=[3,4,5,6,7,11,12,13],vals:=[.one (.cst (.row 4)),.one (.fl .str),.one (.cst (.ptr 5 0)),.one (.cst (.ptr 6 0)),.one (.cst (.ptr 7 0)),.one (.cst (.ptr 8 0)),.one (.cst (.ptr 9 0)),.one (.cst (.row 10))],objs:=[.bag .addr 28 false false,.nest .pfx 0 35 false,.row .lease 52 false,.row .addr 28 false,.row .lease 52 false,.blk [.cst (.row 1),.cst (.row 2),.fl .int] 25 true,.blk [.fl .op] 32 true,.blk [.fl .bool,.fl .u64,.fl .u64,.fl .int,.cst (.row 3)] 35 true,.blk [.cst (.row 11),.cst (.row 12),.fl .int] 25 true,.blk [.fl .bool,.fl .u64,.fl .u64,.fl .int,.cst (.row 13)] 35 true,.row .lease 52 true,.nest .pfx 14 35 true,.row .lease 52 true,.row .addr 28 true,.bag .addr 28 true true] }⟩] })]
def zq789 : Env:=mkEnv ty fnB [(4,zq846),(5,zq825),(6,zq810),(7,zq84),(8,zq114),(9,zq1566),(10,zq851),(11,zq895),(12,zq889),(13,zq220),(14,zq211),(15,zq202),(16,(zq708 zq801 Tryz.f16))] [(20,(zq1011 zq780 (loopN zq779 FUEL))),(24,(zq1011 zq783 (loopN zq782 FUEL))),(9,(zq1011 zq786 (loopN zq785 FUEL)))] zq777
theorem zq790 : EnvOk Tryz.prog zq789:=envOk tyOk fn_ok (zq466 zq849 (zq466 zq828 (zq466 zq814 (zq466 zq88 (zq466 zq118 (zq466 zq1570 (zq466 zq855 (zq466 zq899 (zq466 zq893 (zq466 zq223 (zq466 zq215 (zq466 zq205 (zq466 zq803 zq467))))))))))))) _ _
theorem zq784 : LOk Tryz.prog (zq1091 (zq1091 (zq504 Tryz.f3) 0) 1) (zq1011 zq783 (loopN zq782 FUEL)):=by
 have h : zq1017 (zq1091 (zq1091 (zq504 Tryz.f3) 0) 1) = []:=by kernel_rfl
 refine zq1012 zq790 (zq1018 h lsNil) zq783 zq782 FUEL (fun rec x => ?_)
 kernel_rfl
theorem zq781 : LOk Tryz.prog (zq1091 (zq1091 (zq504 Tryz.f3) 0) 0) (zq1011 zq780 (loopN zq779 FUEL)):=by
 have h : zq1017 (zq1091 (zq1091 (zq504 Tryz.f3) 0) 0) = []:=by kernel_rfl
 refine zq1012 zq790 (zq1018 h lsNil) zq780 zq779 FUEL (fun rec x => ?_)
 kernel_rfl
theorem zq787 : LOk Tryz.prog (zq1091 (zq504 Tryz.f3) 0) (zq1011 zq786 (loopN zq785 FUEL)):=by
 have h : zq1017 (zq1091 (zq504 Tryz.f3) 0) = [(zq1091 (zq1091 (zq504 Tryz.f3) 0) 0),(zq1091 (zq1091 (zq504 Tryz.f3) 0) 1)]:=by kernel_rfl
 refine zq1012 zq790 (zq1018 h (zq1023 (zq1115 (t:=(zq1011 zq780 (loopN zq779 FUEL))) (by kernel_rfl) zq781) (zq1023 (zq1115 (t:=(zq1011 zq783 (loopN zq782 FUEL))) (by kernel_rfl) zq784) lsNil))) zq786 zq785 FUEL (fun rec x => ?_)
 kernel_rfl
theorem zq791 (f0 : type_of% zq850) (f1 : type_of% zq829) (f2 : type_of% zq815) (f3 : type_of% zq89) (f4 : type_of% zq119) (g2 : type_of% (loopN zq785 FUEL)) (x : PsT [.agg [.nest .pfx .addr 35 28 true,.row .lease 52,.fl .int],.one (.fl .op),.agg [.fl .pfx,.row .addr 28],.one (.row .lease 52),.one (.fl .str)]) : ixF (mkEnv ty fnB [(4,(con [] [.one (.fl .bool)] (fun x => f0))),(5,(con [] [.one (.fl .bool)] (fun x => f1))),(6,(con [.agg [.nest .pfx .addr 35 28 true,.row .lease 52,.fl .int]] [.agg [.nest .pfx .addr 35 28 true,.row .lease 52,.fl .int]] (fun x => f2 x.1.1 x.1.2.1 x.1.2.2.1))),(7,(con [.agg [.nest .pfx .addr 35 28 true,.row .lease 52,.fl .int]] [.one (.fl .int)] (fun x => f3 x.1.1 x.1.2.1 x.1.2.2.1))),(8,(lcon [.agg [.nest .pfx .addr 35 28 true,.row .lease 52,.fl .int],.one (.fl .op)] [.agg [.nest .pfx .addr 35 28 false,.row .lease 52,.fl .int],.one (.fl .addr),.one (.fl .int)] (fun x => f4 x.1.1 x.1.2.1 x.1.2.2.1 x.2.1))),(9,zq1566),(10,zq851),(11,zq895),(12,zq889),(13,zq220),(14,zq211),(15,zq202),(16,(zq708 zq801 Tryz.f16))] [(20,(zq1011 zq780 (loopN zq779 FUEL))),(24,(zq1011 zq783 (loopN zq782 FUEL))),(9,(zq1011 zq786 g2))] zq777) Tryz.f3 (encA false [.agg [.nest .pfx .addr 35 28 true,.row .lease 52,.fl .int],.one (.fl .op),.agg [.fl .pfx,.row .addr 28],.one (.row .lease 52),.one (.fl .str)] x 0).1 (encA false [.agg [.nest .pfx .addr 35 28 true,.row .lease 52,.fl .int],.one (.fl .op),.agg [.fl .pfx,.row .addr 28],.one (.row .lease 52),.one (.fl .str)] x 0).2 (resR [.one (.fl .bool)]) = zq776 f0 f1 f2 f3 f4 g2 x.1.1 x.1.2.1 x.1.2.2.1 x.2.1 x.2.2.1.1 x.2.2.1.2.1 x.2.2.2.1 x.2.2.2.2.1:=by
 kernel_rfl
def zq788 : Con:=con [.agg [.nest .pfx .addr 35 28 true,.row .lease 52,.fl .int],.one (.fl .op),.agg [.fl .pfx,.row .addr 28],.one (.row .lease 52),.one (.fl .str)] [.one (.fl .bool)] (fun x => zq805 x.1.1 x.1.2.1 x.1.2.2.1 x.2.1 x.2.2.1.1 x.2.2.1.2.1 x.2.2.2.1 x.2.2.2.2.1)
theorem zq804 : TrOk Tryz.prog 3 zq788:=by
 have h : zq1017 (zq504 Tryz.f3) = [(zq1091 (zq504 Tryz.f3) 0)]:=by kernel_rfl
 refine zq506 zq790 Tryz.func3 (zq439 h (zq1023 (zq1115 (t:=(zq1011 zq786 (loopN zq785 FUEL))) (by kernel_rfl) zq787) lsNil)) _ _ _ (fun x => ?_)
 exact zq791 zq850 zq829 zq815 zq89 zq119 (loopN zq785 FUEL) x
end Go.Proofs.YtpnpfgihgfbipaaGreat
namespace Go.Proofs.YtpnpfgihgfbipaaGreat
open Go Go.Ma Go.ChangeShapes Go.WideShapes Go.ChangeAt Go.RowKit
set_option linter.unusedVariables false
theorem zq1416 : ownKnob Tryz.prog.godebug = none:=by kernel_rfl
theorem zq1411 : laidOutB Tryz.prog = true:=by kernel_rfl
theorem zq1414 {H : Type} (d : DataW H) : 1 ≤ Rows.uptoBulk d:=by
 cases d with
 | lit l => cases l <;> simp [Rows.uptoBulk]
 | _ => simp [Rows.uptoBulk]
theorem zq1412 {H : Type} : ∀ l : List (DataW H),l.length ≤ Rows.uptoBulkAll l
 | [] => Nat.zero_le _
 | d :: r => by
  have h1:=zq1414 d
  have h2:=zq1412 r
  simp only [Rows.uptoBulkAll,List.length_cons]
  omega
theorem zq1417 {H : Type} {d : DataW H} : ∀ {l : List (DataW H)},d ∈ l → Rows.uptoBulk d ≤ Rows.uptoBulkAll l
 | e :: r,h => by
  simp only [Rows.uptoBulkAll]
  rcases zc28.1 h with rfl | h
  ·omega
  ·have:=zq1417 h
   omega
theorem zq1419 {H : Type} : Small (H:=H) 1048576 (fun d => Rows.uptoBulk d ≤ 1048576):=by
 refine ⟨fun es sp _ h => ?_,fun l q hq h => ?_,fun es sp q hq h => ?_,fun s _ h => ?_⟩
 ·have h1:=zq1412 es
  simp only [Rows.uptoBulk] at h
  omega
 ·have h1:=zq1417 hq
  simp only [Rows.uptoBulk] at h
  omega
 ·have h1:=zq1417 hq
  simp only [Rows.uptoBulk] at h
  omega
 ·simp only [Rows.uptoBulk] at h
  omega
theorem zq1418 : ∀ x,PsIn [.agg [.nest .pfx .addr 35 28 true,.row .lease 52,.fl .int],.one (.fl .op),.agg [.fl .pfx,.row .addr 28],.one (.row .lease 52),.one (.fl .str)] x → PsLe 1048576 [.agg [.nest .pfx .addr 35 28 true,.row .lease 52,.fl .int],.one (.fl .op),.agg [.fl .pfx,.row .addr 28],.one (.row .lease 52),.one (.fl .str)] x → (fun x => zq805 x.1.1 x.1.2.1 x.1.2.2.1 x.2.1 x.2.2.1.1 x.2.2.1.2.1 x.2.2.2.1 x.2.2.2.2.1) x = some ((true : Bool),()):=fun x hx hl => zq256 ⟨hx.1.1.1,hx.1.1.2.1,hx.1.1.2.2,hx.1.2.1⟩ x.1.2.2.1 hx.2.1 hx.2.2.1.1 hx.2.2.1.2.1 hx.2.2.2.1 hx.2.2.2.2.1 hl.1.1.1 hl.1.1.2 hl.1.2.1 hl.2.2.1.2.1 hl.2.2.2.1
set_option maxRecDepth 100000 in
theorem zq1410 (H : Type) (enc : TypeId × Value → H) (W : World) (base : Nat) (args : Array Value) (ds gs : List (DataW H)) (before : List MemPlace)
  (hval : ∀ (j : Nat) t v,Tryz.f3.params[j]? = some t → args[j]? = some v → Value.okWide Tryz.prog W .any base t v)
  (hW : DataW.Whole enc Tryz.prog Tryz.f3.params.toList Rows.restStatesSpec.vars false W args.toList ds gs before) (hk : Rows.uptoSmall H (ds ++ gs) = true) :
  Calls Tryz.prog 3 args W fun e W' => ∃ v,e = .returned v ∧ Rows.restStatesSpec.post enc Tryz.prog Tryz.f3 false true false false W args v W':=by
 have hW':=hW
 obtain ⟨p,q,hA0,hV,rfl,hfz,hnd⟩:=hW
 have hA : DataW.TrodAll enc Tryz.prog W 0 (fun _ => true) true Tryz.f3.params.toList args.toList ds p:=hA0
 rw [Tryz.params3] at hA hval
 have hA2:=hA
 obtain ⟨v0,vs0,d0,ds0,p0,q0,hargs,rfl,rfl,h0,r0⟩:=trodAll_cons hA
 obtain ⟨v1,vs1,d1,ds1,p1,q1,rfl,rfl,rfl,h1,r1⟩:=trodAll_cons r0
 obtain ⟨v2,vs2,d2,ds2,p2,q2,rfl,rfl,rfl,h2,r2⟩:=trodAll_cons r1
 obtain ⟨v3,vs3,d3,ds3,p3,q3,rfl,rfl,rfl,h3,r3⟩:=trodAll_cons r2
 obtain ⟨v4,vs4,d4,ds4,p4,q4,rfl,rfl,rfl,h4,r4⟩:=trodAll_cons r3
 obtain ⟨rfl,rfl,rfl⟩:=trodAll_nil r4
 obtain rfl : args = #[v0,v1,v2,v3,v4]:=by cases args;simp_all
 obtain ⟨rfl,rfl⟩:=trodVars_none hV
 have hb : Rows.uptoBulkAll ([d0,d1,d2,d3,d4] ++ []) ≤ 1048576:=of_decide_eq_true hk
 rw [List.append_nil] at hb
 have call:=zq806 (enc:=enc) zq1419 (Glob.none (by kernel_rfl) (by kernel_rfl) (by kernel_rfl) (by kernel_rfl) (by kernel_rfl) (by kernel_rfl)) zq804 zq1418 (fun x => rfl) (fun x => rfl) (ts:=[25,32,35,23,9]) (vs:=[v0,v1,v2,v3,v4]) (by kernel_rfl) (fun j t v h1 h2 => hval j t v (by simpa using h1) (by simpa using h2)) hA2 (fun d hd => Nat.le_trans (zq1417 hd) hb)
 refine call.mono fun e W' ⟨he,bel⟩ => ?_
 subst he
 exact ⟨_,rfl,_,_,_,[],_,[],hW',trodAll_mk1 (shut_bool Tryz.underlying4 _),zq371 zq1411 bel _ _ _ _ (by kernel_rfl) hA2,rfl,bel.frame _,fun h => by cases h⟩
set_option maxRecDepth 100000 in
theorem zq1413 (os : Os) (started : os.Started) (H : Type) (enc : TypeId × Value → H) (F : Stop.Interp) :
  ReturnsInHanded {} Tryz.checked os 3 .any ((Rows.OpenSpec.upto Rows.restStatesSpec).pre6 enc Tryz.prog Tryz.f3 Rows.restStatesUptoRow.domain false) (((Rows.OpenSpec.upto Rows.restStatesSpec).at F).post enc Tryz.prog Tryz.f3 false true false false):=by
 refine returnsInHanded_of_cond (C:=Tryz.checked) (s:=Rows.OpenSpec.upto Rows.restStatesSpec) (k:=Rows.uptoSmall) rfl zq1416 started (by kernel_rfl) Tryz.func3
  (OpenSpec.witness (enc:=enc) (C:=Tryz.checked) (s:=Rows.OpenSpec.upto Rows.restStatesSpec) (k:=Rows.uptoSmall) rfl false ⟨#[],#[.agg #[.slice none 0 0,.slice none 0 0,.int .i64 0],.agg #[.int .i64 0,.bool false,.int .u64 0,.int .u64 0,.int .i64 0,.bool false,.int .u64 0,.int .u64 0,.string ByteArray.empty,.int .i64 0,.int .i64 0],.agg #[.bool false,.int .u64 0,.int .u64 0,.int .i64 0,.slice none 0 0],.slice none 0 0,.string ByteArray.empty],[]⟩ 8 (by kernel_rfl) (by kernel_rfl) (by kernel_rfl)
   (x:=([.agg [.nil,.nil,.lit (.int .i64 0)],.agg [.lit (.int .i64 0),.agg [.agg [.lit (.bool false),.lit (.int .u64 0),.lit (.int .u64 0)],.lit (.int .i64 0)],.agg [.lit (.bool false),.lit (.int .u64 0),.lit (.int .u64 0)],.lit (.string []),.lit (.int .i64 0),.lit (.int .i64 0)],.agg [.agg [.agg [.lit (.bool false),.lit (.int .u64 0),.lit (.int .u64 0)],.lit (.int .i64 0)],.nil],.nil,.lit (.string [])],[],[])) (by kernel_rfl) rfl (by kernel_rfl)) ?_
 intro W base args ds gs before hval hW _ hk _
 exact zq1410 H enc W base args ds gs before hval hW hk
theorem zq1415 : Rows.restStatesUptoRow.holds Tryz.pinned (Rows.OpenSpec.upto Rows.restStatesSpec) :=
 OpenClaim.holds_of_cond 3 Tryz.f3 rfl rfl rfl rfl rfl rfl rfl ⟨rfl,rfl,rfl,rfl,rfl⟩ rfl rfl rfl rfl rfl (by kernel_rfl) Tryz.func3 (by kernel_rfl)
  (of_decide_eq_true (by kernel_rfl)) (by unfold Func.isWrapper;rw [if_neg (of_decide_eq_false (by kernel_rfl))];exact ⟨rfl,rfl⟩)
  (fun os started H enc _ F => zq1413 os started H enc F)
theorem restStates_said : Rows.RestStatesUptoSaid:=zq1415
end Go.Proofs.YtpnpfgihgfbipaaGreat
