/-
  addr.told comes to its plain form: a walk by hand: a deferred call that finds no panic.
-/
import Derived.Test.YtaicmdnpjgijjaaGreatDoorWm
import Derived.Test.YtaicmdnpjgijjaaGreatDoorQc
import Derived.Test.YtaicmdnpjgijjaaGreatDoorMaR
import Derived.WalkKit
import Derived.ProofKit
import Derived.Defers
import Derived.Recover
import Derived.Laws.Pointers
namespace Go.Proofs.YtaicmdnpjgijjaaGreatDoor
open Go Go.Ma Go.RowKit Go.Proofs
theorem set3 {w : World} {N : Nat} {x y z a b c : Value} {t : TypeId} (h : w.heap[N]? = some (Go.Obj.cells #[x, y, z] t (0, 0))) :
    (((w.setCell ⟨N, 0, none⟩ a).setCell ⟨N, 1, none⟩ b).setCell ⟨N, 2, none⟩ c).heap[N]? = some (Go.Obj.cells #[a, b, c] t (0, 0)) ∧
    (∀ k, k ≠ N → (((w.setCell ⟨N, 0, none⟩ a).setCell ⟨N, 1, none⟩ b).setCell ⟨N, 2, none⟩ c).heap[k]? = w.heap[k]?) ∧
    Below N w (((w.setCell ⟨N, 0, none⟩ a).setCell ⟨N, 1, none⟩ b).setCell ⟨N, 2, none⟩ c) := by
  obtain ⟨h1, h2, _⟩ := setCells_spec w N 0 [a, b, c] #[x, y, z] t (0, 0) h
  refine ⟨h1, h2, ?_⟩
  exact (((Below.refl N w).setCell (p := ⟨N, 0, none⟩) (Nat.le_refl _) _).setCell (p := ⟨N, 1, none⟩) (Nat.le_refl _) _).setCell (p := ⟨N, 2, none⟩) (Nat.le_refl _) _
theorem three_cells {w : World} {N : Nat} {a b c : Value} {t : TypeId} (this : w.heap[N]? = some (Go.Obj.cells #[a, b, c] t (0, 0))) :
    w.cell? ⟨N, 0, none⟩ = some a ∧ w.cell? ⟨N, 1, none⟩ = some b ∧ w.cell? ⟨N, 2, none⟩ = some c ∧ w.frozen? ⟨N, 0, none⟩ = false ∧ w.frozen? ⟨N, 1, none⟩ = false ∧ w.frozen? ⟨N, 2, none⟩ = false := by
  refine ⟨?_, ?_, ?_, ?_, ?_, ?_⟩ <;> simp [World.cell?, World.frozen?, this]
theorem heap_push (w : World) (o : Go.Obj) (k : Nat) : (w.alloc o).heap[k]? = if k = w.heap.size then some o else w.heap[k]? := by
  show (w.heap.push o)[k]? = _
  exact Array.getElem?_push
theorem heap_below {A C : World} (hb : Below A.heap.size A C) {b : Nat} {o : Go.Obj} (h : A.heap[b]? = some o) : C.heap[b]? = some o := (hb.block b (Array.getElem?_eq_some_iff.1 h).1).trans h
theorem cell_of_box_l {W : World} {B : Nat} {v : Value} {t : TypeId} (h : W.heap[B]? = some (Go.Obj.cells #[v] t (0, 0))) : W.cell? ⟨B, 0, none⟩ = some v ∧ W.frozen? ⟨B, 0, none⟩ = false := by
  constructor <;> simp [World.cell?, World.frozen?, h]
theorem told_idle (p q : Addr) (w : World) :
    CallsD Tryz.prog 58 #[.pointer (some p), .pointer (some q)] .returning w fun e u' w' => e = .returned (.tuple #[]) ∧ u' = .returning ∧ w' = w := by
  refine callsD_of_wpS Tryz.func58 rfl fun c₀ cs hu => ?_
  apply wpS_seq
  apply wpS_region
  simp [wpOpsS, go_sem, recoverD, hu, Tryz.ntmps58, Exit.thenS]
  apply wpS_seq
  apply wpS_region
  simp [wpOpsS, go_sem, Exit.thenS]
  refine wpS_cond (t := false) (by simp [Act.eval, Array.replicate]) ?_
  simp only [Bool.false_eq_true, if_false]
  refine wpS_of_wp (wp_skip ?_)
  cases c₀
  simp_all [bodyPostS, results, Tryz.results58]
set_option maxRecDepth 100000 in
set_option maxHeartbeats 4000000 in
theorem told_walk (s : ByteArray) (u : Int) (w : World) (h1 : strings_Contains_t s ⟨#[58]⟩ = some (false, ())) (h2 : addr_four_t s = some (u, ())) :
    Calls Tryz.prog 50 #[.string s] w fun e w' => e = .returned (.tuple #[.agg #[.bool false, .int .u64 0, .int .u64 u], .bool true]) ∧ Below w.heap.size w w' := by
  have hmf : ∀ (fn : Fn) (first cap : Array Value) (w : World), (Instr.makeFunc fn first cap).run Tryz.prog w = .ok (.func fn first cap) w := fun _ _ _ _ => rfl
  have HC : Hid (∀ W, Calls Tryz.prog 59 #[.string s, .string ⟨#[58]⟩] W fun e w' => e = .returned (.bool false) ∧ Below W.heap.size W w') := fun W => by
    have ha := (fl_seg (k := .str) W (fun _ => Go.undef) s [.string s] 0 (fun _ => rfl)).app (fl_seg (k := .str) W (fun _ => Go.undef) (⟨#[58]⟩ : ByteArray) [.string ⟨#[58]⟩] 0 (fun _ => rfl))
    refine (flat_calls strings_Contains_ok (x := (s, ⟨#[58]⟩, ())) h1 rfl rfl ha).mono ?_
    rintro e w' ⟨⟨ρ', rfl⟩, hb'⟩
    exact ⟨rfl, hb'⟩
  have HF : Hid (∀ W, Calls Tryz.prog 61 #[.string s] W fun e w' => e = .returned (.int .u64 u) ∧ Below W.heap.size W w') := fun W => by
    have ha := (fl_seg (k := .str) W (fun _ => Go.undef) s [.string s] 0 (fun _ => rfl))
    refine (flat_calls addr_four_ok (x := (s, ())) h2 rfl rfl ha).mono ?_
    rintro e w' ⟨⟨ρ', rfl⟩, hb'⟩
    exact ⟨rfl, hb'⟩
  go_enter_defers Tryz.func50, Tryz.ntmps50
  have hz1 : ((w.alloc (.cells #[.bool false, .int .u64 0, .int .u64 0] 24)).alloc (.cells #[.bool false] 4)).heap[w.heap.size]? = some (.cells #[.bool false, .int .u64 0, .int .u64 0] 24 (0, 0)) := by
    rw [heap_push, if_neg (by simp only [World.size_alloc]; omega), heap_push, if_pos rfl]
  have hz2 : ((w.alloc (.cells #[.bool false, .int .u64 0, .int .u64 0] 24)).alloc (.cells #[.bool false] 4)).heap[w.heap.size + 1]? = some (.cells #[.bool false] 4 (0, 0)) := by
    rw [heap_push, if_pos (by simp)]
  have hz3 : Below w.heap.size w ((w.alloc (.cells #[.bool false, .int .u64 0, .int .u64 0] 24)).alloc (.cells #[.bool false] 4)) := ((Below.refl _ w).alloc (Nat.le_refl _) _).alloc (by simp) _
  go_wp2_with (first | (go_at_call 59; refine (HC.out _).mono ?_; rintro e w2 ⟨rfl, hb2⟩) | (go_at_call 61; refine (HF.out _).mono ?_; rintro e w3 ⟨rfl, hb3⟩; have i3 := heap_below hb3 (heap_below hb2 hz1); have i4 := heap_below hb3 (heap_below hb2 hz2); have hb4 := (hz3.trans (hb2.mono hz3.size)).trans (hb3.mono (hz3.trans (hb2.mono hz3.size)).size); clear hb3 hb2 hz1 hz2 hz3; obtain ⟨n0, n1, n2, n3, n4, n5⟩ := three_cells i3; obtain ⟨n6, n7⟩ := cell_of_box_l i4))
  obtain ⟨s1, s2, s3⟩ := set3 (a := .bool false) (b := .int .u64 0) (c := .int .u64 u) i3
  have i4' : (((w3.setCell ⟨w.heap.size, 0, none⟩ (.bool false)).setCell ⟨w.heap.size, 1, none⟩ (.int .u64 0)).setCell ⟨w.heap.size, 2, none⟩ (.int .u64 u)).heap[w.heap.size + 1]? = some (Go.Obj.cells #[.bool false] 4 (0, 0)) := (s2 _ (by omega)).trans i4
  have t1 := setCell_heap _ (w.heap.size + 1) 0 (.bool true) #[.bool false] 4 (0, 0) i4'
  have t2 := (Below.heap_setCell _ ⟨w.heap.size + 1, 0, none⟩ (.bool true) _ (by show w.heap.size ≠ w.heap.size + 1; omega)).trans s1
  obtain ⟨m0, m1, m2, _⟩ := three_cells t2
  obtain ⟨m6, _⟩ := cell_of_box_l t1
  have hbb := (hb4.trans s3).setCell (p := ⟨w.heap.size + 1, 0, none⟩) (by show w.heap.size ≤ w.heap.size + 1; omega) (.bool true)
  generalize (((w3.setCell ⟨w.heap.size, 0, none⟩ (.bool false)).setCell ⟨w.heap.size, 1, none⟩ (.int .u64 0)).setCell ⟨w.heap.size, 2, none⟩ (.int .u64 u)).setCell ⟨w.heap.size + 1, 0, none⟩ (.bool true) = W4 at m0 m1 m2 m6 hbb ⊢
  refine leaves_cons (f := 58) (args := #[.pointer (some ⟨w.heap.size, 0, none⟩), .pointer (some ⟨w.heap.size + 1, 0, none⟩)]) (by simp) (by simp [go_sem]) ?_
  refine (told_idle _ _ _).mono ?_
  rintro e u' w'' ⟨rfl, rfl, rfl⟩
  simp [Leaves, settle, results, Tryz.results50, go_sem, m0, m1, m2, m6]
  exact hbb
noncomputable def addr_told_con : Con := con [.one (.fl .str)] [.one (.fl .addr), .one (.fl .bool)] (fun x => addr_told_t x.1)
theorem addr_told_ok : TrOk Tryz.prog 50 addr_told_con := con_of _ _ _ fun x y hx ρ us vals w hu => by
  obtain ⟨s, z⟩ := x
  have hd := hu.den _ (gives_nameOf us)
  have hvals : vals = [.string s] := hd.symm
  subst hvals
  unfold addr_told_t at hx
  obtain ⟨c, hc, hx⟩ := Option.bind_eq_some_iff.1 hx
  obtain ⟨hq, hx⟩ := req_some hx
  obtain ⟨u, hu2, hx⟩ := Option.bind_eq_some_iff.1 hx
  obtain ⟨c, z1⟩ := c
  obtain ⟨u, z2⟩ := u
  injection hx with hx
  subst hx
  have hcf : c = false := by simpa using hq
  subst hcf
  refine (told_walk s u w hc hu2).mono ?_
  rintro e w' ⟨rfl, hb⟩
  exact ⟨fun _ => Go.undef, .tup [.agg [.b false, .i .u64 0, .i .u64 u], .b true], [], rfl, ⟨hb, fun j o h => by simp at h, fun i j o o' _ h => by simp at h, fun j o h => by simp at h⟩, rfl⟩
end Go.Proofs.YtaicmdnpjgijjaaGreatDoor
