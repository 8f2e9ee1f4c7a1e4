/-
  addr.told, with both ends: a walk by hand: a deferred call that may find a panic.
-/
import Derived.Test.YtihapikjcifbaaaDoorQn
import Derived.Test.YtihapikjcifbaaaDoorQc
import Derived.Test.YtihapikjcifbaaaDoorMaR
import Derived.Defers
import Derived.Recover
import Derived.Laws.Pointers
namespace Go.Proofs.YtihapikjcifbaaaDoor
open Go Go.Ma Go.RowKit Go.Proofs
theorem heap_push (w : World) (o : Go.Obj) (k : Nat) : (w.alloc o).heap[k]? = if k = w.heap.size then some o else w.heap[k]? := by
  show (w.heap.push o)[k]? = _
  exact Array.getElem?_push
theorem cell_of_box_l {W : World} {B : Nat} {v : Value} {t : TypeId} (h : W.heap[B]? = some (Go.Obj.cells #[v] t (0, 0))) : W.cell? ⟨B, 0, none⟩ = some v ∧ W.frozen? ⟨B, 0, none⟩ = false := by
  constructor <;> simp [World.cell?, World.frozen?, h]
theorem told_idle (p q : Addr) (w : World) :
    CallsD Tryd.prog 32 #[.pointer (some p), .pointer (some q)] .returning w fun e u' w' => e = .returned (.tuple #[]) ∧ u' = .returning ∧ w' = w := by
  refine callsD_of_wpS Tryd.func32 rfl fun c₀ cs hu => ?_
  apply wpS_seq
  apply wpS_region
  simp [wpOpsS, go_sem, recoverD, hu, Tryd.ntmps32, Exit.thenS]
  apply wpS_seq
  apply wpS_region
  simp [wpOpsS, go_sem, Exit.thenS]
  refine wpS_cond (t := false) (by simp [Act.eval, Array.replicate]) ?_
  simp only [Bool.false_eq_true, if_false]
  refine wpS_of_wp (wp_skip ?_)
  cases c₀
  simp_all [bodyPostS, results, Tryd.results32]
/-- The zero address and 'false' are laid. -/
noncomputable def laidNo (W : World) (n : Nat) : World := ((((W.setCell ⟨n, 0, none⟩ (.bool false)).setCell ⟨n, 1, none⟩ (.int .u64 0)).setCell ⟨n, 2, none⟩ (.int .u64 0)).setCell ⟨n + 1, 0, none⟩ (.bool false))
theorem ta_bad (T : TypeId) (W : World) : (Instr.typeAssert (.iface 62 (.agg #[])) T 62 true).run Tryd.prog W = .ok (.tuple #[.agg #[], .bool true]) W := by
  simp [Instr.typeAssert, run_underlying Tryd.underlying62]
set_option maxRecDepth 100000 in
set_option maxHeartbeats 2000000 in
theorem told_catch (n : Nat) (w : World) (a b c d : Value) (older : List PanicEntry) (h1 : w.heap[n]? = some (Go.Obj.cells #[a, b, c] 24 (0, 0))) (h2 : w.heap[n + 1]? = some (Go.Obj.cells #[d] 4 (0, 0))) :
    CallsD Tryd.prog 32 #[.pointer (some ⟨n, 0, none⟩), .pointer (some ⟨n + 1, 0, none⟩)] (.panicking (badE :: older)) w fun e u' w' => e = .returned (.tuple #[]) ∧ u' = .panicking ({ badE with recovered := true } :: older) ∧ w' = laidNo (w.alloc (.cells #[] 62)) n := by
  have g1 := (Below.heap_alloc w (.cells #[] 62) n (Array.getElem?_eq_some_iff.1 h1).1).trans h1
  have g2 := (Below.heap_alloc w (.cells #[] 62) (n + 1) (Array.getElem?_eq_some_iff.1 h2).1).trans h2
  obtain ⟨m0, m1, m2, m3, m4, m5⟩ := three_cells g1
  obtain ⟨m6, m7⟩ := cell_of_box_l g2
  clear h1 h2 g1 g2
  refine callsD_of_wpS Tryd.func32 rfl fun c₀ cs hu => ?_
  apply wpS_seq
  apply wpS_region
  simp [wpOpsS, go_sem, recoverD, hu, badE, Tryd.ntmps32, Exit.thenS]
  apply wpS_seq
  apply wpS_region
  simp [wpOpsS, go_sem, Exit.thenS]
  refine wpS_cond (t := true) (by simp [Act.eval, Array.replicate]) ?_
  simp only [if_true]
  refine wpS_of_wp ?_
  have hta : ∀ T W, (Instr.typeAssert (.iface 62 (.agg #[])) T 62 true).run Tryd.prog W = .ok (.tuple #[.agg #[], .bool true]) W := ta_bad
  show Code.wp _ _ _ { tmps := #[.pointer (some ⟨n, 0, none⟩), .pointer (some ⟨n + 1, 0, none⟩), .iface 62 (.agg #[]), Go.undef, Go.undef, .iface 62 (.agg #[]), .iface 62 (.agg #[]), .bool true, Go.undef, Go.undef, Go.undef, Go.undef, Go.undef, Go.undef, Go.undef, Go.undef, Go.undef], defers := [] } _
  go_wp2
  simp [bodyPostS, results, Tryd.results32, laidNo]
theorem laidNo_spec {w : World} {n : Nat} {a b c d : Value} (h1 : w.heap[n]? = some (Go.Obj.cells #[a, b, c] 24 (0, 0))) (h2 : w.heap[n + 1]? = some (Go.Obj.cells #[d] 4 (0, 0))) :
    (laidNo w n).heap[n]? = some (Go.Obj.cells #[.bool false, .int .u64 0, .int .u64 0] 24 (0, 0)) ∧ (laidNo w n).heap[n + 1]? = some (Go.Obj.cells #[.bool false] 4 (0, 0)) ∧ Below n w (laidNo w n) := by
  obtain ⟨s1, s2, s3⟩ := set3 (a := .bool false) (b := .int .u64 0) (c := .int .u64 0) h1
  have i4' := (s2 (n + 1) (by omega)).trans h2
  have t1 := setCell_heap _ (n + 1) 0 (.bool false) #[d] 4 (0, 0) i4'
  have t2 := (Below.heap_setCell _ ⟨n + 1, 0, none⟩ (.bool false) _ (by show n ≠ n + 1; omega)).trans s1
  exact ⟨t2, t1, s3.setCell (p := ⟨n + 1, 0, none⟩) (by show n ≤ n + 1; omega) (.bool false)⟩
set_option maxRecDepth 100000 in
set_option maxHeartbeats 4000000 in
theorem told_four (s : ByteArray) (w : World) (u : Int) (hc : ∀ W, Calls Tryd.prog 33 #[.string s, .string ⟨#[58]⟩] W fun e w' => e = .returned (.bool false) ∧ w' = W) (hx : ∀ W, Below w.heap.size w W → Calls Tryd.prog 35 #[.string s] W fun e w' => e = .returned (.int .u64 u) ∧ Below W.heap.size W w') :
    Calls Tryd.prog 18 #[.string s] w fun e w' => e = .returned (.tuple #[.agg #[.bool false, .int .u64 0, .int .u64 u], .bool true]) ∧ Below w.heap.size w w' := by
  have hmf : ∀ (fn : Fn) (first cap : Array Value) (w : World), (Instr.makeFunc fn first cap).run Tryd.prog w = .ok (.func fn first cap) w := fun _ _ _ _ => rfl
  have HC : Hid (∀ W, Calls Tryd.prog 33 #[.string s, .string ⟨#[58]⟩] W fun e w' => e = .returned (.bool false) ∧ w' = W) := Lib.hid hc
  have HX := Lib.hid hx
  clear hc hx
  go_enter_defers Tryd.func18, Tryd.ntmps18
  have hz1 : ((w.alloc (.cells #[.bool false, .int .u64 0, .int .u64 0] 24)).alloc (.cells #[.bool false] 4)).heap[w.heap.size]? = some (.cells #[.bool false, .int .u64 0, .int .u64 0] 24 (0, 0)) := by
    rw [heap_push, if_neg (by simp only [World.size_alloc]; omega), heap_push, if_pos rfl]
  have hz2 : ((w.alloc (.cells #[.bool false, .int .u64 0, .int .u64 0] 24)).alloc (.cells #[.bool false] 4)).heap[w.heap.size + 1]? = some (.cells #[.bool false] 4 (0, 0)) := by
    rw [heap_push, if_pos (by simp)]
  have hz3 : Below w.heap.size w ((w.alloc (.cells #[.bool false, .int .u64 0, .int .u64 0] 24)).alloc (.cells #[.bool false] 4)) := ((Below.refl _ w).alloc (Nat.le_refl _) _).alloc (by simp) _
  go_wp2_with (first | (go_at_call 33; refine (HC.out _).mono ?_; rintro e w2 ⟨rfl, hw2⟩; have hw2 := hw2.symm; subst hw2) | (go_at_call 35; refine (HX.out _ hz3).mono ?_; rintro e w3 ⟨he, hb3⟩; have he : e = .returned (.int .u64 u) := he; subst he; have i3 := heap_below hb3 hz1; have i4 := heap_below hb3 hz2; have hb4 := hz3.trans (hb3.mono hz3.size); clear hb3 hz1 hz2 hz3 HC; obtain ⟨n0, n1, n2, n3, n4, n5⟩ := three_cells i3; obtain ⟨n6, n7⟩ := cell_of_box_l i4))
  obtain ⟨s1, s2, s3⟩ := set3 (a := .bool false) (b := .int .u64 0) (c := .int .u64 u) i3
  have i4' : (((w3.setCell ⟨w.heap.size, 0, none⟩ (.bool false)).setCell ⟨w.heap.size, 1, none⟩ (.int .u64 0)).setCell ⟨w.heap.size, 2, none⟩ (.int .u64 u)).heap[w.heap.size + 1]? = some (Go.Obj.cells #[.bool false] 4 (0, 0)) := (s2 _ (by omega)).trans i4
  have t1 := setCell_heap _ (w.heap.size + 1) 0 (.bool true) #[.bool false] 4 (0, 0) i4'
  have t2 := (Below.heap_setCell _ ⟨w.heap.size + 1, 0, none⟩ (.bool true) _ (by show w.heap.size ≠ w.heap.size + 1; omega)).trans s1
  obtain ⟨m0, m1, m2, _⟩ := three_cells t2
  obtain ⟨m6, _⟩ := cell_of_box_l t1
  have hbb := (hb4.trans s3).setCell (p := ⟨w.heap.size + 1, 0, none⟩) (by show w.heap.size ≤ w.heap.size + 1; omega) (.bool true)
  generalize (((w3.setCell ⟨w.heap.size, 0, none⟩ (.bool false)).setCell ⟨w.heap.size, 1, none⟩ (.int .u64 0)).setCell ⟨w.heap.size, 2, none⟩ (.int .u64 u)).setCell ⟨w.heap.size + 1, 0, none⟩ (.bool true) = W4 at m0 m1 m2 m6 hbb ⊢
  refine leaves_cons (f := 32) (args := #[.pointer (some ⟨w.heap.size, 0, none⟩), .pointer (some ⟨w.heap.size + 1, 0, none⟩)]) (by simp) (by simp [go_sem]) ?_
  refine (told_idle _ _ _).mono ?_
  rintro e u' w'' ⟨rfl, rfl, rfl⟩
  simp [Leaves, settle, results, Tryd.results18, go_sem, m0, m1, m2, m6]
  exact hbb
set_option maxRecDepth 100000 in
set_option maxHeartbeats 4000000 in
theorem told_sixteen (s : ByteArray) (w : World) (x : Ad) (hc : ∀ W, Calls Tryd.prog 33 #[.string s, .string ⟨#[58]⟩] W fun e w' => e = .returned (.bool true) ∧ w' = W) (hx : ∀ W, Below w.heap.size w W → Calls Tryd.prog 34 #[.string s] W fun e w' => e = .returned (.agg #[.bool x.v6, .int .u64 x.hi, .int .u64 x.lo]) ∧ Below W.heap.size W w') :
    Calls Tryd.prog 18 #[.string s] w fun e w' => e = .returned (.tuple #[.agg #[.bool x.v6, .int .u64 x.hi, .int .u64 x.lo], .bool true]) ∧ Below w.heap.size w w' := by
  have hmf : ∀ (fn : Fn) (first cap : Array Value) (w : World), (Instr.makeFunc fn first cap).run Tryd.prog w = .ok (.func fn first cap) w := fun _ _ _ _ => rfl
  have HC : Hid (∀ W, Calls Tryd.prog 33 #[.string s, .string ⟨#[58]⟩] W fun e w' => e = .returned (.bool true) ∧ w' = W) := Lib.hid hc
  have HX := Lib.hid hx
  clear hc hx
  go_enter_defers Tryd.func18, Tryd.ntmps18
  have hz1 : ((w.alloc (.cells #[.bool false, .int .u64 0, .int .u64 0] 24)).alloc (.cells #[.bool false] 4)).heap[w.heap.size]? = some (.cells #[.bool false, .int .u64 0, .int .u64 0] 24 (0, 0)) := by
    rw [heap_push, if_neg (by simp only [World.size_alloc]; omega), heap_push, if_pos rfl]
  have hz2 : ((w.alloc (.cells #[.bool false, .int .u64 0, .int .u64 0] 24)).alloc (.cells #[.bool false] 4)).heap[w.heap.size + 1]? = some (.cells #[.bool false] 4 (0, 0)) := by
    rw [heap_push, if_pos (by simp)]
  have hz3 : Below w.heap.size w ((w.alloc (.cells #[.bool false, .int .u64 0, .int .u64 0] 24)).alloc (.cells #[.bool false] 4)) := ((Below.refl _ w).alloc (Nat.le_refl _) _).alloc (by simp) _
  go_wp2_with (first | (go_at_call 33; refine (HC.out _).mono ?_; rintro e w2 ⟨rfl, hw2⟩; have hw2 := hw2.symm; subst hw2) | (go_at_call 34; refine (HX.out _ hz3).mono ?_; rintro e w3 ⟨he, hb3⟩; have he : e = .returned (.agg #[.bool x.v6, .int .u64 x.hi, .int .u64 x.lo]) := he; subst he; have i3 := heap_below hb3 hz1; have i4 := heap_below hb3 hz2; have hb4 := hz3.trans (hb3.mono hz3.size); clear hb3 hz1 hz2 hz3 HC; obtain ⟨n0, n1, n2, n3, n4, n5⟩ := three_cells i3; obtain ⟨n6, n7⟩ := cell_of_box_l i4))
  obtain ⟨s1, s2, s3⟩ := set3 (a := .bool x.v6) (b := .int .u64 x.hi) (c := .int .u64 x.lo) i3
  have i4' : (((w3.setCell ⟨w.heap.size, 0, none⟩ (.bool x.v6)).setCell ⟨w.heap.size, 1, none⟩ (.int .u64 x.hi)).setCell ⟨w.heap.size, 2, none⟩ (.int .u64 x.lo)).heap[w.heap.size + 1]? = some (Go.Obj.cells #[.bool false] 4 (0, 0)) := (s2 _ (by omega)).trans i4
  have t1 := setCell_heap _ (w.heap.size + 1) 0 (.bool true) #[.bool false] 4 (0, 0) i4'
  have t2 := (Below.heap_setCell _ ⟨w.heap.size + 1, 0, none⟩ (.bool true) _ (by show w.heap.size ≠ w.heap.size + 1; omega)).trans s1
  obtain ⟨m0, m1, m2, _⟩ := three_cells t2
  obtain ⟨m6, _⟩ := cell_of_box_l t1
  have hbb := (hb4.trans s3).setCell (p := ⟨w.heap.size + 1, 0, none⟩) (by show w.heap.size ≤ w.heap.size + 1; omega) (.bool true)
  generalize (((w3.setCell ⟨w.heap.size, 0, none⟩ (.bool x.v6)).setCell ⟨w.heap.size, 1, none⟩ (.int .u64 x.hi)).setCell ⟨w.heap.size, 2, none⟩ (.int .u64 x.lo)).setCell ⟨w.heap.size + 1, 0, none⟩ (.bool true) = W4 at m0 m1 m2 m6 hbb ⊢
  refine leaves_cons (f := 32) (args := #[.pointer (some ⟨w.heap.size, 0, none⟩), .pointer (some ⟨w.heap.size + 1, 0, none⟩)]) (by simp) (by simp [go_sem]) ?_
  refine (told_idle _ _ _).mono ?_
  rintro e u' w'' ⟨rfl, rfl, rfl⟩
  simp [Leaves, settle, results, Tryd.results18, go_sem, m0, m1, m2, m6]
  exact hbb
set_option maxRecDepth 100000 in
set_option maxHeartbeats 4000000 in
theorem told_four_bad (s : ByteArray) (w : World) (hc : ∀ W, Calls Tryd.prog 33 #[.string s, .string ⟨#[58]⟩] W fun e w' => e = .returned (.bool false) ∧ w' = W) (hx : ∀ W, Below w.heap.size w W → Calls Tryd.prog 35 #[.string s] W fun e w' => e = .panicked [badE] ∧ Below W.heap.size W w') :
    Calls Tryd.prog 18 #[.string s] w fun e w' => e = .returned (.tuple #[.agg #[.bool false, .int .u64 0, .int .u64 0], .bool false]) ∧ Below w.heap.size w w' := by
  have hmf : ∀ (fn : Fn) (first cap : Array Value) (w : World), (Instr.makeFunc fn first cap).run Tryd.prog w = .ok (.func fn first cap) w := fun _ _ _ _ => rfl
  have HC : Hid (∀ W, Calls Tryd.prog 33 #[.string s, .string ⟨#[58]⟩] W fun e w' => e = .returned (.bool false) ∧ w' = W) := Lib.hid hc
  have HX := Lib.hid hx
  clear hc hx
  go_enter_defers Tryd.func18, Tryd.ntmps18
  have hz1 : ((w.alloc (.cells #[.bool false, .int .u64 0, .int .u64 0] 24)).alloc (.cells #[.bool false] 4)).heap[w.heap.size]? = some (.cells #[.bool false, .int .u64 0, .int .u64 0] 24 (0, 0)) := by
    rw [heap_push, if_neg (by simp only [World.size_alloc]; omega), heap_push, if_pos rfl]
  have hz2 : ((w.alloc (.cells #[.bool false, .int .u64 0, .int .u64 0] 24)).alloc (.cells #[.bool false] 4)).heap[w.heap.size + 1]? = some (.cells #[.bool false] 4 (0, 0)) := by
    rw [heap_push, if_pos (by simp)]
  have hz3 : Below w.heap.size w ((w.alloc (.cells #[.bool false, .int .u64 0, .int .u64 0] 24)).alloc (.cells #[.bool false] 4)) := ((Below.refl _ w).alloc (Nat.le_refl _) _).alloc (by simp) _
  go_wp2_with (first | (go_at_call 33; refine (HC.out _).mono ?_; rintro e w2 ⟨rfl, hw2⟩; have hw2 := hw2.symm; subst hw2) | (go_at_call 35; refine (HX.out _ hz3).mono ?_; rintro e w3 ⟨he, hb3⟩; have he : e = .panicked [badE] := he; subst he; have i3 := heap_below hb3 hz1; have i4 := heap_below hb3 hz2; have hb4 := hz3.trans (hb3.mono hz3.size); clear hb3 hz1 hz2 hz3 HC; obtain ⟨n0, n1, n2, n3, n4, n5⟩ := three_cells i3; obtain ⟨n6, n7⟩ := cell_of_box_l i4))
  refine leaves_cons (f := 32) (args := #[.pointer (some ⟨w.heap.size, 0, none⟩), .pointer (some ⟨w.heap.size + 1, 0, none⟩)]) (by simp) (by simp [go_sem]) ?_
  refine (told_catch w.heap.size w3 (.bool false) (.int .u64 0) (.int .u64 0) (.bool false) [] i3 i4).mono ?_
  rintro e u' w'' ⟨rfl, rfl, rfl⟩
  have g1 := (Below.heap_alloc w3 (.cells #[] 62) _ (Array.getElem?_eq_some_iff.1 i3).1).trans i3
  have g2 := (Below.heap_alloc w3 (.cells #[] 62) _ (Array.getElem?_eq_some_iff.1 i4).1).trans i4
  obtain ⟨j1, j2, j3⟩ := laidNo_spec g1 g2
  obtain ⟨m0, m1, m2, _⟩ := three_cells j1
  obtain ⟨m6, _⟩ := cell_of_box_l j2
  have hbb := (hb4.alloc hb4.size (.cells #[] 62)).trans j3
  generalize laidNo (w3.alloc (.cells #[] 62)) w.heap.size = W4 at m0 m1 m2 m6 hbb ⊢
  simp [Leaves, settle, results, Tryd.results18, go_sem, m0, m1, m2, m6]
  exact hbb
set_option maxRecDepth 100000 in
set_option maxHeartbeats 4000000 in
theorem told_sixteen_bad (s : ByteArray) (w : World) (hc : ∀ W, Calls Tryd.prog 33 #[.string s, .string ⟨#[58]⟩] W fun e w' => e = .returned (.bool true) ∧ w' = W) (hx : ∀ W, Below w.heap.size w W → Calls Tryd.prog 34 #[.string s] W fun e w' => e = .panicked [badE] ∧ Below W.heap.size W w') :
    Calls Tryd.prog 18 #[.string s] w fun e w' => e = .returned (.tuple #[.agg #[.bool false, .int .u64 0, .int .u64 0], .bool false]) ∧ Below w.heap.size w w' := by
  have hmf : ∀ (fn : Fn) (first cap : Array Value) (w : World), (Instr.makeFunc fn first cap).run Tryd.prog w = .ok (.func fn first cap) w := fun _ _ _ _ => rfl
  have HC : Hid (∀ W, Calls Tryd.prog 33 #[.string s, .string ⟨#[58]⟩] W fun e w' => e = .returned (.bool true) ∧ w' = W) := Lib.hid hc
  have HX := Lib.hid hx
  clear hc hx
  go_enter_defers Tryd.func18, Tryd.ntmps18
  have hz1 : ((w.alloc (.cells #[.bool false, .int .u64 0, .int .u64 0] 24)).alloc (.cells #[.bool false] 4)).heap[w.heap.size]? = some (.cells #[.bool false, .int .u64 0, .int .u64 0] 24 (0, 0)) := by
    rw [heap_push, if_neg (by simp only [World.size_alloc]; omega), heap_push, if_pos rfl]
  have hz2 : ((w.alloc (.cells #[.bool false, .int .u64 0, .int .u64 0] 24)).alloc (.cells #[.bool false] 4)).heap[w.heap.size + 1]? = some (.cells #[.bool false] 4 (0, 0)) := by
    rw [heap_push, if_pos (by simp)]
  have hz3 : Below w.heap.size w ((w.alloc (.cells #[.bool false, .int .u64 0, .int .u64 0] 24)).alloc (.cells #[.bool false] 4)) := ((Below.refl _ w).alloc (Nat.le_refl _) _).alloc (by simp) _
  go_wp2_with (first | (go_at_call 33; refine (HC.out _).mono ?_; rintro e w2 ⟨rfl, hw2⟩; have hw2 := hw2.symm; subst hw2) | (go_at_call 34; refine (HX.out _ hz3).mono ?_; rintro e w3 ⟨he, hb3⟩; have he : e = .panicked [badE] := he; subst he; have i3 := heap_below hb3 hz1; have i4 := heap_below hb3 hz2; have hb4 := hz3.trans (hb3.mono hz3.size); clear hb3 hz1 hz2 hz3 HC; obtain ⟨n0, n1, n2, n3, n4, n5⟩ := three_cells i3; obtain ⟨n6, n7⟩ := cell_of_box_l i4))
  refine leaves_cons (f := 32) (args := #[.pointer (some ⟨w.heap.size, 0, none⟩), .pointer (some ⟨w.heap.size + 1, 0, none⟩)]) (by simp) (by simp [go_sem]) ?_
  refine (told_catch w.heap.size w3 (.bool false) (.int .u64 0) (.int .u64 0) (.bool false) [] i3 i4).mono ?_
  rintro e u' w'' ⟨rfl, rfl, rfl⟩
  have g1 := (Below.heap_alloc w3 (.cells #[] 62) _ (Array.getElem?_eq_some_iff.1 i3).1).trans i3
  have g2 := (Below.heap_alloc w3 (.cells #[] 62) _ (Array.getElem?_eq_some_iff.1 i4).1).trans i4
  obtain ⟨j1, j2, j3⟩ := laidNo_spec g1 g2
  obtain ⟨m0, m1, m2, _⟩ := three_cells j1
  obtain ⟨m6, _⟩ := cell_of_box_l j2
  have hbb := (hb4.alloc hb4.size (.cells #[] 62)).trans j3
  generalize laidNo (w3.alloc (.cells #[] 62)) w.heap.size = W4 at m0 m1 m2 m6 hbb ⊢
  simp [Leaves, settle, results, Tryd.results18, go_sem, m0, m1, m2, m6]
  exact hbb
theorem told_walk (s : ByteArray) (hs : s.size ≤ 4294967200) (w : World) (hG : Glob Tryd.prog w) :
    Calls Tryd.prog 18 #[.string s] w fun e w' => e = .returned (.tuple #[.agg #[.bool (toldA s).v6, .int .u64 (toldA s).hi, .int .u64 (toldA s).lo], .bool (toldF s).isSome]) ∧ Below w.heap.size w w' := by
  have hc : ∀ W, Calls Tryd.prog 33 #[.string s, .string ⟨#[58]⟩] W fun e w' => e = .returned (.bool (colonIn s)) ∧ w' = W := fun W => Go.Proofs.Tryd.strings_Contains_one s 58 W
  unfold toldA toldF
  cases hcs : colonIn s with
  | true =>
    rw [hcs] at hc
    rw [if_pos rfl]
    have hx : ∀ W, Below w.heap.size w W → Calls Tryd.prog 34 #[.string s] W fun e w' => EndA (sixteenF s) e ∧ Below W.heap.size W w' := fun W hb => sixteen_walk s hs W (hG.mono hb)
    cases h : sixteenF s with
    | some a => rw [h] at hx; exact told_sixteen s w a hc hx
    | none => rw [h] at hx; exact told_sixteen_bad s w hc hx
  | false =>
    rw [hcs] at hc
    rw [if_neg (by decide)]
    have hx : ∀ W, Below w.heap.size w W → Calls Tryd.prog 35 #[.string s] W fun e w' => EndU (fourF s) e ∧ Below W.heap.size W w' := fun W hb => four_walk s hs W (hG.mono hb)
    cases h : fourF s with
    | some u => rw [h] at hx; exact told_four s w u hc hx
    | none => rw [h] at hx; exact told_four_bad s w hc hx
noncomputable def addr_told_con : Con := con [.one (.fl .str)] [.one (.fl .addr), .one (.fl .bool)] (fun x => addr_told_t x.1)
theorem addr_told_ok : TrOk Tryd.prog 18 addr_told_con := con_of _ _ _ fun x y hx ρ us vals w hG hu => by
  obtain ⟨s, z⟩ := x
  have hd := hu.den _ (gives_nameOf us)
  have hvals : vals = [.string s] := hd.symm
  subst hvals
  unfold addr_told_t at hx
  obtain ⟨hq, hx⟩ := req_some hx
  injection hx with hx
  subst hx
  refine (told_walk s (Nat.le_of_ble_eq_true hq) w hG).mono ?_
  rintro e w' ⟨rfl, hb⟩
  exact ⟨fun _ => Go.undef, .tup [.agg [.b (toldA s).v6, .i .u64 (toldA s).hi, .i .u64 (toldA s).lo], .b (toldF s).isSome], [], rfl, ⟨hb, fun j o h => by simp at h, fun i j o o' _ h => by simp at h, fun j o h => by simp at h⟩, rfl⟩
end Go.Proofs.YtihapikjcifbaaaDoor
