/-
  (*book).first: a range over a function: the walk by hand.
-/
import Derived.RangeFuncNested
import Derived.RangeFuncBound
import Derived.RangeFuncCalls
import Derived.RangeFuncLeaves
import Derived.RangeFuncBox
import Derived.Shelf.Abstract
import Derived.Shelf.RegionOpen
import Derived.WalkKit
import Derived.OwnWalkIn
import Derived.TacticsInMore
import Derived.LoopNIn
import Derived.LoopIn
import Derived.Test.YtjadfkpajjlgkaaWk
import Derived.Test.YtjadfkpajjlgkaaMaS
import Derived.Test.YtjadfkpajjlgkaaHe
namespace Go.Proofs.Ytjadfkpajjlgkaa
open Go Go.Ma Go.RowKit Go.Shelf Go.Proofs

attribute [local go_sem] Oper.semAt_some

def adV (a : Ad) : Value := .agg #[.bool a.v6, .int .u64 a.hi, .int .u64 a.lo]
def pfV (p : Pf) : Value := .agg #[.bool p.ad.v6, .int .u64 p.ad.hi, .int .u64 p.ad.lo, .int .i64 p.bits]
/-- The cells that lay lie as they lay. -/
def CKept (A B : World) : Prop := ∀ (b : Nat) (c : Array Value) (t : TypeId) (z : Nat × Nat), A.heap[b]? = some (Go.Obj.cells c t z) → B.heap[b]? = some (Go.Obj.cells c t z)
theorem CKept.refl (A : World) : CKept A A := fun _ _ _ _ h => h
theorem CKept.trans {A B C : World} (h : CKept A B) (k : CKept B C) : CKept A C := fun b c t z hb => k b c t z (h b c t z hb)
theorem CKept.below {A B : World} (h : Below A.heap.size A B) : CKept A B := fun b c t z hb => (h.block b (Array.getElem?_eq_some_iff.1 hb).1).trans hb
theorem CKept.put {W : World} {l : Nat} {o : Go.Obj} (o' : Go.Obj) (h : W.heap[l]? = some o) (hc : o.isCells = false) : CKept W (W.putObj l o') := fun b c t z hb => by
  have hne : b ≠ l := by rintro rfl; rw [h] at hb; cases hb; cases hc
  exact (World.putObj_heap_other hne).trans hb

def adC (a : Ad) : Array Value := #[.bool a.v6, .int .u64 a.hi, .int .u64 a.lo]
/-- The address that lies there. -/
def adAt (w : World) (v : Value) : Ad :=
  match v with
  | .pointer (some p) => (match w.heap[p.block]? with
    | some (Go.Obj.cells c _ _) => (match c.toList with | [.bool b, .int _ h, .int _ l] => ⟨b, h, l⟩ | _ => default)
    | _ => default)
  | _ => default
theorem adAt_eq {w : World} {D : Nat} {a : Ad} (h : w.heap[D]? = some (Go.Obj.cells (adC a) 24 (0, 0))) : adAt w (.pointer (some ⟨D, 0, none⟩)) = a := by
  simp [adAt, h, adC]
/-- How many are still to come. -/
noncomputable def leftA (last : Ad) (w : World) (v4 v5 : Value) : Nat :=
  match v5 with
  | .bool true => ((allA last 64 (adAt w v4)).getD []).length
  | _ => 0
theorem allA_mono {last : Ad} : ∀ {k : Nat} {a : Ad} {r : List Ad}, allA last k a = some r → ∀ {k' : Nat}, k ≤ k' → allA last k' a = some r
  | 0, _, _, h, _, _ => by simp [allA] at h
  | k + 1, a, r, h, k', hk => by
    obtain ⟨q, rfl⟩ : ∃ q, k' = q + 1 := ⟨k' - 1, by omega⟩
    simp only [allA] at h ⊢
    rcases br_some h with ⟨hc, h⟩ | ⟨hc, h⟩
    · rw [hc]; exact h
    · rw [hc]
      obtain ⟨y, hy, h⟩ := Option.bind_eq_some_iff.1 h
      simp only [br, hy, Option.bind_some]
      rcases br_some h with ⟨hc2, h⟩ | ⟨hc2, h⟩
      · rw [hc2]
        obtain ⟨r', hr', h⟩ := Option.map_eq_some_iff.1 h
        simp only [allA_mono hr' (show k ≤ q by omega), Option.map_some, h]
      · rw [hc2]; exact h
theorem allA_head {last : Ad} : ∀ {k : Nat} {a : Ad} {r : List Ad}, allA last k a = some r → ∃ r', r = a :: r'
  | 0, _, _, h => by simp [allA] at h
  | k + 1, a, r, h => by
    simp only [allA] at h
    rcases br_some h with ⟨hc, h⟩ | ⟨hc, h⟩
    · cases h; exact ⟨_, rfl⟩
    · obtain ⟨y, hy, h⟩ := Option.bind_eq_some_iff.1 h
      rcases br_some h with ⟨hc2, h⟩ | ⟨hc2, h⟩
      · obtain ⟨r', hr', h⟩ := Option.map_eq_some_iff.1 h
        exact ⟨r', h.symm⟩
      · cases h; exact ⟨_, rfl⟩
theorem ad_cells {W : World} {D : Nat} {a : Ad} (h : W.heap[D]? = some (Go.Obj.cells (adC a) 24 (0, 0))) : W.cell? ⟨D, 0, none⟩ = some (.bool a.v6) ∧ W.cell? ⟨D, 1, none⟩ = some (.int .u64 a.hi) ∧ W.cell? ⟨D, 2, none⟩ = some (.int .u64 a.lo) := by
  refine ⟨?_, ?_, ?_⟩ <;> simp [World.cell?, h, adC]
theorem new_cells {W w : World} {a b c : Value} {t : TypeId} (h : Below (W.alloc (Go.Obj.cells #[a, b, c] t)).heap.size (W.alloc (Go.Obj.cells #[a, b, c] t)) w) :
    w.cell? ⟨W.heap.size, 0, none⟩ = some a ∧ w.cell? ⟨W.heap.size, 1, none⟩ = some b ∧ w.cell? ⟨W.heap.size, 2, none⟩ = some c ∧ w.frozen? ⟨W.heap.size, 0, none⟩ = false ∧ w.frozen? ⟨W.heap.size, 1, none⟩ = false ∧ w.frozen? ⟨W.heap.size, 2, none⟩ = false := by
  have : w.heap[W.heap.size]? = some (Go.Obj.cells #[a, b, c] t (0, 0)) := (h.block _ (by simp)).trans (World.alloc_heap_new W _)
  refine ⟨?_, ?_, ?_, ?_, ?_, ?_⟩ <;> simp [World.cell?, World.frozen?, this]
theorem new_heap {W w : World} {a b c : Value} {t : TypeId} (h : Below (W.alloc (Go.Obj.cells #[a, b, c] t)).heap.size (W.alloc (Go.Obj.cells #[a, b, c] t)) w) : w.heap[W.heap.size]? = some (Go.Obj.cells #[a, b, c] t (0, 0)) :=
  (h.block _ (by simp)).trans (World.alloc_heap_new W _)
theorem set3 {w : World} {N : Nat} {x y z a b c : Value} {t : TypeId} (h : w.heap[N]? = some (Go.Obj.cells #[x, y, z] t (0, 0))) :
    (((w.setCell ⟨N, 0, none⟩ a).setCell ⟨N, 1, none⟩ b).setCell ⟨N, 2, none⟩ c).heap[N]? = some (Go.Obj.cells #[a, b, c] t (0, 0)) ∧
    (∀ k, k ≠ N → (((w.setCell ⟨N, 0, none⟩ a).setCell ⟨N, 1, none⟩ b).setCell ⟨N, 2, none⟩ c).heap[k]? = w.heap[k]?) ∧
    Below N w (((w.setCell ⟨N, 0, none⟩ a).setCell ⟨N, 1, none⟩ b).setCell ⟨N, 2, none⟩ c) := by
  obtain ⟨h1, h2, _⟩ := setCells_spec w N 0 [a, b, c] #[x, y, z] t (0, 0) h
  refine ⟨h1, h2, ?_⟩
  exact (((Below.refl N w).setCell (p := ⟨N, 0, none⟩) (Nat.le_refl _) _).setCell (p := ⟨N, 1, none⟩) (Nat.le_refl _) _).setCell (p := ⟨N, 2, none⟩) (Nat.le_refl _) _
theorem heap_own {X Y : World} {row : Option Nat} {b : Nat} {c : Array Value} {t : TypeId} (h : X.heap[b]? = some (Go.Obj.cells c t (0, 0))) (hg : X.grownBy Y row) (hr : ∀ r, row = some r → ∃ o : Go.Obj, X.heap[r]? = some o ∧ o.isCells = false) : Y.heap[b]? = some (Go.Obj.cells c t (0, 0)) :=
  (hg.block b (Array.getElem?_eq_some_iff.1 h).1 (fun e => by
    obtain ⟨o, ho, hc⟩ := hr b e.symm
    rw [h] at ho
    cases ho
    cases hc)).trans h
theorem three_cells {w : World} {N : Nat} {a b c : Value} {t : TypeId} (this : w.heap[N]? = some (Go.Obj.cells #[a, b, c] t (0, 0))) :
    w.cell? ⟨N, 0, none⟩ = some a ∧ w.cell? ⟨N, 1, none⟩ = some b ∧ w.cell? ⟨N, 2, none⟩ = some c ∧ w.frozen? ⟨N, 0, none⟩ = false ∧ w.frozen? ⟨N, 1, none⟩ = false ∧ w.frozen? ⟨N, 2, none⟩ = false := by
  refine ⟨?_, ?_, ?_, ?_, ?_, ?_⟩ <;> simp [World.cell?, World.frozen?, this]
theorem heap_push (w : World) (o : Go.Obj) (k : Nat) : (w.alloc o).heap[k]? = if k = w.heap.size then some o else w.heap[k]? := by
  show (w.heap.push o)[k]? = _
  exact Array.getElem?_push
theorem get4 (w : World) (a b c d : Go.Obj) : ((((w.alloc a).alloc b).alloc c).alloc d).heap[w.heap.size]? = some a ∧ ((((w.alloc a).alloc b).alloc c).alloc d).heap[w.heap.size + 1]? = some b ∧ ((((w.alloc a).alloc b).alloc c).alloc d).heap[w.heap.size + 1 + 1]? = some c ∧ ((((w.alloc a).alloc b).alloc c).alloc d).heap[w.heap.size + 1 + 1 + 1]? = some d := by
  refine ⟨?_, ?_, ?_, ?_⟩
  · rw [heap_push, if_neg (by simp only [World.size_alloc]; omega), heap_push, if_neg (by simp only [World.size_alloc]; omega), heap_push, if_neg (by simp only [World.size_alloc]; omega), heap_push, if_pos rfl]
  · rw [heap_push, if_neg (by simp only [World.size_alloc]; omega), heap_push, if_neg (by simp only [World.size_alloc]; omega), heap_push, if_pos (by simp)]
  · rw [heap_push, if_neg (by simp only [World.size_alloc]; omega), heap_push, if_pos (by simp)]
  · rw [heap_push, if_pos (by simp)]
theorem below_grown' {A C : World} (hb : Below A.heap.size A C) : A.grownBy C none := ⟨hb.os, hb.tape, hb.output, hb.size, fun k hk _ => hb.block k hk⟩
theorem heap_below {A C : World} (hb : Below A.heap.size A C) {b : Nat} {o : Go.Obj} (h : A.heap[b]? = some o) : C.heap[b]? = some o := (hb.block b (Array.getElem?_eq_some_iff.1 h).1).trans h
theorem cell_of_box_l {W : World} {B : Nat} {v : Value} {t : TypeId} (h : W.heap[B]? = some (Go.Obj.cells #[v] t (0, 0))) : W.cell? ⟨B, 0, none⟩ = some v ∧ W.frozen? ⟨B, 0, none⟩ = false := by
  constructor <;> simp [World.cell?, World.frozen?, h]
theorem book_cells {W : World} {B : Nat} {a b c d va vl : Value} {t : TypeId} (h : W.heap[B]? = some (Go.Obj.cells #[a, b, c, d, va, vl] t (0, 0))) : W.cell? ⟨B, 0, none⟩ = some a ∧ W.cell? ⟨B, 1, none⟩ = some b ∧ W.cell? ⟨B, 2, none⟩ = some c ∧ W.cell? ⟨B, 3, none⟩ = some d := by
  refine ⟨?_, ?_, ?_, ?_⟩ <;> simp [World.cell?, h]

set_option maxRecDepth 100000 in
set_option maxHeartbeats 2000000 in
theorem addrs_in (n : Nat) (hn : 1 ≤ n) (l Bx B : Nat) (p : Pf) (va vl : Value) (last : Ad) (xs : List Ad) (J Jx : List Ad → World → Prop)
    (hJ : ∀ pre A C, J pre A → Below A.heap.size A C → J pre C)
    (hY : ∀ pre x W, J pre W → (pre ++ [x]) <+: xs → YieldAt Fence.wide (n - 1) Try.prog l #[adV x] W fun e W' => (e = .returned (.bool true) ∧ J (pre ++ [x]) W' ∧ CKept W W') ∨ (e = .returned (.bool false) ∧ Jx (pre ++ [x]) W'))
    (W : World) (hbox : W.heap[Bx]? = some (.cells #[.pointer (some ⟨B, 0, none⟩)] 64 (0, 0))) (hbook : W.heap[B]? = some (.cells #[.bool p.ad.v6, .int .u64 p.ad.hi, .int .u64 p.ad.lo, .int .i64 p.bits, va, vl] 66 (0, 0))) (h0 : J [] W)
    (hlast : ∀ W, Calls Try.prog 65 #[pfV p] W fun e W' => e = .returned (adV last) ∧ Below W.heap.size W W')
    (hafter : ∀ a b ok W, addr_After_t a = some (b, ok, ()) → Calls Try.prog 66 #[adV a] W fun e W' => e = .returned (.tuple #[adV b, .bool ok]) ∧ Below W.heap.size W W')
    (hall : allA last 64 p.ad = some xs) :
    CallsIn Fence.wide n Try.prog 64 #[.func (.yield l) #[] #[], .pointer (some ⟨Bx, 0, none⟩)] W fun e W' => (∃ v, e = .returned v) ∧ ((∃ ys, ys = xs ∧ J ys W') ∨ (∃ pre, pre <+: xs ∧ Jx pre W')) := by
  have cb : W.cell? ⟨Bx, 0, none⟩ = some (.pointer (some ⟨B, 0, none⟩)) := by simp [World.cell?, hbox]
  have c0 : W.cell? ⟨B, 0, none⟩ = some (.bool p.ad.v6) := by simp [World.cell?, hbook]
  have c1 : W.cell? ⟨B, 1, none⟩ = some (.int .u64 p.ad.hi) := by simp [World.cell?, hbook]
  have c2 : W.cell? ⟨B, 2, none⟩ = some (.int .u64 p.ad.lo) := by simp [World.cell?, hbook]
  have c3 : W.cell? ⟨B, 3, none⟩ = some (.int .i64 p.bits) := by simp [World.cell?, hbook]
  refine callsIn_of_wp Try.func64 rfl trivial ?_ rfl
  simp only [Try.ntmps64, List.size_toArray, List.length_cons, List.length_nil, Nat.reduceAdd, Nat.reduceSub, Array.replicate_succ, Array.replicate_zero, List.push_toArray, List.append_toArray, List.nil_append, List.cons_append]
  have hlast' := hlast
  simp only [pfV, adV] at hlast'
  gi_wp2_with (refine ⟨trivial, ?_⟩; gi_at_call 65; refine (callsIn_wide.2 (hlast' _)).mono ?_; rintro e w1 ⟨rfl, hb1⟩; have k1 := CKept.below hb1; have hbox1 := k1 _ _ _ _ hbox; have hbook1 := k1 _ _ _ _ hbook; have hB1 : B < w1.heap.size := (Array.getElem?_eq_some_iff.1 hbook1).1; have hX1 : Bx < w1.heap.size := (Array.getElem?_eq_some_iff.1 hbox1).1; have cb1 := (cell_of_box_l hbox1).1; obtain ⟨d0, d1, d2, d3⟩ := book_cells hbook1)
  have k0 := CKept.below ((((Below.refl w1.heap.size w1).alloc (Nat.le_refl _) (.cells (adC last) 24)).alloc (by simp) (.cells (adC p.ad) 24)))
  gi_loopw [4, 5] (fun v4 v5 wr => ∃ (pre rest : List Ad) (D k : Nat) (a : Ad) (ok : Bool), v4 = .pointer (some ⟨D, 0, none⟩) ∧ v5 = .bool ok ∧ xs = pre ++ rest ∧ wr.heap[D]? = some (Go.Obj.cells (adC a) 24 (0, 0)) ∧ wr.heap[w1.heap.size]? = some (Go.Obj.cells (adC last) 24 (0, 0)) ∧ k ≤ 64 ∧ (if ok then allA last k a = some rest else rest = []) ∧ J pre wr)
    (fun v4 v5 wr => leftA last wr v4 v5)
  case atStart =>
    refine ⟨[], xs, w1.heap.size + 1, 64, p.ad, true, rfl, rfl, rfl, ?_, ?_, Nat.le_refl _, hall, ?_⟩
    · have := World.alloc_heap_new (w1.alloc (Go.Obj.cells (adC last) 24)) (Go.Obj.cells (adC p.ad) 24)
      simpa [adC] using this
    · exact (Below.heap_alloc _ _ _ (by simp)).trans (World.alloc_heap_new w1 (Go.Obj.cells (adC last) 24))
    · exact hJ _ _ _ h0 ((hb1.alloc hb1.size _).alloc (by have := hb1.size; simp; omega) _)
  case round =>
    obtain ⟨pre, rest, D, k, a, ok, rfl, rfl, hx, hD, hL, hk, hr, hJs⟩ := hrel
    cases ok with
    | false =>
      have hr : rest = [] := hr
      gi_wp2
      go_end0
      exact ⟨⟨_, rfl⟩, .inl ⟨pre, by simp [hx, hr], hJs⟩⟩
    | true =>
      have hr : allA last k a = some rest := hr
      have hfull := allA_mono hr hk
      obtain ⟨e0, e1, e2⟩ := ad_cells hD
      obtain ⟨f0, f1, f2⟩ := ad_cells hL
      obtain ⟨r1, hr1⟩ := allA_head hr
      obtain ⟨fn, tmps, assign, body, hy, hR⟩ := hY pre a wr hJs (by rw [hx, hr1]; exact ⟨r1, by simp⟩)
      simp only [adV] at hy
      by_cases hal : a = last
      · subst hal
        have hrest : rest = [a] := by
          cases k with
          | zero => simp [allA] at hr
          | succ k => simp only [allA, decide_true, br] at hr; cases hr; rfl
        gi_wp2
        refine hR.mono ?_
        rintro e W3 (⟨rfl, hJ3, hk3⟩ | ⟨rfl, hJx3⟩)
        · have hD3 := hk3 _ _ _ _ hD
          have hL3 := hk3 _ _ _ _ hL
          obtain ⟨g0, g1, g2⟩ := ad_cells hD3
          obtain ⟨i0, i1, i2⟩ := ad_cells hL3
          gi_wp2
          refine bodyPost_ret (results_none rfl _ _ _) rfl ?_
          exact ⟨⟨_, rfl⟩, .inl ⟨_, by rw [hx, hrest], hJ3⟩⟩
        · gi_wp2
          refine bodyPost_ret (results_none rfl _ _ _) rfl ?_
          exact ⟨⟨_, rfl⟩, .inr ⟨pre ++ [a], by rw [hx, hrest]; exact List.prefix_refl _, hJx3⟩⟩
      · obtain ⟨b, ok', k', rest', hk', hrest, hb, hcall⟩ : ∃ (b : Ad) (ok' : Bool) (k' : Nat) (rest' : List Ad), k' ≤ 64 ∧ rest = a :: rest' ∧ (if ok' then allA last k' b = some rest' else rest' = []) ∧ addr_After_t a = some (b, ok', ()) := by
          cases k with
          | zero => simp [allA] at hr
          | succ k =>
            simp only [allA, decide_eq_false hal, br] at hr
            obtain ⟨y, hy, hr⟩ := Option.bind_eq_some_iff.1 hr
            obtain ⟨b, ok', u⟩ := y
            cases ok' with
            | true =>
              obtain ⟨r', hr', hr⟩ := Option.map_eq_some_iff.1 hr
              exact ⟨b, true, k, r', by omega, hr.symm, by simpa using hr', hy⟩
            | false =>
              cases hr
              exact ⟨b, false, k, [], by omega, rfl, by simp, hy⟩
        have HC : Hid (∀ v6 hi lo W, v6 = a.v6 → hi = a.hi → lo = a.lo → Calls Try.prog 66 #[.agg #[.bool v6, .int .u64 hi, .int .u64 lo]] W fun e W' => e = .returned (.tuple #[.agg #[.bool b.v6, .int .u64 b.hi, .int .u64 b.lo], .bool ok']) ∧ Below W.heap.size W W') := by
          rintro _ _ _ W rfl rfl rfl
          exact hafter a b ok' W hcall
        gi_wp2
        refine hR.mono ?_
        rintro e W3 (⟨rfl, hJ3, hk3⟩ | ⟨rfl, hJx3⟩)
        · have hD3 := hk3 _ _ _ _ hD
          have hL3 := hk3 _ _ _ _ hL
          obtain ⟨g0, g1, g2⟩ := ad_cells hD3
          obtain ⟨i0, i1, i2⟩ := ad_cells hL3
          have hlt3 : w1.heap.size < W3.heap.size := (Array.getElem?_eq_some_iff.1 hL3).1
          clear hr hcall hafter hlast hlast' hY hy hR
          gi_wp2_with (refine ⟨trivial, ?_⟩; gi_at_call 66; refine (callsIn_wide.2 (HC.out _ _ _ _ (by first | rfl | (symm; assumption)) (by first | rfl | (symm; assumption)) (by first | rfl | (symm; assumption)))).mono ?_; rintro e w4 ⟨rfl, hb4⟩; obtain ⟨n0, n1, n2, n3, n4, n5⟩ := new_cells hb4)
          · exact absurd (by cases a; cases last; simp_all) hal
          all_goals
            obtain ⟨s1, s2, s3⟩ := set3 (a := .bool b.v6) (b := .int .u64 b.hi) (c := .int .u64 b.lo) (new_heap hb4)
            refine ⟨⟨pre ++ [a], rest', W3.heap.size, k', b, ok', rfl, rfl, by rw [hx, hrest]; simp, s1, ?_, hk', hb, ?_⟩, ?_⟩
            · rw [s2 _ (by omega), hb4.block _ (by simp; omega), Below.heap_alloc _ _ _ hlt3]
              exact hL3
            · exact hJ _ _ _ hJ3 ((((Below.refl W3.heap.size W3).alloc (Nat.le_refl _) _).trans (hb4.mono (by simp))).trans s3)
            · have hl1 : leftA last wr (.pointer (some ⟨D, 0, none⟩)) (.bool true) = rest.length := by
                simp only [leftA, adAt_eq hD, hfull, Option.getD_some]
              rw [hl1, hrest]
              cases ok' with
              | false => simp [leftA]
              | true =>
                simp only [leftA, adAt_eq s1, allA_mono (by simpa using hb) hk', Option.getD_some, List.length_cons]
                omega
        · gi_wp2
          refine bodyPost_ret (results_none rfl _ _ _) rfl ?_
          exact ⟨⟨_, rfl⟩, .inr ⟨pre ++ [a], ⟨rest', by rw [hx, hrest]; simp⟩, hJx3⟩⟩

set_option maxHeartbeats 1000000 in
/-- b.addresses(): the receiver is boxed; the function value captures the box. -/
theorem addresses_in (n : Nat) (p0 : Option Addr) (w : World) :
    CallsIn Fence.wide n Try.prog 59 #[.pointer p0] w fun e w' => e = .returned (.func (.func 64) #[] #[.pointer (some ⟨w.heap.size, 0, none⟩)]) ∧ w' = w.alloc (.cells #[.pointer p0] 64) := by
  refine callsIn_of_wp Try.func59 rfl trivial ?_ rfl
  simp only [Try.ntmps59, List.size_toArray, List.length_cons, List.length_nil, Nat.reduceAdd, Nat.reduceSub, Array.replicate_succ, Array.replicate_zero, List.push_toArray, List.append_toArray, List.nil_append, List.cons_append]
  gi_wp2
  go_ret
  exact ⟨rfl, rfl⟩

/-- Element i of a list that has one. -/
def elA (xs : List Ad) (i : Nat) : Ad := xs.getD i (xs.headD default)
theorem elA_mem {xs : List Ad} (h : xs ≠ []) (i : Nat) : elA xs i ∈ xs := by
  cases xs with
  | nil => exact absurd rfl h
  | cons a r =>
    unfold elA
    rw [List.getD_eq_getElem?_getD]
    cases hx : (a :: r)[i]? with
    | none => simp
    | some y => simpa using List.mem_of_getElem? hx
theorem addrs_stops (n : Nat) (hn : 1 ≤ n) (Bx B : Nat) (p : Pf) (va vl : Value) (last : Ad) (xs : List Ad) (w : World)
    (hbox : w.heap[Bx]? = some (.cells #[.pointer (some ⟨B, 0, none⟩)] 64 (0, 0))) (hbook : w.heap[B]? = some (.cells #[.bool p.ad.v6, .int .u64 p.ad.hi, .int .u64 p.ad.lo, .int .i64 p.bits, va, vl] 66 (0, 0)))
    (hlast : ∀ W, Calls Try.prog 65 #[pfV p] W fun e W' => e = .returned (adV last) ∧ Below W.heap.size W W')
    (hafter : ∀ a b ok W, addr_After_t a = some (b, ok, ()) → Calls Try.prog 66 #[adV a] W fun e W' => e = .returned (.tuple #[adV b, .bool ok]) ∧ Below W.heap.size W W')
    (hall : allA last 64 p.ad = some xs) :
    SeqStopsK Fence.wide n Try.prog 64 #[.pointer (some ⟨Bx, 0, none⟩)] (fun i : Nat => #[adV (elA xs i)]) CKept (fun ys => ys = List.range xs.length) (fun pre => pre <+: List.range xs.length) xs.length w := by
  intro l J Jx W hW hJ hJx hY h0
  have hk := CKept.below hW
  refine (addrs_in n hn l Bx B p va vl last xs (fun pre W => J (List.range pre.length) W) (fun pre W => Jx (List.range pre.length) W) (fun pre A C h hb => hJ _ A C none h ⟨hb.os, hb.tape, hb.output, hb.size, fun k hk _ => hb.block k hk⟩ (fun r e => by cases e)) ?_ W (hk _ _ _ _ hbox) (hk _ _ _ _ hbook) h0 hlast hafter hall).mono ?_
  · intro pre x W1 hj hpre
    obtain ⟨t, ht⟩ := hpre
    have hlen : pre.length < xs.length := by rw [← ht]; simp
    have hel : elA xs pre.length = x := by
      unfold elA
      rw [List.getD_eq_getElem?_getD, ← ht]
      simp
    have := hY (List.range pre.length) pre.length W1 hj (by simpa using hlen)
    simp only [hel] at this
    refine this.mono ?_
    rintro e W' (⟨h1, h2, h3⟩ | ⟨h1, h2⟩)
    · exact .inl ⟨h1, by simpa [List.range_succ] using h2, h3⟩
    · exact .inr ⟨h1, by simpa [List.range_succ] using h2⟩
  · rintro e W' ⟨h1, h2⟩
    refine ⟨h1, h2.imp ?_ ?_⟩
    · rintro ⟨ys, rfl, h⟩
      exact ⟨_, rfl, h⟩
    · rintro ⟨pre, ⟨t, ht⟩, h⟩
      refine ⟨_, ?_, h⟩
      rw [← ht, List.length_append, List.range_add]
      exact List.prefix_append _ _

set_option maxRecDepth 100000 in
set_option maxHeartbeats 4000000 in
theorem first_walk (B : Nat) (p : Pf) (va vl : Value) (last : Ad) (xs : List Ad) (tk : Ad → Bool) (w : World) (hxs : xs ≠ [])
    (hbook : w.heap[B]? = some (.cells #[.bool p.ad.v6, .int .u64 p.ad.hi, .int .u64 p.ad.lo, .int .i64 p.bits, va, vl] 66 (0, 0)))
    (hlast : ∀ W, Calls Try.prog 65 #[pfV p] W fun e W' => e = .returned (adV last) ∧ Below W.heap.size W W')
    (hafter : ∀ a b ok W, addr_After_t a = some (b, ok, ()) → Calls Try.prog 66 #[adV a] W fun e W' => e = .returned (.tuple #[adV b, .bool ok]) ∧ Below W.heap.size W W')
    (htaken : ∀ a W, a ∈ xs → Below w.heap.size w W → Calls Try.prog 60 #[.pointer (some ⟨B, 0, none⟩), adV a] W fun e W' => e = .returned (.bool (tk a)) ∧ Below W.heap.size W W')
    (hall : allA last 64 p.ad = some xs) (res : Ad × Bool) (hnone : Hid ((∀ i, i < xs.length → tk (elA xs i) = true) → res = (⟨false, 0, 0⟩, false))) (hsome : Hid (∀ i, i < xs.length → (∀ j, j < i → tk (elA xs j) = true) → tk (elA xs i) = false → res = (elA xs i, true))) :
    CallsIn Fence.wide 9 Try.prog 42 #[.pointer (some ⟨B, 0, none⟩)] w fun e W' => e = .returned (.tuple #[adV res.1, .bool res.2]) ∧ Below w.heap.size w W' := by
  refine callsIn_of_wp_marks Try.func42 rfl trivial ?_ rfl
  simp only [Try.ntmps42, List.size_toArray, List.length_cons, List.length_nil, Nat.reduceAdd, Nat.reduceSub, Array.replicate_succ, Array.replicate_zero, List.push_toArray, List.append_toArray, List.nil_append, List.cons_append]
  gi_wp2_with (refine ⟨trivial, ?_⟩; gi_at_call 59; refine (addresses_in _ _ _).mono ?_; rintro e w' ⟨rfl, rfl⟩)
  have hB0 : Below w.heap.size w ((((w.alloc (Go.Obj.cells #[.pointer (some ⟨B, 0, none⟩)] 64)).alloc (Go.Obj.cells #[.bool false, .int .u64 0, .int .u64 0] 24)).alloc (Go.Obj.cells #[.bool false] 4)).alloc (Go.Obj.cells #[.pointer (some ⟨B, 0, none⟩)] 64)) :=
    ((((Below.refl _ w).alloc (Nat.le_refl _) _).alloc (by simp) _).alloc (by simp; omega) _).alloc (by simp; omega) _
  have hsz : ((((w.alloc (Go.Obj.cells #[.pointer (some ⟨B, 0, none⟩)] 64)).alloc (Go.Obj.cells #[.bool false, .int .u64 0, .int .u64 0] 24)).alloc (Go.Obj.cells #[.bool false] 4)).alloc (Go.Obj.cells #[.pointer (some ⟨B, 0, none⟩)] 64)).heap.size = w.heap.size + 4 := by simp
  obtain ⟨b1, b2, b3, b4⟩ := get4 w (Go.Obj.cells #[.pointer (some ⟨B, 0, none⟩)] 64) (Go.Obj.cells #[.bool false, .int .u64 0, .int .u64 0] 24) (Go.Obj.cells #[.bool false] 4) (Go.Obj.cells #[.pointer (some ⟨B, 0, none⟩)] 64)
  obtain ⟨W0, hW0⟩ : ∃ W0, (((w.alloc (Go.Obj.cells #[.pointer (some ⟨B, 0, none⟩)] 64)).alloc (Go.Obj.cells #[.bool false, .int .u64 0, .int .u64 0] 24)).alloc (Go.Obj.cells #[.bool false] 4)).alloc (Go.Obj.cells #[.pointer (some ⟨B, 0, none⟩)] 64) = W0 := ⟨_, rfl⟩
  rw [hW0] at hB0 hsz b1 b2 b3 b4 ⊢
  have hbook0 := CKept.below hB0 _ _ _ _ hbook
  clear hW0
  refine wpIn_rangeFunc_ownH (F := Fence.wide) (n := 9) rfl (by omega) (gf := 64) (lb := #[.pointer (some ⟨w.heap.size + 1 + 1 + 1, 0, none⟩)]) rfl trivial (enters_of Try.func64 (by kernel_rfl) rfl)
    (addrs_stops 8 (by omega) (w.heap.size + 1 + 1 + 1) B p va vl last xs W0 b4 hbook0 hlast hafter hall) (fun h k => h.trans k) (fun W l o o' _ hl hc _ => CKept.put o' hl hc) (Below.refl _ _) (fun _ => rfl)
    (fun pre W => ((∀ i ∈ pre, tk (elA xs i) = true) ∧ W.heap[w.heap.size]? = some (Go.Obj.cells #[.pointer (some ⟨B, 0, none⟩)] 64 (0, 0)) ∧ W.heap[w.heap.size + 1]? = some (Go.Obj.cells #[.bool false, .int .u64 0, .int .u64 0] 24 (0, 0)) ∧ W.heap[w.heap.size + 1 + 1]? = some (Go.Obj.cells #[.bool false] 4 (0, 0))) ∧ Below w.heap.size w W)
    (fun c pre W => (∃ pre0 i, c = .ret ∧ pre = pre0 ++ [i] ∧ (∀ j ∈ pre0, tk (elA xs j) = true) ∧ tk (elA xs i) = false ∧ W.heap[w.heap.size + 1]? = some (Go.Obj.cells (adC (elA xs i)) 24 (0, 0)) ∧ W.heap[w.heap.size + 1 + 1]? = some (Go.Obj.cells #[.bool true] 4 (0, 0))) ∧ Below w.heap.size w W)
    (OwnFrom.and (fun s A C row hs hg hr => ⟨hs.1, heap_own hs.2.1 hg (fun r e => (hr r e).2), heap_own hs.2.2.1 hg (fun r e => (hr r e).2), heap_own hs.2.2.2 hg (fun r e => (hr r e).2)⟩) (ownFrom_below (by omega) (by omega)))
    (fun c => OwnFrom.and (fun s A C row hs hg hr => by
      obtain ⟨pre0, i, h1, h2, h3, h4, h5, h6⟩ := hs
      exact ⟨pre0, i, h1, h2, h3, h4, heap_own h5 hg (fun r e => (hr r e).2), heap_own h6 hg (fun r e => (hr r e).2)⟩) (ownFrom_below (by omega) (by omega)))
    ⟨⟨by simp, b1, b2, b3⟩, hB0⟩
    (fun x a' W => ∃ Bx, w.heap.size + 1 + 1 < Bx ∧ W.heap[Bx]? = some (Go.Obj.cells (adC (elA xs x)) 24 (0, 0)) ∧ a' = { tmps := #[.pointer (some ⟨B, 0, none⟩), .pointer (some ⟨w.heap.size, 0, none⟩), .pointer (some ⟨w.heap.size + 1, 0, none⟩), .pointer (some ⟨w.heap.size + 1 + 1, 0, none⟩), .pointer (some ⟨Bx, 0, none⟩), .pointer (some ⟨B, 0, none⟩), .func (.func 64) #[] #[.pointer (some ⟨w.heap.size + 1 + 1 + 1, 0, none⟩)], adV (elA xs x), undef, undef, undef, undef, undef, undef], defers := [] })
    (fun x a' _ X Y row hs hg hr => by obtain ⟨Bx, h1, h2, h3⟩ := hs; exact ⟨Bx, h1, heap_own h2 hg (fun r e => (hr r e).2), h3⟩)
    ?assign ?body ?done ?stop
  case assign =>
    rintro l pre x W K ⟨⟨i1, i2, i3, i4⟩, hB1⟩ hK
    have hlt : w.heap.size + 1 + 1 < W.heap.size := (Array.getElem?_eq_some_iff.1 i4).1
    simp only [adV] at hK ⊢
    gi_wp2
    refine hK _ _ ((KeepsOthers.alloc _ _).from _) (CKept.below ((Below.refl _ W).alloc (Nat.le_refl _) _)) ⟨⟨i1, (Below.heap_alloc _ _ _ (by omega)).trans i2, (Below.heap_alloc _ _ _ (by omega)).trans i3, (Below.heap_alloc _ _ _ (by omega)).trans i4⟩, hB1.alloc (by omega) _⟩ ⟨W.heap.size, hlt, World.alloc_heap_new W _, rfl⟩
  case body =>
    rintro l pre x a' W hl ⟨r, hr⟩ ⟨⟨i1, i2, i3, i4⟩, hB1⟩ ⟨Bx, hBx, bX, rfl⟩ hlt
    have h1' : 1 ≤ 9 - 1 - 1 := by omega
    have cB := (cell_of_box_l i2).1
    obtain ⟨x0, x1, x2⟩ := ad_cells bX
    have htk' := htaken (elA xs x) W (elA_mem hxs x) hB1
    simp only [adV] at htk' ⊢
    cases htk : tk (elA xs x)
    · rw [htk] at htk'
      gi_wp2_with (refine ⟨trivial, ?_⟩; gi_at_call 60; refine (CallsIn.inRound l (callsIn_wide.2 htk')).mono ?_; rintro e w2 ⟨rfl, hb2⟩; have hk2 := CKept.below hb2; obtain ⟨x0, x1, x2⟩ := ad_cells (hk2 _ _ _ _ bX); have j3 := hk2 _ _ _ _ i3; have j4 := hk2 _ _ _ _ i4; obtain ⟨n0, n1, n2, n3, n4, n5⟩ := three_cells j3; obtain ⟨n6, n7⟩ := cell_of_box_l j4)
      obtain ⟨s1, s2, s3⟩ := set3 (a := .bool (elA xs x).v6) (b := .int .u64 (elA xs x).hi) (c := .int .u64 (elA xs x).lo) j3
      have j4' : (((w2.setCell ⟨w.heap.size + 1, 0, none⟩ (.bool (elA xs x).v6)).setCell ⟨w.heap.size + 1, 1, none⟩ (.int .u64 (elA xs x).hi)).setCell ⟨w.heap.size + 1, 2, none⟩ (.int .u64 (elA xs x).lo)).heap[w.heap.size + 1 + 1]? = some (Go.Obj.cells #[.bool false] 4 (0, 0)) := (s2 _ (by omega)).trans j4
      refine ⟨((KeepsFrom.of_grownBy (below_grown' hb2) (fun j e => by cases e)).trans (((KeepsOthers.setCell _ _ _).from _).trans (((KeepsOthers.setCell _ _ _).from _).trans ((KeepsOthers.setCell _ _ _).from _)))).trans ((KeepsOthers.setCell _ _ _).from _), ⟨pre, x, rfl, rfl, i1, htk, ?_, ?_⟩, ?_⟩
      · exact (Below.heap_setCell _ ⟨w.heap.size + 1 + 1, 0, none⟩ _ _ (by show w.heap.size + 1 ≠ w.heap.size + 1 + 1; omega)).trans s1
      · have := setCell_heap _ (w.heap.size + 1 + 1) 0 (.bool true) #[.bool false] 4 (0, 0) j4'
        exact this
      · exact ((hB1.trans (hb2.mono hB1.size)).trans (s3.mono (by omega))).setCell (p := ⟨w.heap.size + 1 + 1, 0, none⟩) (by show w.heap.size ≤ w.heap.size + 1 + 1; omega) _
    · rw [htk] at htk'
      gi_wp2_with (refine ⟨trivial, ?_⟩; gi_at_call 60; refine (CallsIn.inRound l (callsIn_wide.2 htk')).mono ?_; rintro e w2 ⟨rfl, hb2⟩; have hk2 := CKept.below hb2)
      have j : ∀ (b : Nat) (o : Go.Obj), W.heap[b]? = some o → w2.heap[b]? = some o := fun b o h => heap_below hb2 h
      refine ⟨KeepsFrom.of_grownBy (below_grown' hb2) (fun j e => by cases e), CKept.below hb2, ⟨fun i hi => ?_, j _ _ i2, j _ _ i3, j _ _ i4⟩, hB1.trans (hb2.mono hB1.size)⟩
      rcases List.mem_append.1 hi with hi | hi
      · exact i1 i hi
      · simp only [List.mem_singleton] at hi
        subst hi
        exact htk
  case done =>
    rintro D ys W hD rfl ⟨⟨i1, i2, i3, i4⟩, hB1⟩ hK
    obtain ⟨n0, n1, n2, n3, n4, n5⟩ := three_cells i3
    obtain ⟨n6, n7⟩ := cell_of_box_l i4
    have hrs := hnone.out (fun i hi => i1 i (by simpa using hi))
    gi_wp2
    obtain ⟨s1, s2, s3⟩ := set3 (a := .bool false) (b := .int .u64 0) (c := .int .u64 0) i3
    have i4' : (((W.setCell ⟨w.heap.size + 1, 0, none⟩ (.bool false)).setCell ⟨w.heap.size + 1, 1, none⟩ (.int .u64 0)).setCell ⟨w.heap.size + 1, 2, none⟩ (.int .u64 0)).heap[w.heap.size + 1 + 1]? = some (Go.Obj.cells #[.bool false] 4 (0, 0)) := (s2 _ (by omega)).trans i4
    have t1 := setCell_heap _ (w.heap.size + 1 + 1) 0 (.bool false) #[.bool false] 4 (0, 0) i4'
    have t2 := (Below.heap_setCell _ ⟨w.heap.size + 1 + 1, 0, none⟩ (.bool false) _ (by show w.heap.size + 1 ≠ w.heap.size + 1 + 1; omega)).trans s1
    have hK' := (Below.heap_setCell _ ⟨w.heap.size + 1 + 1, 0, none⟩ (.bool false) D (by show D ≠ w.heap.size + 1 + 1; omega)).trans ((s2 D (by omega)).trans hK)
    refine ⟨by simp, .inl ⟨_, _, rfl, run_takeDeferred hK', ?_⟩⟩
    have t1' := (World.putObj_heap_other (r := D) (o := .deferred none) (show w.heap.size + 1 + 1 ≠ D by omega)).trans t1
    have t2' := (World.putObj_heap_other (r := D) (o := .deferred none) (show w.heap.size + 1 ≠ D by omega)).trans t2
    obtain ⟨m0, m1, m2, _⟩ := three_cells t2'
    obtain ⟨m6, _⟩ := cell_of_box_l t1'
    refine ⟨.tuple #[.agg #[.bool false, .int .u64 0, .int .u64 0], .bool false], ?_, by rw [hrs]; rfl, ((hB1.trans (s3.mono (by omega))).setCell (p := ⟨w.heap.size + 1 + 1, 0, none⟩) (by show w.heap.size ≤ w.heap.size + 1 + 1; omega) _).trans (belowK_b (w := w) (Nat.le_refl _) _ D _ _ (by omega) hK' rfl rfl)⟩
    simp [results, Try.f42, go_sem, m0, m1, m2, m6]
  case stop =>
    rintro D c pre W hD hpre ⟨⟨pre0, i, rfl, hp, h3, h4, h5, h6⟩, hB1⟩ hK
    have hrs : res = (elA xs i, true) := by
      obtain ⟨t, ht⟩ := hpre
      rw [hp] at ht
      have hl0 : pre0.length < xs.length := by
        have := congrArg List.length ht
        simp at this
        omega
      have hi : i = pre0.length := by
        have := congrArg (fun l => l[pre0.length]?) ht
        simp [hl0] at this
        exact this
      subst hi
      refine hsome.out _ hl0 (fun j hj => h3 j ?_) h4
      have h0 : (List.range xs.length)[j]? = some j := by rw [List.getElem?_eq_some_iff]; exact ⟨by simp; omega, by simp⟩
      rw [← ht, List.append_assoc, List.getElem?_append_left hj] at h0
      exact List.mem_of_getElem? h0
    gi_wp2
    refine ⟨by simp, .inl ⟨_, _, rfl, run_takeDeferred hK, ?_⟩⟩
    have t1' := (World.putObj_heap_other (r := D) (o := .deferred none) (show w.heap.size + 1 + 1 ≠ D by omega)).trans h6
    have t2' := (World.putObj_heap_other (r := D) (o := .deferred none) (show w.heap.size + 1 ≠ D by omega)).trans h5
    obtain ⟨m0, m1, m2⟩ := ad_cells t2'
    obtain ⟨m6, _⟩ := cell_of_box_l t1'
    refine ⟨.tuple #[adV (elA xs i), .bool true], ?_, by rw [hrs], hB1.trans (belowK_b (w := w) (Nat.le_refl _) W D _ _ (by omega) hK rfl rfl)⟩
    simp [results, Try.f42, go_sem, m0, m1, m2, m6, adV]

theorem flat_callsN {P : Program} {W : World} {f : FuncId} {ps rs : List PS} {t : PsT ps → Option (PsT rs)} (ht : TrOk P f (con ps rs t)) {x : PsT ps} {y : PsT rs} (hx : t x = some y)
    (hdec : decA (encA false ps x 0).2 ps (encA false ps x 0).1 = some x) (hany : (encA false ps x 0).1.all (fun v => !v.isAny) = true) {ρ : Nat → Value} {vals us : List Value}
    (hu : ArgsOk W ρ 0 vals (encA false ps x 0).1 (encA false ps x 0).2 us) :
    Calls P f vals.toArray W fun e W' => (∃ ρ' n, e = .returned (den ρ' (encR rs y n))) ∧ Below W.heap.size W W' := by
  have hrel := hu.rel
  have hden := hu.den _ (gives_nameOf us)
  have hk : conTr ps rs t (SV × Mem) (encA false ps x 0).1 (encA false ps x 0).2 (fun r m => some (r, m)) = some (encR rs y (encA false ps x 0).2.length, (encA false ps x 0).2 ++ (encA true rs y (encA false ps x 0).2.length).2) := by
    simp only [conTr, hdec, hx, Option.bind_some]
  have hc := ht.1 W (SV × Mem) (encA false ps x 0).1 (encA false ps x 0).2 (fun r m => some (r, m)) _ hk hany
  have := hc.call (by have := hu.lt.1; simpa using this) _ W hrel
  rw [hden] at this
  refine this.mono ?_
  rintro e w' ⟨ρ', r', m', rfl, hm', _, _, _, hres⟩
  have hres : (some (r', m') : Option (SV × Mem)) = some (encR rs y (encA false ps x 0).2.length, (encA false ps x 0).2 ++ (encA true rs y (encA false ps x 0).2.length).2) := hres
  injection hres with hres
  injection hres with h1 h2
  exact ⟨⟨ρ', _, by rw [h1]⟩, hm'.below⟩
theorem flv_seg {k : K} (w : World) (ρ : Nat → Value) (a : k.T) (v : Value) (n : Nat) (h : ∀ ρ, v = den ρ (flV k a)) : ArgsOk w ρ n [v] [flV k a] [] [] :=
  ⟨rfl, fun ρ' _ => by simp only [denL, h ρ'], fun _ _ _ i o v h => by simp at h, by simp only [ltL, flV_lt, Bool.and_self], fun o h => by cases h⟩
theorem argsLater {w w' : World} {ρ : Nat → Value} {n : Nat} {vals : List Value} {svs : List SV} {os : Mem} {us : List Value} (h : ArgsOk w ρ n vals svs os us) (hb : Below w.heap.size w w') : ArgsOk w' ρ n vals svs os us :=
  ⟨h.len, h.den, fun W ρ' hg i o v hi hv => ⟨(h.obj W ρ' hg i o v hi hv).1.keep (fun b _ hlt => hb.block b hlt) hb.size, (h.obj W ρ' hg i o v hi hv).2⟩, h.lt⟩

noncomputable def tkOf (p : Pf) (kp : List Ad) (ls : List Ls) (a : Ad) : Bool := match m_lease_book__taken_t p kp ls a with | some (t, _) => t | none => false
theorem elA_lt {xs : List Ad} {i : Nat} (h : i < xs.length) : elA xs i = xs[i] := by
  unfold elA
  rw [List.getD_eq_getElem?_getD, List.getElem?_eq_getElem h]
  rfl
theorem elA_cons {a : Ad} {r : List Ad} {i : Nat} (h : i < r.length) : elA (a :: r) (i + 1) = elA r i := by
  rw [elA_lt h, elA_lt (by simpa using h)]
  rfl
theorem firstIn_spec {p : Pf} {kp : List Ad} {ls : List Ls} : ∀ {xs : List Ad} {y : Ad × Bool × Unit}, firstIn p kp ls xs = some y →
    (∀ a ∈ xs, m_lease_book__taken_t p kp ls a = some (tkOf p kp ls a, ())) ∧ ((∀ i, i < xs.length → tkOf p kp ls (elA xs i) = true) → y = (⟨false, 0, 0⟩, false, ())) ∧
      (∀ i, i < xs.length → (∀ j, j < i → tkOf p kp ls (elA xs j) = true) → tkOf p kp ls (elA xs i) = false → y = (elA xs i, true, ()))
  | [], y, h => by
    cases h
    exact ⟨fun a h => by (cases h), fun _ => rfl, fun i h => by simp at h⟩
  | a :: r, y, h => by
    simp only [firstIn] at h
    obtain ⟨t, ht, h⟩ := Option.bind_eq_some_iff.1 h
    obtain ⟨y', hy', h⟩ := Option.bind_eq_some_iff.1 h
    obtain ⟨h1, h2, h3⟩ := firstIn_spec hy'
    have htk : tkOf p kp ls a = t.1 := by unfold tkOf; rw [ht]
    have hy : (bif t.1 then y' else (a, true, ())) = y := by injection h
    refine ⟨fun b hb => ?_, fun hall => ?_, fun i hi hj hti => ?_⟩
    · rcases List.mem_cons.1 hb with rfl | hb
      · rw [ht, htk]
      · exact h1 b hb
    · have h0 := hall 0 (by simp)
      rw [elA_lt (by simp), List.getElem_cons_zero, htk] at h0
      rw [h0] at hy
      rw [← hy]
      exact h2 fun i hi => by
        have := hall (i + 1) (by simpa using hi)
        rwa [elA_cons hi] at this
    · cases i with
      | zero =>
        rw [elA_lt hi, List.getElem_cons_zero] at hti ⊢
        rw [htk] at hti
        rw [hti] at hy
        exact hy.symm
      | succ i =>
        have h0 := hj 0 (by omega)
        rw [elA_lt (by simp), List.getElem_cons_zero, htk] at h0
        rw [h0] at hy
        have hi' : i < r.length := by simpa using hi
        rw [elA_cons hi'] at hti ⊢
        rw [← hy]
        exact h3 i hi' (fun j hj' => by
          have := hj (j + 1) (by omega)
          rwa [elA_cons (by omega)] at this) hti

noncomputable def m_lease_book__first_con : Con := con [.ref [.fl .pfx, .row .addr 24, .row .lease 49] 66] [.one (.fl .addr), .one (.fl .bool)] (fun x => m_lease_book__first_t x.1.1 x.1.2.1 x.1.2.2.1)
theorem first_main (p : Pf) (kp : List Ad) (ls : List Ls) (y : Ad × Bool × Unit) (hx : m_lease_book__first_t p kp ls = some y) (ρ : Nat → Value) (us vals : List Value) (w : World)
    (hu : ArgsOk w ρ 0 vals (encA false [.ref [.fl .pfx, .row .addr 24, .row .lease 49] 66] ((p, kp, ls, ()), ()) 0).1 (encA false [.ref [.fl .pfx, .row .addr 24, .row .lease 49] 66] ((p, kp, ls, ()), ()) 0).2 us) :
    Calls Try.prog 42 vals.toArray w fun e w' => ∃ ρc r m', e = .returned (den ρc r) ∧ RelM w ρc m' w' ∧ resR [.one (.fl .addr), .one (.fl .bool)] r m' = some y := by
  have hg := gives_nameOf us
  have hlen := hu.len
  have hdenv := hu.den _ hg
  obtain ⟨vb, va, vl, rfl⟩ : ∃ vb va vl, us = [vb, va, vl] := by
    have hl1 : us.length = 3 := hlen
    match us, hl1 with
    | [a, b, c], _ => exact ⟨a, b, c, rfl⟩
  obtain ⟨hob, _⟩ := hu.obj w _ hg 0 _ vb rfl rfl
  obtain ⟨b, arr, rfl, _, hheap, harr, hcells⟩ := hob
  have harr : arr.size = 6 := harr
  have hg0 := hcells 0 (.b p.ad.v6) rfl rfl
  have hg1 := hcells 1 (.i .u64 p.ad.hi) rfl rfl
  have hg2 := hcells 2 (.i .u64 p.ad.lo) rfl rfl
  have hg3 := hcells 3 (.i .i64 p.bits) rfl rfl
  have hg4 := hcells 4 (.row 1) rfl rfl
  have hg5 := hcells 5 (.row 2) rfl rfl
  have hA : arr = #[.bool p.ad.v6, .int .u64 p.ad.hi, .int .u64 p.ad.lo, .int .i64 p.bits, sliceVal va, sliceVal vl] := by
    apply Array.ext_getElem?
    intro i
    match i with
    | 0 => rw [hg0]; rfl
    | 1 => rw [hg1]; rfl
    | 2 => rw [hg2]; rfl
    | 3 => rw [hg3]; rfl
    | 4 => rw [hg4]; rfl
    | 5 => rw [hg5]; rfl
    | i + 6 => rw [Array.getElem?_eq_none (by omega), Array.getElem?_eq_none (by simp)]
  subst hA
  have hvals : vals = [.pointer (some ⟨b, 0, none⟩)] := by
    rw [← hdenv]
    show [ptrOff (.pointer (some ⟨b, 0, none⟩)) 0] = _
    simp only [ptrOff, add_zero_addr, Nat.add_zero]
  subst hvals
  unfold m_lease_book__first_t at hx
  obtain ⟨y1, hl1, hx⟩ := Option.bind_eq_some_iff.1 hx
  obtain ⟨last, u1⟩ := y1
  obtain ⟨xs, hall, hx⟩ := Option.bind_eq_some_iff.1 hx
  obtain ⟨f1, f2, f3⟩ := firstIn_spec hx
  obtain ⟨r1, hr1⟩ := allA_head hall
  obtain ⟨ra, rb, ru⟩ := y
  refine (callsIn_wide.1 (first_walk b p _ _ last xs (tkOf p kp ls) w (by rw [hr1]; simp) hheap (fun W => ?_) (fun a c ok W hac => ?_) (fun a W hmem hB => ?_) hall (ra, rb) (fun h => ?_) (fun i hi hj hti => ?_))).mono ?_
  · have ha := flv_seg (k := .pfx) W (fun _ => Go.undef) p (pfV p) 0 (fun _ => rfl)
    refine (flat_calls prefix_Last_ok (x := (p, ())) hl1 rfl rfl ha).mono ?_
    rintro e w' ⟨⟨ρ', rfl⟩, hb'⟩
    exact ⟨rfl, hb'⟩
  · have ha := flv_seg (k := .addr) W (fun _ => Go.undef) a (adV a) 0 (fun _ => rfl)
    refine (flat_callsN addr_After_ok (x := (a, ())) (y := (c, ok, ())) hac rfl rfl ha).mono ?_
    rintro e w' ⟨⟨ρ', n, rfl⟩, hb'⟩
    exact ⟨rfl, hb'⟩
  · have ha := (argsLater hu hB).app (flv_seg (k := .addr) W ρ a (adV a) 3 (fun _ => rfl))
    refine (flat_calls m_lease_book__taken_ok (x := ((p, kp, ls, ()), a, ())) (f1 a hmem) rfl rfl ha).mono ?_
    rintro e w' ⟨⟨ρ', rfl⟩, hb'⟩
    exact ⟨rfl, hb'⟩
  · have := f2 h
    cases this
    rfl
  · have := f3 i hi hj hti
    cases this
    rfl
  · rintro e w' ⟨rfl, hb⟩
    refine ⟨fun _ => Go.undef, .tup [.agg [.b ra.v6, .i .u64 ra.hi, .i .u64 ra.lo], .b rb], [], rfl, ?_, rfl⟩
    exact ⟨hb, fun j o h => by simp at h, fun i j o o' _ h => by simp at h, fun j o h => by simp at h⟩
/-- **(*book).first**. -/
theorem m_lease_book__first_ok : TrOk Try.prog 42 m_lease_book__first_con := con_of _ _ _ fun x y hx ρ us vals w hu => first_main x.1.1 x.1.2.1 x.1.2.2.1 y hx ρ us vals w hu
end Go.Proofs.Ytjadfkpajjlgkaa
