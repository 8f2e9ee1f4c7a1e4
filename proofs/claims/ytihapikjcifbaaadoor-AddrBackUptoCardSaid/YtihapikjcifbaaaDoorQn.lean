/-
  addr.sixteen, with both ends, by hand.
-/
import Derived.Test.YtihapikjcifbaaaDoorQg
import Derived.Test.YtihapikjcifbaaaDoorQm
import Derived.RegionTactic
import Derived.ChangeAlike
import Derived.BigRegion
namespace Go.Proofs.YtihapikjcifbaaaDoor
open Go Go.Ma Go.RowKit Go.Proofs
theorem gMaxLen : Tryd.prog.globalNamed "internal/bytealg.MaxLen" = some 1 := by kernel_rfl
theorem cut_calls (s : ByteArray) (hs : s.size ≤ 4294967200) (w : World) (hG : Glob Tryd.prog w) :
    Calls Tryd.prog 48 #[.string s, .string ⟨#[58, 58]⟩] w fun e w' => e = .returned (.tuple #[.string (cut1 s), .string (cut2 s), .bool (cut3 s)]) ∧ Below w.heap.size w w' := by
  obtain ⟨m, hm⟩ := hG.num _ gMaxLen
  refine (Go.Proofs.Tryd.strings_Cut s ⟨#[58, 58]⟩ m w (by omega) hm).mono ?_
  rintro e w' ⟨rfl, n, rfl⟩
  exact ⟨rfl, below_drewN w n⟩
theorem cut_sizes (s : ByteArray) : (cut1 s).size ≤ s.size ∧ (cut2 s).size ≤ s.size := by
  have h1 : (cut1 s).size = (Lib.cut s.data.toList [58, 58]).1.length := rfl
  have h2 : (cut2 s).size = (Lib.cut s.data.toList [58, 58]).2.1.length := rfl
  have h3 : s.data.toList.length = s.size := Array.length_toList
  rw [h1, h2]
  unfold Lib.cut
  generalize Lib.index s.data.toList [58, 58] = ix
  by_cases h : 0 ≤ ix
  · rw [if_pos h]
    simp only [List.length_take, List.length_drop]; omega
  · rw [if_neg h]
    simp only [List.length_nil]; omega
theorem heap_below {A C : World} (hb : Below A.heap.size A C) {b : Nat} {o : Go.Obj} (h : A.heap[b]? = some o) : C.heap[b]? = some o := (hb.block b (Array.getElem?_eq_some_iff.1 h).1).trans h
theorem three_cells {w : World} {N : Nat} {a b c : Value} {t : TypeId} (this : w.heap[N]? = some (Go.Obj.cells #[a, b, c] t (0, 0))) :
    w.cell? ⟨N, 0, none⟩ = some a ∧ w.cell? ⟨N, 1, none⟩ = some b ∧ w.cell? ⟨N, 2, none⟩ = some c ∧ w.frozen? ⟨N, 0, none⟩ = false ∧ w.frozen? ⟨N, 1, none⟩ = false ∧ w.frozen? ⟨N, 2, none⟩ = false := by
  refine ⟨?_, ?_, ?_, ?_, ?_, ?_⟩ <;> simp [World.cell?, World.frozen?, this]
theorem set3 {w : World} {N : Nat} {x y z a b c : Value} {t : TypeId} (h : w.heap[N]? = some (Go.Obj.cells #[x, y, z] t (0, 0))) :
    (((w.setCell ⟨N, 0, none⟩ a).setCell ⟨N, 1, none⟩ b).setCell ⟨N, 2, none⟩ c).heap[N]? = some (Go.Obj.cells #[a, b, c] t (0, 0)) ∧
    (∀ k, k ≠ N → (((w.setCell ⟨N, 0, none⟩ a).setCell ⟨N, 1, none⟩ b).setCell ⟨N, 2, none⟩ c).heap[k]? = w.heap[k]?) ∧
    Below N w (((w.setCell ⟨N, 0, none⟩ a).setCell ⟨N, 1, none⟩ b).setCell ⟨N, 2, none⟩ c) := by
  obtain ⟨h1, h2, _⟩ := setCells_spec w N 0 [a, b, c] #[x, y, z] t (0, 0) h
  refine ⟨h1, h2, ?_⟩
  exact (((Below.refl N w).setCell (p := ⟨N, 0, none⟩) (Nat.le_refl _) _).setCell (p := ⟨N, 1, none⟩) (Nat.le_refl _) _).setCell (p := ⟨N, 2, none⟩) (Nat.le_refl _) _
theorem packI_snoc (x : Int) : ∀ (l : List Int) (a : Int), packI (l ++ [x]) a = aop .or .u64 (aop .shl .u64 (packI l a) 16) x
  | [], _ => rfl
  | y :: r, a => packI_snoc x r _
theorem packI_take {l : List Int} {k : Nat} {x : Int} (hx : l[k]? = some x) (a : Int) : packI (l.take (k + 1)) a = aop .or .u64 (aop .shl .u64 (packI (l.take k) a) 16) x := by
  rw [List.take_add_one, hx]
  exact packI_snoc x _ a
theorem someL_len (last : Bool) (len : Nat) : ∀ (l : List ByteArray) (i : Nat) (out r : List Int), someL last len l i out = some r → r.length ≤ out.length + 2 * l.length
  | [], _, out, r, h => by injection h with h; rw [h]; simp
  | x :: l, i, out, r, h => by
    rw [someL] at h
    split at h
    · split at h
      · cases h
      · have := someL_len last len l _ _ r h
        simp only [List.length_append, List.length_cons, List.length_nil] at this ⊢
        omega
    · split at h
      · cases h
      · have := someL_len last len l _ _ r h
        simp only [List.length_append, List.length_cons, List.length_nil] at this ⊢
        omega
theorem someF_len {s : ByteArray} {last : Bool} {r : List Int} (h : someF s last = some r) : r.length ≤ 2 * (s.size + 1) := by
  unfold someF at h
  split at h
  · injection h with h; rw [← h]; simp
  · have h1 := someL_len _ _ _ _ _ _ h
    have h2 := splitOn_le s 58
    simp only [List.length_nil] at h1
    omega
/-- One cell of a block of three is written: the others, and all other blocks, are as they were. -/
theorem put_one {w wr : World} {N i : Nat} {a b c v : Value} {t : TypeId} (hn : wr.heap[N]? = some (Go.Obj.cells #[a, b, c] t (0, 0))) (hb : Below w.heap.size w wr) (hN : w.heap.size < N) :
    (wr.setCell ⟨N, i, none⟩ v).drew.heap[N]? = some (Go.Obj.cells (#[a, b, c].setIfInBounds i v) t (0, 0)) ∧ (∀ k, k ≠ N → (wr.setCell ⟨N, i, none⟩ v).drew.heap[k]? = wr.heap[k]?) ∧ Below w.heap.size w (wr.setCell ⟨N, i, none⟩ v).drew := by
  have h := hb.setCell (p := ⟨N, i, none⟩) (show w.heap.size ≤ N by omega) v
  exact ⟨setCell_heap wr N i v _ t (0, 0) hn, fun k hk => Below.heap_setCell wr ⟨N, i, none⟩ v k hk, ⟨h.os, h.tape, h.output, h.size, h.block⟩⟩
theorem cells_other {w w' : World} {g N : Nat} {L : List Int} (hg : g ≠ N) (h : ∀ k, k ≠ N → w'.heap[k]? = w.heap[k]?) (hc : ∀ (j : Nat) x, L[j]? = some x → w.cell? ⟨g, j, none⟩ = some (.int .u64 x)) : ∀ (j : Nat) x, L[j]? = some x → w'.cell? ⟨g, j, none⟩ = some (.int .u64 x) :=
  fun j x hx => (World.cell?_of_block (a := ⟨g, j, none⟩) (h g hg)).trans (hc j x hx)
def EndA (o : Option Ad) (e : Ending) : Prop := match o with
  | some a => e = .returned (.agg #[.bool a.v6, .int .u64 a.hi, .int .u64 a.lo])
  | none => e = .panicked [badE]
theorem endA_none {o : Option Ad} (h : o = none) : EndA o (.panicked [badE]) := by rw [h]; rfl
theorem set1 {w : World} {N i : Nat} {c : Array Value} {t : TypeId} (v : Value) (h : w.heap[N]? = some (Go.Obj.cells c t (0, 0))) :
    (w.setCell ⟨N, i, none⟩ v).heap[N]? = some (Go.Obj.cells (c.setIfInBounds i v) t (0, 0)) := setCell_heap w N i v c t (0, 0) h

set_option maxRecDepth 100000 in
set_option maxHeartbeats 8000000 in
theorem sixteen_walk (s : ByteArray) (hs : s.size ≤ 4294967200) (w : World) (hG : Glob Tryd.prog w) :
    Calls Tryd.prog 34 #[.string s] w fun e w' => EndA (sixteenF s) e ∧ Below w.heap.size w w' := by
  obtain ⟨i0, hi, hz0, hz1, hz2⟩ := info_parts infoU64
  obtain ⟨hs1, hs2⟩ := cut_sizes s
  have HC : Hid (∀ W, Below w.heap.size w W → Calls Tryd.prog 48 #[.string s, .string ⟨#[58, 58]⟩] W fun e w' => e = .returned (.tuple #[.string (cut1 s), .string (cut2 s), .bool (cut3 s)]) ∧ Below W.heap.size W w') := fun W hW => cut_calls s hs W (hG.mono hW)
  have H1 : Hid (∀ W, Below w.heap.size w W → Calls Tryd.prog 49 #[.string (cut1 s), .bool false] W fun e w' => EndRow W.heap.size (someF (cut1 s) false) e w' ∧ Below W.heap.size W w') := fun W hW => some_walk _ _ (by omega) W (hG.mono hW)
  have H2 : Hid (∀ W, Below w.heap.size w W → Calls Tryd.prog 49 #[.string (cut2 s), .bool true] W fun e w' => EndRow W.heap.size (someF (cut2 s) true) e w' ∧ Below W.heap.size W w') := fun W hW => some_walk _ _ (by omega) W (hG.mono hW)
  have H3 : Hid (∀ W, Below w.heap.size w W → Calls Tryd.prog 49 #[.string s, .bool true] W fun e w' => EndRow W.heap.size (someF s true) e w' ∧ Below W.heap.size W w') := fun W hW => some_walk _ _ (by omega) W (hG.mono hW)
  have hsx : sixteenF s = if cut3 s = true then (match someF (cut1 s) false with
    | none => none
    | some l => match someF (cut2 s) true with
      | none => none
      | some m => if 7 < l.length + m.length then none else some (packA (l ++ List.replicate (8 - l.length - m.length) 0 ++ m)))
  else match someF s true with
    | none => none
    | some l => if l.length = 8 then some (packA l) else none := rfl
  generalize sixteenF s = res at hsx ⊢
  generalize cut1 s = s1 at HC H1 hs1 hsx
  generalize cut2 s = s2 at HC H2 hs2 hsx
  generalize cut3 s = ok at HC hsx
  have hba : Below w.heap.size w (w.alloc (.cells #[.bool false, .int .u64 0, .int .u64 0] 24)) := (Below.refl _ w).alloc (Nat.le_refl _) _
  have hn0 := heap_alloc_new w (.cells #[.bool false, .int .u64 0, .int .u64 0] 24)
  go_enter Tryd.func34, Tryd.ntmps34
  cases ok with
  | false =>
    rw [if_neg (by decide)] at hsx
    cases hp : someF s true with
    | none =>
      rw [hp] at hsx H3
      go_wp2_with (first | (go_at_call 48; refine (HC.out _ hba).mono ?_; rintro e w1 ⟨rfl, hb1⟩) | (go_at_call 49; refine (H3.out _ (hba.trans (hb1.mono hba.size))).mono ?_; rintro e w2 ⟨he, hb2⟩; have he : e = .panicked [badE] := he; subst he))
      exact ⟨rfl, endA_none hsx, hba.trans ((hb1.mono hba.size).trans (hb2.mono (Nat.le_trans hba.size hb1.size)))⟩
    | some l =>
      rw [hp] at hsx H3
      simp only at hsx
      by_cases h8 : l.length = 8
      rotate_left
      · rw [if_neg h8] at hsx
        have h8i : ((l.length : Int) != 8) = true := by rw [bne_iff_ne]; omega
        go_wp2_with (first | (go_at_call 48; refine (HC.out _ hba).mono ?_; rintro e w1 ⟨rfl, hb1⟩) | (go_at_call 49; refine (H3.out _ (hba.trans (hb1.mono hba.size))).mono ?_; rintro e w2 ⟨⟨v, rfl, hown⟩, hb2⟩; obtain ⟨A, cap, rfl⟩ : ∃ A cap, v = .slice A l.length cap := by obtain ⟨_, ⟨h, h0⟩ | ⟨g, cap, cur, h, _⟩⟩ := hown; exact ⟨none, 0, by rw [h, h0]⟩; exact ⟨_, _, h⟩))
        exact ⟨rfl, endA_none hsx, hba.trans ((hb1.mono hba.size).trans (hb2.mono (Nat.le_trans hba.size hb1.size)))⟩
      rw [if_pos h8] at hsx
      have h8i : ((l.length : Int) != 8) = false := by rw [h8]; rfl
      go_wp2_with (first | (go_at_call 48; refine (HC.out _ hba).mono ?_; rintro e w1 ⟨rfl, hb1⟩) | (go_at_call 49; refine (H3.out _ (hba.trans (hb1.mono hba.size))).mono ?_; rintro e w2 ⟨⟨v, rfl, hown⟩, hb2⟩; obtain ⟨g, cap, rfl, hgw, hgl, HR⟩ := row_form hown (by omega)))
      have hbw : Below w.heap.size w w2 := hba.trans ((hb1.mono hba.size).trans (hb2.mono (Nat.le_trans hba.size hb1.size)))
      have hnw : w2.heap[w.heap.size]? = some (Go.Obj.cells #[.bool false, .int .u64 0, .int .u64 0] 24 (0, 0)) := heap_below hb2 (heap_below hb1 hn0)
      obtain ⟨L, hL⟩ : ∃ L, L = l := ⟨_, rfl⟩
      rw [← hL] at HR h8 hsx
      have hgne : g ≠ w.heap.size := by
        have := hb1.size
        have h2 : (w.alloc (.cells #[.bool false, .int .u64 0, .int .u64 0] 24)).heap.size = w.heap.size + 1 := by simp
        omega
      clear hown hb1 hb2 hba hn0 hL hgw HC H1 H2 H3 hp
      have hN0 := heap_alloc_new w2 (.cells #[.bool true, .int .u64 0, .int .u64 0] 24)
      have hbN : Below w.heap.size w (w2.alloc (.cells #[.bool true, .int .u64 0, .int .u64 0] 24)) := hbw.alloc hbw.size _
      have hnN : (w2.alloc (.cells #[.bool true, .int .u64 0, .int .u64 0] 24)).heap[w.heap.size]? = some (Go.Obj.cells #[.bool false, .int .u64 0, .int .u64 0] 24 (0, 0)) := (Below.heap_alloc _ _ _ (Array.getElem?_eq_some_iff.1 hnw).1).trans hnw
      have HRN : Hid (∀ (j : Nat) x, L[j]? = some x → (w2.alloc (.cells #[.bool true, .int .u64 0, .int .u64 0] 24)).cell? ⟨g, j, none⟩ = some (.int .u64 x)) := Lib.hid fun j x hx => cell_stays ((Below.refl w2.heap.size w2).alloc (Nat.le_refl _) _) (HR.out j x hx)
      obtain ⟨N, hN⟩ : ∃ N, N = w2.heap.size := ⟨_, rfl⟩
      have hgN : g < N := by rw [hN]; exact hgl
      have hwN : w.heap.size < N := by rw [hN]; exact (Array.getElem?_eq_some_iff.1 hnw).1
      rw [← hN] at hN0 ⊢
      generalize w2.alloc (.cells #[.bool true, .int .u64 0, .int .u64 0] 24) = wN at hN0 hbN hnN HRN ⊢
      clear HR hnw hbw hgl hN
      go_loopw [47] (fun vi wr => ∃ (k : Nat) (h l : Int), vi = .int .i64 k ∧ k ≤ 4 ∧ Hid (h = packI (L.take k) 0 ∧ l = packI ((L.drop 4).take k) 0) ∧ wr.heap[N]? = some (Go.Obj.cells #[.bool true, .int .u64 h, .int .u64 l] 24 (0, 0)) ∧ Hid (∀ (j : Nat) x, L[j]? = some x → wr.cell? ⟨g, j, none⟩ = some (.int .u64 x)) ∧ wr.heap[w.heap.size]? = some (Go.Obj.cells #[.bool false, .int .u64 0, .int .u64 0] 24 (0, 0)) ∧ Below w.heap.size w wr) (fun vi _ => 4 - (intOf vi).toNat)
      case atStart => exact ⟨0, 0, 0, rfl, by omega, Lib.hid ⟨rfl, rfl⟩, hN0, HRN, hnN, hbN⟩
      case round =>
        clear hN0 HRN hnN hbN
        obtain ⟨k, h, l, rfl, hk, HP, hN0, HR, hnw, hbw⟩ := hrel
        obtain ⟨m0, m1, m2, m3, m4, m5⟩ := three_cells hN0
        by_cases hlt : k < 4
        · obtain ⟨x, hx⟩ : ∃ x, L[k]? = some x := ⟨_, List.getElem?_eq_getElem (by omega)⟩
          obtain ⟨y, hy⟩ : ∃ y, L[4 + k]? = some y := ⟨_, List.getElem?_eq_getElem (by omega)⟩
          have c0 := HR.out k x hx
          have c1 := HR.out (4 + k) y hy
          have hltI : (k : Int) < 4 := by omega
          go_wp2
          go_region
          obtain ⟨q1, q2, q3⟩ := put_one (i := 1) (v := .int .u64 (bits .or .u64 (IntKind.u64.wrap (h * 65536)) x)) hN0 hbw hwN
          have HR1 := Lib.hid (cells_other (by omega : g ≠ N) q2 HR.out)
          have hnw1 := (q2 w.heap.size (by omega)).trans hnw
          obtain ⟨h1, hh1⟩ : ∃ h1, h1 = bits .or .u64 (IntKind.u64.wrap (h * 65536)) x := ⟨_, rfl⟩
          rw [← hh1] at q1 q2 q3 HR1 hnw1 ⊢
          generalize (wr.setCell ⟨N, 1, none⟩ (.int .u64 h1)).drew = wA at q1 q3 HR1 hnw1 ⊢
          clear q2 HR hnw hbw hN0 m0 m1 m2 m3 m4 m5 c0 c1
          have q1 : wA.heap[N]? = some (Go.Obj.cells #[.bool true, .int .u64 h1, .int .u64 l] 24 (0, 0)) := q1
          obtain ⟨m0, m1, m2, m3, m4, m5⟩ := three_cells q1
          have c1 := HR1.out (4 + k) y hy
          go_wp2
          go_region
          obtain ⟨r1, r2, r3⟩ := put_one (i := 2) (v := .int .u64 (bits .or .u64 (IntKind.u64.wrap (l * 65536)) y)) q1 q3 hwN
          have HR2 := Lib.hid (cells_other (by omega : g ≠ N) r2 HR1.out)
          have hnw2 := (r2 w.heap.size (by omega)).trans hnw1
          obtain ⟨l1, hl1⟩ : ∃ l1, l1 = bits .or .u64 (IntKind.u64.wrap (l * 65536)) y := ⟨_, rfl⟩
          rw [← hl1] at r1 r2 r3 HR2 hnw2 ⊢
          generalize (wA.setCell ⟨N, 2, none⟩ (.int .u64 l1)).drew = wB at r1 r3 HR2 hnw2 ⊢
          clear r2
          have r1 : wB.heap[N]? = some (Go.Obj.cells #[.bool true, .int .u64 h1, .int .u64 l1] 24 (0, 0)) := r1
          have HP2 : Hid (h1 = packI (L.take (k + 1)) 0 ∧ l1 = packI ((L.drop 4).take (k + 1)) 0) := Lib.hid ⟨by rw [packI_take hx, ← HP.out.1, hh1]; rfl, by rw [packI_take (by rw [List.getElem?_drop]; exact hy), ← HP.out.2, hl1]; rfl⟩
          go_wp2
          exact ⟨⟨k + 1, h1, l1, by go_num, by omega, HP2, r1, HR2, hnw2, r3⟩, by simp [intOf]; omega⟩
        · have hk4 : k = 4 := by omega
          subst hk4
          obtain ⟨n0, n1, n2, n3, n4, n5⟩ := three_cells hnw
          go_wp2
          obtain ⟨s1, s2, s3⟩ := set3 (a := .bool true) (b := .int .u64 h) (c := .int .u64 l) hnw
          obtain ⟨p0, p1, p2, _⟩ := three_cells s1
          refine bodyPost_ret (v := .agg #[.bool true, .int .u64 h, .int .u64 l]) ?_ rfl ⟨?_, hbw.trans s3⟩
          · simp [results, Tryd.f34, go_sem, p0, p1, p2]
          · rw [hsx]
            obtain ⟨e1, e2⟩ := HP.out
            show Ending.returned _ = Ending.returned _
            rw [e1, e2]
            rfl
  | true =>
    rw [if_pos rfl] at hsx
    cases hp1 : someF s1 false with
    | none =>
      rw [hp1] at hsx H1
      go_wp2_with (first | (go_at_call 48; refine (HC.out _ hba).mono ?_; rintro e w1 ⟨rfl, hb1⟩; have hbA := hba.trans (hb1.mono hba.size)) | (go_at_call 49; refine (H1.out _ hbA).mono ?_; rintro e w2 ⟨he, hb2⟩; have he : e = .panicked [badE] := he; subst he))
      exact ⟨rfl, endA_none hsx, hbA.trans (hb2.mono hbA.size)⟩
    | some l =>
      have hl1 := someF_len hp1
      rw [hp1] at hsx H1
      simp only at hsx
      cases hp2 : someF s2 true with
      | none =>
        rw [hp2] at hsx H2
        go_wp2_with (first | (go_at_call 48; refine (HC.out _ hba).mono ?_; rintro e w1 ⟨rfl, hb1⟩; have hbA := hba.trans (hb1.mono hba.size)) | (go_at_call 49; refine (H1.out _ hbA).mono ?_; rintro e w2 ⟨⟨v, rfl, hown⟩, hb2⟩; obtain ⟨A1, c1, rfl, hA1, _⟩ := own_slice hown; have hbB := hbA.trans (hb2.mono hbA.size); clear H1) | (go_at_call 49; refine (H2.out _ hbB).mono ?_; rintro e w3 ⟨he, hb3⟩; have he : e = .panicked [badE] := he; subst he))
        exact ⟨rfl, endA_none hsx, hbB.trans (hb3.mono hbB.size)⟩
      | some m =>
        have hl2 := someF_len hp2
        rw [hp2] at hsx H2
        simp only at hsx
        by_cases h7 : 7 < l.length + m.length
        · rw [if_pos h7] at hsx
          have h7i : decide (7 < (l.length : Int) + (m.length : Int)) = true := decide_eq_true (by omega)
          go_wp2_with (first | (go_at_call 48; refine (HC.out _ hba).mono ?_; rintro e w1 ⟨rfl, hb1⟩; have hbA := hba.trans (hb1.mono hba.size)) | (go_at_call 49; refine (H1.out _ hbA).mono ?_; rintro e w2 ⟨⟨v, rfl, hown⟩, hb2⟩; obtain ⟨A1, c1, rfl, hA1, _⟩ := own_slice hown; have hbB := hbA.trans (hb2.mono hbA.size); clear H1) | (go_at_call 49; refine (H2.out _ hbB).mono ?_; rintro e w3 ⟨⟨v, rfl, hownm⟩, hb3⟩; obtain ⟨A2, c2, rfl, hA2, hcm⟩ := own_slice hownm; have hbC := hbB.trans (hb3.mono hbB.size)))
          exact ⟨rfl, endA_none hsx, hbC⟩
        · rw [if_neg h7] at hsx
          have h7i : decide (7 < (l.length : Int) + (m.length : Int)) = false := decide_eq_false (by omega)
          obtain ⟨kz, hkze⟩ : ∃ kz, kz = 8 - l.length - m.length := ⟨_, rfl⟩
          have hkz : 0 < kz := by omega
          have hkzi : (kz : Int) = 8 - (l.length : Int) - (m.length : Int) := by omega
          have hzc : ∀ u ∈ (Builtin.zeroCells (Value.int IntKind.u64 0).cells kz).toList, u.oneCell' = true := zero_one kz
          rw [← hkze] at hsx
          have H8 := Lib.hid (show l.length + kz + m.length = 8 by omega)
          have HKZ := Lib.hid hkzi
          clear hkze hkzi
          go_wp2_with (first | (go_at_call 48; refine (HC.out _ hba).mono ?_; rintro e w1 ⟨rfl, hb1⟩; have hbA := hba.trans (hb1.mono hba.size)) | (go_at_call 49; refine (H1.out _ hbA).mono ?_; rintro e w2 ⟨⟨v, rfl, hown⟩, hb2⟩; obtain ⟨A1, c1, rfl, hA1, hc1⟩ := own_slice hown; have hbB := hbA.trans (hb2.mono hbA.size); clear H1) | (go_at_call 49; refine (H2.out _ hbB).mono ?_; rintro e w3 ⟨⟨v, rfl, hownm⟩, hb3⟩; obtain ⟨A2, c2, rfl, hA2, hc2⟩ := own_slice hownm; obtain ⟨A4, c4, w4, g, c5, w5, hr4, hr5, HR, hgN, hgl, hbE⟩ := two_appends (P := Tryd.prog) w3 w1.heap.size w1.heap.size w2.heap.size 83 3 22 i0 Tryd.underlying83 Tryd.underlying3 hi hz0 hz1 hz2 A1 c1 l (hown.kept (below_grown' hb3) (Classical.em _)) A2 c2 m hA2 (fun ad h => ⟨(hc1 ad h).1, (hc1 ad h).2.1⟩) hc2 (by have := hb2.size; have := hb3.size; omega) (Nat.le_refl _) kz hkz H8.out; rw [HKZ.out] at hr4; have hb15 := hbE _ (hb2.trans (hb3.mono hb2.size)); clear hc1 hc2 hown hownm hbE) | (at_builtin; refine Lib.wpList_append_run _ rfl _ _ _ _ rfl _ _ rfl rfl _ _ hr4 ?_) | (at_builtin; refine Lib.wpList_append_run _ rfl _ _ _ _ rfl _ _ rfl rfl _ _ hr5 ?_))
          have hbw : Below w.heap.size w w5 := hba.trans ((hb1.trans (hb15.mono hb1.size)).mono hba.size)
          have hnw : w5.heap[w.heap.size]? = some (Go.Obj.cells #[.bool false, .int .u64 0, .int .u64 0] 24 (0, 0)) := heap_below hb15 (heap_below hb1 hn0)
          obtain ⟨L, hL⟩ : ∃ L, L = l ++ List.replicate kz 0 ++ m := ⟨_, rfl⟩
          have h8 : L.length = 8 := by have h9 : l.length + kz + m.length = 8 := H8.out; rw [hL]; simp only [List.length_append, List.length_replicate]; omega
          rw [← hL] at HR hsx
          have hgne : g ≠ w.heap.size := by
            have := hb1.size
            have h2 : (w.alloc (.cells #[.bool false, .int .u64 0, .int .u64 0] 24)).heap.size = w.heap.size + 1 := by simp
            omega
          clear hb1 hb2 hb3 hb15 hba hn0 hL hgN HC H2 H3 hp1 hp2 hr4 hr5 hbA hbB H8 HKZ hkz hA1 hA2
          have hN0 := heap_alloc_new w5 (.cells #[.bool true, .int .u64 0, .int .u64 0] 24)
          have hbN : Below w.heap.size w (w5.alloc (.cells #[.bool true, .int .u64 0, .int .u64 0] 24)) := hbw.alloc hbw.size _
          have hnN : (w5.alloc (.cells #[.bool true, .int .u64 0, .int .u64 0] 24)).heap[w.heap.size]? = some (Go.Obj.cells #[.bool false, .int .u64 0, .int .u64 0] 24 (0, 0)) := (Below.heap_alloc _ _ _ (Array.getElem?_eq_some_iff.1 hnw).1).trans hnw
          have HRN : Hid (∀ (j : Nat) x, L[j]? = some x → (w5.alloc (.cells #[.bool true, .int .u64 0, .int .u64 0] 24)).cell? ⟨g, j, none⟩ = some (.int .u64 x)) := Lib.hid fun j x hx => cell_stays ((Below.refl w5.heap.size w5).alloc (Nat.le_refl _) _) (HR.out j x hx)
          obtain ⟨N, hN⟩ : ∃ N, N = w5.heap.size := ⟨_, rfl⟩
          have hgN : g < N := by rw [hN]; exact hgl
          have hwN : w.heap.size < N := by rw [hN]; exact (Array.getElem?_eq_some_iff.1 hnw).1
          rw [← hN] at hN0 ⊢
          generalize w5.alloc (.cells #[.bool true, .int .u64 0, .int .u64 0] 24) = wN at hN0 hbN hnN HRN ⊢
          clear HR hnw hbw hgl hN
          go_loopw [47] (fun vi wr => ∃ (k : Nat) (h l : Int), vi = .int .i64 k ∧ k ≤ 4 ∧ Hid (h = packI (L.take k) 0 ∧ l = packI ((L.drop 4).take k) 0) ∧ wr.heap[N]? = some (Go.Obj.cells #[.bool true, .int .u64 h, .int .u64 l] 24 (0, 0)) ∧ Hid (∀ (j : Nat) x, L[j]? = some x → wr.cell? ⟨g, j, none⟩ = some (.int .u64 x)) ∧ wr.heap[w.heap.size]? = some (Go.Obj.cells #[.bool false, .int .u64 0, .int .u64 0] 24 (0, 0)) ∧ Below w.heap.size w wr) (fun vi _ => 4 - (intOf vi).toNat)
          case atStart => exact ⟨0, 0, 0, rfl, by omega, Lib.hid ⟨rfl, rfl⟩, hN0, HRN, hnN, hbN⟩
          case round =>
            clear hN0 HRN hnN hbN
            obtain ⟨k, h, l, rfl, hk, HP, hN0, HR, hnw, hbw⟩ := hrel
            obtain ⟨m0, m1, m2, m3, m4, m5⟩ := three_cells hN0
            by_cases hlt : k < 4
            · obtain ⟨x, hx⟩ : ∃ x, L[k]? = some x := ⟨_, List.getElem?_eq_getElem (by omega)⟩
              obtain ⟨y, hy⟩ : ∃ y, L[4 + k]? = some y := ⟨_, List.getElem?_eq_getElem (by omega)⟩
              have c0 := HR.out k x hx
              have c1 := HR.out (4 + k) y hy
              have hltI : (k : Int) < 4 := by omega
              go_wp2
              go_region
              obtain ⟨q1, q2, q3⟩ := put_one (i := 1) (v := .int .u64 (bits .or .u64 (IntKind.u64.wrap (h * 65536)) x)) hN0 hbw hwN
              have HR1 := Lib.hid (cells_other (by omega : g ≠ N) q2 HR.out)
              have hnw1 := (q2 w.heap.size (by omega)).trans hnw
              obtain ⟨h1, hh1⟩ : ∃ h1, h1 = bits .or .u64 (IntKind.u64.wrap (h * 65536)) x := ⟨_, rfl⟩
              rw [← hh1] at q1 q2 q3 HR1 hnw1 ⊢
              generalize (wr.setCell ⟨N, 1, none⟩ (.int .u64 h1)).drew = wA at q1 q3 HR1 hnw1 ⊢
              clear q2 HR hnw hbw hN0 m0 m1 m2 m3 m4 m5 c0 c1
              have q1 : wA.heap[N]? = some (Go.Obj.cells #[.bool true, .int .u64 h1, .int .u64 l] 24 (0, 0)) := q1
              obtain ⟨m0, m1, m2, m3, m4, m5⟩ := three_cells q1
              have c1 := HR1.out (4 + k) y hy
              go_wp2
              go_region
              obtain ⟨r1, r2, r3⟩ := put_one (i := 2) (v := .int .u64 (bits .or .u64 (IntKind.u64.wrap (l * 65536)) y)) q1 q3 hwN
              have HR2 := Lib.hid (cells_other (by omega : g ≠ N) r2 HR1.out)
              have hnw5 := (r2 w.heap.size (by omega)).trans hnw1
              obtain ⟨l1, hl1⟩ : ∃ l1, l1 = bits .or .u64 (IntKind.u64.wrap (l * 65536)) y := ⟨_, rfl⟩
              rw [← hl1] at r1 r2 r3 HR2 hnw5 ⊢
              generalize (wA.setCell ⟨N, 2, none⟩ (.int .u64 l1)).drew = wB at r1 r3 HR2 hnw5 ⊢
              clear r2
              have r1 : wB.heap[N]? = some (Go.Obj.cells #[.bool true, .int .u64 h1, .int .u64 l1] 24 (0, 0)) := r1
              have HP2 : Hid (h1 = packI (L.take (k + 1)) 0 ∧ l1 = packI ((L.drop 4).take (k + 1)) 0) := Lib.hid ⟨by rw [packI_take hx, ← HP.out.1, hh1]; rfl, by rw [packI_take (by rw [List.getElem?_drop]; exact hy), ← HP.out.2, hl1]; rfl⟩
              go_wp2
              exact ⟨⟨k + 1, h1, l1, by go_num, by omega, HP2, r1, HR2, hnw5, r3⟩, by simp [intOf]; omega⟩
            · have hk4 : k = 4 := by omega
              subst hk4
              obtain ⟨n0, n1, n2, n3, n4, n5⟩ := three_cells hnw
              go_wp2
              obtain ⟨s1, s2, s3⟩ := set3 (a := .bool true) (b := .int .u64 h) (c := .int .u64 l) hnw
              obtain ⟨p0, p1, p2, _⟩ := three_cells s1
              refine bodyPost_ret (v := .agg #[.bool true, .int .u64 h, .int .u64 l]) ?_ rfl ⟨?_, hbw.trans s3⟩
              · simp [results, Tryd.f34, go_sem, p0, p1, p2]
              · rw [hsx]
                obtain ⟨e1, e2⟩ := HP.out
                show Ending.returned _ = Ending.returned _
                rw [e1, e2]
                rfl
end Go.Proofs.YtihapikjcifbaaaDoor
