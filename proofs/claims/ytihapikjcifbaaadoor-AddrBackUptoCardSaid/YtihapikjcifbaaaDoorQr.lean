/-
  strconv.FormatUint at base 16 (below 65536) and at base 10 (below 256): walks of Go's library's own text.
-/
import Derived.Test.YtihapikjcifbaaaDoorQp
import Derived.Test.YtihapikjcifbaaaDoorQe
import Derived.RegionTactic
import Derived.ChangeAlike
import Derived.BigRegion
import Derived.Lib.AppendIntMem
import Derived.Laws.IdiomStrings
namespace Go.Proofs.YtihapikjcifbaaaDoor
open Go Go.Ma Go.RowKit Go.Proofs
def digits36 : ByteArray := ⟨#[48, 49, 50, 51, 52, 53, 54, 55, 56, 57, 97, 98, 99, 100, 101, 102, 103, 104, 105, 106, 107, 108, 109, 110, 111, 112, 113, 114, 115, 116, 117, 118, 119, 120, 121, 122]⟩
theorem idx36 {P : Program} (t : TypeId) (ht : P.underlying t = some .string) (k : IntKind) (z : Int) (i : Nat) (hz : z = (i : Int)) (hi : i < 16) (w : World) :
    (Instr.index t (.string digits36) (.int k z)).run P w = .ok (.int .u8 ((hexD i).toNat : Int)) w := by
  subst hz
  rw [run_index_string w t digits36 k _ ht, dif_pos ⟨by omega, by show (i : Int) < 36; omega⟩]
  have e : ((i : Int)).toNat = i := by omega
  simp only [e]
  have : i = 0 ∨ i = 1 ∨ i = 2 ∨ i = 3 ∨ i = 4 ∨ i = 5 ∨ i = 6 ∨ i = 7 ∨ i = 8 ∨ i = 9 ∨ i = 10 ∨ i = 11 ∨ i = 12 ∨ i = 13 ∨ i = 14 ∨ i = 15 := by omega
  rcases this with rfl | rfl | rfl | rfl | rfl | rfl | rfl | rfl | rfl | rfl | rfl | rfl | rfl | rfl | rfl | rfl <;> rfl
theorem pow2_walk (w : World) : Calls Tryd.prog 65 #[.int .i64 16] w fun e w' => e = .returned (.bool true) ∧ w' = w := by
  go_enter Tryd.func65, Tryd.ntmps65
  go_wp2
  go_ret
  exact ⟨by first | rfl | decide, rfl⟩
theorem gTab : Tryd.prog.globalNamed "math/bits.deBruijn64tab" = some 3 := by kernel_rfl
theorem key16 : IntKind.u64.wrap (bits BinOp.and IntKind.u64 16 (IntKind.u64.wrap (-16)) * 285870213051353865) / 288230376151711744 = 15 := by decide +kernel
set_option maxRecDepth 100000 in
theorem tz64_walk (w : World) (hcell : w.cell? ⟨3, 15, none⟩ = some (.int .u8 4)) :
    Calls Tryd.prog 78 #[.int .u64 16] w fun e w' => e = .returned (.int .i64 4) ∧ w' = w := by
  have key := key16
  go_enter Tryd.func78, Tryd.ntmps78
  go_wp2_with (simp only [key])
  go_ret
  exact ⟨rfl, rfl⟩
set_option maxRecDepth 100000 in
theorem tz_walk (w : World) (hcell : w.cell? ⟨3, 15, none⟩ = some (.int .u8 4)) :
    Calls Tryd.prog 66 #[.int .u64 16] w fun e w' => e = .returned (.int .i64 4) ∧ w' = w := by
  go_enter Tryd.func66, Tryd.ntmps66
  go_wp2_with (go_at_call 78; refine (tz64_walk _ hcell).mono ?_; rintro e w' ⟨rfl, rfl⟩)
  go_ret
  exact ⟨rfl, rfl⟩
def encB (b : UInt8) : Value := .int .u8 (b.toNat : Int)
theorem pre_cell {w : World} {N m : Nat} {z : Value} {s : List Value} {T : TypeId} (h : w.heap[N]? = some (Go.Obj.cells (List.replicate (m + 1) z ++ s).toArray T (0, 0))) :
    w.cell? ⟨N, m, none⟩ = some z ∧ w.frozen? ⟨N, m, none⟩ = false := by
  constructor
  · simp [World.cell?, h, List.getElem?_append_left]
  · simp [World.frozen?, h]
theorem pre_set {w : World} {N m : Nat} {z v : Value} {s : List Value} {T : TypeId} (h : w.heap[N]? = some (Go.Obj.cells (List.replicate (m + 1) z ++ s).toArray T (0, 0))) :
    (w.setCell ⟨N, m, none⟩ v).heap[N]? = some (Go.Obj.cells (List.replicate m z ++ v :: s).toArray T (0, 0)) := by
  rw [setCell_heap w N m v _ T (0, 0) h]
  congr 2
  apply Array.ext'
  simp [List.replicate_succ', List.set_append]
theorem suf_cell {w : World} {N i : Nat} {z : Value} {s : List UInt8} {T : TypeId} (h : w.heap[N]? = some (Go.Obj.cells (List.replicate i z ++ s.map encB).toArray T (0, 0))) (j : Nat) (hj : j < s.length) :
    w.cell? ((⟨N, i, none⟩ : Addr).add j) = some (.int .u8 (s[j].toNat : Int)) := by
  rw [Lib.add_plain]
  simp [World.cell?, h, List.getElem?_append_right, hj, encB]
theorem slice65 (m : Nat) (hm : m < 65) (b : Nat) (W : World) : (Instr.sliceAt 102 (.pointer (some ⟨b, 0, none⟩)) (some (.int .i64 (m : Int))) none none).run Tryd.prog W = .ok (.slice (some ⟨b, m, none⟩) (65 - m) (65 - m)) W := by
  have hal : Tryd.prog.arrayLen 102 = 65 := by simp [Program.arrayLen, Tryd.underlying102]
  rw [run_sliceAt_array_l W 102 ⟨b, 0, none⟩ (by simp [Program.arrayLen, Program.elem, Tryd.underlying102]) .i64 (m : Int) (by omega) (by rw [hal]; omega), hal]
  go_simp
  omega
set_option maxHeartbeats 8000000 in
set_option maxRecDepth 100000 in
theorem bits_hex (n : Nat) (hn : n < 65536) (w : World) (hG : Glob Tryd.prog w) :
    Calls Tryd.prog 55 #[.slice none 0 0, .int .u64 (n : Int), .int .i64 16, .bool false, .bool false] w fun e w' => e = .returned (.tuple #[.slice none 0 0, .string ⟨(hex4 n).toArray⟩]) ∧ Below w.heap.size w w' := by
  obtain ⟨tt, zz, htab⟩ := hG.ctz _ gTab
  have hcell : w.cell? ⟨3, 15, none⟩ = some (.int .u8 4) := by
    unfold World.cell?
    rw [htab]
    rfl
  have HT : Hid (∀ W, Below w.heap.size w W → Calls Tryd.prog 66 #[.int .u64 16] W fun e w' => e = .returned (.int .i64 4) ∧ w' = W) := fun W hb => tz_walk W (cell_stays hb hcell)
  clear hcell htab
  go_enter Tryd.func55, Tryd.ntmps55
  go_wp2_with (first | (go_at_call 65; refine (pow2_walk _).mono ?_; rintro e w' ⟨rfl, rfl⟩) | (go_at_call 66; refine (HT.out _ ((Below.refl _ w).alloc (Nat.le_refl _) _)).mono ?_; rintro e w' ⟨rfl, rfl⟩))
  go_name_world W0 hW0
  have hN0 : W0.heap[w.heap.size]? = some (.cells (List.replicate 65 (Value.int .u8 0) ++ ([] : List UInt8).map encB).toArray 102 (0, 0)) := by rw [← hW0]; exact heap_alloc_new w _
  have hb0 : Below w.heap.size w W0 := by rw [← hW0]; exact (Below.refl _ w).alloc (Nat.le_refl _) _
  clear hW0 HT
  go_loopw [1, 13] (fun vu vi wr => ∃ (u i : Nat) (suf : List UInt8), vu = .int .u64 (u : Int) ∧ vi = .int .i64 (i : Int) ∧ Hid (hex4 u ++ suf = hex4 n ∧ suf.length + i = 65 ∧ u < 16 ^ (i - 61)) ∧ 62 ≤ i ∧ i ≤ 65 ∧ Hid (wr.heap[w.heap.size]? = some (.cells (List.replicate i (Value.int .u8 0) ++ suf.map encB).toArray 102 (0, 0))) ∧ Below w.heap.size w wr) (fun _ vi _ => (intOf vi).toNat)
  case atStart => exact ⟨n, 65, [], rfl, rfl, Lib.hid ⟨List.append_nil _, rfl, hn⟩, by omega, by omega, Lib.hid hN0, hb0⟩
  case round =>
    clear hN0 hb0
    obtain ⟨u, i, suf, rfl, rfl, HS, hi0, hi1, HH, hbw⟩ := hrel
    obtain ⟨e1, e2, e3⟩ := HS.out
    obtain ⟨m, rfl⟩ : ∃ m, i = m + 1 := ⟨i - 1, by omega⟩
    have hh := HH.out
    obtain ⟨hc, hf⟩ := pre_cell hh
    clear hh
    have hu6 : u < 65536 := Nat.lt_of_lt_of_le e3 (by have : 16 ^ (m + 1 - 61) ≤ 16 ^ 4 := Nat.pow_le_pow_right (by omega) (by omega); omega)
    have iu0 : 0 ≤ (u : Int) := by omega
    have iu1 : (u : Int) < 65536 := by omega
    by_cases h16 : 16 ≤ u
    · have hand : bits .and .u64 (u : Int) 15 = ((u % 16 : Nat) : Int) := by
        have := bits_and_u64_nat u 15 (by omega) (by omega)
        rw [show (15 : Int) = ((15 : Nat) : Int) from rfl, this, show (15 : Nat) = 2 ^ 4 - 1 from rfl, Nat.and_two_pow_sub_one_eq_mod]
      have hX : ∀ W, (Instr.index 9 (.string ⟨#[48, 49, 50, 51, 52, 53, 54, 55, 56, 57, 97, 98, 99, 100, 101, 102, 103, 104, 105, 106, 107, 108, 109, 110, 111, 112, 113, 114, 115, 116, 117, 118, 119, 120, 121, 122]⟩) (.int .u64 (bits .and .u64 (u : Int) 15))).run Tryd.prog W = .ok (.int .u8 ((hexD (u % 16)).toNat : Int)) W := idx36 9 Tryd.underlying9 .u64 _ _ hand (by omega)
      have hge : (16 : Int) ≤ (u : Int) := by omega
      have hm62 : 62 ≤ m := by
        rcases Nat.lt_or_ge m 62 with h | h
        · have : m = 61 := by omega
          subst this
          have : u < 16 := e3
          omega
        · exact h
      clear hand
      go_wp2
      refine ⟨⟨u / 16, m, hexD (u % 16) :: suf, by go_num, rfl, Lib.hid ⟨by rw [← e1, hex4_step u h16 hu6, List.append_assoc]; rfl, by simp only [List.length_cons]; omega, ?_⟩, hm62, by omega, Lib.hid (pre_set HH.out), hbw.setCell (Nat.le_refl _) _⟩, by simp [intOf]⟩
      rw [show m + 1 - 61 = (m - 61) + 1 by omega, Nat.pow_succ] at e3
      omega
    · have hX : ∀ W, (Instr.index 9 (.string ⟨#[48, 49, 50, 51, 52, 53, 54, 55, 56, 57, 97, 98, 99, 100, 101, 102, 103, 104, 105, 106, 107, 108, 109, 110, 111, 112, 113, 114, 115, 116, 117, 118, 119, 120, 121, 122]⟩) (.int .u64 (u : Int))).run Tryd.prog W = .ok (.int .u8 ((hexD u).toNat : Int)) W := idx36 9 Tryd.underlying9 .u64 _ _ rfl (by omega)
      have hlt : (u : Int) < 16 := by omega
      obtain ⟨q, hq⟩ : ∃ q, q = 65 - m := ⟨_, rfl⟩
      have hsl : ∀ W, (Instr.sliceAt 102 (.pointer (some ⟨w.heap.size, 0, none⟩)) (some (.int .i64 (m : Int))) none none).run Tryd.prog W = .ok (.slice (some ⟨w.heap.size, m, none⟩) q q) W := fun W => by rw [hq]; exact slice65 m (by omega) _ W
      have hcv : (convert 49 9 (.slice (some ⟨w.heap.size, m, none⟩) q q)).run Tryd.prog (wr.setCell ⟨w.heap.size, m, none⟩ (.int .u8 ((hexD u).toNat : Int))) = .ok (.string ⟨(hex4 n).toArray⟩) (wr.setCell ⟨w.heap.size, m, none⟩ (.int .u8 ((hexD u).toNat : Int))) := by
        have hs : wr.setCell ⟨w.heap.size, m, none⟩ (.int .u8 ((hexD u).toNat : Int)) = wr.setCell ⟨w.heap.size, m, none⟩ (encB (hexD u)) := rfl
        have h := run_convert_bytes_back (P := Tryd.prog) (wr.setCell ⟨w.heap.size, m, none⟩ (encB (hexD u))) 49 9 5 ⟨w.heap.size, m, none⟩ q (hexD u :: suf) Tryd.underlying49 Tryd.underlying5 Tryd.underlying9 (fun j hj => suf_cell (s := hexD u :: suf) (pre_set HH.out) j hj)
        have hl : (hexD u :: suf).length = q := by rw [hq]; simp only [List.length_cons]; omega
        rw [hl] at h
        have h6 : hex4 n = hexD u :: suf := by rw [← e1]; unfold hex4; rw [if_pos (by omega)]; rfl
        rw [hs, h6]
        exact h
      have hbz := hbw.setCell (p := ⟨w.heap.size, m, none⟩) (Nat.le_refl _) (.int .u8 ((hexD u).toNat : Int))
      clear e1 e2 e3 HS HH hG hbw hq hu6 iu0 iu1 h16
      go_wp2
      go_ret2
      exact ⟨rfl, hbz⟩
set_option maxRecDepth 100000 in
theorem uint_hex (n : Nat) (hn : n < 65536) (w : World) (hG : Glob Tryd.prog w) :
    Calls Tryd.prog 41 #[.int .u64 (n : Int), .int .i64 16] w fun e w' => e = .returned (.string ⟨(hex4 n).toArray⟩) ∧ Below w.heap.size w w' := by
  have HB := Lib.hid (bits_hex n hn w hG)
  clear hG hn
  go_enter Tryd.func41, Tryd.ntmps41
  go_wp2_with (go_at_call 55; refine HB.out.mono ?_; rintro e w' ⟨rfl, hb⟩)
  go_ret
  exact ⟨rfl, hb⟩
theorem tab_pow {w : World} (hG : Glob Tryd.prog w) : Lib.TabIs Tryd.prog w "internal/strconv.uint64pow10" .u64 Lib.pow10Tab := by
  have hg : Tryd.prog.globalNamed "internal/strconv.uint64pow10" = some 0 := by kernel_rfl
  obtain ⟨t, z, h⟩ := hG.pow _ hg
  have e : pow10s = Lib.pow10Tab := by decide +kernel
  unfold Lib.TabIs World.var?
  simp [hg, h, e]
set_option maxHeartbeats 8000000 in
set_option maxRecDepth 100000 in
theorem uint_dec (u : Nat) (h1 : u < 256) (w : World) (hG : Glob Tryd.prog w) :
    Calls Tryd.prog 41 #[.int .u64 (u : Int), .int .i64 10] w fun e w' => e = .returned (.string ⟨(Lib.decDigits u).toArray⟩) ∧ Below w.heap.size w w' := by
  by_cases hs : u < 100
  · have iu : (u : Int) < 100 := by omega
    go_enter Tryd.func41, Tryd.ntmps41
    go_wp2_with (go_at_call 52; refine (Go.Proofs.Tryd.internal_strconv_small u hs _).mono ?_; rintro e w' ⟨rfl, rfl⟩)
    go_ret
    exact ⟨rfl, Below.refl _ _⟩
  · have hu : 100 ≤ u := by omega
    have htab := tab_pow hG
    have hu1 : 1 ≤ u := by omega
    have hu64 : u < 18446744073709551616 := by omega
    have hnd20 : Lib.nDigits u ≤ 20 := by have := Lib.numDigits_eq u hu1 hu64; split at this <;> omega
    have hal : Tryd.prog.arrayLen 89 = 24 := by simp [Program.arrayLen, Tryd.underlying89]
    have hsl : ∀ W, (Instr.sliceAt 89 (.pointer (some ⟨w.heap.size, 0, none⟩)) none (some (.int .i64 (Lib.nDigits u : Int))) none).run Tryd.prog W = .ok (.slice (some ⟨w.heap.size, 0, none⟩) (Lib.nDigits u) 24) W := fun W => by
      rw [run_sliceAt_array_h W 89 ⟨w.heap.size, 0, none⟩ (by simp [Program.arrayLen, Program.elem, Tryd.underlying89]) .i64 (Lib.nDigits u : Int) (by omega) (by rw [hal]; omega)]
      go_simp
    have hH0 := Lib.holds_zero0 w 89 (Lib.nDigits u) (by omega)
    have hfmt := Go.Proofs.Tryd.internal_strconv_formatBase10 w.heap.size 0 24 u (Array.replicate (Lib.nDigits u) 0) (w.alloc (.cells Lib.zeros24 89)) hH0 (by rw [Array.size_replicate]; exact Lib.lt_pow_nDigits u) hu64 (by rw [Array.size_replicate]; omega)
    rw [Array.size_replicate] at hfmt
    have HH0 := Lib.hid hH0
    have iu : (100 : Int) ≤ (u : Int) := by omega
    clear hH0 hal hs h1 hG
    go_enter Tryd.func41, Tryd.ntmps41
    go_wp2_with (go_at_call 53; refine (Go.Proofs.Tryd.internal_strconv_numDigits u hu1 hu64 _ (Lib.tabIs_alloc htab _)).mono ?_; rintro e w' ⟨rfl, rfl⟩)
    go_at_call 54
    refine hfmt.mono ?_
    rintro e w' ⟨rfl, k, v', dk, rfl, hF⟩
    have hcv : (convert 49 9 (.slice (some ⟨w.heap.size, 0, none⟩) (Lib.nDigits u) 24)).run Tryd.prog ((Sort.putRow (fun (b : UInt8) => Value.int .u8 (b.toNat : Int)) (w.alloc (.cells Lib.zeros24 89)) w.heap.size 0 dk).drewN k) = .ok (.string ⟨(Lib.decDigits u).toArray⟩) ((Sort.putRow (fun (b : UInt8) => Value.int .u8 (b.toNat : Int)) (w.alloc (.cells Lib.zeros24 89)) w.heap.size 0 dk).drewN k) := by
      have h := run_convert_bytes_back (P := Tryd.prog) ((Sort.putRow (fun (b : UInt8) => Value.int .u8 (b.toNat : Int)) (w.alloc (.cells Lib.zeros24 89)) w.heap.size 0 dk).drewN k) 49 9 5 ⟨w.heap.size, 0, none⟩ 24 (Lib.decDigits u) Tryd.underlying49 Tryd.underlying5 Tryd.underlying9 (fun j hj => by
        rw [Lib.row_is_numeral hF j hj, Lib.add_plain, World.cell?_drewN]
        exact Sort.cell?_putRow (fun (b : UInt8) => Value.int .u8 (b.toNat : Int)) _ w.heap.size 0 _ dk HH0.out (by rw [hF.size, Array.size_replicate]) j (by rw [hF.size]; rw [Lib.decDigits_length] at hj; exact hj))
      rw [Lib.decDigits_length] at h
      exact h
    obtain ⟨os, eo⟩ := Lib.fin_at w (.cells Lib.zeros24 89) dk k 0
    have hnx : Below w.heap.size w ((Sort.putRow (fun (b : UInt8) => Value.int .u8 (b.toNat : Int)) (w.alloc (.cells Lib.zeros24 89)) w.heap.size 0 dk).drewN k) := by rw [eo]; exact Lib.below_grow w.heap.size w (Nat.le_refl _) k os
    generalize (Sort.putRow (fun (b : UInt8) => Value.int .u8 (b.toNat : Int)) (w.alloc (.cells Lib.zeros24 89)) w.heap.size 0 dk).drewN k = W2 at hcv hnx ⊢
    clear eo HH0 hfmt
    go_wp2
    go_ret
    exact ⟨rfl, hnx⟩
set_option maxRecDepth 100000 in
theorem format_walk (n b : Int) (r : ByteArray) (w : World) (H : Calls Tryd.prog 41 #[.int .u64 n, .int .i64 b] w fun e w' => e = .returned (.string r) ∧ Below w.heap.size w w') :
    Calls Tryd.prog 28 #[.int .u64 n, .int .i64 b] w fun e w' => e = .returned (.string r) ∧ Below w.heap.size w w' := by
  have HB := Lib.hid H
  clear H
  go_enter Tryd.func28, Tryd.ntmps28
  go_wp2_with (go_at_call 41; refine HB.out.mono ?_; rintro e w' ⟨rfl, hb⟩)
  go_ret
  exact ⟨rfl, hb⟩
noncomputable def strconv_FormatUint_con : Con := con [.one (.fl .u64), .one (.fl .int)] [.one (.fl .str)] (fun x => strconv_FormatUint_t x.1 x.2.1)
theorem format_end {n b : Int} {r : ByteArray} {w : World} (h : Calls Tryd.prog 28 #[.int .u64 n, .int .i64 b] w fun e w' => e = .returned (.string r) ∧ Below w.heap.size w w') :
    Calls Tryd.prog 28 #[.int .u64 n, .int .i64 b] w fun e w' => ∃ ρc r' m', e = .returned (den ρc r') ∧ RelM w ρc m' w' ∧ resR [.one (.fl .str)] r' m' = some (r, ()) := by
  refine h.mono ?_
  rintro e w' ⟨rfl, hb⟩
  exact ⟨fun _ => Go.undef, .s r, [], rfl, ⟨hb, fun j o h => by simp at h, fun i j o o' _ h => by simp at h, fun j o h => by simp at h⟩, rfl⟩
theorem strconv_FormatUint_ok : TrOk Tryd.prog 28 strconv_FormatUint_con := con_of _ _ _ fun x y hx ρ us vals w hG hu => by
  obtain ⟨n, b, z⟩ := x
  have hd := hu.den _ (gives_nameOf us)
  have hvals : vals = [.int .u64 n, .int .i64 b] := hd.symm
  subst hvals
  unfold strconv_FormatUint_t at hx
  split at hx
  · rename_i hb
    simp only at hb
    subst hb
    obtain ⟨hq, hx⟩ := req_some hx
    simp only [Bool.and_eq_true, decide_eq_true_eq] at hq
    injection hx with hx
    subst hx
    obtain ⟨u, rfl⟩ := Int.eq_ofNat_of_zero_le hq.1
    exact format_end (format_walk _ _ _ w (uint_hex u (by omega) w hG))
  · obtain ⟨hq, hx⟩ := req_some hx
    simp only [Bool.and_eq_true, decide_eq_true_eq] at hq
    obtain ⟨rfl, h0, h1⟩ := hq
    injection hx with hx
    subst hx
    obtain ⟨u, rfl⟩ := Int.eq_ofNat_of_zero_le h0
    have e : (dec3 (u : Int).toNat) = Lib.decDigits u := (dec3_eq u (by omega)).symm
    rw [e]
    exact format_end (format_walk _ _ _ w (uint_dec u (by omega) w hG))
end Go.Proofs.YtihapikjcifbaaaDoor
