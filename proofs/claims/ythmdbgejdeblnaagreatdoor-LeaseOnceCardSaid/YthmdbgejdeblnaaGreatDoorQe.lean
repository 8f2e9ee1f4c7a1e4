/-
  Numbers of base 16, by a walk of Go's library's own text, after the kit's walk of base 10; what a parser of addresses makes of a text, in plain Lean:
-/
import Derived.Test.YthmdbgejdeblnaaGreatDoorWk
import Derived.Test.YthmdbgejdeblnaaGreatDoorQs
import Derived.Test.YthmdbgejdeblnaaGreatDoorMaS
import Derived.WalkKit
import Derived.ProofKit
import Derived.Laws.IdiomStrings
import Derived.Lib.AtoiAllMem
import Derived.Laws.Strings3
import Derived.Laws.Closers25
import Derived.Laws.Closers25b
import Derived.BigCall
import Derived.BigGuard
import Derived.WalkLawsBesides
import Derived.Test.YthmdbgejdeblnaaGreatDoorQf
namespace Go.Proofs.YthmdbgejdeblnaaGreatDoor
open Go Go.Ma Go.RowKit Go.Proofs

theorem lower_walk (c : Int) (w : World) : Calls Tryz.prog 143 #[.int .u8 c] w fun e w' => e = .returned (.int .u8 (bits .or .u8 c 32)) ∧ w' = w := by
  go_enter Tryz.func143, Tryz.ntmps143
  go_wp2
  go_ret
  exact ⟨rfl, rfl⟩

set_option maxHeartbeats 32000000 in
set_option maxRecDepth 100000 in
theorem hexInner (t : ByteArray) (hne : t.size ≠ 0) (hmax : t.size ≤ 9223372036854775806) (w : World) :
    Calls Tryz.prog 128 #[.string t, .int .i64 16, .int .i64 32] w fun e w' => (∃ u ev, e = .returned (.tuple #[.int .u64 u, ev]) ∧ HexEnd 162 t.data.toList 0 u ev) ∧ w' = Lib.bytesWorld w 5 t := by
  have hemp : t.toList.isEmpty = false := by
    rw [← decide_eq_emptyBytes]
    exact decide_eq_false (fun h => hne (by rw [h]; rfl))
  have hcv := Lib.run_convert_string_bytes (P := Tryz.prog) w 9 65 5 t (u := .string) Tryz.underlying9 Tryz.underlying65 Tryz.underlying5
  have hB : ∀ j, j < t.size → (Lib.bytesWorld w 5 t).cell? ⟨w.heap.size, j, none⟩ = some (.int .u8 (t.data.toList.getD j 0).toNat) := fun j hj => Lib.bytesWorld_cell w 5 t j hj
  obtain ⟨W1, hW1⟩ : ∃ W1, W1 = Lib.bytesWorld w 5 t := ⟨_, rfl⟩
  rw [← hW1] at hcv hB ⊢
  clear hW1
  obtain ⟨bs, hL⟩ : ∃ bs, bs = t.data.toList := ⟨_, rfl⟩
  have hLn : bs.length = t.size := by rw [hL, Lib.size_eq]
  rw [← hL] at hB ⊢
  clear hL
  have hmv : IntKind.u64.wrap (IntKind.u64.wrap 4294967296 - 1) = 4294967295 := by
    rw [IntKind.wrap_u64, IntKind.wrap_u64]
    decide
  go_enter Tryz.func128, Tryz.ntmps128
  go_wp2
  go_loop [12, 13, 101] (fun vu vn vi => ∃ (k acc : Nat) (a : Int), vu = .bool false ∧ vn = .int .u64 a ∧ vi = .int .i64 k ∧ k ≤ t.size ∧ Hid (a = (acc : Int) ∧ acc ≤ 4294967295 ∧ hexF bs 0 = hexF (bs.drop k) acc))
    (fun _ _ vi => t.size - (intOf vi).toNat)
  case atStart => exact ⟨0, 0, 0, rfl, rfl, rfl, by omega, rfl, by omega, rfl⟩
  case round =>
    obtain ⟨k, acc, a, rfl, rfl, rfl, hk, hh⟩ := hrel
    obtain ⟨ha, hacc, hdec⟩ := hh.out
    clear hh
    have a0 : 0 ≤ a := by omega
    have a1 : a ≤ 4294967295 := by omega
    by_cases hkn : k < t.size
    · have hc := hB k hkn
      have hdrop : bs.drop k = bs[k]'(by omega) :: bs.drop (k + 1) := List.drop_eq_getElem_cons (by omega)
      have hget : bs.getD k 0 = bs[k]'(by omega) := by simp [List.getD, List.getElem?_eq_getElem (show k < bs.length by omega)]
      rw [hdrop] at hdec
      rw [hget] at hc
      generalize bs[k]'(by omega) = c at hc hdec
      have hc256 : c.toNat < 256 := c.toNat_lt
      clear hB hdrop hget
      rw [hexF] at hdec
      by_cases hdig : 48 ≤ c.toNat ∧ c.toNat ≤ 57
      · obtain ⟨hd0, hd1⟩ := hdig
        have hv : hexv c = some (c.toNat - 48) := by unfold hexv; rw [if_pos ⟨hd0, hd1⟩]
        rw [hv] at hdec
        simp only at hdec
        by_cases hov : 4294967295 < acc * 16 + (c.toNat - 48)
        · rw [if_pos hov] at hdec
          have iov : 4294967295 < a * 16 + ((c.toNat : Int) - 48) := by omega
          clear hacc hov ha hv
          go_wp2
          go_ret2
          exact ⟨⟨_, _, rfl, .bad hdec (.inr rfl)⟩, rfl⟩
        · rw [if_neg hov] at hdec
          have HN : Hid (a * 16 + ((c.toNat : Int) - 48) = ((acc * 16 + (c.toNat - 48) : Nat) : Int) ∧ acc * 16 + (c.toNat - 48) ≤ 4294967295 ∧ hexF bs 0 = hexF (bs.drop (k + 1)) (acc * 16 + (c.toNat - 48))) := Lib.hid ⟨by omega, by omega, hdec⟩
          have iov : a * 16 + ((c.toNat : Int) - 48) ≤ 4294967295 := by omega
          clear hacc hov hdec ha hv
          go_wp2
          refine ⟨⟨k + 1, acc * 16 + (c.toNat - 48), a * 16 + ((c.toNat : Int) - 48), rfl, (by first | rfl | (congr 1; omega)), (by first | rfl | (congr 1; omega)), by omega, HN⟩, by simp [intOf]; omega⟩
      · have hv0 := bits_lo_u8 .or (c.toNat : Int) 32
        have hv1 := bits_hi_u8 .or (c.toNat : Int) 32
        have hne95 : 97 ≤ bits .or .u8 (c.toNat : Int) 32 → bits .or .u8 (c.toNat : Int) 32 ≤ 122 → ¬ (c.toNat : Int) = 95 := fun h1 h2 h => by
          rw [h] at h2
          exact absurd h2 (by decide)
        have hb95 : (c.toNat : Int) = 95 → bits .or .u8 (c.toNat : Int) 32 = 127 := fun h => by rw [h]; decide
        have e95 : bits .or .u8 95 32 = 127 := by decide
        have HL : Hid (∀ W, Calls Tryz.prog 143 #[.int .u8 (c.toNat : Int)] W fun e w' => e = .returned (.int .u8 (bits .or .u8 (c.toNat : Int) 32)) ∧ w' = W) := fun W => lower_walk _ W
        have hvv : hexv c = if 97 ≤ bits .or .u8 (c.toNat : Int) 32 ∧ bits .or .u8 (c.toNat : Int) 32 ≤ 102 then some ((bits .or .u8 (c.toNat : Int) 32).toNat - 87) else none := by
          unfold hexv lowQ
          rw [if_neg hdig]
        rw [hvv] at hdec
        clear hvv
        generalize bits .or .u8 (c.toNat : Int) 32 = L at HL hv0 hv1 hne95 hb95 hdec
        by_cases hlet : 97 ≤ L ∧ L ≤ 102
        · rw [if_pos hlet] at hdec
          simp only at hdec
          obtain ⟨l0, l1⟩ := hlet
          have l2 : L ≤ 122 := by omega
          have n95 := hne95 l0 l2
          by_cases hov : 4294967295 < acc * 16 + (L.toNat - 87)
          · rw [if_pos hov] at hdec
            have iov : 4294967295 < a * 16 + (L - 87) := by omega
            clear hacc hov ha hne95 hb95 e95
            go_wp2_with (go_at_call 143; refine (HL.out _).mono ?_; rintro e w' ⟨rfl, rfl⟩)
            all_goals go_ret2
            all_goals exact ⟨⟨_, _, rfl, .bad hdec (.inr rfl)⟩, rfl⟩
          · rw [if_neg hov] at hdec
            have HN : Hid (a * 16 + (L - 97 + 10) = ((acc * 16 + (L.toNat - 87) : Nat) : Int) ∧ acc * 16 + (L.toNat - 87) ≤ 4294967295 ∧ hexF bs 0 = hexF (bs.drop (k + 1)) (acc * 16 + (L.toNat - 87))) := Lib.hid ⟨by omega, by omega, hdec⟩
            have iov : a * 16 + (L - 87) ≤ 4294967295 := by omega
            clear hacc hov hdec ha hne95 hb95 e95
            go_wp2_with (go_at_call 143; refine (HL.out _).mono ?_; rintro e w' ⟨rfl, rfl⟩)
            all_goals exact ⟨⟨k + 1, acc * 16 + (L.toNat - 87), a * 16 + (L - 97 + 10), rfl, (by first | rfl | (congr 1; omega)), (by first | rfl | (congr 1; omega)), by omega, HN⟩, by simp [intOf]; omega⟩
        · rw [if_neg hlet] at hdec
          simp only at hdec
          clear hacc ha
          by_cases h122 : 97 ≤ L ∧ L ≤ 122
          · obtain ⟨l0, l2⟩ := h122
            have n95 := hne95 l0 l2
            have l3 : 103 ≤ L := by omega
            clear hne95 hlet hb95 e95
            go_wp2_with (go_at_call 143; refine (HL.out _).mono ?_; rintro e w' ⟨rfl, rfl⟩)
            all_goals go_ret2
            all_goals exact ⟨⟨_, _, rfl, .bad hdec (.inl rfl)⟩, rfl⟩
          · clear hne95 hlet
            by_cases h95 : (c.toNat : Int) = 95
            · clear hb95 h122 hv0 hv1
              clear HL
              clear L
              go_wp2_with (go_at_call 143; refine (lower_walk 95 _).mono ?_; rintro e w' ⟨rfl, rfl⟩)
              all_goals go_ret2
              all_goals exact ⟨⟨_, _, rfl, .bad hdec (.inl rfl)⟩, rfl⟩
            · clear hb95 e95
              by_cases h97 : 97 ≤ L
              · have l3 : 122 < L := by omega
                clear h122
                go_wp2_with (go_at_call 143; refine (HL.out _).mono ?_; rintro e w' ⟨rfl, rfl⟩)
                all_goals go_ret2
                all_goals exact ⟨⟨_, _, rfl, .bad hdec (.inl rfl)⟩, rfl⟩
              · clear h122
                go_wp2_with (go_at_call 143; refine (HL.out _).mono ?_; rintro e w' ⟨rfl, rfl⟩)
                all_goals go_ret2
                all_goals exact ⟨⟨_, _, rfl, .bad hdec (.inl rfl)⟩, rfl⟩
    · have hkk : k = t.size := by omega
      subst hkk
      have hF : hexF (bs.drop t.size) acc = some acc := by rw [List.drop_eq_nil_of_le (by omega)]; rfl
      rw [hF] at hdec
      subst ha
      clear hacc hF a0 a1
      go_wp2
      go_ret2
      exact ⟨⟨_, _, rfl, .ok hdec⟩, rfl⟩
/-- What Go's library says of a numeral. -/
def NumOut (o : Option Nat) (u : Int) (ev : Value) : Prop := match o with
  | some n => u = (n : Int) ∧ ev = .nilIface
  | none => ∃ te pe, ev = .iface te pe
def NumEnd (o : Option Nat) (e : Ending) : Prop := ∃ u ev, e = .returned (.tuple #[.int .u64 u, ev]) ∧ NumOut o u ev
theorem numEnd_ok (n : Nat) : NumEnd (some n) (.returned (.tuple #[.int .u64 (n : Int), .nilIface])) := ⟨_, _, rfl, rfl, rfl⟩
theorem numEnd_bad (u : Int) (te : TypeId) (pe : Value) : NumEnd none (.returned (.tuple #[.int .u64 u, .iface te pe])) := ⟨_, _, rfl, _, _, rfl⟩
set_option maxRecDepth 100000 in
theorem hexEmpty (w : World) : Calls Tryz.prog 128 #[.string ByteArray.empty, .int .i64 16, .int .i64 32] w fun e w' => e = .returned (.tuple #[.int .u64 0, .iface 162 (.int .i64 2)]) ∧ w' = w := by
  go_enter Tryz.func128, Tryz.ntmps128
  go_wp2
  go_ret2
  exact ⟨rfl, rfl⟩
def InnerEnd (o : Option Nat) (u : Int) (ev : Value) : Prop := match o with
  | some n => u = (n : Int) ∧ ev = .nilIface
  | none => ev = .iface 162 (.int .i64 2) ∨ ev = .iface 162 (.int .i64 1)
theorem hexAll (s : ByteArray) (hmax : s.size ≤ 9223372036854775806) (w : World) :
    Calls Tryz.prog 128 #[.string s, .int .i64 16, .int .i64 32] w fun e w' => (∃ u ev, e = .returned (.tuple #[.int .u64 u, ev]) ∧ InnerEnd (hexU s) u ev) ∧ Below w.heap.size w w' := by
  by_cases h0 : s.size = 0
  · have hs : s = ByteArray.empty := by
      cases s with | mk a =>
      have : a = #[] := Array.eq_empty_of_size_eq_zero h0
      rw [this]; rfl
    subst hs
    refine (hexEmpty w).mono ?_
    rintro e w' ⟨rfl, rfl⟩
    exact ⟨⟨_, _, rfl, .inl rfl⟩, Below.refl _ _⟩
  · refine (hexInner s h0 hmax w).mono ?_
    rintro e w' ⟨⟨u, ev, rfl, hh⟩, rfl⟩
    refine ⟨⟨u, ev, rfl, ?_⟩, Lib.bytesWorld_below _ _ _⟩
    unfold hexU
    rw [if_neg h0]
    cases hh with
    | ok h hu he => rw [h]; exact ⟨hu, he⟩
    | bad h he => rw [h]; exact he
theorem gErrSyntax : Tryz.prog.globalNamed "strconv.ErrSyntax" = some 2 := by kernel_rfl
theorem gErrRange : Tryz.prog.globalNamed "strconv.ErrRange" = some 3 := by kernel_rfl
set_option maxHeartbeats 4000000 in
set_option maxRecDepth 100000 in
theorem hexPublic (s : ByteArray) (hlim : s.size ≤ 281474976710656) (w : World) (hG : Glob Tryz.prog w) :
    Calls Tryz.prog 107 #[.string s, .int .i64 16, .int .i64 32] w fun e w' => NumEnd (hexU s) e ∧ Below w.heap.size w w' := by
  obtain ⟨es, hes, hes2⟩ := hG.err _ _ (.inl rfl) gErrSyntax
  obtain ⟨er, her, her2⟩ := hG.err _ _ (.inr rfl) gErrRange
  have hI := hexAll s (by omega) w
  go_enter Tryz.func107, Tryz.ntmps107
  go_wp2_with (go_at_call 128; refine hI.mono ?_)
  rintro e W1 ⟨⟨u, ev, rfl, hh⟩, hb1⟩
  have hes1 := cell_stays hb1 hes
  have her1 := cell_stays hb1 her
  cases hx : hexU s with
  | some n =>
    rw [hx] at hh
    obtain ⟨rfl, rfl⟩ := hh
    go_wp2
    go_ret2
    exact ⟨by rw [hx]; exact numEnd_ok n, hb1⟩
  | none =>
    rw [hx] at hh
    rcases hh with rfl | rfl
    · go_wp2_with (go_at_call 104; refine (AnyPu.strconv_toError_syntax (P := Tryz.prog) { Go.Proofs.Tryz.laysPu14 with } ⟨#[80, 97, 114, 115, 101, 85, 105, 110, 116]⟩ s 16 32 es _ hlim hes1 hes2).mono ?_)
      rintro e W2 ⟨N, rfl, h1, h2, h3⟩
      go_wp2
      go_ret2
      exact ⟨by rw [hx]; exact numEnd_bad _ _ _, hb1.trans (h3.mono hb1.size)⟩
    · go_wp2_with (go_at_call 104; refine (AnyPu.strconv_toError_range (P := Tryz.prog) { Go.Proofs.Tryz.laysPu14 with } ⟨#[80, 97, 114, 115, 101, 85, 105, 110, 116]⟩ s 16 32 er _ hlim her1 her2).mono ?_)
      rintro e W2 ⟨N, rfl, h1, h2, h3⟩
      go_wp2
      go_ret2
      exact ⟨by rw [hx]; exact numEnd_bad _ _ _, hb1.trans (h3.mono hb1.size)⟩
theorem decPublic (s : ByteArray) (hlim : s.size ≤ 281474976710656) (w : World) (hG : Glob Tryz.prog w) :
    Calls Tryz.prog 107 #[.string s, .int .i64 10, .int .i64 32] w fun e w' => NumEnd (decU s) e ∧ Below w.heap.size w w' := by
  obtain ⟨es, hes, hes2⟩ := hG.err _ _ (.inl rfl) gErrSyntax
  obtain ⟨er, her, her2⟩ := hG.err _ _ (.inr rfl) gErrRange
  unfold decU
  cases hx : Lib.parseUintB 32 s.data.toList with
  | ok u =>
    refine (Go.Proofs.Tryz.strconv_ParseUint_10_at32_ok s (by omega) u hx w).mono ?_
    rintro e w' ⟨rfl, hw⟩
    exact ⟨numEnd_ok u, by rcases hw with rfl | rfl; exact Below.refl _ _; exact Lib.bytesWorld_below _ _ _⟩
  | range =>
    refine (Go.Proofs.Tryz.strconv_ParseUint_10_at32_range s hlim hx er w her her2).mono ?_
    rintro e w' ⟨N, rfl, _, _, hb⟩
    exact ⟨numEnd_bad _ _ _, hb⟩
  | _ =>
    refine (Go.Proofs.Tryz.strconv_ParseUint_10_at32_syntax s hlim hx es w hes hes2).mono ?_
    rintro e w' ⟨N, rfl, _, _, hb⟩
    exact ⟨numEnd_bad _ _ _, hb⟩
end Go.Proofs.YthmdbgejdeblnaaGreatDoor
