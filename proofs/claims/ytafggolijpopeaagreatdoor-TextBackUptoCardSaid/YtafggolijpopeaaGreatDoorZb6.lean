/-
  For every input whose arguments are together of bulk at most 1048576 TextBack of the package yardarmlaw returns true, and each of its arguments reads behind the call as it read before: the package variables that the row lists hold what the program lays; the walk reads none of them.
-/
import Derived.WalkKit
import Derived.ProofKit
import Derived.Laws.IdiomStrings
import Derived.Lib.AtoiAllMem
import Derived.Laws.Strings3
import Derived.Laws.Closers25
import Derived.Laws.Closers25b
import Derived.BigCall
import Derived.BigGuard
import Derived.WalkLawsBesides
import Derived.RegionTactic
import Derived.ChangeAlike
import Derived.BigRegion
import Derived.Lib.AppendIntMem
import Derived.Maps.OwnRows
import Derived.Maps.AppendAt
import Derived.Maps.GroupsBeside
import Derived.Deep.Onto
import Derived.Lib.AppendZerosOnto
import Derived.Laws.CopyRow
import Derived.Laws.AppendOwn
import Derived.Lib.Hide
import Derived.Defers
import Derived.Recover
import Derived.Laws.Pointers
import Derived.Shelf.Vars
import Derived.Lib.LaidTab
import Derived.LaidLaws
import Derived.MakeChecks
import Derived.Test.YtafggolijpopeaaGreatDoorCards
import Derived.Test.YtafggolijpopeaaGreatDoorTie
import Derived.OpenShut
import Derived.ShutString
import Derived.ChangeOld
import Derived.Below
import Derived.JoinedCond
import Derived.Deep.DeepHandedRow
import Derived.Test.YtafggolijpopeaaGreatDoorZb5
set_option linter.unusedVariables false
set_option linter.unusedSimpArgs false
open List renaming getElem?_eq_getElem → zc0, getElem?_eq_some_iff → zc1, getD_eq_getElem?_getD → zc3, mem_of_getElem? → zc5, length_cons → zc21, getElem?_eq_none → zc22, length_append → zc24, mem_cons → zc28, length_nil → zc32, mem_singleton → zc39, getElem?_drop → zc40
open Bool renaming and_eq_true → zc4
open Option renaming map_eq_some_iff → zc7
open Array renaming getElem?_eq_some_iff → zc27
open Nat renaming le_refl → zc49
noncomputable section
namespace Go.Proofs.YtafggolijpopeaaGreatDoor
open Go Go.Ma Go.RowKit Go.Proofs
theorem zq799 (c : Int) (w : World) : Calls Tryz.prog 180 #[.int .u8 c] w fun e w' => e = .returned (.int .u8 (bits .or .u8 c 32)) ∧ w' = w := by
 go_enter Tryz.func180,Tryz.ntmps180
 go_wp2
 go_ret
 exact ⟨rfl,rfl⟩
set_option maxHeartbeats 32000000 in
set_option maxRecDepth 100000 in
theorem zq512 (t : ByteArray) (hne : t.size ≠ 0) (hmax : t.size ≤ 9223372036854775806) (w : World) :
  Calls Tryz.prog 155 #[.string t,.int .i64 16,.int .i64 32] w fun e w' => (∃ u ev,e = .returned (.tuple #[.int .u64 u,ev]) ∧ zq6 161 t.data.toList 0 u ev) ∧ w' = Lib.bytesWorld w 5 t := by
 have hemp : t.toList.isEmpty = false := by
  rw [← decide_eq_emptyBytes]
  exact decide_eq_false (fun h => hne (by rw [h]; rfl))
 have hcv := Lib.run_convert_string_bytes (P := Tryz.prog) w 9 72 5 t (u := .string) Tryz.underlying9 Tryz.underlying72 Tryz.underlying5
 have hB : ∀ j,j < t.size → (Lib.bytesWorld w 5 t).cell? ⟨w.heap.size,j,none⟩ = some (.int .u8 (t.data.toList.getD j 0).toNat) := fun j hj => Lib.bytesWorld_cell w 5 t j hj
 obtain ⟨W1,hW1⟩ : ∃ W1,W1 = Lib.bytesWorld w 5 t := ⟨_,rfl⟩
 rw [← hW1] at hcv hB ⊢
 clear hW1
 obtain ⟨bs,hL⟩ : ∃ bs,bs = t.data.toList := ⟨_,rfl⟩
 have hLn : bs.length = t.size := by rw [hL,Lib.size_eq]
 rw [← hL] at hB ⊢
 clear hL
 have hmv : IntKind.u64.wrap (IntKind.u64.wrap 4294967296 - 1) = 4294967295 := by
  rw [IntKind.wrap_u64,IntKind.wrap_u64]
  decide
 go_enter Tryz.func155,Tryz.ntmps155
 go_wp2
 go_loop [12,13,101] (fun vu vn vi => ∃ (k acc : Nat) (a : Int),vu = .bool false ∧ vn = .int .u64 a ∧ vi = .int .i64 k ∧ k ≤ t.size ∧ Hid (a = (acc : Int) ∧ acc ≤ 4294967295 ∧ hexF bs 0 = hexF (bs.drop k) acc))
  (fun _ _ vi => t.size - (intOf vi).toNat)
 case atStart => exact ⟨0,0,0,rfl,rfl,rfl,by omega,rfl,by omega,rfl⟩
 case round =>
  obtain ⟨k,acc,a,rfl,rfl,rfl,hk,hh⟩ := hrel
  obtain ⟨ha,hacc,hdec⟩ := hh.out
  clear hh
  have a0 : 0 ≤ a := by omega
  have a1 : a ≤ 4294967295 := by omega
  by_cases hkn : k < t.size
  ·have hc := hB k hkn
   have hdrop : bs.drop k = bs[k]'(by omega) :: bs.drop (k + 1) := List.drop_eq_getElem_cons (by omega)
   have hget : bs.getD k 0 = bs[k]'(by omega) := by simp [List.getD,zc0 (show k < bs.length by omega)]
   rw [hdrop] at hdec
   rw [hget] at hc
   generalize bs[k]'(by omega) = c at hc hdec
   have hc256 : c.toNat < 256 := c.toNat_lt
   clear hB hdrop hget
   rw [hexF] at hdec
   by_cases hdig : 48 ≤ c.toNat ∧ c.toNat ≤ 57
   ·obtain ⟨hd0,hd1⟩ := hdig
    have hv : hexv c = some (c.toNat - 48) := by unfold hexv; rw [if_pos ⟨hd0,hd1⟩]
    rw [hv] at hdec
    simp only at hdec
    by_cases hov : 4294967295 < acc * 16 + (c.toNat - 48)
    ·rw [if_pos hov] at hdec
     have iov : 4294967295 < a * 16 + ((c.toNat : Int) - 48) := by omega
     clear hacc hov ha hv
     go_wp2
     go_ret2
     exact ⟨⟨_,_,rfl,.bad hdec (.inr rfl)⟩,rfl⟩
    ·rw [if_neg hov] at hdec
     have HN : Hid (a * 16 + ((c.toNat : Int) - 48) = ((acc * 16 + (c.toNat - 48) : Nat) : Int) ∧ acc * 16 + (c.toNat - 48) ≤ 4294967295 ∧ hexF bs 0 = hexF (bs.drop (k + 1)) (acc * 16 + (c.toNat - 48))) := Lib.hid ⟨by omega,by omega,hdec⟩
     have iov : a * 16 + ((c.toNat : Int) - 48) ≤ 4294967295 := by omega
     clear hacc hov hdec ha hv
     go_wp2
     refine ⟨⟨k + 1,acc * 16 + (c.toNat - 48),a * 16 + ((c.toNat : Int) - 48),rfl,(by first | rfl | (congr 1; omega)),(by first | rfl | (congr 1; omega)),by omega,HN⟩,by simp [intOf]; omega⟩
   ·have hv0 := bits_lo_u8 .or (c.toNat : Int) 32
    have hv1 := bits_hi_u8 .or (c.toNat : Int) 32
    have hne95 : 97 ≤ bits .or .u8 (c.toNat : Int) 32 → bits .or .u8 (c.toNat : Int) 32 ≤ 122 → ¬ (c.toNat : Int) = 95 := fun h1 h2 h => by
     rw [h] at h2
     exact absurd h2 (by decide)
    have hb95 : (c.toNat : Int) = 95 → bits .or .u8 (c.toNat : Int) 32 = 127 := fun h => by rw [h]; decide
    have e95 : bits .or .u8 95 32 = 127 := by decide
    have HL : Hid (∀ W,Calls Tryz.prog 180 #[.int .u8 (c.toNat : Int)] W fun e w' => e = .returned (.int .u8 (bits .or .u8 (c.toNat : Int) 32)) ∧ w' = W) := fun W => zq799 _ W
    have hvv : hexv c = if 97 ≤ bits .or .u8 (c.toNat : Int) 32 ∧ bits .or .u8 (c.toNat : Int) 32 ≤ 102 then some ((bits .or .u8 (c.toNat : Int) 32).toNat - 87) else none := by
     unfold hexv lowQ
     rw [if_neg hdig]
    rw [hvv] at hdec
    clear hvv
    generalize bits .or .u8 (c.toNat : Int) 32 = L at HL hv0 hv1 hne95 hb95 hdec
    by_cases hlet : 97 ≤ L ∧ L ≤ 102
    ·rw [if_pos hlet] at hdec
     simp only at hdec
     obtain ⟨l0,l1⟩ := hlet
     have l2 : L ≤ 122 := by omega
     have n95 := hne95 l0 l2
     by_cases hov : 4294967295 < acc * 16 + (L.toNat - 87)
     ·rw [if_pos hov] at hdec
      have iov : 4294967295 < a * 16 + (L - 87) := by omega
      clear hacc hov ha hne95 hb95 e95
      go_wp2_with (go_at_call 180; refine (HL.out _).mono ?_; rintro e w' ⟨rfl,rfl⟩)
      all_goals go_ret2
      all_goals exact ⟨⟨_,_,rfl,.bad hdec (.inr rfl)⟩,rfl⟩
     ·rw [if_neg hov] at hdec
      have HN : Hid (a * 16 + (L - 97 + 10) = ((acc * 16 + (L.toNat - 87) : Nat) : Int) ∧ acc * 16 + (L.toNat - 87) ≤ 4294967295 ∧ hexF bs 0 = hexF (bs.drop (k + 1)) (acc * 16 + (L.toNat - 87))) := Lib.hid ⟨by omega,by omega,hdec⟩
      have iov : a * 16 + (L - 87) ≤ 4294967295 := by omega
      clear hacc hov hdec ha hne95 hb95 e95
      go_wp2_with (go_at_call 180; refine (HL.out _).mono ?_; rintro e w' ⟨rfl,rfl⟩)
      all_goals exact ⟨⟨k + 1,acc * 16 + (L.toNat - 87),a * 16 + (L - 97 + 10),rfl,(by first | rfl | (congr 1; omega)),(by first | rfl | (congr 1; omega)),by omega,HN⟩,by simp [intOf]; omega⟩
    ·rw [if_neg hlet] at hdec
     simp only at hdec
     clear hacc ha
     by_cases h122 : 97 ≤ L ∧ L ≤ 122
     ·obtain ⟨l0,l2⟩ := h122
      have n95 := hne95 l0 l2
      have l3 : 103 ≤ L := by omega
      clear hne95 hlet hb95 e95
      go_wp2_with (go_at_call 180; refine (HL.out _).mono ?_; rintro e w' ⟨rfl,rfl⟩)
      all_goals go_ret2
      all_goals exact ⟨⟨_,_,rfl,.bad hdec (.inl rfl)⟩,rfl⟩
     ·clear hne95 hlet
      by_cases h95 : (c.toNat : Int) = 95
      ·clear hb95 h122 hv0 hv1
       clear HL
       clear L
       go_wp2_with (go_at_call 180; refine (zq799 95 _).mono ?_; rintro e w' ⟨rfl,rfl⟩)
       all_goals go_ret2
       all_goals exact ⟨⟨_,_,rfl,.bad hdec (.inl rfl)⟩,rfl⟩
      ·clear hb95 e95
       by_cases h97 : 97 ≤ L
       ·have l3 : 122 < L := by omega
        clear h122
        go_wp2_with (go_at_call 180; refine (HL.out _).mono ?_; rintro e w' ⟨rfl,rfl⟩)
        all_goals go_ret2
        all_goals exact ⟨⟨_,_,rfl,.bad hdec (.inl rfl)⟩,rfl⟩
       ·clear h122
        go_wp2_with (go_at_call 180; refine (HL.out _).mono ?_; rintro e w' ⟨rfl,rfl⟩)
        all_goals go_ret2
        all_goals exact ⟨⟨_,_,rfl,.bad hdec (.inl rfl)⟩,rfl⟩
  ·have hkk : k = t.size := by omega
   subst hkk
   have hF : hexF (bs.drop t.size) acc = some acc := by rw [List.drop_eq_nil_of_le (by omega)]; rfl
   rw [hF] at hdec
   subst ha
   clear hacc hF a0 a1
   go_wp2
   go_ret2
   exact ⟨⟨_,_,rfl,.ok hdec⟩,rfl⟩
def NumOut (o : Option Nat) (u : Int) (ev : Value) : Prop := match o with
 | some n => u = (n : Int) ∧ ev = .nilIface
 | none => ∃ te pe,ev = .iface te pe
def zq12 (o : Option Nat) (e : Ending) : Prop := ∃ u ev,e = .returned (.tuple #[.int .u64 u,ev]) ∧ NumOut o u ev
theorem zq862 (n : Nat) : zq12 (some n) (.returned (.tuple #[.int .u64 (n : Int),.nilIface])) := ⟨_,_,rfl,rfl,rfl⟩
theorem zq861 (u : Int) (te : TypeId) (pe : Value) : zq12 none (.returned (.tuple #[.int .u64 u,.iface te pe])) := ⟨_,_,rfl,_,_,rfl⟩
set_option maxRecDepth 100000 in
theorem zq510 (w : World) : Calls Tryz.prog 155 #[.string ByteArray.empty,.int .i64 16,.int .i64 32] w fun e w' => e = .returned (.tuple #[.int .u64 0,.iface 161 (.int .i64 2)]) ∧ w' = w := by
 go_enter Tryz.func155,Tryz.ntmps155
 go_wp2
 go_ret2
 exact ⟨rfl,rfl⟩
def zq7 (o : Option Nat) (u : Int) (ev : Value) : Prop := match o with
 | some n => u = (n : Int) ∧ ev = .nilIface
 | none => ev = .iface 161 (.int .i64 2) ∨ ev = .iface 161 (.int .i64 1)
theorem hexAll (s : ByteArray) (hmax : s.size ≤ 9223372036854775806) (w : World) :
  Calls Tryz.prog 155 #[.string s,.int .i64 16,.int .i64 32] w fun e w' => (∃ u ev,e = .returned (.tuple #[.int .u64 u,ev]) ∧ zq7 (hexU s) u ev) ∧ Below w.heap.size w w' := by
 by_cases h0 : s.size = 0
 ·have hs : s = ByteArray.empty := by
   cases s with | mk a =>
   have : a = #[] := Array.eq_empty_of_size_eq_zero h0
   rw [this]; rfl
  subst hs
  refine (zq510 w).mono ?_
  rintro e w' ⟨rfl,rfl⟩
  exact ⟨⟨_,_,rfl,.inl rfl⟩,Below.refl _ _⟩
 ·refine (zq512 s h0 hmax w).mono ?_
  rintro e w' ⟨⟨u,ev,rfl,hh⟩,rfl⟩
  refine ⟨⟨u,ev,rfl,?_⟩,Lib.bytesWorld_below _ _ _⟩
  unfold hexU
  rw [if_neg h0]
  cases hh with
  | ok h hu he => rw [h]; exact ⟨hu,he⟩
  | bad h he => rw [h]; exact he
theorem zq465 : Tryz.prog.globalNamed "strconv.ErrSyntax" = some 2 := by kernel_rfl
theorem zq464 : Tryz.prog.globalNamed "strconv.ErrRange" = some 3 := by kernel_rfl
set_option maxHeartbeats 4000000 in
set_option maxRecDepth 100000 in
theorem zq513 (s : ByteArray) (hlim : s.size ≤ 281474976710656) (w : World) (hG : Glob Tryz.prog w) :
  Calls Tryz.prog 154 #[.string s,.int .i64 16,.int .i64 32] w fun e w' => zq12 (hexU s) e ∧ Below w.heap.size w w' := by
 obtain ⟨es,hes,hes2⟩ := hG.err _ _ (.inl rfl) zq465
 obtain ⟨er,her,her2⟩ := hG.err _ _ (.inr rfl) zq464
 have hI := hexAll s (by omega) w
 go_enter Tryz.func154,Tryz.ntmps154
 go_wp2_with (go_at_call 155; refine hI.mono ?_)
 rintro e W1 ⟨⟨u,ev,rfl,hh⟩,hb1⟩
 have hes1 := zq259 hb1 hes
 have her1 := zq259 hb1 her
 cases hx : hexU s with
 | some n =>
  rw [hx] at hh
  obtain ⟨rfl,rfl⟩ := hh
  go_wp2
  go_ret2
  exact ⟨by rw [hx]; exact zq862 n,hb1⟩
 | none =>
  rw [hx] at hh
  rcases hh with rfl | rfl
  ·go_wp2_with (go_at_call 102; refine (AnyPu.strconv_toError_syntax (P := Tryz.prog) { Go.Proofs.Tryz.laysPu14 with } ⟨#[80,97,114,115,101,85,105,110,116]⟩ s 16 32 es _ hlim hes1 hes2).mono ?_)
   rintro e W2 ⟨N,rfl,h1,h2,h3⟩
   go_wp2
   go_ret2
   exact ⟨by rw [hx]; exact zq861 _ _ _,hb1.trans (h3.mono hb1.size)⟩
  ·go_wp2_with (go_at_call 102; refine (AnyPu.strconv_toError_range (P := Tryz.prog) { Go.Proofs.Tryz.laysPu14 with } ⟨#[80,97,114,115,101,85,105,110,116]⟩ s 16 32 er _ hlim her1 her2).mono ?_)
   rintro e W2 ⟨N,rfl,h1,h2,h3⟩
   go_wp2
   go_ret2
   exact ⟨by rw [hx]; exact zq861 _ _ _,hb1.trans (h3.mono hb1.size)⟩
theorem zq326 (s : ByteArray) (hlim : s.size ≤ 281474976710656) (w : World) (hG : Glob Tryz.prog w) :
  Calls Tryz.prog 154 #[.string s,.int .i64 10,.int .i64 32] w fun e w' => zq12 (decU s) e ∧ Below w.heap.size w w' := by
 obtain ⟨es,hes,hes2⟩ := hG.err _ _ (.inl rfl) zq465
 obtain ⟨er,her,her2⟩ := hG.err _ _ (.inr rfl) zq464
 unfold decU
 cases hx : Lib.parseUintB 32 s.data.toList with
 | ok u =>
  refine (Go.Proofs.Tryz.strconv_ParseUint_10_at32_ok s (by omega) u hx w).mono ?_
  rintro e w' ⟨rfl,hw⟩
  exact ⟨zq862 u,by rcases hw with rfl | rfl; exact Below.refl _ _; exact Lib.bytesWorld_below _ _ _⟩
 | range =>
  refine (Go.Proofs.Tryz.strconv_ParseUint_10_at32_range s hlim hx er w her her2).mono ?_
  rintro e w' ⟨N,rfl,_,_,hb⟩
  exact ⟨zq861 _ _ _,hb⟩
 | _ =>
  refine (Go.Proofs.Tryz.strconv_ParseUint_10_at32_syntax s hlim hx es w hes hes2).mono ?_
  rintro e w' ⟨N,rfl,_,_,hb⟩
  exact ⟨zq861 _ _ _,hb⟩
end Go.Proofs.YtafggolijpopeaaGreatDoor
namespace Go.Proofs.YtafggolijpopeaaGreatDoor
open Go Go.Ma Go.RowKit Go.Proofs
def zq355 : ByteArray := ⟨#[48,49,50,51,52,53,54,55,56,57,97,98,99,100,101,102,103,104,105,106,107,108,109,110,111,112,113,114,115,116,117,118,119,120,121,122]⟩
theorem idx36 {P : Program} (t : TypeId) (ht : P.underlying t = some .string) (k : IntKind) (z : Int) (i : Nat) (hz : z = (i : Int)) (hi : i < 16) (w : World) :
  (Instr.index t (.string zq355) (.int k z)).run P w = .ok (.int .u8 ((hexD i).toNat : Int)) w := by
 subst hz
 rw [run_index_string w t zq355 k _ ht,dif_pos ⟨by omega,by show (i : Int) < 36; omega⟩]
 have e : ((i : Int)).toNat = i := by omega
 simp only [e]
 have : i = 0 ∨ i = 1 ∨ i = 2 ∨ i = 3 ∨ i = 4 ∨ i = 5 ∨ i = 6 ∨ i = 7 ∨ i = 8 ∨ i = 9 ∨ i = 10 ∨ i = 11 ∨ i = 12 ∨ i = 13 ∨ i = 14 ∨ i = 15 := by omega
 rcases this with rfl | rfl | rfl | rfl | rfl | rfl | rfl | rfl | rfl | rfl | rfl | rfl | rfl | rfl | rfl | rfl <;> rfl
theorem zq1030 (w : World) : Calls Tryz.prog 178 #[.int .i64 16] w fun e w' => e = .returned (.bool true) ∧ w' = w := by
 go_enter Tryz.func178,Tryz.ntmps178
 go_wp2
 go_ret
 exact ⟨by first | rfl | decide,rfl⟩
theorem gTab : Tryz.prog.globalNamed "math/bits.deBruijn64tab" = some 8 := by kernel_rfl
theorem key16 : IntKind.u64.wrap (bits BinOp.and IntKind.u64 16 (IntKind.u64.wrap (-16)) * 285870213051353865) / 288230376151711744 = 15 := by decide +kernel
set_option maxRecDepth 100000 in
theorem zq1599 (w : World) (hcell : w.cell? ⟨8,15,none⟩ = some (.int .u8 4)) :
  Calls Tryz.prog 195 #[.int .u64 16] w fun e w' => e = .returned (.int .i64 4) ∧ w' = w := by
 have key := key16
 go_enter Tryz.func195,Tryz.ntmps195
 go_wp2_with (simp only [key])
 go_ret
 exact ⟨rfl,rfl⟩
set_option maxRecDepth 100000 in
theorem zq1600 (w : World) (hcell : w.cell? ⟨8,15,none⟩ = some (.int .u8 4)) :
  Calls Tryz.prog 179 #[.int .u64 16] w fun e w' => e = .returned (.int .i64 4) ∧ w' = w := by
 go_enter Tryz.func179,Tryz.ntmps179
 go_wp2_with (go_at_call 195; refine (zq1599 _ hcell).mono ?_; rintro e w' ⟨rfl,rfl⟩)
 go_ret
 exact ⟨rfl,rfl⟩
def encB (b : UInt8) : Value := .int .u8 (b.toNat : Int)
theorem zq1033 {w : World} {N m : Nat} {z : Value} {s : List Value} {T : TypeId} (h : w.heap[N]? = some (Go.Obj.cells (List.replicate (m + 1) z ++ s).toArray T (0,0))) :
  w.cell? ⟨N,m,none⟩ = some z ∧ w.frozen? ⟨N,m,none⟩ = false := by
 constructor
 ·simp [World.cell?,h,List.getElem?_append_left]
 ·simp [World.frozen?,h]
theorem zq1035 {w : World} {N m : Nat} {z v : Value} {s : List Value} {T : TypeId} (h : w.heap[N]? = some (Go.Obj.cells (List.replicate (m + 1) z ++ s).toArray T (0,0))) :
  (w.setCell ⟨N,m,none⟩ v).heap[N]? = some (Go.Obj.cells (List.replicate m z ++ v :: s).toArray T (0,0)) := by
 rw [zq1231 w N m v _ T (0,0) h]
 congr 2
 apply Array.ext'
 simp [List.replicate_succ',List.set_append]
theorem zq1499 {w : World} {N i : Nat} {z : Value} {s : List UInt8} {T : TypeId} (h : w.heap[N]? = some (Go.Obj.cells (List.replicate i z ++ s.map encB).toArray T (0,0))) (j : Nat) (hj : j < s.length) :
  w.cell? ((⟨N,i,none⟩ : Addr).add j) = some (.int .u8 (s[j].toNat : Int)) := by
 rw [Lib.add_plain]
 simp [World.cell?,h,List.getElem?_append_right,hj,encB]
theorem zq1262 (m : Nat) (hm : m < 65) (b : Nat) (W : World) : (Instr.sliceAt 208 (.pointer (some ⟨b,0,none⟩)) (some (.int .i64 (m : Int))) none none).run Tryz.prog W = .ok (.slice (some ⟨b,m,none⟩) (65 - m) (65 - m)) W := by
 have hal : Tryz.prog.arrayLen 208 = 65 := by simp [Program.arrayLen,Tryz.underlying208]
 rw [run_sliceAt_array_l W 208 ⟨b,0,none⟩ (by simp [Program.arrayLen,Program.elem,Tryz.underlying208]) .i64 (m : Int) (by omega) (by rw [hal]; omega),hal]
 go_simp
 omega
set_option maxHeartbeats 8000000 in
set_option maxRecDepth 100000 in
theorem zq221 (n : Nat) (hn : n < 65536) (w : World) (hG : Glob Tryz.prog w) :
  Calls Tryz.prog 151 #[.slice none 0 0,.int .u64 (n : Int),.int .i64 16,.bool false,.bool false] w fun e w' => e = .returned (.tuple #[.slice none 0 0,.string ⟨(hex4 n).toArray⟩]) ∧ Below w.heap.size w w' := by
 obtain ⟨tt,zz,htab⟩ := hG.ctz _ gTab
 have hcell : w.cell? ⟨8,15,none⟩ = some (.int .u8 4) := by
  unfold World.cell?
  rw [htab]
  rfl
 have HT : Hid (∀ W,Below w.heap.size w W → Calls Tryz.prog 179 #[.int .u64 16] W fun e w' => e = .returned (.int .i64 4) ∧ w' = W) := fun W hb => zq1600 W (zq259 hb hcell)
 clear hcell htab
 go_enter Tryz.func151,Tryz.ntmps151
 go_wp2_with (first | (go_at_call 178; refine (zq1030 _).mono ?_; rintro e w' ⟨rfl,rfl⟩) | (go_at_call 179; refine (HT.out _ ((Below.refl _ w).alloc (zc49 _) _)).mono ?_; rintro e w' ⟨rfl,rfl⟩))
 go_name_world W0 hW0
 have hN0 : W0.heap[w.heap.size]? = some (.cells (List.replicate 65 (Value.int .u8 0) ++ ([] : List UInt8).map encB).toArray 208 (0,0)) := by rw [← hW0]; exact heap_alloc_new w _
 have hb0 : Below w.heap.size w W0 := by rw [← hW0]; exact (Below.refl _ w).alloc (zc49 _) _
 clear hW0 HT
 go_loopw [1,13] (fun vu vi wr => ∃ (u i : Nat) (suf : List UInt8),vu = .int .u64 (u : Int) ∧ vi = .int .i64 (i : Int) ∧ Hid (hex4 u ++ suf = hex4 n ∧ suf.length + i = 65 ∧ u < 16 ^ (i - 61)) ∧ 62 ≤ i ∧ i ≤ 65 ∧ Hid (wr.heap[w.heap.size]? = some (.cells (List.replicate i (Value.int .u8 0) ++ suf.map encB).toArray 208 (0,0))) ∧ Below w.heap.size w wr) (fun _ vi _ => (intOf vi).toNat)
 case atStart => exact ⟨n,65,[],rfl,rfl,Lib.hid ⟨List.append_nil _,rfl,hn⟩,by omega,by omega,Lib.hid hN0,hb0⟩
 case round =>
  clear hN0 hb0
  obtain ⟨u,i,suf,rfl,rfl,HS,hi0,hi1,HH,hbw⟩ := hrel
  obtain ⟨e1,e2,e3⟩ := HS.out
  obtain ⟨m,rfl⟩ : ∃ m,i = m + 1 := ⟨i - 1,by omega⟩
  have hh := HH.out
  obtain ⟨hc,hf⟩ := zq1033 hh
  clear hh
  have hu6 : u < 65536 := Nat.lt_of_lt_of_le e3 (by have : 16 ^ (m + 1 - 61) ≤ 16 ^ 4 := Nat.pow_le_pow_right (by omega) (by omega); omega)
  have iu0 : 0 ≤ (u : Int) := by omega
  have iu1 : (u : Int) < 65536 := by omega
  by_cases h16 : 16 ≤ u
  ·have hand : bits .and .u64 (u : Int) 15 = ((u % 16 : Nat) : Int) := by
    have := bits_and_u64_nat u 15 (by omega) (by omega)
    rw [show (15 : Int) = ((15 : Nat) : Int) from rfl,this,show (15 : Nat) = 2 ^ 4 - 1 from rfl,Nat.and_two_pow_sub_one_eq_mod]
   have hX : ∀ W,(Instr.index 9 (.string ⟨#[48,49,50,51,52,53,54,55,56,57,97,98,99,100,101,102,103,104,105,106,107,108,109,110,111,112,113,114,115,116,117,118,119,120,121,122]⟩) (.int .u64 (bits .and .u64 (u : Int) 15))).run Tryz.prog W = .ok (.int .u8 ((hexD (u % 16)).toNat : Int)) W := idx36 9 Tryz.underlying9 .u64 _ _ hand (by omega)
   have hge : (16 : Int) ≤ (u : Int) := by omega
   have hm62 : 62 ≤ m := by
    rcases Nat.lt_or_ge m 62 with h | h
    ·have : m = 61 := by omega
     subst this
     have : u < 16 := e3
     omega
    ·exact h
   clear hand
   go_wp2
   refine ⟨⟨u / 16,m,hexD (u % 16) :: suf,by go_num,rfl,Lib.hid ⟨by rw [← e1,zq506 u h16 hu6,List.append_assoc]; rfl,by simp only [zc21]; omega,?_⟩,hm62,by omega,Lib.hid (zq1035 HH.out),hbw.setCell (zc49 _) _⟩,by simp [intOf]⟩
   rw [show m + 1 - 61 = (m - 61) + 1 by omega,Nat.pow_succ] at e3
   omega
  ·have hX : ∀ W,(Instr.index 9 (.string ⟨#[48,49,50,51,52,53,54,55,56,57,97,98,99,100,101,102,103,104,105,106,107,108,109,110,111,112,113,114,115,116,117,118,119,120,121,122]⟩) (.int .u64 (u : Int))).run Tryz.prog W = .ok (.int .u8 ((hexD u).toNat : Int)) W := idx36 9 Tryz.underlying9 .u64 _ _ rfl (by omega)
   have hlt : (u : Int) < 16 := by omega
   obtain ⟨q,hq⟩ : ∃ q,q = 65 - m := ⟨_,rfl⟩
   have hsl : ∀ W,(Instr.sliceAt 208 (.pointer (some ⟨w.heap.size,0,none⟩)) (some (.int .i64 (m : Int))) none none).run Tryz.prog W = .ok (.slice (some ⟨w.heap.size,m,none⟩) q q) W := fun W => by rw [hq]; exact zq1262 m (by omega) _ W
   have hcv : (convert 72 9 (.slice (some ⟨w.heap.size,m,none⟩) q q)).run Tryz.prog (wr.setCell ⟨w.heap.size,m,none⟩ (.int .u8 ((hexD u).toNat : Int))) = .ok (.string ⟨(hex4 n).toArray⟩) (wr.setCell ⟨w.heap.size,m,none⟩ (.int .u8 ((hexD u).toNat : Int))) := by
    have hs : wr.setCell ⟨w.heap.size,m,none⟩ (.int .u8 ((hexD u).toNat : Int)) = wr.setCell ⟨w.heap.size,m,none⟩ (encB (hexD u)) := rfl
    have h := run_convert_bytes_back (P := Tryz.prog) (wr.setCell ⟨w.heap.size,m,none⟩ (encB (hexD u))) 72 9 5 ⟨w.heap.size,m,none⟩ q (hexD u :: suf) Tryz.underlying72 Tryz.underlying5 Tryz.underlying9 (fun j hj => zq1499 (s := hexD u :: suf) (zq1035 HH.out) j hj)
    have hl : (hexD u :: suf).length = q := by rw [hq]; simp only [zc21]; omega
    rw [hl] at h
    have h6 : hex4 n = hexD u :: suf := by rw [← e1]; unfold hex4; rw [if_pos (by omega)]; rfl
    rw [hs,h6]
    exact h
   have hbz := hbw.setCell (p := ⟨w.heap.size,m,none⟩) (zc49 _) (.int .u8 ((hexD u).toNat : Int))
   clear e1 e2 e3 HS HH hG hbw hq hu6 iu0 iu1 h16
   go_wp2
   go_ret2
   exact ⟨rfl,hbz⟩
set_option maxRecDepth 100000 in
theorem zq1603 (n : Nat) (hn : n < 65536) (w : World) (hG : Glob Tryz.prog w) :
  Calls Tryz.prog 119 #[.int .u64 (n : Int),.int .i64 16] w fun e w' => e = .returned (.string ⟨(hex4 n).toArray⟩) ∧ Below w.heap.size w w' := by
 have HB := Lib.hid (zq221 n hn w hG)
 clear hG hn
 go_enter Tryz.func119,Tryz.ntmps119
 go_wp2_with (go_at_call 151; refine HB.out.mono ?_; rintro e w' ⟨rfl,hb⟩)
 go_ret
 exact ⟨rfl,hb⟩
theorem zq1505 {w : World} (hG : Glob Tryz.prog w) : Lib.TabIs Tryz.prog w "internal/strconv.uint64pow10" .u64 Lib.pow10Tab := by
 have hg : Tryz.prog.globalNamed "internal/strconv.uint64pow10" = some 4 := by kernel_rfl
 obtain ⟨t,z,h⟩ := hG.pow _ hg
 have e : zq1029 = Lib.pow10Tab := by decide +kernel
 unfold Lib.TabIs World.var?
 simp [hg,h,e]
set_option maxHeartbeats 8000000 in
set_option maxRecDepth 100000 in
theorem zq1602 (u : Nat) (h1 : u < 256) (w : World) (hG : Glob Tryz.prog w) :
  Calls Tryz.prog 119 #[.int .u64 (u : Int),.int .i64 10] w fun e w' => e = .returned (.string ⟨(Lib.decDigits u).toArray⟩) ∧ Below w.heap.size w w' := by
 by_cases hs : u < 100
 ·have iu : (u : Int) < 100 := by omega
  go_enter Tryz.func119,Tryz.ntmps119
  go_wp2_with (go_at_call 148; refine (Go.Proofs.Tryz.internal_strconv_small u hs _).mono ?_; rintro e w' ⟨rfl,rfl⟩)
  go_ret
  exact ⟨rfl,Below.refl _ _⟩
 ·have hu : 100 ≤ u := by omega
  have htab := zq1505 hG
  have hu1 : 1 ≤ u := by omega
  have hu64 : u < 18446744073709551616 := by omega
  have hnd20 : Lib.nDigits u ≤ 20 := by have := Lib.numDigits_eq u hu1 hu64; split at this <;> omega
  have hal : Tryz.prog.arrayLen 176 = 24 := by simp [Program.arrayLen,Tryz.underlying176]
  have hsl : ∀ W,(Instr.sliceAt 176 (.pointer (some ⟨w.heap.size,0,none⟩)) none (some (.int .i64 (Lib.nDigits u : Int))) none).run Tryz.prog W = .ok (.slice (some ⟨w.heap.size,0,none⟩) (Lib.nDigits u) 24) W := fun W => by
   rw [run_sliceAt_array_h W 176 ⟨w.heap.size,0,none⟩ (by simp [Program.arrayLen,Program.elem,Tryz.underlying176]) .i64 (Lib.nDigits u : Int) (by omega) (by rw [hal]; omega)]
   go_simp
  have hH0 := Lib.holds_zero0 w 176 (Lib.nDigits u) (by omega)
  have hfmt := Go.Proofs.Tryz.internal_strconv_formatBase10 w.heap.size 0 24 u (Array.replicate (Lib.nDigits u) 0) (w.alloc (.cells Lib.zeros24 176)) hH0 (by rw [Array.size_replicate]; exact Lib.lt_pow_nDigits u) hu64 (by rw [Array.size_replicate]; omega)
  rw [Array.size_replicate] at hfmt
  have HH0 := Lib.hid hH0
  have iu : (100 : Int) ≤ (u : Int) := by omega
  clear hH0 hal hs h1 hG
  go_enter Tryz.func119,Tryz.ntmps119
  go_wp2_with (go_at_call 149; refine (Go.Proofs.Tryz.internal_strconv_numDigits u hu1 hu64 _ (Lib.tabIs_alloc htab _)).mono ?_; rintro e w' ⟨rfl,rfl⟩)
  go_at_call 150
  refine hfmt.mono ?_
  rintro e w' ⟨rfl,k,v',dk,rfl,hF⟩
  have hcv : (convert 72 9 (.slice (some ⟨w.heap.size,0,none⟩) (Lib.nDigits u) 24)).run Tryz.prog ((Sort.putRow (fun (b : UInt8) => Value.int .u8 (b.toNat : Int)) (w.alloc (.cells Lib.zeros24 176)) w.heap.size 0 dk).drewN k) = .ok (.string ⟨(Lib.decDigits u).toArray⟩) ((Sort.putRow (fun (b : UInt8) => Value.int .u8 (b.toNat : Int)) (w.alloc (.cells Lib.zeros24 176)) w.heap.size 0 dk).drewN k) := by
   have h := run_convert_bytes_back (P := Tryz.prog) ((Sort.putRow (fun (b : UInt8) => Value.int .u8 (b.toNat : Int)) (w.alloc (.cells Lib.zeros24 176)) w.heap.size 0 dk).drewN k) 72 9 5 ⟨w.heap.size,0,none⟩ 24 (Lib.decDigits u) Tryz.underlying72 Tryz.underlying5 Tryz.underlying9 (fun j hj => by
    rw [Lib.row_is_numeral hF j hj,Lib.add_plain,World.cell?_drewN]
    exact Sort.cell?_putRow (fun (b : UInt8) => Value.int .u8 (b.toNat : Int)) _ w.heap.size 0 _ dk HH0.out (by rw [hF.size,Array.size_replicate]) j (by rw [hF.size]; rw [Lib.decDigits_length] at hj; exact hj))
   rw [Lib.decDigits_length] at h
   exact h
  obtain ⟨os,eo⟩ := Lib.fin_at w (.cells Lib.zeros24 176) dk k 0
  have hnx : Below w.heap.size w ((Sort.putRow (fun (b : UInt8) => Value.int .u8 (b.toNat : Int)) (w.alloc (.cells Lib.zeros24 176)) w.heap.size 0 dk).drewN k) := by rw [eo]; exact Lib.below_grow w.heap.size w (zc49 _) k os
  generalize (Sort.putRow (fun (b : UInt8) => Value.int .u8 (b.toNat : Int)) (w.alloc (.cells Lib.zeros24 176)) w.heap.size 0 dk).drewN k = W2 at hcv hnx ⊢
  clear eo HH0 hfmt
  go_wp2
  go_ret
  exact ⟨rfl,hnx⟩
set_option maxRecDepth 100000 in
theorem zq453 (n b : Int) (r : ByteArray) (w : World) (H : Calls Tryz.prog 119 #[.int .u64 n,.int .i64 b] w fun e w' => e = .returned (.string r) ∧ Below w.heap.size w w') :
  Calls Tryz.prog 92 #[.int .u64 n,.int .i64 b] w fun e w' => e = .returned (.string r) ∧ Below w.heap.size w w' := by
 have HB := Lib.hid H
 clear H
 go_enter Tryz.func92,Tryz.ntmps92
 go_wp2_with (go_at_call 119; refine HB.out.mono ?_; rintro e w' ⟨rfl,hb⟩)
 go_ret
 exact ⟨rfl,hb⟩
def zq1480 : Con := con [.one (.fl .u64),.one (.fl .int)] [.one (.fl .str)] (fun x => zq1482 x.1 x.2.1)
theorem zq452 {n b : Int} {r : ByteArray} {w : World} (h : Calls Tryz.prog 92 #[.int .u64 n,.int .i64 b] w fun e w' => e = .returned (.string r) ∧ Below w.heap.size w w') :
  Calls Tryz.prog 92 #[.int .u64 n,.int .i64 b] w fun e w' => ∃ ρc r' m',e = .returned (den ρc r') ∧ RelM w ρc m' w' ∧ resR [.one (.fl .str)] r' m' = some (r,()) := by
 refine h.mono ?_
 rintro e w' ⟨rfl,hb⟩
 exact ⟨fun _ => Go.undef,.s r,[],rfl,⟨hb,fun j o h => by simp at h,fun i j o o' _ h => by simp at h,fun j o h => by simp at h⟩,rfl⟩
theorem zq1481 : TrOk Tryz.prog 92 zq1480 := zq296 _ _ _ fun x y hx ρ us vals w hG hu => by
 obtain ⟨n,b,z⟩ := x
 have hd := hu.den _ (zq476 us)
 have hvals : vals = [.int .u64 n,.int .i64 b] := hd.symm
 subst hvals
 unfold zq1482 at hx
 split at hx
 ·rename_i hb
  simp only at hb
  subst hb
  obtain ⟨hq,hx⟩ := zq1188 hx
  simp only [zc4,decide_eq_true_eq] at hq
  injection hx with hx
  subst hx
  obtain ⟨u,rfl⟩ := Int.eq_ofNat_of_zero_le hq.1
  exact zq452 (zq453 _ _ _ w (zq1603 u (by omega) w hG))
 ·obtain ⟨hq,hx⟩ := zq1188 hx
  simp only [zc4,decide_eq_true_eq] at hq
  obtain ⟨rfl,h0,h1⟩ := hq
  injection hx with hx
  subst hx
  obtain ⟨u,rfl⟩ := Int.eq_ofNat_of_zero_le h0
  have e : (dec3 (u : Int).toNat) = Lib.decDigits u := (zq312 u (by omega)).symm
  rw [e]
  exact zq452 (zq453 _ _ _ w (zq1602 u (by omega) w hG))
end Go.Proofs.YtafggolijpopeaaGreatDoor
namespace Go.Proofs.YtafggolijpopeaaGreatDoor
open Go Go.Ma Go.RowKit Go.Proofs
def badE : PanicEntry := { v := .iface 130 (.agg #[]),recovered := false }
def EndU (o : Option Int) (e : Ending) : Prop := match o with
 | some v => e = .returned (.int .u64 v)
 | none => e = .panicked [badE]
theorem zq389 {o : Option Int} {v : Int} (h : o = some v) : EndU o (.returned (.int .u64 v)) := by rw [h]; rfl
theorem zq388 {o : Option Int} (h : o = none) : EndU o (.panicked [badE]) := by rw [h]; rfl
set_option maxRecDepth 100000 in
set_option maxHeartbeats 4000000 in
theorem zq999 (s : ByteArray) (b digits most : Int) (hb : b = 10 ∨ b = 16) (hs : s.size ≤ 281474976710656) (w : World) (hG : Glob Tryz.prog w) :
  Calls Tryz.prog 128 #[.string s,.int .i64 b,.int .i64 digits,.int .u64 most] w fun e w' => EndU (partF s b digits most) e ∧ Below w.heap.size w w' := by
 have hcv := fun w s => Lib.run_convert_string_bytes (P := Tryz.prog) w 9 72 5 s Tryz.underlying9 Tryz.underlying72 Tryz.underlying5
 have HP : Hid (∀ W,Glob Tryz.prog W → Calls Tryz.prog 154 #[.string s,.int .i64 b,.int .i64 32] W fun e w' => zq12 (numU b s) e ∧ Below W.heap.size W w') := fun W hg => by
  rcases hb with rfl | rfl
  ·exact zq326 s hs W hg
  ·exact zq513 s hs W hg
 have hb10 : b = 10 ∨ ¬ b = 10 := by omega
 go_enter Tryz.func128,Tryz.ntmps128
 go_wp2
 obtain ⟨cap,hcap⟩ : ∃ cap,cap = grownCap w s.size 0 5 := ⟨_,rfl⟩
 rw [← hcap]
 obtain ⟨w1,hw1⟩ : ∃ w1,w1 = Lib.bytesWorld w 5 s := ⟨_,rfl⟩
 rw [← hw1]
 have HC : Hid (∀ k,k < s.size → w1.cell? ⟨w.heap.size,k,none⟩ = some (.int .u8 ((s.data.toList.getD k 0).toNat : Int))) := fun k hk => by rw [hw1]; exact Lib.bytesWorld_cell _ _ _ _ hk
 have hb1 : Below w.heap.size w w1 := by rw [hw1]; exact Lib.bytesWorld_below _ _ _
 have HA : Hid (∀ k,k < 0 → zq1007 (s.data.toList.getD k 0) = true) := fun k hk => absurd hk (by omega)
 clear hcv hw1 hcap hb
 go_loopw [16] (fun i wr => ∃ k : Nat,k ≤ s.size ∧ i = .int .i64 k ∧ Hid (∀ k,k < s.size → wr.cell? ⟨w.heap.size,k,none⟩ = some (.int .u8 ((s.data.toList.getD k 0).toNat : Int))) ∧ Hid (∀ j,j < k → zq1007 (s.data.toList.getD j 0) = true) ∧ Below w.heap.size w wr) (fun i _ => s.size - (intOf i).toNat)
 case atStart => exact ⟨0,Nat.zero_le _,rfl,HC,HA,hb1⟩
 case round =>
  clear HC hb1 HA
  obtain ⟨k,hk,rfl,HC,HA,hb1⟩ := hrel
  by_cases hlt : k < s.size
  ·have cB := HC.out k hlt
   have hgd : s.data.toList.getD k 0 ∈ s.data.toList := by
    rw [zc3,zc0 (by simpa using hlt)]
    exact List.getElem_mem _
   have hltI : (k : Int) < (s.size : Int) := by omega
   by_cases hpl : zq1007 (s.data.toList.getD k 0) = true
   ·have HA' : Hid (∀ j,j < k + 1 → zq1007 (s.data.toList.getD j 0) = true) := Lib.hid (fun j hj => by
     by_cases hjk : j = k
     ·rw [hjk]; exact hpl
     ·exact HA.out j (by omega))
    generalize s.data.toList.getD k 0 = c at cB hpl
    have n1 : ((c.toNat : Int) == 43) = false := by
     rw [beq_eq_false_iff_ne]; intro e
     have : c = 43 := UInt8.toNat_inj.1 (by show c.toNat = 43; omega)
     subst this; revert hpl; decide
    have n2 : ((c.toNat : Int) == 45) = false := by
     rw [beq_eq_false_iff_ne]; intro e
     have : c = 45 := UInt8.toNat_inj.1 (by show c.toNat = 45; omega)
     subst this; revert hpl; decide
    have n3 : ((c.toNat : Int) == 95) = false := by
     rw [beq_eq_false_iff_ne]; intro e
     have : c = 95 := UInt8.toNat_inj.1 (by show c.toNat = 95; omega)
     subst this; revert hpl; decide
    clear hpl hgd
    go_wp2
    exact ⟨⟨k + 1,by omega,by go_num,HC,HA',hb1⟩,by simp [intOf]; omega⟩
   ·have hnone : partF s b digits most = none := by
     unfold partF
     rw [if_neg (fun h => hpl ((List.all_eq_true.1 h) _ hgd))]
    generalize s.data.toList.getD k 0 = c at cB hpl
    have hc3 : c = 43 ∨ c = 45 ∨ c = 95 := by
     unfold zq1007 at hpl
     simp only [zc4,Bool.not_eq_true',beq_eq_false_iff_ne,not_and,Decidable.not_not,ne_eq] at hpl
     by_cases h1 : c = 43
     ·exact .inl h1
     ·by_cases h2 : c = 45
      ·exact .inr (.inl h2)
      ·exact .inr (.inr (hpl ⟨h1,h2⟩))
    clear hpl hgd HA HC
    rcases hc3 with rfl | rfl | rfl
    ·go_wp2
     exact ⟨rfl,zq388 hnone,hb1⟩
    ·go_wp2
     exact ⟨rfl,zq388 hnone,hb1⟩
    ·go_wp2
     exact ⟨rfl,zq388 hnone,hb1⟩
  ·have hkn : k = s.size := by omega
   subst hkn
   have hall : s.data.toList.all zq1007 = true := by
    rw [List.all_eq_true]
    intro c hc
    obtain ⟨j,hj⟩ := List.mem_iff_getElem?.1 hc
    have hjl := (zc1.1 hj).1
    have := HA.out j (by simpa using hjl)
    rw [zc3,hj] at this
    exact this
   clear HC HA
   have hp0 : partF s b digits most = match numU b s with | none => none | some u => if digits < s.size ∨ most < u ∨ (b = 10 ∧ 1 < s.size ∧ s.data.toList.head? = some 48) then none else some (u : Int) := by
    unfold partF
    rw [if_pos hall]
    rfl
   cases hu : numU b s with
   | none =>
    rw [hu] at hp0 HP
    go_wp2_with (go_at_call 154; refine (HP.out _ (hG.mono hb1)).mono ?_; rintro e w2 ⟨⟨u,ev,rfl,te,pe,rfl⟩,hb2⟩)
    exact ⟨rfl,zq388 hp0,hb1.trans (hb2.mono hb1.size)⟩
   | some n =>
    rw [hu] at hp0 HP
    simp only at hp0
    by_cases g1 : digits < (s.size : Int)
    ·rw [if_pos (.inl g1)] at hp0
     have z1 : decide (digits < (s.size : Int)) = true := decide_eq_true g1
     go_wp2_with (go_at_call 154; refine (HP.out _ (hG.mono hb1)).mono ?_; rintro e w2 ⟨⟨u,ev,rfl,hue⟩,hb2⟩; obtain ⟨rfl,rfl⟩ := hue)
     exact ⟨rfl,zq388 hp0,hb1.trans (hb2.mono hb1.size)⟩
    have z1 : decide (digits < (s.size : Int)) = false := decide_eq_false g1
    by_cases g2 : most < (n : Int)
    ·rw [if_pos (.inr (.inl g2))] at hp0
     have z2 : decide (most < (n : Int)) = true := decide_eq_true g2
     go_wp2_with (go_at_call 154; refine (HP.out _ (hG.mono hb1)).mono ?_; rintro e w2 ⟨⟨u,ev,rfl,hue⟩,hb2⟩; obtain ⟨rfl,rfl⟩ := hue)
     exact ⟨rfl,zq388 hp0,hb1.trans (hb2.mono hb1.size)⟩
    have z2 : decide (most < (n : Int)) = false := decide_eq_false g2
    rcases hb10 with rfl | g3
    rotate_left
    ·rw [if_neg (by rintro (h | h | h); exact g1 h; exact g2 h; exact g3 h.1)] at hp0
     have z3 : (b == 10) = false := by rw [beq_eq_false_iff_ne]; exact g3
     go_wp2_with (go_at_call 154; refine (HP.out _ (hG.mono hb1)).mono ?_; rintro e w2 ⟨⟨u,ev,rfl,hue⟩,hb2⟩; obtain ⟨rfl,rfl⟩ := hue)
     go_ret
     exact ⟨zq389 hp0,hb1.trans (hb2.mono hb1.size)⟩
    by_cases g4 : 1 < s.size
    rotate_left
    ·rw [if_neg (by rintro (h | h | h); exact g1 h; exact g2 h; exact g4 h.2.1)] at hp0
     have z4 : decide (1 < (s.size : Int)) = false := decide_eq_false (by omega)
     go_wp2_with (go_at_call 154; refine (HP.out _ (hG.mono hb1)).mono ?_; rintro e w2 ⟨⟨u,ev,rfl,hue⟩,hb2⟩; obtain ⟨rfl,rfl⟩ := hue)
     go_ret
     exact ⟨zq389 hp0,hb1.trans (hb2.mono hb1.size)⟩
    have z4 : decide (1 < (s.size : Int)) = true := decide_eq_true (by omega)
    have hsz : 0 < s.size := by omega
    have hh0 : s.data.toList.head? = some (s[0]'hsz) := by
     rw [List.head?_eq_getElem?,zc0 (by simpa using hsz)]
     rfl
    rw [hh0] at hp0
    by_cases g5 : s[0]'hsz = 48
    ·rw [if_pos (.inr (.inr ⟨rfl,g4,by rw [g5]⟩))] at hp0
     have z5 : (((s[0]'hsz).toNat : Int) == 48) = true := by rw [g5]; rfl
     go_wp2_with (go_at_call 154; refine (HP.out _ (hG.mono hb1)).mono ?_; rintro e w2 ⟨⟨u,ev,rfl,hue⟩,hb2⟩; obtain ⟨rfl,rfl⟩ := hue)
     exact ⟨rfl,zq388 hp0,hb1.trans (hb2.mono hb1.size)⟩
    ·rw [if_neg (by rintro (h | h | h); exact g1 h; exact g2 h; exact g5 (Option.some.inj h.2.2))] at hp0
     have z5 : (((s[0]'hsz).toNat : Int) == 48) = false := by
      rw [beq_eq_false_iff_ne]
      intro e
      exact g5 (UInt8.toNat_inj.1 (by show (s[0]'hsz).toNat = 48; omega))
     go_wp2_with (go_at_call 154; refine (HP.out _ (hG.mono hb1)).mono ?_; rintro e w2 ⟨⟨u,ev,rfl,hue⟩,hb2⟩; obtain ⟨rfl,rfl⟩ := hue)
     go_ret
     exact ⟨zq389 hp0,hb1.trans (hb2.mono hb1.size)⟩
theorem zq1335 (s : ByteArray) (c : UInt8) : (zq1332 s c).length = Lib.countB s ⟨#[c]⟩ + 1 := Lib.splitB_all ⟨#[c]⟩ (zc49 _) 0 _ s rfl
theorem zq1334 (s : ByteArray) (c : UInt8) : (zq1332 s c).length ≤ s.size + 1 := by
 rw [zq1335]
 have := Lib.countB_le ⟨#[c]⟩ (zc49 _) s.size s (zc49 _)
 omega
theorem zq1338 (s : ByteArray) (c : UInt8) (w : World) (hs : s.size < 4294967281) :
  Calls Tryz.prog 57 #[.string s,.string ⟨#[c]⟩] w fun e w' =>
   e = .returned (.slice (some ⟨w.heap.size,0,none⟩) (zq1332 s c).length (zq1332 s c).length) ∧ Below w.heap.size w w' ∧ w.heap.size < w'.heap.size ∧ ∀ (k : Nat) x,(zq1332 s c)[k]? = some x → w'.cell? ⟨w.heap.size,k,none⟩ = some (.string x) := by
 refine (zq1341 s c w hs).mono ?_
 rintro e w' ⟨rfl,rfl⟩
 have hl := zq1335 s c
 refine ⟨by rw [hl],(Below.refl _ w).alloc (zc49 _) _,by simp,fun k x hx => ?_⟩
 have hn := heap_alloc_new w (.cells ((zq1332 s c).map Value.string).toArray 9)
 show (w.alloc (.cells ((zq1332 s c).map Value.string).toArray 9)).cell? _ = _
 unfold World.cell?
 simp only
 rw [hn]
 simp [hx]
theorem zq1336 (s : ByteArray) (c : UInt8) : ∀ x ∈ zq1332 s c,x.size ≤ s.size := by
 have key : ∀ (k : Nat) (s : ByteArray),∀ x ∈ Lib.splitB ⟨#[c]⟩ 0 k s,x.size ≤ s.size := by
  intro k
  induction k with
  | zero => intro s x hx; simp only [Lib.splitB,zc39] at hx; rw [hx]; exact zc49 _
  | succ k ih =>
   intro s x hx
   rw [Lib.splitB] at hx
   split at hx
   ·simp only [zc39] at hx; rw [hx]; exact zc49 _
   ·rcases zc28.1 hx with rfl | hx
    ·rw [ByteArray.size_extract]; omega
    ·have := ih _ x hx
     rw [ByteArray.size_extract] at this
     omega
 exact key _ s
theorem zq266 {w w' : World} {b : Nat} {l : List ByteArray} (h : ∀ (k : Nat) x,l[k]? = some x → w.cell? ⟨b,k,none⟩ = some (.string x)) (hb : Below w.heap.size w w') : ∀ (k : Nat) x,l[k]? = some x → w'.cell? ⟨b,k,none⟩ = some (.string x) :=
 fun k x hx => zq259 hb (h k x hx)
set_option maxRecDepth 100000 in
set_option maxHeartbeats 4000000 in
theorem zq458 (s : ByteArray) (hs : s.size ≤ 4294967200) (w : World) (hG : Glob Tryz.prog w) :
  Calls Tryz.prog 100 #[.string s] w fun e w' => EndU (fourF s) e ∧ Below w.heap.size w w' := by
 have HS := zq1338 s 46 w (by omega)
 have hsz := zq1336 s 46
 have hf : fourF s = if (zq1332 s 46).length = 4 then fourL (zq1332 s 46) 0 else none := rfl
 generalize zq1332 s 46 = l at HS hsz hf
 rw [hf]
 clear hf
 have HS := Lib.hid HS
 go_enter Tryz.func100,Tryz.ntmps100
 by_cases h4 : l.length = 4
 rotate_left
 ·have h4i : ((l.length : Int) == 4) = false := by rw [beq_eq_false_iff_ne]; omega
  rw [if_neg h4]
  go_wp2_with (go_at_call 57; refine HS.out.mono ?_; rintro e w1 ⟨rfl,hb1,hn1,hc1⟩)
  exact ⟨rfl,rfl,hb1⟩
 ·rw [if_pos h4]
  have h4i : ((l.length : Int) == 4) = true := by rw [h4]; rfl
  go_wp2_with (go_at_call 57; refine HS.out.mono ?_; rintro e w1 ⟨rfl,hb1,hn1,hc1⟩)
  have HC : Hid (∀ (k : Nat) x,l[k]? = some x → w1.cell? ⟨w.heap.size,k,none⟩ = some (.string x)) := hc1
  clear hc1 HS
  go_loopw [4,16] (fun vn vi wr => ∃ (k : Nat) (n : Int),vn = .int .u64 n ∧ vi = .int .i64 k ∧ k ≤ l.length ∧ Hid (fourL l 0 = fourL (l.drop k) n) ∧ Hid (∀ (k : Nat) x,l[k]? = some x → wr.cell? ⟨w.heap.size,k,none⟩ = some (.string x)) ∧ Below w.heap.size w wr ∧ w.heap.size < wr.heap.size) (fun _ vi _ => l.length - (intOf vi).toNat)
  case atStart => exact ⟨0,0,rfl,rfl,Nat.zero_le _,Lib.hid rfl,HC,hb1,hn1⟩
  case round =>
   clear HC hb1 hn1
   obtain ⟨k,n,rfl,rfl,hk,HF,HC,hb1,hn1⟩ := hrel
   by_cases hlt : k < l.length
   ·obtain ⟨x,hx⟩ : ∃ x,l[k]? = some x := ⟨_,zc0 hlt⟩
    have cB := HC.out k x hx
    have hltI : (k : Int) < (l.length : Int) := by omega
    have hfx : fourL l 0 = match partF x 10 3 255 with | none => none | some u => fourL (l.drop (k + 1)) (aop .or .u64 (aop .shl .u64 n 8) u) := by
     rw [HF.out,List.drop_eq_getElem_cons hlt,(zc1.1 hx).2]
     rfl
    have HP : Hid (∀ W,Below w.heap.size w W → Calls Tryz.prog 128 #[.string x,.int .i64 10,.int .i64 3,.int .u64 255] W fun e w' => EndU (partF x 10 3 255) e ∧ Below W.heap.size W w') := fun W hW =>
     zq999 x 10 3 255 (.inl rfl) (by have := hsz x (zc5 hx); omega) W (hG.mono hW)
    cases hp : partF x 10 3 255 with
    | none =>
     rw [hp] at hfx HP
     have hfx : fourL l 0 = none := hfx
     go_wp2_with (go_at_call 128; refine (HP.out _ hb1).mono ?_; rintro e w2 ⟨he,hb2⟩; have he : e = .panicked [badE] := he; subst he)
     exact ⟨rfl,zq388 hfx,hb1.trans (hb2.mono hb1.size)⟩
    | some u =>
     rw [hp] at hfx HP
     simp only at hfx
     go_wp2_with (go_at_call 128; refine (HP.out _ hb1).mono ?_; rintro e w2 ⟨he,hb2⟩; have he : e = .returned (.int .u64 u) := he; subst he)
     exact ⟨⟨k + 1,_,rfl,by go_num,by omega,Lib.hid hfx,Lib.hid (zq266 HC.out hb2),hb1.trans (hb2.mono hb1.size),Nat.lt_of_lt_of_le hn1 hb2.size⟩,by simp [intOf]; omega⟩
   ·have hkn : k = l.length := by omega
    subst hkn
    have hfx : fourL l 0 = some n := by rw [HF.out,List.drop_length]; rfl
    go_wp2
    go_ret
    exact ⟨zq389 hfx,hb1⟩
theorem zq533 : (Tryz.prog.info? 22).map (fun i => (i.zero,i.size,i.bytes)) = some (some (.int .u64 0),1,8) := by kernel_rfl
theorem zq214 {N : Nat} {a w w1 : World} {row : Option Nat} (h : Below N a w) (hg : w.grownBy w1 row) (hr : ∀ b,row = some b → N ≤ b) (hN : N ≤ w.heap.size) : Below N a w1 :=
 ⟨hg.os.trans h.os,hg.tape.trans h.tape,hg.output.trans h.output,Nat.le_trans h.size hg.size,fun k hk => (hg.block k (Nat.lt_of_lt_of_le hk hN) (fun e => absurd (hr k e.symm) (by omega))).trans (h.block k hk)⟩
theorem zq261 (w : World) (cs : List Value) (t : TypeId) : ∀ (j : Nat) u,cs[j]? = some u → (w.alloc (.cells cs.toArray t)).cell? (Addr.add ⟨w.heap.size,0,none⟩ j) = some u := fun j u hj => by
 have hn := heap_alloc_new w (.cells cs.toArray t)
 rw [Addr.add_lit]
 unfold World.cell?
 simp only
 rw [hn]
 simp [hj]
theorem zq974 {w : World} {base : Nat} {e : TypeId} {size : Nat} {v : Value} {n : Nat} {xs : List Value} (h : w.ownsRow base e size v n xs) : ∀ b,v.ownBlock = some b → base ≤ b := fun b hb => by
 obtain ⟨_,⟨rfl,_⟩ | ⟨g,cap,cur,rfl,hg,_⟩⟩ := h
 ·cases hb
 ·cases hb; exact hg
def zq3 (base : Nat) (o : Option (List Int)) (e : Ending) (w' : World) : Prop := match o with
 | some l => ∃ v,e = .returned v ∧ w'.ownsRow base 22 1 v l.length (l.map (Value.int .u64))
 | none => e = .panicked [badE]
theorem zq1304 {last : Bool} {len : Nat} {l : List ByteArray} {k : Nat} {x : ByteArray} (hx : l[k]? = some x) (out : List Int) : someL last len (l.drop k) k out =
  if last = true ∧ k + 1 = len ∧ dotIn x = true then (match fourF x with | none => none | some n => someL last len (l.drop (k + 1)) (k + 1) (out ++ [n / 65536,aop .and .u64 n 65535]))
  else (match partF x 16 4 65535 with | none => none | some u => someL last len (l.drop (k + 1)) (k + 1) (out ++ [u])) := by
 obtain ⟨h1,h2⟩ := zc1.1 hx
 rw [List.drop_eq_getElem_cons h1,h2]
 rfl
set_option maxRecDepth 100000 in
set_option maxHeartbeats 8000000 in
theorem zq1306 (s : ByteArray) (last : Bool) (hs : s.size ≤ 4294967200) (w : World) (hG : Glob Tryz.prog w) :
  Calls Tryz.prog 127 #[.string s,.bool last] w fun e w' => zq3 w.heap.size (someF s last) e w' ∧ Below w.heap.size w w' := by
 obtain ⟨i0,hi,hz0,hz1,hz2⟩ := info_parts zq533
 by_cases h0 : s.size = 0
 ·have hse : s = ByteArray.empty := by
   cases s with | mk a =>
   have : a = #[] := Array.eq_empty_of_size_eq_zero h0
   rw [this]; rfl
  subst hse
  go_enter Tryz.func127,Tryz.ntmps127
  go_wp2
  go_ret
  exact ⟨⟨_,rfl,World.ownsRow_nil _ _ _ _⟩,Below.refl _ _⟩
 have hemp : s.toList.isEmpty = false := by
  rw [← decide_eq_emptyBytes]
  exact decide_eq_false (fun h => h0 (by rw [h]; rfl))
 have HS := zq1338 s 58 w (by omega)
 have hsz := zq1336 s 58
 have hle := zq1334 s 58
 have hf : someF s last = someL last (zq1332 s 58).length (zq1332 s 58) 0 [] := by unfold someF; rw [if_neg h0]
 generalize zq1332 s 58 = l at HS hsz hle hf
 rw [hf]
 clear hf
 have HS := Lib.hid HS
 go_enter Tryz.func127,Tryz.ntmps127
 go_wp2_with (go_at_call 57; refine HS.out.mono ?_; rintro e w1 ⟨rfl,hb1,hn1,hc1⟩)
 have HC : Hid (∀ (k : Nat) x,l[k]? = some x → w1.cell? ⟨w.heap.size,k,none⟩ = some (.string x)) := hc1
 clear hc1 HS
 obtain ⟨B,hB⟩ : ∃ B,B = w1.heap.size := ⟨_,rfl⟩
 go_loopw [5,16] (fun vo vi wr => ∃ (k : Nat) (out : List Int),vi = .int .i64 k ∧ k ≤ l.length ∧ Hid (someL last l.length l 0 [] = someL last l.length (l.drop k) k out) ∧ Hid (∀ (k : Nat) x,l[k]? = some x → wr.cell? ⟨w.heap.size,k,none⟩ = some (.string x)) ∧ wr.ownsRow B 22 1 vo out.length (out.map (Value.int .u64)) ∧ out.length ≤ 2 * k ∧ Below B w1 wr) (fun _ vi _ => l.length - (intOf vi).toNat)
 case atStart => exact ⟨0,[],rfl,Nat.zero_le _,Lib.hid rfl,HC,World.ownsRow_nil _ _ _ _,by simp,by rw [hB]; exact Below.refl _ _⟩
 case round =>
  clear HC
  obtain ⟨k,out,rfl,hk,HF,HC,hown,hol,hbr⟩ := hrel
  have hbw : Below w.heap.size w wr := hb1.trans (hbr.mono (by omega))
  have hBr : B ≤ wr.heap.size := by rw [hB]; exact hbr.size
  by_cases hlt : k < l.length
  ·obtain ⟨x,hx⟩ : ∃ x,l[k]? = some x := ⟨_,zc0 hlt⟩
   have cB := HC.out k x hx
   have hltI : (k : Int) < (l.length : Int) := by omega
   have hxs := hsz x (zc5 hx)
   have hfx : someL last l.length l 0 [] = _ := HF.out.trans (zq1304 hx out)
   have HP : Hid (∀ W,Below w.heap.size w W → Calls Tryz.prog 128 #[.string x,.int .i64 16,.int .i64 4,.int .u64 65535] W fun e w' => EndU (partF x 16 4 65535) e ∧ Below W.heap.size W w') := fun W hW =>
    zq999 x 16 4 65535 (.inr rfl) (by omega) W (hG.mono hW)
   have H4 : Hid (∀ W,Below w.heap.size w W → Calls Tryz.prog 100 #[.string x] W fun e w' => EndU (fourF x) e ∧ Below W.heap.size W w') := fun W hW =>
    zq458 x (by omega) W (hG.mono hW)
   have HD : Hid (∀ W,Calls Tryz.prog 98 #[.string x,.string ⟨#[46]⟩] W fun e w' => e = .returned (.bool (dotIn x)) ∧ w' = W) := fun W => Go.Proofs.Tryz.strings_Contains_one x 46 W
   by_cases hcond : last = true ∧ k + 1 = l.length ∧ dotIn x = true
   ·rw [if_pos hcond] at hfx
    obtain ⟨rfl,hk1,hd⟩ := hcond
    rw [hd] at HD
    have hk1i : ((k : Int) == (l.length : Int) - 1) = true := by rw [beq_iff_eq]; omega
    cases hp : fourF x with
    | none =>
     rw [hp] at hfx H4
     have hfx : someL true l.length l 0 [] = none := hfx
     go_wp2_with (first | (go_at_call 98; refine (HD.out _).mono ?_; rintro e w2 ⟨rfl,hw2⟩; have hw2 := hw2.symm; subst hw2) | (go_at_call 100; refine (H4.out _ hbw).mono ?_; rintro e w2 ⟨he,hb2⟩; have he : e = .panicked [badE] := he; subst he))
     exact ⟨rfl,by rw [hfx]; rfl,hbw.trans (hb2.mono hbw.size)⟩
    | some n =>
     rw [hp] at hfx H4
     simp only at hfx
     go_wp2_with (first | (go_at_call 98; refine (HD.out _).mono ?_; rintro e w2 ⟨rfl,hw2⟩; have hw2 := hw2.symm; subst hw2) | (go_at_call 100; refine (H4.out _ hbw).mono ?_; rintro e w2 ⟨he,hb2⟩; have he : e = .returned (.int .u64 n) := he; subst he; have hown2 := hown.kept (zq213 hb2) (Classical.em _); have hs2 := hb2.size) | (at_builtin; refine wpList_append_own_at _ rfl _ _ 158 rfl B 22 i0 (.int .u64 0) 1 8 Tryz.underlying158 hi hz0 hz1 hz2 rfl (by decide) _ _ _ rfl (hown2.alloc _) ⟨w2.heap.size,0,none⟩ 2 2 [.int .u64 (n / 65536),.int .u64 (bits .and .u64 n 65535)] rfl rfl (zq261 _ _ _) (by simp [Value.oneCell']) (by unfold maxLen; omega) (by omega) (by simp; omega) ?_; intro v' w3 hown' hgrow hnil hloc))
     have hg3 : w2.grownBy w3 u5.ownBlock := (World.grownBy_alloc w2 _ _).trans hgrow
     have hbe : ∀ b,u5.ownBlock = some b → B ≤ b := zq974 hown
     have hh : Below B wr w3 := zq214 (hb2.mono hBr) hg3 hbe (by omega)
     have HN : Hid (∀ (k : Nat) x,l[k]? = some x → w3.cell? ⟨w.heap.size,k,none⟩ = some (.string x)) := Lib.hid fun k x hx => (hh.cell (p := ⟨w.heap.size,k,none⟩) (by show w.heap.size < B; omega)).trans (HC.out k x hx)
     exact ⟨⟨k + 1,out ++ [n / 65536,aop .and .u64 n 65535],by go_num,by omega,Lib.hid hfx,HN,by rw [zc24,List.map_append]; exact hown',by simp; omega,hbr.trans hh⟩,by simp [intOf]; omega⟩
   ·rw [if_neg hcond] at hfx
    cases last with
    | false =>
     cases hp : partF x 16 4 65535 with
     | none =>
      rw [hp] at hfx HP
      have hfx : someL _ l.length l 0 [] = none := hfx
      go_wp2_with (first | (go_at_call 98; refine (HD.out _).mono ?_; rintro e w2 ⟨rfl,hw2⟩; have hw2 := hw2.symm; subst hw2) | (go_at_call 128; refine (HP.out _ hbw).mono ?_; rintro e w2 ⟨he,hb2⟩; have he : e = .panicked [badE] := he; subst he))
      exact ⟨rfl,by rw [hfx]; rfl,hbw.trans (hb2.mono hbw.size)⟩
     | some u =>
      rw [hp] at hfx HP
      simp only at hfx
      go_wp2_with (first | (go_at_call 98; refine (HD.out _).mono ?_; rintro e w2 ⟨rfl,hw2⟩; have hw2 := hw2.symm; subst hw2) | (go_at_call 128; refine (HP.out _ hbw).mono ?_; rintro e w2 ⟨he,hb2⟩; have he : e = .returned (.int .u64 u) := he; subst he; have hown2 := hown.kept (zq213 hb2) (Classical.em _); have hs2 := hb2.size) | (at_builtin; refine wpList_append_own_at _ rfl _ _ 158 rfl B 22 i0 (.int .u64 0) 1 8 Tryz.underlying158 hi hz0 hz1 hz2 rfl (by decide) _ _ _ rfl (hown2.alloc _) ⟨w2.heap.size,0,none⟩ 1 1 [.int .u64 u] rfl rfl (zq261 _ _ _) (by simp [Value.oneCell']) (by unfold maxLen; omega) (by omega) (by simp; omega) ?_; intro v' w3 hown' hgrow hnil hloc))
      have hg3 : w2.grownBy w3 u5.ownBlock := (World.grownBy_alloc w2 _ _).trans hgrow
      have hbe : ∀ b,u5.ownBlock = some b → B ≤ b := zq974 hown
      have hh : Below B wr w3 := zq214 (hb2.mono hBr) hg3 hbe (by omega)
      have HN : Hid (∀ (k : Nat) x,l[k]? = some x → w3.cell? ⟨w.heap.size,k,none⟩ = some (.string x)) := Lib.hid fun k x hx => (hh.cell (p := ⟨w.heap.size,k,none⟩) (by show w.heap.size < B; omega)).trans (HC.out k x hx)
      exact ⟨⟨k + 1,out ++ [u],by go_num,by omega,Lib.hid hfx,HN,by rw [zc24,List.map_append]; exact hown',by simp; omega,hbr.trans hh⟩,by simp [intOf]; omega⟩
    | true =>
     by_cases hk1 : k + 1 = l.length
     ·have hk1i : ((k : Int) == (l.length : Int) - 1) = true := by rw [beq_iff_eq]; omega
      have hd : dotIn x = false := by
       cases hdd : dotIn x
       ·rfl
       ·exact absurd ⟨rfl,hk1,hdd⟩ hcond
      rw [hd] at HD
      cases hp : partF x 16 4 65535 with
      | none =>
       rw [hp] at hfx HP
       have hfx : someL _ l.length l 0 [] = none := hfx
       go_wp2_with (first | (go_at_call 98; refine (HD.out _).mono ?_; rintro e w2 ⟨rfl,hw2⟩; have hw2 := hw2.symm; subst hw2) | (go_at_call 128; refine (HP.out _ hbw).mono ?_; rintro e w2 ⟨he,hb2⟩; have he : e = .panicked [badE] := he; subst he))
       exact ⟨rfl,by rw [hfx]; rfl,hbw.trans (hb2.mono hbw.size)⟩
      | some u =>
       rw [hp] at hfx HP
       simp only at hfx
       go_wp2_with (first | (go_at_call 98; refine (HD.out _).mono ?_; rintro e w2 ⟨rfl,hw2⟩; have hw2 := hw2.symm; subst hw2) | (go_at_call 128; refine (HP.out _ hbw).mono ?_; rintro e w2 ⟨he,hb2⟩; have he : e = .returned (.int .u64 u) := he; subst he; have hown2 := hown.kept (zq213 hb2) (Classical.em _); have hs2 := hb2.size) | (at_builtin; refine wpList_append_own_at _ rfl _ _ 158 rfl B 22 i0 (.int .u64 0) 1 8 Tryz.underlying158 hi hz0 hz1 hz2 rfl (by decide) _ _ _ rfl (hown2.alloc _) ⟨w2.heap.size,0,none⟩ 1 1 [.int .u64 u] rfl rfl (zq261 _ _ _) (by simp [Value.oneCell']) (by unfold maxLen; omega) (by omega) (by simp; omega) ?_; intro v' w3 hown' hgrow hnil hloc))
       have hg3 : w2.grownBy w3 u5.ownBlock := (World.grownBy_alloc w2 _ _).trans hgrow
       have hbe : ∀ b,u5.ownBlock = some b → B ≤ b := zq974 hown
       have hh : Below B wr w3 := zq214 (hb2.mono hBr) hg3 hbe (by omega)
       have HN : Hid (∀ (k : Nat) x,l[k]? = some x → w3.cell? ⟨w.heap.size,k,none⟩ = some (.string x)) := Lib.hid fun k x hx => (hh.cell (p := ⟨w.heap.size,k,none⟩) (by show w.heap.size < B; omega)).trans (HC.out k x hx)
       exact ⟨⟨k + 1,out ++ [u],by go_num,by omega,Lib.hid hfx,HN,by rw [zc24,List.map_append]; exact hown',by simp; omega,hbr.trans hh⟩,by simp [intOf]; omega⟩
     ·have hk1i : ((k : Int) == (l.length : Int) - 1) = false := by rw [beq_eq_false_iff_ne]; omega
      cases hp : partF x 16 4 65535 with
      | none =>
       rw [hp] at hfx HP
       have hfx : someL _ l.length l 0 [] = none := hfx
       go_wp2_with (first | (go_at_call 98; refine (HD.out _).mono ?_; rintro e w2 ⟨rfl,hw2⟩; have hw2 := hw2.symm; subst hw2) | (go_at_call 128; refine (HP.out _ hbw).mono ?_; rintro e w2 ⟨he,hb2⟩; have he : e = .panicked [badE] := he; subst he))
       exact ⟨rfl,by rw [hfx]; rfl,hbw.trans (hb2.mono hbw.size)⟩
      | some u =>
       rw [hp] at hfx HP
       simp only at hfx
       go_wp2_with (first | (go_at_call 98; refine (HD.out _).mono ?_; rintro e w2 ⟨rfl,hw2⟩; have hw2 := hw2.symm; subst hw2) | (go_at_call 128; refine (HP.out _ hbw).mono ?_; rintro e w2 ⟨he,hb2⟩; have he : e = .returned (.int .u64 u) := he; subst he; have hown2 := hown.kept (zq213 hb2) (Classical.em _); have hs2 := hb2.size) | (at_builtin; refine wpList_append_own_at _ rfl _ _ 158 rfl B 22 i0 (.int .u64 0) 1 8 Tryz.underlying158 hi hz0 hz1 hz2 rfl (by decide) _ _ _ rfl (hown2.alloc _) ⟨w2.heap.size,0,none⟩ 1 1 [.int .u64 u] rfl rfl (zq261 _ _ _) (by simp [Value.oneCell']) (by unfold maxLen; omega) (by omega) (by simp; omega) ?_; intro v' w3 hown' hgrow hnil hloc))
       have hg3 : w2.grownBy w3 u5.ownBlock := (World.grownBy_alloc w2 _ _).trans hgrow
       have hbe : ∀ b,u5.ownBlock = some b → B ≤ b := zq974 hown
       have hh : Below B wr w3 := zq214 (hb2.mono hBr) hg3 hbe (by omega)
       have HN : Hid (∀ (k : Nat) x,l[k]? = some x → w3.cell? ⟨w.heap.size,k,none⟩ = some (.string x)) := Lib.hid fun k x hx => (hh.cell (p := ⟨w.heap.size,k,none⟩) (by show w.heap.size < B; omega)).trans (HC.out k x hx)
       exact ⟨⟨k + 1,out ++ [u],by go_num,by omega,Lib.hid hfx,HN,by rw [zc24,List.map_append]; exact hown',by simp; omega,hbr.trans hh⟩,by simp [intOf]; omega⟩
  ·have hkn : k = l.length := by omega
   subst hkn
   have hfx : someL last l.length l 0 [] = some out := by rw [HF.out,List.drop_length]; rfl
   go_wp2
   go_ret
   refine ⟨?_,hbw⟩
   rw [hfx]
   exact ⟨_,rfl,hown.mono (by omega)⟩
end Go.Proofs.YtafggolijpopeaaGreatDoor
namespace Go.Proofs.YtafggolijpopeaaGreatDoor
open Go Go.Ma Go.RowKit Go.Proofs
theorem zq196 {P : Program} (w : World) (base : Nat) (t tn ty e : TypeId) (i : TypeInfo) (z : Value) (bytes : Nat) (kn : IntKind) (ht : P.underlying t = some (.slice e)) (htn : P.underlying tn = some (.int kn)) (hi : P.info? e = some i) (hz : i.zero = some z)
  (hsize : i.size = 1) (hby : i.bytes = bytes) (hzs : z.cells.size = 1) (v : Value) (n : Nat) (xs : List Value) (hown : w.ownsRow base e 1 v n xs) (k : Nat) (h0 : 0 < k)
  (h63 : n + k ≤ maxLen) (hbytes : (n + k) * bytes ≤ 140737488355328) (hbase : base ≤ w.heap.size) (h1 : ∀ u ∈ (Builtin.zeroCells z.cells k).toList,u.oneCell' = true) :
  ∃ v' w',(Builtin.append_ #[t,tn] ty #[v,.int .i64 (k : Int)]).run P w = .ok v' w' ∧ w'.ownsRow base e 1 v' (n + k) (xs ++ (Builtin.zeroCells z.cells k).toList) ∧ w.grownBy w' v.ownBlock := by
 subst hby
 have hsmall : n + k ≤ 9223372036854775807 := by simp only [maxLen] at h63; omega
 have hzl : (Builtin.zeroCells z.cells k).toList.length = k := by rw [Array.length_toList,size_zeroCells,hzs,Nat.mul_one]
 have hlen : (xs ++ (Builtin.zeroCells z.cells k).toList).length = (n + k) * 1 := by rw [zc24,hown.1,hzl]; omega
 have grown : ∀ (old : Nat),old < n + k → ∀ (row : Option Nat),
   (w.drew.alloc (.cells (xs.toArray ++ Builtin.zeroCells z.cells k ++ Builtin.zeroCells z.cells (grownCap w (n + k) old e - (n + k))) e)).ownsRow base e 1
    (.slice (some ⟨w.heap.size,0,none⟩) (n + k) (grownCap w (n + k) old e)) (n + k) (xs ++ (Builtin.zeroCells z.cells k).toList) ∧
   w.grownBy (w.drew.alloc (.cells (xs.toArray ++ Builtin.zeroCells z.cells k ++ Builtin.zeroCells z.cells (grownCap w (n + k) old e - (n + k))) e)) row := by
  intro old ho row
  have hge := grownCap_ge w (n + k) old e
  have hcm : grownCap w (n + k) old e ≤ maxLen := grownCap_le_maxLen w (n + k) old e h63
  refine ⟨⟨hlen,.inr ⟨w.heap.size,_,_,rfl,hbase,heap_alloc_new w.drew _,hge,hcm,?_,?_⟩⟩,⟨rfl,rfl,rfl,by simp,fun j hj _ => (by first | exact heap_alloc_old w.drew _ j hj | exact heap_alloc_old w.drew _ hj)⟩⟩
  ·have := hown.1
   simp only [Array.size_append,List.size_toArray,size_zeroCells,hzs]
   omega
  ·simp only [Array.toList_append]
   rw [← hlen]
   exact List.take_left
 rcases hown.2 with ⟨rfl,rfl⟩ | ⟨g,cap,cur,rfl,hbg,hg,hnc,hcm,hcs,htake⟩
 ·have hx : xs = [] := List.eq_nil_of_length_eq_zero (by simpa using hown.1)
  subst hx
  have hr := Lib.run_append_nil_zeros (P := P) w t tn ty e i z .i64 kn ht htn hi hz k h0 (by omega) (by omega) (by simp only [Nat.zero_add] at hbytes; omega)
  have hgr := grown 0 (by omega) (Value.ownBlock (.slice none 0 0))
  simp only [Nat.zero_add,List.nil_append,Array.empty_append] at hgr ⊢
  exact ⟨_,_,hr,hgr.1,hgr.2⟩
 ·by_cases hroom : n + k ≤ cap
  ·have hfit : n + k ≤ cur.size := by rw [hcs]; omega
   have hst := run_storeCells_at P g n e (Builtin.zeroCells z.cells k).toList 0 cur w hg (by rw [hzl]; omega) h1
   simp only [Nat.add_zero] at hst
   have hk0 : k ≠ 0 := by omega
   have hw : IntKind.i64.wrap (k : Int) = k := by rw [IntKind.wrap_i64]; omega
   have hneg : ¬ ((k : Int) < 0) := by omega
   have h48i : ¬ (281474976710656 < (k : Int) * (i.bytes : Int)) := by
    rw [← Int.natCast_mul]
    have : k * i.bytes ≤ (n + k) * i.bytes := Nat.mul_le_mul_right _ (by omega)
    omega
   have hr : (Builtin.append_ #[t,tn] ty #[.slice (some ⟨g,0,none⟩) n cap,.int .i64 (k : Int)]).run P w = .ok (.slice (some ⟨g,0,none⟩) (n + k) cap) (w.setRow g (cur.toList.take n ++ (Builtin.zeroCells z.cells k).toList ++ cur.toList.drop (n + (Builtin.zeroCells z.cells k).toList.length)).toArray) := by
    simp [Builtin.append_,run_underlying ht,run_underlying htn,sizeOf,typeInfo,zeroValue,hi,hz,hsize,asInt,asIntOf,hw,hroom,hneg,hk0,h48i,Addr.add_lit,hst]
   refine ⟨_,_,hr,⟨hlen,.inr ⟨g,cap,_,rfl,hbg,setRow_heap w g cur _ e _ hg,hroom,hcm,?_,?_⟩⟩,⟨rfl,rfl,rfl,by simp,fun k _ hk => setRow_other w g k _ (fun e => hk (by simp [Value.ownBlock,e]))⟩⟩
   ·simp only [List.size_toArray,zc24,List.length_take,List.length_drop,Array.length_toList,hzl,size_zeroCells,hzs]
    omega
   ·have ht2 : cur.toList.take n = xs := by rw [← htake,Nat.mul_one]
    rw [ht2,← hlen]
    exact List.take_left
  ·have holds : ∀ j u,xs[j]? = some u → w.cell? ((⟨g,0,none⟩ : Addr).add j) = some u := hown.cells (g := g) rfl
   have hold : (Builtin.firstCells i.size n (.slice (some ⟨g,0,none⟩) n cap)).run P w.drew = .ok xs.toArray w.drew := by
    have := run_firstCells_some (P := P) w.drew i.size n ⟨g,0,none⟩ n cap xs (by rw [hsize]; exact hown.1) (fun j u hj => holds j u hj)
    exact this
   have hr := Lib.run_append_grow_zeros (P := P) w t tn ty e i z .i64 kn ht htn hi hz (some ⟨g,0,none⟩) n cap xs hold k h0 (by omega) (by omega) (by omega) (by
     have : k * i.bytes ≤ (n + k) * i.bytes := Nat.mul_le_mul_right _ (by omega)
     omega) (growslice_fits (by omega) hbytes)
   have hgr := grown cap (by omega) (Value.ownBlock (.slice (some ⟨g,0,none⟩) n cap))
   exact ⟨_,_,hr,hgr.1,hgr.2⟩
theorem zq1205 {w : World} {base : Nat} {e : TypeId} {v : Value} {l : List Int} (h : w.ownsRow base e 1 v l.length (l.map (Value.int .u64))) (h0 : 0 < l.length) :
  ∃ g cap,v = .slice (some ⟨g,0,none⟩) l.length cap ∧ base ≤ g ∧ g < w.heap.size ∧ Hid (∀ (j : Nat) x,l[j]? = some x → w.cell? ⟨g,j,none⟩ = some (.int .u64 x)) := by
 have hc := @World.ownsRow.cells w base e 1 v l.length (l.map (Value.int .u64)) h
 obtain ⟨_,⟨_,hn⟩ | ⟨g,cap,cur,rfl,hg,hh,_⟩⟩ := h
 ·omega
 ·refine ⟨g,cap,rfl,hg,(zc27.1 hh).1,Lib.hid fun j x hx => ?_⟩
  have := hc (g := g) rfl j (.int .u64 x) (by simp [hx])
  rwa [Addr.add_lit,Nat.zero_add] at this
theorem zq977 {w : World} {base : Nat} {e : TypeId} {v : Value} {n : Nat} {xs : List Value} (h : w.ownsRow base e 1 v n xs) :
  ∃ A c,v = .slice A n c ∧ (A = none → n = 0) ∧ ∀ ad,A = some ad → base ≤ ad.block ∧ ad.block < w.heap.size ∧ ∀ j u,xs[j]? = some u → w.cell? (ad.add j) = some u := by
 have hc := fun g => @World.ownsRow.cells w base e 1 v n xs h g
 obtain ⟨_,⟨rfl,hn⟩ | ⟨g,cap,cur,rfl,hg,hh,_⟩⟩ := h
 ·exact ⟨none,0,(by rw [hn]),(fun _ => hn),fun ad had => (by cases had)⟩
 ·refine ⟨_,cap,rfl,(fun h => by cases h),fun ad had => ?_⟩
  cases had
  exact ⟨hg,(zc27.1 hh).1,fun j u hj => hc g rfl j u hj⟩
theorem zq973 {A : Option Addr} {n c b : Nat} (h : (Value.slice A n c).ownBlock = some b) : ∃ ad,A = some ad ∧ ad.block = b := by
 cases A with
 | none => cases h
 | some ad => exact ⟨ad,rfl,by injection h⟩
theorem zq1642 (k : Nat) : (Builtin.zeroCells (Value.int IntKind.u64 0).cells k).toList = (List.replicate k (0 : Int)).map (Value.int .u64) := by
 apply List.ext_getElem?
 intro i
 by_cases h : i < k
 ·simp [Builtin.zeroCells,Value.cells,List.getElem?_replicate,h,Nat.mod_one]
 ·simp [Builtin.zeroCells,Value.cells,List.getElem?_replicate,h]
theorem zq1643 (k : Nat) : ∀ u ∈ (Builtin.zeroCells (Value.int IntKind.u64 0).cells k).toList,u.oneCell' = true := by
 rw [zq1642]
 simp [Value.oneCell']
theorem zq215 {N : Nat} {a w w1 : World} {row : Option Nat} (h : Below N a w) (hg : w.grownBy w1 row) (hr : ∀ b,row = some b → N ≤ b) (hN : N ≤ w.heap.size) : Below N a w1 :=
 h.trans ⟨hg.os,hg.tape,hg.output,hg.size,fun k hk => hg.block k (by omega) (fun e => by have := hr k e.symm; omega)⟩
theorem zq81 (a : Addr) (n : Nat) : (a.add n).block = a.block := by unfold Addr.add; split <;> rfl
theorem zq1591 {P : Program} (w : World) (N base1 K : Nat) (t tn e : TypeId) (i : TypeInfo) (ht : P.underlying t = some (.slice e)) (htn : P.underlying tn = some (.int .i64)) (hi : P.info? e = some i)
  (hz0 : i.zero = some (.int .u64 0)) (hz1 : i.size = 1) (hz2 : i.bytes = 8) (A1 : Option Addr) (c1 : Nat) (l : List Int) (hown : w.ownsRow base1 e 1 (.slice A1 l.length c1) l.length (l.map (Value.int .u64)))
  (A2 : Option Addr) (c2 : Nat) (m : List Int) (hA2 : A2 = none → m.length = 0) (hA1 : ∀ ad,A1 = some ad → base1 ≤ ad.block ∧ ad.block < K) (hm : ∀ ad,A2 = some ad → K ≤ ad.block ∧ ad.block < w.heap.size ∧ ∀ (j : Nat) u,(m.map (Value.int .u64))[j]? = some u → w.cell? (ad.add j) = some u)
  (hbase : base1 ≤ w.heap.size) (hN : N ≤ base1) (kz : Nat) (hk : 0 < kz) (h8 : l.length + kz + m.length = 8) :
  ∃ A4 c4 w4 g c5 w5,(Builtin.append_ #[t,tn] t #[.slice A1 l.length c1,.int .i64 (kz : Int)]).run P w = .ok (.slice A4 (l.length + kz) c4) w4 ∧
   (Builtin.append_ #[t,t] t #[.slice A4 (l.length + kz) c4,.slice A2 m.length c2]).run P w4 = .ok (.slice (some ⟨g,0,none⟩) 8 c5) w5 ∧
   Hid (∀ (j : Nat) x,(l ++ List.replicate kz 0 ++ m)[j]? = some x → w5.cell? ⟨g,j,none⟩ = some (.int .u64 x)) ∧ N ≤ g ∧ g < w5.heap.size ∧ (∀ a,Below N a w → Below N a w5) := by
 have own1 : ∀ b,(Value.slice A1 l.length c1).ownBlock = some b → base1 ≤ b := by
  intro b hb
  obtain ⟨ad,h1,h2⟩ := zq973 hb
  have := hA1 ad h1
  omega
 obtain ⟨v4,w4,hr4,hown4,hg4⟩ := zq196 (P := P) w base1 t tn t e i (.int .u64 0) 8 .i64 ht htn hi hz0 hz1 hz2 rfl _ _ _ hown kz hk (by unfold maxLen; omega) (by omega) hbase (zq1643 kz)
 rw [zq1642,← List.map_append] at hown4
 have hb4 : ∀ a,Below N a w → Below N a w4 := fun a ha => zq215 ha hg4 (fun b hb => Nat.le_trans hN (own1 b hb)) (by omega)
 obtain ⟨A4,c4,rfl,hA4,hc4⟩ := zq977 hown4
 have own4 : ∀ b,(Value.slice A4 (l.length + kz) c4).ownBlock = some b → base1 ≤ b := by
  intro b hb
  obtain ⟨ad,h1,h2⟩ := zq973 hb
  have := (hc4 ad h1).1
  omega
 have hm4 : ∀ ad,A2 = some ad → ∀ (j : Nat) u,(m.map (Value.int .u64))[j]? = some u → w4.cell? (ad.add j) = some u := by
  intro ad had j u hu
  obtain ⟨h1,h2,h3⟩ := hm ad had
  rw [World.cell?_of_block (a := ad.add j) (w := w) (hg4.block (ad.add j).block (by rw [zq81]; exact h2) (fun e => by obtain ⟨a1,h4,h5⟩ := zq973 e.symm; have := (hA1 a1 h4).2; rw [zq81] at h5; omega))]
  exact h3 j u hu
 obtain ⟨v5,w5,hr5,hown5,hg5,_⟩ := zq195 (P := P) w4 base1 t t e i (.int .u64 0) ht hi hz0 (by rw [hz1]; rfl) (by omega) _ _ _ (by rw [hz1]; exact hown4) A2 m.length c2 (m.map (Value.int .u64)) (by rw [hz1,List.length_map,Nat.mul_one]) hA2 hm4 (by simp [Value.oneCell']) (by unfold maxLen; omega) (by rw [hz2]; omega) (by have := hg4.size; omega)
 rw [hz1,← List.map_append] at hown5
 have hL : (l ++ List.replicate kz 0 ++ m).length = 8 := by simp only [zc24,List.length_replicate]; omega
 rw [show l.length + kz + m.length = (l ++ List.replicate kz 0 ++ m).length by rw [hL,h8]] at hown5
 obtain ⟨g,c5,rfl,hgb,hgl,HR⟩ := zq1205 hown5 (by omega)
 rw [hL] at hr5
 exact ⟨A4,c4,w4,g,c5,w5,hr4,hr5,HR,by omega,hgl,fun a ha => zq215 (hb4 a ha) hg5 (fun b hb => Nat.le_trans hN (own4 b hb)) (by have := hg4.size; omega)⟩
end Go.Proofs.YtafggolijpopeaaGreatDoor
namespace Go.Proofs.YtafggolijpopeaaGreatDoor
open Go Go.Ma Go.RowKit Go.Proofs
theorem zq466 : Tryz.prog.globalNamed "internal/bytealg.MaxLen" = some 1 := by kernel_rfl
theorem zq304 (s : ByteArray) (hs : s.size ≤ 4294967200) (w : World) (hG : Glob Tryz.prog w) :
  Calls Tryz.prog 31 #[.string s,.string ⟨#[58,58]⟩] w fun e w' => e = .returned (.tuple #[.string (cut1 s),.string (cut2 s),.bool (cut3 s)]) ∧ Below w.heap.size w w' := by
 obtain ⟨m,hm⟩ := hG.num _ zq466
 refine (Go.Proofs.Tryz.strings_Cut s ⟨#[58,58]⟩ m w (by omega) hm).mono ?_
 rintro e w' ⟨rfl,n,rfl⟩
 exact ⟨rfl,zq212 w n⟩
theorem zq308 (s : ByteArray) : (cut1 s).size ≤ s.size ∧ (cut2 s).size ≤ s.size := by
 have h1 : (cut1 s).size = (Lib.cut s.data.toList [58,58]).1.length := rfl
 have h2 : (cut2 s).size = (Lib.cut s.data.toList [58,58]).2.1.length := rfl
 have h3 : s.data.toList.length = s.size := Array.length_toList
 rw [h1,h2]
 unfold Lib.cut
 generalize Lib.index s.data.toList [58,58] = ix
 by_cases h : 0 ≤ ix
 ·rw [if_pos h]
  simp only [List.length_take,List.length_drop]; omega
 ·rw [if_neg h]
  simp only [zc32]; omega
theorem zq986 (x : Int) : ∀ (l : List Int) (a : Int),packI (l ++ [x]) a = aop .or .u64 (aop .shl .u64 (packI l a) 16) x
 | [],_ => rfl
 | y :: r,a => zq986 x r _
theorem zq987 {l : List Int} {k : Nat} {x : Int} (hx : l[k]? = some x) (a : Int) : packI (l.take (k + 1)) a = aop .or .u64 (aop .shl .u64 (packI (l.take k) a) 16) x := by
 rw [List.take_add_one,hx]
 exact zq986 x _ a
theorem zq1305 (last : Bool) (len : Nat) : ∀ (l : List ByteArray) (i : Nat) (out r : List Int),someL last len l i out = some r → r.length ≤ out.length + 2 * l.length
 | [],_,out,r,h => by injection h with h; rw [h]; simp
 | x :: l,i,out,r,h => by
  rw [someL] at h
  split at h
  ·split at h
   ·cases h
   ·have := zq1305 last len l _ _ r h
    simp only [zc24,zc21,zc32] at this ⊢
    omega
  ·split at h
   ·cases h
   ·have := zq1305 last len l _ _ r h
    simp only [zc24,zc21,zc32] at this ⊢
    omega
theorem zq1302 {s : ByteArray} {last : Bool} {r : List Int} (h : someF s last = some r) : r.length ≤ 2 * (s.size + 1) := by
 unfold someF at h
 split at h
 ·injection h with h; rw [← h]; simp
 ·have h1 := zq1305 _ _ _ _ _ _ h
  have h2 := zq1334 s 58
  simp only [zc32] at h1
  omega
theorem zq1114 {w wr : World} {N i : Nat} {a b c v : Value} {t : TypeId} (hn : wr.heap[N]? = some (Go.Obj.cells #[a,b,c] t (0,0))) (hb : Below w.heap.size w wr) (hN : w.heap.size < N) :
  (wr.setCell ⟨N,i,none⟩ v).drew.heap[N]? = some (Go.Obj.cells (#[a,b,c].setIfInBounds i v) t (0,0)) ∧ (∀ k,k ≠ N → (wr.setCell ⟨N,i,none⟩ v).drew.heap[k]? = wr.heap[k]?) ∧ Below w.heap.size w (wr.setCell ⟨N,i,none⟩ v).drew := by
 have h := hb.setCell (p := ⟨N,i,none⟩) (show w.heap.size ≤ N by omega) v
 exact ⟨zq1231 wr N i v _ t (0,0) hn,fun k hk => Below.heap_setCell wr ⟨N,i,none⟩ v k hk,⟨h.os,h.tape,h.output,h.size,h.block⟩⟩
theorem zq265 {w w' : World} {g N : Nat} {L : List Int} (hg : g ≠ N) (h : ∀ k,k ≠ N → w'.heap[k]? = w.heap[k]?) (hc : ∀ (j : Nat) x,L[j]? = some x → w.cell? ⟨g,j,none⟩ = some (.int .u64 x)) : ∀ (j : Nat) x,L[j]? = some x → w'.cell? ⟨g,j,none⟩ = some (.int .u64 x) :=
 fun j x hx => (World.cell?_of_block (a := ⟨g,j,none⟩) (h g hg)).trans (hc j x hx)
def EndA (o : Option Ad) (e : Ending) : Prop := match o with
 | some a => e = .returned (.agg #[.bool a.v6,.int .u64 a.hi,.int .u64 a.lo])
 | none => e = .panicked [badE]
theorem zq387 {o : Option Ad} (h : o = none) : EndA o (.panicked [badE]) := by rw [h]; rfl
set_option maxRecDepth 100000 in
set_option maxHeartbeats 8000000 in
theorem zq1257 (s : ByteArray) (hs : s.size ≤ 4294967200) (w : World) (hG : Glob Tryz.prog w) :
  Calls Tryz.prog 99 #[.string s] w fun e w' => EndA (zq1255 s) e ∧ Below w.heap.size w w' := by
 obtain ⟨i0,hi,hz0,hz1,hz2⟩ := info_parts zq533
 obtain ⟨hs1,hs2⟩ := zq308 s
 have HC : Hid (∀ W,Below w.heap.size w W → Calls Tryz.prog 31 #[.string s,.string ⟨#[58,58]⟩] W fun e w' => e = .returned (.tuple #[.string (cut1 s),.string (cut2 s),.bool (cut3 s)]) ∧ Below W.heap.size W w') := fun W hW => zq304 s hs W (hG.mono hW)
 have H1 : Hid (∀ W,Below w.heap.size w W → Calls Tryz.prog 127 #[.string (cut1 s),.bool false] W fun e w' => zq3 W.heap.size (someF (cut1 s) false) e w' ∧ Below W.heap.size W w') := fun W hW => zq1306 _ _ (by omega) W (hG.mono hW)
 have H2 : Hid (∀ W,Below w.heap.size w W → Calls Tryz.prog 127 #[.string (cut2 s),.bool true] W fun e w' => zq3 W.heap.size (someF (cut2 s) true) e w' ∧ Below W.heap.size W w') := fun W hW => zq1306 _ _ (by omega) W (hG.mono hW)
 have H3 : Hid (∀ W,Below w.heap.size w W → Calls Tryz.prog 127 #[.string s,.bool true] W fun e w' => zq3 W.heap.size (someF s true) e w' ∧ Below W.heap.size W w') := fun W hW => zq1306 _ _ (by omega) W (hG.mono hW)
 have hsx : zq1255 s = if cut3 s = true then (match someF (cut1 s) false with
  | none => none
  | some l => match someF (cut2 s) true with
   | none => none
   | some m => if 7 < l.length + m.length then none else some (packA (l ++ List.replicate (8 - l.length - m.length) 0 ++ m)))
 else match someF s true with
  | none => none
  | some l => if l.length = 8 then some (packA l) else none := rfl
 generalize zq1255 s = res at hsx ⊢
 generalize cut1 s = s1 at HC H1 hs1 hsx
 generalize cut2 s = s2 at HC H2 hs2 hsx
 generalize cut3 s = ok at HC hsx
 have hba : Below w.heap.size w (w.alloc (.cells #[.bool false,.int .u64 0,.int .u64 0] 24)) := (Below.refl _ w).alloc (zc49 _) _
 have hn0 := heap_alloc_new w (.cells #[.bool false,.int .u64 0,.int .u64 0] 24)
 go_enter Tryz.func99,Tryz.ntmps99
 cases ok with
 | false =>
  rw [if_neg (by decide)] at hsx
  cases hp : someF s true with
  | none =>
   rw [hp] at hsx H3
   go_wp2_with (first | (go_at_call 31; refine (HC.out _ hba).mono ?_; rintro e w1 ⟨rfl,hb1⟩) | (go_at_call 127; refine (H3.out _ (hba.trans (hb1.mono hba.size))).mono ?_; rintro e w2 ⟨he,hb2⟩; have he : e = .panicked [badE] := he; subst he))
   exact ⟨rfl,zq387 hsx,hba.trans ((hb1.mono hba.size).trans (hb2.mono (Nat.le_trans hba.size hb1.size)))⟩
  | some l =>
   rw [hp] at hsx H3
   simp only at hsx
   by_cases h8 : l.length = 8
   rotate_left
   ·rw [if_neg h8] at hsx
    have h8i : ((l.length : Int) != 8) = true := by rw [bne_iff_ne]; omega
    go_wp2_with (first | (go_at_call 31; refine (HC.out _ hba).mono ?_; rintro e w1 ⟨rfl,hb1⟩) | (go_at_call 127; refine (H3.out _ (hba.trans (hb1.mono hba.size))).mono ?_; rintro e w2 ⟨⟨v,rfl,hown⟩,hb2⟩; obtain ⟨A,cap,rfl⟩ : ∃ A cap,v = .slice A l.length cap := by obtain ⟨_,⟨h,h0⟩ | ⟨g,cap,cur,h,_⟩⟩ := hown; exact ⟨none,0,by rw [h,h0]⟩; exact ⟨_,_,h⟩))
    exact ⟨rfl,zq387 hsx,hba.trans ((hb1.mono hba.size).trans (hb2.mono (Nat.le_trans hba.size hb1.size)))⟩
   rw [if_pos h8] at hsx
   have h8i : ((l.length : Int) != 8) = false := by rw [h8]; rfl
   go_wp2_with (first | (go_at_call 31; refine (HC.out _ hba).mono ?_; rintro e w1 ⟨rfl,hb1⟩) | (go_at_call 127; refine (H3.out _ (hba.trans (hb1.mono hba.size))).mono ?_; rintro e w2 ⟨⟨v,rfl,hown⟩,hb2⟩; obtain ⟨g,cap,rfl,hgw,hgl,HR⟩ := zq1205 hown (by omega)))
   have hbw : Below w.heap.size w w2 := hba.trans ((hb1.mono hba.size).trans (hb2.mono (Nat.le_trans hba.size hb1.size)))
   have hnw : w2.heap[w.heap.size]? = some (Go.Obj.cells #[.bool false,.int .u64 0,.int .u64 0] 24 (0,0)) := zq500 hb2 (zq500 hb1 hn0)
   obtain ⟨L,hL⟩ : ∃ L,L = l := ⟨_,rfl⟩
   rw [← hL] at HR h8 hsx
   have hgne : g ≠ w.heap.size := by
    have := hb1.size
    have h2 : (w.alloc (.cells #[.bool false,.int .u64 0,.int .u64 0] 24)).heap.size = w.heap.size + 1 := by simp
    omega
   clear hown hb1 hb2 hba hn0 hL hgw HC H1 H2 H3 hp
   have hN0 := heap_alloc_new w2 (.cells #[.bool true,.int .u64 0,.int .u64 0] 24)
   have hbN : Below w.heap.size w (w2.alloc (.cells #[.bool true,.int .u64 0,.int .u64 0] 24)) := hbw.alloc hbw.size _
   have hnN : (w2.alloc (.cells #[.bool true,.int .u64 0,.int .u64 0] 24)).heap[w.heap.size]? = some (Go.Obj.cells #[.bool false,.int .u64 0,.int .u64 0] 24 (0,0)) := (Below.heap_alloc _ _ _ (zc27.1 hnw).1).trans hnw
   have HRN : Hid (∀ (j : Nat) x,L[j]? = some x → (w2.alloc (.cells #[.bool true,.int .u64 0,.int .u64 0] 24)).cell? ⟨g,j,none⟩ = some (.int .u64 x)) := Lib.hid fun j x hx => zq259 ((Below.refl w2.heap.size w2).alloc (zc49 _) _) (HR.out j x hx)
   obtain ⟨N,hN⟩ : ∃ N,N = w2.heap.size := ⟨_,rfl⟩
   have hgN : g < N := by rw [hN]; exact hgl
   have hwN : w.heap.size < N := by rw [hN]; exact (zc27.1 hnw).1
   rw [← hN] at hN0 ⊢
   generalize w2.alloc (.cells #[.bool true,.int .u64 0,.int .u64 0] 24) = wN at hN0 hbN hnN HRN ⊢
   clear HR hnw hbw hgl hN
   go_loopw [47] (fun vi wr => ∃ (k : Nat) (h l : Int),vi = .int .i64 k ∧ k ≤ 4 ∧ Hid (h = packI (L.take k) 0 ∧ l = packI ((L.drop 4).take k) 0) ∧ wr.heap[N]? = some (Go.Obj.cells #[.bool true,.int .u64 h,.int .u64 l] 24 (0,0)) ∧ Hid (∀ (j : Nat) x,L[j]? = some x → wr.cell? ⟨g,j,none⟩ = some (.int .u64 x)) ∧ wr.heap[w.heap.size]? = some (Go.Obj.cells #[.bool false,.int .u64 0,.int .u64 0] 24 (0,0)) ∧ Below w.heap.size w wr) (fun vi _ => 4 - (intOf vi).toNat)
   case atStart => exact ⟨0,0,0,rfl,by omega,Lib.hid ⟨rfl,rfl⟩,hN0,HRN,hnN,hbN⟩
   case round =>
    clear hN0 HRN hnN hbN
    obtain ⟨k,h,l,rfl,hk,HP,hN0,HR,hnw,hbw⟩ := hrel
    obtain ⟨m0,m1,m2,m3,m4,m5⟩ := zq1566 hN0
    by_cases hlt : k < 4
    ·obtain ⟨x,hx⟩ : ∃ x,L[k]? = some x := ⟨_,zc0 (by omega)⟩
     obtain ⟨y,hy⟩ : ∃ y,L[4 + k]? = some y := ⟨_,zc0 (by omega)⟩
     have c0 := HR.out k x hx
     have c1 := HR.out (4 + k) y hy
     have hltI : (k : Int) < 4 := by omega
     go_wp2
     go_region
     obtain ⟨q1,q2,q3⟩ := zq1114 (i := 1) (v := .int .u64 (bits .or .u64 (IntKind.u64.wrap (h * 65536)) x)) hN0 hbw hwN
     have HR1 := Lib.hid (zq265 (by omega : g ≠ N) q2 HR.out)
     have hnw1 := (q2 w.heap.size (by omega)).trans hnw
     obtain ⟨h1,hh1⟩ : ∃ h1,h1 = bits .or .u64 (IntKind.u64.wrap (h * 65536)) x := ⟨_,rfl⟩
     rw [← hh1] at q1 q2 q3 HR1 hnw1 ⊢
     generalize (wr.setCell ⟨N,1,none⟩ (.int .u64 h1)).drew = wA at q1 q3 HR1 hnw1 ⊢
     clear q2 HR hnw hbw hN0 m0 m1 m2 m3 m4 m5 c0 c1
     have q1 : wA.heap[N]? = some (Go.Obj.cells #[.bool true,.int .u64 h1,.int .u64 l] 24 (0,0)) := q1
     obtain ⟨m0,m1,m2,m3,m4,m5⟩ := zq1566 q1
     have c1 := HR1.out (4 + k) y hy
     go_wp2
     go_region
     obtain ⟨r1,r2,r3⟩ := zq1114 (i := 2) (v := .int .u64 (bits .or .u64 (IntKind.u64.wrap (l * 65536)) y)) q1 q3 hwN
     have HR2 := Lib.hid (zq265 (by omega : g ≠ N) r2 HR1.out)
     have hnw2 := (r2 w.heap.size (by omega)).trans hnw1
     obtain ⟨l1,hl1⟩ : ∃ l1,l1 = bits .or .u64 (IntKind.u64.wrap (l * 65536)) y := ⟨_,rfl⟩
     rw [← hl1] at r1 r2 r3 HR2 hnw2 ⊢
     generalize (wA.setCell ⟨N,2,none⟩ (.int .u64 l1)).drew = wB at r1 r3 HR2 hnw2 ⊢
     clear r2
     have r1 : wB.heap[N]? = some (Go.Obj.cells #[.bool true,.int .u64 h1,.int .u64 l1] 24 (0,0)) := r1
     have HP2 : Hid (h1 = packI (L.take (k + 1)) 0 ∧ l1 = packI ((L.drop 4).take (k + 1)) 0) := Lib.hid ⟨by rw [zq987 hx,← HP.out.1,hh1]; rfl,by rw [zq987 (by rw [zc40]; exact hy),← HP.out.2,hl1]; rfl⟩
     go_wp2
     exact ⟨⟨k + 1,h1,l1,by go_num,by omega,HP2,r1,HR2,hnw2,r3⟩,by simp [intOf]; omega⟩
    ·have hk4 : k = 4 := by omega
     subst hk4
     obtain ⟨n0,n1,n2,n3,n4,n5⟩ := zq1566 hnw
     go_wp2
     obtain ⟨s1,s2,s3⟩ := set3 (a := .bool true) (b := .int .u64 h) (c := .int .u64 l) hnw
     obtain ⟨p0,p1,p2,_⟩ := zq1566 s1
     refine bodyPost_ret (v := .agg #[.bool true,.int .u64 h,.int .u64 l]) ?_ rfl ⟨?_,hbw.trans s3⟩
     ·simp [results,Tryz.f99,go_sem,p0,p1,p2]
     ·rw [hsx]
      obtain ⟨e1,e2⟩ := HP.out
      show Ending.returned _ = Ending.returned _
      rw [e1,e2]
      rfl
 | true =>
  rw [if_pos rfl] at hsx
  cases hp1 : someF s1 false with
  | none =>
   rw [hp1] at hsx H1
   go_wp2_with (first | (go_at_call 31; refine (HC.out _ hba).mono ?_; rintro e w1 ⟨rfl,hb1⟩; have hbA := hba.trans (hb1.mono hba.size)) | (go_at_call 127; refine (H1.out _ hbA).mono ?_; rintro e w2 ⟨he,hb2⟩; have he : e = .panicked [badE] := he; subst he))
   exact ⟨rfl,zq387 hsx,hbA.trans (hb2.mono hbA.size)⟩
  | some l =>
   have hl1 := zq1302 hp1
   rw [hp1] at hsx H1
   simp only at hsx
   cases hp2 : someF s2 true with
   | none =>
    rw [hp2] at hsx H2
    go_wp2_with (first | (go_at_call 31; refine (HC.out _ hba).mono ?_; rintro e w1 ⟨rfl,hb1⟩; have hbA := hba.trans (hb1.mono hba.size)) | (go_at_call 127; refine (H1.out _ hbA).mono ?_; rintro e w2 ⟨⟨v,rfl,hown⟩,hb2⟩; obtain ⟨A1,c1,rfl,hA1,_⟩ := zq977 hown; have hbB := hbA.trans (hb2.mono hbA.size); clear H1) | (go_at_call 127; refine (H2.out _ hbB).mono ?_; rintro e w3 ⟨he,hb3⟩; have he : e = .panicked [badE] := he; subst he))
    exact ⟨rfl,zq387 hsx,hbB.trans (hb3.mono hbB.size)⟩
   | some m =>
    have hl2 := zq1302 hp2
    rw [hp2] at hsx H2
    simp only at hsx
    by_cases h7 : 7 < l.length + m.length
    ·rw [if_pos h7] at hsx
     have h7i : decide (7 < (l.length : Int) + (m.length : Int)) = true := decide_eq_true (by omega)
     go_wp2_with (first | (go_at_call 31; refine (HC.out _ hba).mono ?_; rintro e w1 ⟨rfl,hb1⟩; have hbA := hba.trans (hb1.mono hba.size)) | (go_at_call 127; refine (H1.out _ hbA).mono ?_; rintro e w2 ⟨⟨v,rfl,hown⟩,hb2⟩; obtain ⟨A1,c1,rfl,hA1,_⟩ := zq977 hown; have hbB := hbA.trans (hb2.mono hbA.size); clear H1) | (go_at_call 127; refine (H2.out _ hbB).mono ?_; rintro e w3 ⟨⟨v,rfl,hownm⟩,hb3⟩; obtain ⟨A2,c2,rfl,hA2,hcm⟩ := zq977 hownm; have hbC := hbB.trans (hb3.mono hbB.size)))
     exact ⟨rfl,zq387 hsx,hbC⟩
    ·rw [if_neg h7] at hsx
     have h7i : decide (7 < (l.length : Int) + (m.length : Int)) = false := decide_eq_false (by omega)
     obtain ⟨kz,hkze⟩ : ∃ kz,kz = 8 - l.length - m.length := ⟨_,rfl⟩
     have hkz : 0 < kz := by omega
     have hkzi : (kz : Int) = 8 - (l.length : Int) - (m.length : Int) := by omega
     have hzc : ∀ u ∈ (Builtin.zeroCells (Value.int IntKind.u64 0).cells kz).toList,u.oneCell' = true := zq1643 kz
     rw [← hkze] at hsx
     have H8 := Lib.hid (show l.length + kz + m.length = 8 by omega)
     have HKZ := Lib.hid hkzi
     clear hkze hkzi
     go_wp2_with (first | (go_at_call 31; refine (HC.out _ hba).mono ?_; rintro e w1 ⟨rfl,hb1⟩; have hbA := hba.trans (hb1.mono hba.size)) | (go_at_call 127; refine (H1.out _ hbA).mono ?_; rintro e w2 ⟨⟨v,rfl,hown⟩,hb2⟩; obtain ⟨A1,c1,rfl,hA1,hc1⟩ := zq977 hown; have hbB := hbA.trans (hb2.mono hbA.size); clear H1) | (go_at_call 127; refine (H2.out _ hbB).mono ?_; rintro e w3 ⟨⟨v,rfl,hownm⟩,hb3⟩; obtain ⟨A2,c2,rfl,hA2,hc2⟩ := zq977 hownm; obtain ⟨A4,c4,w4,g,c5,w5,hr4,hr5,HR,hgN,hgl,hbE⟩ := zq1591 (P := Tryz.prog) w3 w1.heap.size w1.heap.size w2.heap.size 158 3 22 i0 Tryz.underlying158 Tryz.underlying3 hi hz0 hz1 hz2 A1 c1 l (hown.kept (zq213 hb3) (Classical.em _)) A2 c2 m hA2 (fun ad h => ⟨(hc1 ad h).1,(hc1 ad h).2.1⟩) hc2 (by have := hb2.size; have := hb3.size; omega) (zc49 _) kz hkz H8.out; rw [HKZ.out] at hr4; have hb15 := hbE _ (hb2.trans (hb3.mono hb2.size)); clear hc1 hc2 hown hownm hbE) | (at_builtin; refine Lib.wpList_append_run _ rfl _ _ _ _ rfl _ _ rfl rfl _ _ hr4 ?_) | (at_builtin; refine Lib.wpList_append_run _ rfl _ _ _ _ rfl _ _ rfl rfl _ _ hr5 ?_))
     have hbw : Below w.heap.size w w5 := hba.trans ((hb1.trans (hb15.mono hb1.size)).mono hba.size)
     have hnw : w5.heap[w.heap.size]? = some (Go.Obj.cells #[.bool false,.int .u64 0,.int .u64 0] 24 (0,0)) := zq500 hb15 (zq500 hb1 hn0)
     obtain ⟨L,hL⟩ : ∃ L,L = l ++ List.replicate kz 0 ++ m := ⟨_,rfl⟩
     have h8 : L.length = 8 := by have h9 : l.length + kz + m.length = 8 := H8.out; rw [hL]; simp only [zc24,List.length_replicate]; omega
     rw [← hL] at HR hsx
     have hgne : g ≠ w.heap.size := by
      have := hb1.size
      have h2 : (w.alloc (.cells #[.bool false,.int .u64 0,.int .u64 0] 24)).heap.size = w.heap.size + 1 := by simp
      omega
     clear hb1 hb2 hb3 hb15 hba hn0 hL hgN HC H2 H3 hp1 hp2 hr4 hr5 hbA hbB H8 HKZ hkz hA1 hA2
     have hN0 := heap_alloc_new w5 (.cells #[.bool true,.int .u64 0,.int .u64 0] 24)
     have hbN : Below w.heap.size w (w5.alloc (.cells #[.bool true,.int .u64 0,.int .u64 0] 24)) := hbw.alloc hbw.size _
     have hnN : (w5.alloc (.cells #[.bool true,.int .u64 0,.int .u64 0] 24)).heap[w.heap.size]? = some (Go.Obj.cells #[.bool false,.int .u64 0,.int .u64 0] 24 (0,0)) := (Below.heap_alloc _ _ _ (zc27.1 hnw).1).trans hnw
     have HRN : Hid (∀ (j : Nat) x,L[j]? = some x → (w5.alloc (.cells #[.bool true,.int .u64 0,.int .u64 0] 24)).cell? ⟨g,j,none⟩ = some (.int .u64 x)) := Lib.hid fun j x hx => zq259 ((Below.refl w5.heap.size w5).alloc (zc49 _) _) (HR.out j x hx)
     obtain ⟨N,hN⟩ : ∃ N,N = w5.heap.size := ⟨_,rfl⟩
     have hgN : g < N := by rw [hN]; exact hgl
     have hwN : w.heap.size < N := by rw [hN]; exact (zc27.1 hnw).1
     rw [← hN] at hN0 ⊢
     generalize w5.alloc (.cells #[.bool true,.int .u64 0,.int .u64 0] 24) = wN at hN0 hbN hnN HRN ⊢
     clear HR hnw hbw hgl hN
     go_loopw [47] (fun vi wr => ∃ (k : Nat) (h l : Int),vi = .int .i64 k ∧ k ≤ 4 ∧ Hid (h = packI (L.take k) 0 ∧ l = packI ((L.drop 4).take k) 0) ∧ wr.heap[N]? = some (Go.Obj.cells #[.bool true,.int .u64 h,.int .u64 l] 24 (0,0)) ∧ Hid (∀ (j : Nat) x,L[j]? = some x → wr.cell? ⟨g,j,none⟩ = some (.int .u64 x)) ∧ wr.heap[w.heap.size]? = some (Go.Obj.cells #[.bool false,.int .u64 0,.int .u64 0] 24 (0,0)) ∧ Below w.heap.size w wr) (fun vi _ => 4 - (intOf vi).toNat)
     case atStart => exact ⟨0,0,0,rfl,by omega,Lib.hid ⟨rfl,rfl⟩,hN0,HRN,hnN,hbN⟩
     case round =>
      clear hN0 HRN hnN hbN
      obtain ⟨k,h,l,rfl,hk,HP,hN0,HR,hnw,hbw⟩ := hrel
      obtain ⟨m0,m1,m2,m3,m4,m5⟩ := zq1566 hN0
      by_cases hlt : k < 4
      ·obtain ⟨x,hx⟩ : ∃ x,L[k]? = some x := ⟨_,zc0 (by omega)⟩
       obtain ⟨y,hy⟩ : ∃ y,L[4 + k]? = some y := ⟨_,zc0 (by omega)⟩
       have c0 := HR.out k x hx
       have c1 := HR.out (4 + k) y hy
       have hltI : (k : Int) < 4 := by omega
       go_wp2
       go_region
       obtain ⟨q1,q2,q3⟩ := zq1114 (i := 1) (v := .int .u64 (bits .or .u64 (IntKind.u64.wrap (h * 65536)) x)) hN0 hbw hwN
       have HR1 := Lib.hid (zq265 (by omega : g ≠ N) q2 HR.out)
       have hnw1 := (q2 w.heap.size (by omega)).trans hnw
       obtain ⟨h1,hh1⟩ : ∃ h1,h1 = bits .or .u64 (IntKind.u64.wrap (h * 65536)) x := ⟨_,rfl⟩
       rw [← hh1] at q1 q2 q3 HR1 hnw1 ⊢
       generalize (wr.setCell ⟨N,1,none⟩ (.int .u64 h1)).drew = wA at q1 q3 HR1 hnw1 ⊢
       clear q2 HR hnw hbw hN0 m0 m1 m2 m3 m4 m5 c0 c1
       have q1 : wA.heap[N]? = some (Go.Obj.cells #[.bool true,.int .u64 h1,.int .u64 l] 24 (0,0)) := q1
       obtain ⟨m0,m1,m2,m3,m4,m5⟩ := zq1566 q1
       have c1 := HR1.out (4 + k) y hy
       go_wp2
       go_region
       obtain ⟨r1,r2,r3⟩ := zq1114 (i := 2) (v := .int .u64 (bits .or .u64 (IntKind.u64.wrap (l * 65536)) y)) q1 q3 hwN
       have HR2 := Lib.hid (zq265 (by omega : g ≠ N) r2 HR1.out)
       have hnw5 := (r2 w.heap.size (by omega)).trans hnw1
       obtain ⟨l1,hl1⟩ : ∃ l1,l1 = bits .or .u64 (IntKind.u64.wrap (l * 65536)) y := ⟨_,rfl⟩
       rw [← hl1] at r1 r2 r3 HR2 hnw5 ⊢
       generalize (wA.setCell ⟨N,2,none⟩ (.int .u64 l1)).drew = wB at r1 r3 HR2 hnw5 ⊢
       clear r2
       have r1 : wB.heap[N]? = some (Go.Obj.cells #[.bool true,.int .u64 h1,.int .u64 l1] 24 (0,0)) := r1
       have HP2 : Hid (h1 = packI (L.take (k + 1)) 0 ∧ l1 = packI ((L.drop 4).take (k + 1)) 0) := Lib.hid ⟨by rw [zq987 hx,← HP.out.1,hh1]; rfl,by rw [zq987 (by rw [zc40]; exact hy),← HP.out.2,hl1]; rfl⟩
       go_wp2
       exact ⟨⟨k + 1,h1,l1,by go_num,by omega,HP2,r1,HR2,hnw5,r3⟩,by simp [intOf]; omega⟩
      ·have hk4 : k = 4 := by omega
       subst hk4
       obtain ⟨n0,n1,n2,n3,n4,n5⟩ := zq1566 hnw
       go_wp2
       obtain ⟨s1,s2,s3⟩ := set3 (a := .bool true) (b := .int .u64 h) (c := .int .u64 l) hnw
       obtain ⟨p0,p1,p2,_⟩ := zq1566 s1
       refine bodyPost_ret (v := .agg #[.bool true,.int .u64 h,.int .u64 l]) ?_ rfl ⟨?_,hbw.trans s3⟩
       ·simp [results,Tryz.f99,go_sem,p0,p1,p2]
       ·rw [hsx]
        obtain ⟨e1,e2⟩ := HP.out
        show Ending.returned _ = Ending.returned _
        rw [e1,e2]
        rfl
end Go.Proofs.YtafggolijpopeaaGreatDoor
namespace Go.Proofs.YtafggolijpopeaaGreatDoor
open Go Go.Ma Go.RowKit Go.Proofs
theorem zq1575 (p q : Addr) (w : World) :
  CallsD Tryz.prog 97 #[.pointer (some p),.pointer (some q)] .returning w fun e u' w' => e = .returned (.tuple #[]) ∧ u' = .returning ∧ w' = w := by
 refine callsD_of_wpS Tryz.func97 rfl fun c₀ cs hu => ?_
 apply wpS_seq
 apply wpS_region
 simp [wpOpsS,go_sem,recoverD,hu,Tryz.ntmps97,Exit.thenS]
 apply wpS_seq
 apply wpS_region
 simp [wpOpsS,go_sem,Exit.thenS]
 refine wpS_cond (t := false) (by simp [Act.eval,Array.replicate]) ?_
 simp only [Bool.false_eq_true,if_false]
 refine wpS_of_wp (wp_skip ?_)
 cases c₀
 simp_all [bodyPostS,results,Tryz.results97]
def zq609 (W : World) (n : Nat) : World := ((((W.setCell ⟨n,0,none⟩ (.bool false)).setCell ⟨n,1,none⟩ (.int .u64 0)).setCell ⟨n,2,none⟩ (.int .u64 0)).setCell ⟨n + 1,0,none⟩ (.bool false))
theorem ta_bad (T : TypeId) (W : World) : (Instr.typeAssert (.iface 130 (.agg #[])) T 130 true).run Tryz.prog W = .ok (.tuple #[.agg #[],.bool true]) W := by
 simp [Instr.typeAssert,run_underlying Tryz.underlying130]
set_option maxRecDepth 100000 in
set_option maxHeartbeats 2000000 in
theorem zq1572 (n : Nat) (w : World) (a b c d : Value) (older : List PanicEntry) (h1 : w.heap[n]? = some (Go.Obj.cells #[a,b,c] 24 (0,0))) (h2 : w.heap[n + 1]? = some (Go.Obj.cells #[d] 4 (0,0))) :
  CallsD Tryz.prog 97 #[.pointer (some ⟨n,0,none⟩),.pointer (some ⟨n + 1,0,none⟩)] (.panicking (badE :: older)) w fun e u' w' => e = .returned (.tuple #[]) ∧ u' = .panicking ({ badE with recovered := true } :: older) ∧ w' = zq609 (w.alloc (.cells #[] 130)) n := by
 have g1 := (Below.heap_alloc w (.cells #[] 130) n (zc27.1 h1).1).trans h1
 have g2 := (Below.heap_alloc w (.cells #[] 130) (n + 1) (zc27.1 h2).1).trans h2
 obtain ⟨m0,m1,m2,m3,m4,m5⟩ := zq1566 g1
 obtain ⟨m6,m7⟩ := zq258 g2
 clear h1 h2 g1 g2
 refine callsD_of_wpS Tryz.func97 rfl fun c₀ cs hu => ?_
 apply wpS_seq
 apply wpS_region
 simp [wpOpsS,go_sem,recoverD,hu,badE,Tryz.ntmps97,Exit.thenS]
 apply wpS_seq
 apply wpS_region
 simp [wpOpsS,go_sem,Exit.thenS]
 refine wpS_cond (t := true) (by simp [Act.eval,Array.replicate]) ?_
 simp only [if_true]
 refine wpS_of_wp ?_
 have hta : ∀ T W,(Instr.typeAssert (.iface 130 (.agg #[])) T 130 true).run Tryz.prog W = .ok (.tuple #[.agg #[],.bool true]) W := ta_bad
 show Code.wp _ _ _ { tmps := #[.pointer (some ⟨n,0,none⟩),.pointer (some ⟨n + 1,0,none⟩),.iface 130 (.agg #[]),Go.undef,Go.undef,.iface 130 (.agg #[]),.iface 130 (.agg #[]),.bool true,Go.undef,Go.undef,Go.undef,Go.undef,Go.undef,Go.undef,Go.undef,Go.undef,Go.undef],defers := [] } _
 go_wp2
 simp [bodyPostS,results,Tryz.results97,zq609]
theorem zq610 {w : World} {n : Nat} {a b c d : Value} (h1 : w.heap[n]? = some (Go.Obj.cells #[a,b,c] 24 (0,0))) (h2 : w.heap[n + 1]? = some (Go.Obj.cells #[d] 4 (0,0))) :
  (zq609 w n).heap[n]? = some (Go.Obj.cells #[.bool false,.int .u64 0,.int .u64 0] 24 (0,0)) ∧ (zq609 w n).heap[n + 1]? = some (Go.Obj.cells #[.bool false] 4 (0,0)) ∧ Below n w (zq609 w n) := by
 obtain ⟨s1,s2,s3⟩ := set3 (a := .bool false) (b := .int .u64 0) (c := .int .u64 0) h1
 have i4' := (s2 (n + 1) (by omega)).trans h2
 have t1 := zq1231 _ (n + 1) 0 (.bool false) #[d] 4 (0,0) i4'
 have t2 := (Below.heap_setCell _ ⟨n + 1,0,none⟩ (.bool false) _ (by show n ≠ n + 1; omega)).trans s1
 exact ⟨t2,t1,s3.setCell (p := ⟨n + 1,0,none⟩) (by show n ≤ n + 1; omega) (.bool false)⟩
set_option maxRecDepth 100000 in
set_option maxHeartbeats 4000000 in
theorem zq1573 (s : ByteArray) (w : World) (u : Int) (hc : ∀ W,Calls Tryz.prog 98 #[.string s,.string ⟨#[58]⟩] W fun e w' => e = .returned (.bool false) ∧ w' = W) (hx : ∀ W,Below w.heap.size w W → Calls Tryz.prog 100 #[.string s] W fun e w' => e = .returned (.int .u64 u) ∧ Below W.heap.size W w') :
  Calls Tryz.prog 71 #[.string s] w fun e w' => e = .returned (.tuple #[.agg #[.bool false,.int .u64 0,.int .u64 u],.bool true]) ∧ Below w.heap.size w w' := by
 have hmf : ∀ (fn : Fn) (first cap : Array Value) (w : World),(Instr.makeFunc fn first cap).run Tryz.prog w = .ok (.func fn first cap) w := fun _ _ _ _ => rfl
 have HC : Hid (∀ W,Calls Tryz.prog 98 #[.string s,.string ⟨#[58]⟩] W fun e w' => e = .returned (.bool false) ∧ w' = W) := Lib.hid hc
 have HX := Lib.hid hx
 clear hc hx
 go_enter_defers Tryz.func71,Tryz.ntmps71
 have hz1 : ((w.alloc (.cells #[.bool false,.int .u64 0,.int .u64 0] 24)).alloc (.cells #[.bool false] 4)).heap[w.heap.size]? = some (.cells #[.bool false,.int .u64 0,.int .u64 0] 24 (0,0)) := by
  rw [zq503,if_neg (by simp only [World.size_alloc]; omega),zq503,if_pos rfl]
 have hz2 : ((w.alloc (.cells #[.bool false,.int .u64 0,.int .u64 0] 24)).alloc (.cells #[.bool false] 4)).heap[w.heap.size + 1]? = some (.cells #[.bool false] 4 (0,0)) := by
  rw [zq503,if_pos (by simp)]
 have hz3 : Below w.heap.size w ((w.alloc (.cells #[.bool false,.int .u64 0,.int .u64 0] 24)).alloc (.cells #[.bool false] 4)) := ((Below.refl _ w).alloc (zc49 _) _).alloc (by simp) _
 go_wp2_with (first | (go_at_call 98; refine (HC.out _).mono ?_; rintro e w2 ⟨rfl,hw2⟩; have hw2 := hw2.symm; subst hw2) | (go_at_call 100; refine (HX.out _ hz3).mono ?_; rintro e w3 ⟨he,hb3⟩; have he : e = .returned (.int .u64 u) := he; subst he; have i3 := zq500 hb3 hz1; have i4 := zq500 hb3 hz2; have hb4 := hz3.trans (hb3.mono hz3.size); clear hb3 hz1 hz2 hz3 HC; obtain ⟨n0,n1,n2,n3,n4,n5⟩ := zq1566 i3; obtain ⟨n6,n7⟩ := zq258 i4))
 obtain ⟨s1,s2,s3⟩ := set3 (a := .bool false) (b := .int .u64 0) (c := .int .u64 u) i3
 have i4' : (((w3.setCell ⟨w.heap.size,0,none⟩ (.bool false)).setCell ⟨w.heap.size,1,none⟩ (.int .u64 0)).setCell ⟨w.heap.size,2,none⟩ (.int .u64 u)).heap[w.heap.size + 1]? = some (Go.Obj.cells #[.bool false] 4 (0,0)) := (s2 _ (by omega)).trans i4
 have t1 := zq1231 _ (w.heap.size + 1) 0 (.bool true) #[.bool false] 4 (0,0) i4'
 have t2 := (Below.heap_setCell _ ⟨w.heap.size + 1,0,none⟩ (.bool true) _ (by show w.heap.size ≠ w.heap.size + 1; omega)).trans s1
 obtain ⟨m0,m1,m2,_⟩ := zq1566 t2
 obtain ⟨m6,_⟩ := zq258 t1
 have hbb := (hb4.trans s3).setCell (p := ⟨w.heap.size + 1,0,none⟩) (by show w.heap.size ≤ w.heap.size + 1; omega) (.bool true)
 generalize (((w3.setCell ⟨w.heap.size,0,none⟩ (.bool false)).setCell ⟨w.heap.size,1,none⟩ (.int .u64 0)).setCell ⟨w.heap.size,2,none⟩ (.int .u64 u)).setCell ⟨w.heap.size + 1,0,none⟩ (.bool true) = W4 at m0 m1 m2 m6 hbb ⊢
 refine leaves_cons (f := 97) (args := #[.pointer (some ⟨w.heap.size,0,none⟩),.pointer (some ⟨w.heap.size + 1,0,none⟩)]) (by simp) (by simp [go_sem]) ?_
 refine (zq1575 _ _ _).mono ?_
 rintro e u' w'' ⟨rfl,rfl,rfl⟩
 simp [Leaves,settle,results,Tryz.results71,go_sem,m0,m1,m2,m6]
 exact hbb
set_option maxRecDepth 100000 in
set_option maxHeartbeats 4000000 in
theorem zq1579 (s : ByteArray) (w : World) (x : Ad) (hc : ∀ W,Calls Tryz.prog 98 #[.string s,.string ⟨#[58]⟩] W fun e w' => e = .returned (.bool true) ∧ w' = W) (hx : ∀ W,Below w.heap.size w W → Calls Tryz.prog 99 #[.string s] W fun e w' => e = .returned (.agg #[.bool x.v6,.int .u64 x.hi,.int .u64 x.lo]) ∧ Below W.heap.size W w') :
  Calls Tryz.prog 71 #[.string s] w fun e w' => e = .returned (.tuple #[.agg #[.bool x.v6,.int .u64 x.hi,.int .u64 x.lo],.bool true]) ∧ Below w.heap.size w w' := by
 have hmf : ∀ (fn : Fn) (first cap : Array Value) (w : World),(Instr.makeFunc fn first cap).run Tryz.prog w = .ok (.func fn first cap) w := fun _ _ _ _ => rfl
 have HC : Hid (∀ W,Calls Tryz.prog 98 #[.string s,.string ⟨#[58]⟩] W fun e w' => e = .returned (.bool true) ∧ w' = W) := Lib.hid hc
 have HX := Lib.hid hx
 clear hc hx
 go_enter_defers Tryz.func71,Tryz.ntmps71
 have hz1 : ((w.alloc (.cells #[.bool false,.int .u64 0,.int .u64 0] 24)).alloc (.cells #[.bool false] 4)).heap[w.heap.size]? = some (.cells #[.bool false,.int .u64 0,.int .u64 0] 24 (0,0)) := by
  rw [zq503,if_neg (by simp only [World.size_alloc]; omega),zq503,if_pos rfl]
 have hz2 : ((w.alloc (.cells #[.bool false,.int .u64 0,.int .u64 0] 24)).alloc (.cells #[.bool false] 4)).heap[w.heap.size + 1]? = some (.cells #[.bool false] 4 (0,0)) := by
  rw [zq503,if_pos (by simp)]
 have hz3 : Below w.heap.size w ((w.alloc (.cells #[.bool false,.int .u64 0,.int .u64 0] 24)).alloc (.cells #[.bool false] 4)) := ((Below.refl _ w).alloc (zc49 _) _).alloc (by simp) _
 go_wp2_with (first | (go_at_call 98; refine (HC.out _).mono ?_; rintro e w2 ⟨rfl,hw2⟩; have hw2 := hw2.symm; subst hw2) | (go_at_call 99; refine (HX.out _ hz3).mono ?_; rintro e w3 ⟨he,hb3⟩; have he : e = .returned (.agg #[.bool x.v6,.int .u64 x.hi,.int .u64 x.lo]) := he; subst he; have i3 := zq500 hb3 hz1; have i4 := zq500 hb3 hz2; have hb4 := hz3.trans (hb3.mono hz3.size); clear hb3 hz1 hz2 hz3 HC; obtain ⟨n0,n1,n2,n3,n4,n5⟩ := zq1566 i3; obtain ⟨n6,n7⟩ := zq258 i4))
 obtain ⟨s1,s2,s3⟩ := set3 (a := .bool x.v6) (b := .int .u64 x.hi) (c := .int .u64 x.lo) i3
 have i4' : (((w3.setCell ⟨w.heap.size,0,none⟩ (.bool x.v6)).setCell ⟨w.heap.size,1,none⟩ (.int .u64 x.hi)).setCell ⟨w.heap.size,2,none⟩ (.int .u64 x.lo)).heap[w.heap.size + 1]? = some (Go.Obj.cells #[.bool false] 4 (0,0)) := (s2 _ (by omega)).trans i4
 have t1 := zq1231 _ (w.heap.size + 1) 0 (.bool true) #[.bool false] 4 (0,0) i4'
 have t2 := (Below.heap_setCell _ ⟨w.heap.size + 1,0,none⟩ (.bool true) _ (by show w.heap.size ≠ w.heap.size + 1; omega)).trans s1
 obtain ⟨m0,m1,m2,_⟩ := zq1566 t2
 obtain ⟨m6,_⟩ := zq258 t1
 have hbb := (hb4.trans s3).setCell (p := ⟨w.heap.size + 1,0,none⟩) (by show w.heap.size ≤ w.heap.size + 1; omega) (.bool true)
 generalize (((w3.setCell ⟨w.heap.size,0,none⟩ (.bool x.v6)).setCell ⟨w.heap.size,1,none⟩ (.int .u64 x.hi)).setCell ⟨w.heap.size,2,none⟩ (.int .u64 x.lo)).setCell ⟨w.heap.size + 1,0,none⟩ (.bool true) = W4 at m0 m1 m2 m6 hbb ⊢
 refine leaves_cons (f := 97) (args := #[.pointer (some ⟨w.heap.size,0,none⟩),.pointer (some ⟨w.heap.size + 1,0,none⟩)]) (by simp) (by simp [go_sem]) ?_
 refine (zq1575 _ _ _).mono ?_
 rintro e u' w'' ⟨rfl,rfl,rfl⟩
 simp [Leaves,settle,results,Tryz.results71,go_sem,m0,m1,m2,m6]
 exact hbb
set_option maxRecDepth 100000 in
set_option maxHeartbeats 4000000 in
theorem zq1574 (s : ByteArray) (w : World) (hc : ∀ W,Calls Tryz.prog 98 #[.string s,.string ⟨#[58]⟩] W fun e w' => e = .returned (.bool false) ∧ w' = W) (hx : ∀ W,Below w.heap.size w W → Calls Tryz.prog 100 #[.string s] W fun e w' => e = .panicked [badE] ∧ Below W.heap.size W w') :
  Calls Tryz.prog 71 #[.string s] w fun e w' => e = .returned (.tuple #[.agg #[.bool false,.int .u64 0,.int .u64 0],.bool false]) ∧ Below w.heap.size w w' := by
 have hmf : ∀ (fn : Fn) (first cap : Array Value) (w : World),(Instr.makeFunc fn first cap).run Tryz.prog w = .ok (.func fn first cap) w := fun _ _ _ _ => rfl
 have HC : Hid (∀ W,Calls Tryz.prog 98 #[.string s,.string ⟨#[58]⟩] W fun e w' => e = .returned (.bool false) ∧ w' = W) := Lib.hid hc
 have HX := Lib.hid hx
 clear hc hx
 go_enter_defers Tryz.func71,Tryz.ntmps71
 have hz1 : ((w.alloc (.cells #[.bool false,.int .u64 0,.int .u64 0] 24)).alloc (.cells #[.bool false] 4)).heap[w.heap.size]? = some (.cells #[.bool false,.int .u64 0,.int .u64 0] 24 (0,0)) := by
  rw [zq503,if_neg (by simp only [World.size_alloc]; omega),zq503,if_pos rfl]
 have hz2 : ((w.alloc (.cells #[.bool false,.int .u64 0,.int .u64 0] 24)).alloc (.cells #[.bool false] 4)).heap[w.heap.size + 1]? = some (.cells #[.bool false] 4 (0,0)) := by
  rw [zq503,if_pos (by simp)]
 have hz3 : Below w.heap.size w ((w.alloc (.cells #[.bool false,.int .u64 0,.int .u64 0] 24)).alloc (.cells #[.bool false] 4)) := ((Below.refl _ w).alloc (zc49 _) _).alloc (by simp) _
 go_wp2_with (first | (go_at_call 98; refine (HC.out _).mono ?_; rintro e w2 ⟨rfl,hw2⟩; have hw2 := hw2.symm; subst hw2) | (go_at_call 100; refine (HX.out _ hz3).mono ?_; rintro e w3 ⟨he,hb3⟩; have he : e = .panicked [badE] := he; subst he; have i3 := zq500 hb3 hz1; have i4 := zq500 hb3 hz2; have hb4 := hz3.trans (hb3.mono hz3.size); clear hb3 hz1 hz2 hz3 HC; obtain ⟨n0,n1,n2,n3,n4,n5⟩ := zq1566 i3; obtain ⟨n6,n7⟩ := zq258 i4))
 refine leaves_cons (f := 97) (args := #[.pointer (some ⟨w.heap.size,0,none⟩),.pointer (some ⟨w.heap.size + 1,0,none⟩)]) (by simp) (by simp [go_sem]) ?_
 refine (zq1572 w.heap.size w3 (.bool false) (.int .u64 0) (.int .u64 0) (.bool false) [] i3 i4).mono ?_
 rintro e u' w'' ⟨rfl,rfl,rfl⟩
 have g1 := (Below.heap_alloc w3 (.cells #[] 130) _ (zc27.1 i3).1).trans i3
 have g2 := (Below.heap_alloc w3 (.cells #[] 130) _ (zc27.1 i4).1).trans i4
 obtain ⟨j1,j2,j3⟩ := zq610 g1 g2
 obtain ⟨m0,m1,m2,_⟩ := zq1566 j1
 obtain ⟨m6,_⟩ := zq258 j2
 have hbb := (hb4.alloc hb4.size (.cells #[] 130)).trans j3
 generalize zq609 (w3.alloc (.cells #[] 130)) w.heap.size = W4 at m0 m1 m2 m6 hbb ⊢
 simp [Leaves,settle,results,Tryz.results71,go_sem,m0,m1,m2,m6]
 exact hbb
set_option maxRecDepth 100000 in
set_option maxHeartbeats 4000000 in
theorem zq1580 (s : ByteArray) (w : World) (hc : ∀ W,Calls Tryz.prog 98 #[.string s,.string ⟨#[58]⟩] W fun e w' => e = .returned (.bool true) ∧ w' = W) (hx : ∀ W,Below w.heap.size w W → Calls Tryz.prog 99 #[.string s] W fun e w' => e = .panicked [badE] ∧ Below W.heap.size W w') :
  Calls Tryz.prog 71 #[.string s] w fun e w' => e = .returned (.tuple #[.agg #[.bool false,.int .u64 0,.int .u64 0],.bool false]) ∧ Below w.heap.size w w' := by
 have hmf : ∀ (fn : Fn) (first cap : Array Value) (w : World),(Instr.makeFunc fn first cap).run Tryz.prog w = .ok (.func fn first cap) w := fun _ _ _ _ => rfl
 have HC : Hid (∀ W,Calls Tryz.prog 98 #[.string s,.string ⟨#[58]⟩] W fun e w' => e = .returned (.bool true) ∧ w' = W) := Lib.hid hc
 have HX := Lib.hid hx
 clear hc hx
 go_enter_defers Tryz.func71,Tryz.ntmps71
 have hz1 : ((w.alloc (.cells #[.bool false,.int .u64 0,.int .u64 0] 24)).alloc (.cells #[.bool false] 4)).heap[w.heap.size]? = some (.cells #[.bool false,.int .u64 0,.int .u64 0] 24 (0,0)) := by
  rw [zq503,if_neg (by simp only [World.size_alloc]; omega),zq503,if_pos rfl]
 have hz2 : ((w.alloc (.cells #[.bool false,.int .u64 0,.int .u64 0] 24)).alloc (.cells #[.bool false] 4)).heap[w.heap.size + 1]? = some (.cells #[.bool false] 4 (0,0)) := by
  rw [zq503,if_pos (by simp)]
 have hz3 : Below w.heap.size w ((w.alloc (.cells #[.bool false,.int .u64 0,.int .u64 0] 24)).alloc (.cells #[.bool false] 4)) := ((Below.refl _ w).alloc (zc49 _) _).alloc (by simp) _
 go_wp2_with (first | (go_at_call 98; refine (HC.out _).mono ?_; rintro e w2 ⟨rfl,hw2⟩; have hw2 := hw2.symm; subst hw2) | (go_at_call 99; refine (HX.out _ hz3).mono ?_; rintro e w3 ⟨he,hb3⟩; have he : e = .panicked [badE] := he; subst he; have i3 := zq500 hb3 hz1; have i4 := zq500 hb3 hz2; have hb4 := hz3.trans (hb3.mono hz3.size); clear hb3 hz1 hz2 hz3 HC; obtain ⟨n0,n1,n2,n3,n4,n5⟩ := zq1566 i3; obtain ⟨n6,n7⟩ := zq258 i4))
 refine leaves_cons (f := 97) (args := #[.pointer (some ⟨w.heap.size,0,none⟩),.pointer (some ⟨w.heap.size + 1,0,none⟩)]) (by simp) (by simp [go_sem]) ?_
 refine (zq1572 w.heap.size w3 (.bool false) (.int .u64 0) (.int .u64 0) (.bool false) [] i3 i4).mono ?_
 rintro e u' w'' ⟨rfl,rfl,rfl⟩
 have g1 := (Below.heap_alloc w3 (.cells #[] 130) _ (zc27.1 i3).1).trans i3
 have g2 := (Below.heap_alloc w3 (.cells #[] 130) _ (zc27.1 i4).1).trans i4
 obtain ⟨j1,j2,j3⟩ := zq610 g1 g2
 obtain ⟨m0,m1,m2,_⟩ := zq1566 j1
 obtain ⟨m6,_⟩ := zq258 j2
 have hbb := (hb4.alloc hb4.size (.cells #[] 130)).trans j3
 generalize zq609 (w3.alloc (.cells #[] 130)) w.heap.size = W4 at m0 m1 m2 m6 hbb ⊢
 simp [Leaves,settle,results,Tryz.results71,go_sem,m0,m1,m2,m6]
 exact hbb
theorem zq1581 (s : ByteArray) (hs : s.size ≤ 4294967200) (w : World) (hG : Glob Tryz.prog w) :
  Calls Tryz.prog 71 #[.string s] w fun e w' => e = .returned (.tuple #[.agg #[.bool (toldA s).v6,.int .u64 (toldA s).hi,.int .u64 (toldA s).lo],.bool (toldF s).isSome]) ∧ Below w.heap.size w w' := by
 have hc : ∀ W,Calls Tryz.prog 98 #[.string s,.string ⟨#[58]⟩] W fun e w' => e = .returned (.bool (zq293 s)) ∧ w' = W := fun W => Go.Proofs.Tryz.strings_Contains_one s 58 W
 unfold toldA toldF
 cases hcs : zq293 s with
 | true =>
  rw [hcs] at hc
  rw [if_pos rfl]
  have hx : ∀ W,Below w.heap.size w W → Calls Tryz.prog 99 #[.string s] W fun e w' => EndA (zq1255 s) e ∧ Below W.heap.size W w' := fun W hb => zq1257 s hs W (hG.mono hb)
  cases h : zq1255 s with
  | some a => rw [h] at hx; exact zq1579 s w a hc hx
  | none => rw [h] at hx; exact zq1580 s w hc hx
 | false =>
  rw [hcs] at hc
  rw [if_neg (by decide)]
  have hx : ∀ W,Below w.heap.size w W → Calls Tryz.prog 100 #[.string s] W fun e w' => EndU (fourF s) e ∧ Below W.heap.size W w' := fun W hb => zq458 s hs W (hG.mono hb)
  cases h : fourF s with
  | some u => rw [h] at hx; exact zq1573 s w u hc hx
  | none => rw [h] at hx; exact zq1574 s w hc hx
def zq153 : Con := con [.one (.fl .str)] [.one (.fl .addr),.one (.fl .bool)] (fun x => zq155 x.1)
theorem zq154 : TrOk Tryz.prog 71 zq153 := zq296 _ _ _ fun x y hx ρ us vals w hG hu => by
 obtain ⟨s,z⟩ := x
 have hd := hu.den _ (zq476 us)
 have hvals : vals = [.string s] := hd.symm
 subst hvals
 unfold zq155 at hx
 obtain ⟨hq,hx⟩ := zq1188 hx
 injection hx with hx
 subst hx
 refine (zq1581 s (Nat.le_of_ble_eq_true hq) w hG).mono ?_
 rintro e w' ⟨rfl,hb⟩
 exact ⟨fun _ => Go.undef,.tup [.agg [.b (toldA s).v6,.i .u64 (toldA s).hi,.i .u64 (toldA s).lo],.b (toldF s).isSome],[],rfl,⟨hb,fun j o h => by simp at h,fun i j o o' _ h => by simp at h,fun j o h => by simp at h⟩,rfl⟩
end Go.Proofs.YtafggolijpopeaaGreatDoor
namespace Go.Proofs.YtafggolijpopeaaGreatDoor
open Go Go.Ma
def zq130 : LoopS := { n := 24,base := 0,head := { keep := [2,3,7,8],vals := [.one (.fl .int),.one (.cst (.ptr 0 0)),.one (.cst (.row 1)),.one (.fl .int)],objs := [.blk [.fl .addr] 24 true,.row .str 9 true] },exits := [⟨some 0,{ keep := [7],vals := [.one (.cst (.row 0))],objs := [.row .str 9 true] }⟩] }
def zq133 : Env := mkEnv ty fnB [(121,zq123),(92,zq1480),(80,zq1491)] [(3,(zq790 zq130 (loopN zq129 FUEL)))]
theorem zq134 : EnvOk Tryz.prog zq133 := envOk tyOk fn_ok (zq251 zq127 (zq251 zq1481 (zq251 zq1492 zq252))) _
theorem zq131 : LOk Tryz.prog (zq859 (zq292 Tryz.f94) 0) (zq790 zq130 (loopN zq129 FUEL)) := by
 have h : zq794 (zq859 (zq292 Tryz.f94) 0) = [] := by kernel_rfl
 refine zq791 zq134 (zq795 h lsNil) zq130 zq129 FUEL (fun rec x => ?_)
 kernel_rfl
def zq132 : Con := con [.one (.fl .addr),.one (.fl .int),.one (.fl .int)] [.one (.fl .str)] (fun x => zq136 x.1 x.2.1 x.2.2.1)
theorem zq135 : TrOk Tryz.prog 94 zq132 := by
 have h : zq794 (zq292 Tryz.f94) = [(zq859 (zq292 Tryz.f94) 0)] := by kernel_rfl
 refine zq297 zq134 Tryz.func94 (zq229 h (zq801 (zq890 (t := (zq790 zq130 (loopN zq129 FUEL))) (by kernel_rfl) zq131) lsNil)) _ _ _ (fun x => ?_)
 kernel_rfl
def zq115 : LoopS := { n := 44,base := 0,head := { keep := [1,3,4],vals := [.one (.cst (.ptr 0 0)),.one (.cst (.row 1)),.one (.fl .int)],objs := [.blk [.fl .addr] 24 true,.row .str 9 true] },exits := [⟨some 0,{ keep := [3],vals := [.one (.cst (.row 0))],objs := [.row .str 9 true] }⟩] }
def zq118 : Env := mkEnv ty fnB [(92,zq1480),(80,zq1491),(93,zq140),(94,zq132)] [(4,(zq790 zq115 (loopN zq114 FUEL)))]
theorem zq119 : EnvOk Tryz.prog zq118 := envOk tyOk fn_ok (zq251 zq1481 (zq251 zq1492 (zq251 zq143 (zq251 zq135 zq252)))) _
theorem zq116 : LOk Tryz.prog (zq859 (zq292 Tryz.f68) 0) (zq790 zq115 (loopN zq114 FUEL)) := by
 have h : zq794 (zq859 (zq292 Tryz.f68) 0) = [] := by kernel_rfl
 refine zq791 zq119 (zq795 h lsNil) zq115 zq114 FUEL (fun rec x => ?_)
 kernel_rfl
theorem zq120 (f1 : type_of% zq1493) (f2 : type_of% zq144) (f3 : type_of% zq136) (g0 : type_of% (loopN zq114 FUEL)) (x : PsT [.one (.fl .addr)]) : ixF (mkEnv ty fnB [(92,zq1480),(80,(con [.one (.row .str 9),.one (.fl .str)] [.one (.fl .str)] (fun x => f1 x.1 x.2.1))),(93,(con [.one (.fl .addr)] [.one (.fl .int),.one (.fl .int)] (fun x => f2 x.1))),(94,(con [.one (.fl .addr),.one (.fl .int),.one (.fl .int)] [.one (.fl .str)] (fun x => f3 x.1 x.2.1 x.2.2.1)))] [(4,(zq790 zq115 g0))]) Tryz.f68 (encA false [.one (.fl .addr)] x 0).1 (encA false [.one (.fl .addr)] x 0).2 (resR [.one (.fl .str)]) = (fun (a0 : Ad) => (br (!a0.v6)
  ((g0 (((()),(()),(24,()),()),((a0,()),([] : List ByteArray),()))).bind fun y1 =>
  (f1 y1.2.1 (⟨#[46]⟩ : ByteArray)).bind fun y2 =>
  some (y2.1,()))
  ((f2 a0).bind fun y1 =>
  br (decide (y1.2.1 = 0))
   ((f3 a0 0 8).bind fun y2 =>
   some (y2.1,()))
   ((f3 a0 0 y1.1).bind fun y2 =>
   req (roomS (catS y2.1 (⟨#[58,58]⟩ : ByteArray))) <|
   req (i64ok (y1.1 + y1.2.1)) <|
   (f3 a0 (y1.1 + y1.2.1) 8).bind fun y3 =>
   req (roomS (catS (catS y2.1 (⟨#[58,58]⟩ : ByteArray)) y3.1)) <|
   some (catS (catS y2.1 (⟨#[58,58]⟩ : ByteArray)) y3.1,()))) : Option (ByteArray × Unit))) x.1 := by
 kernel_rfl
def zq117 : Con := con [.one (.fl .addr)] [.one (.fl .str)] (fun x => zq122 x.1)
theorem zq121 : TrOk Tryz.prog 68 zq117 := by
 have h : zq794 (zq292 Tryz.f68) = [(zq859 (zq292 Tryz.f68) 0)] := by kernel_rfl
 refine zq297 zq119 Tryz.func68 (zq229 h (zq801 (zq890 (t := (zq790 zq115 (loopN zq114 FUEL))) (by kernel_rfl) zq116) lsNil)) _ _ _ (fun x => ?_)
 exact zq120 zq1493 zq144 zq136 (loopN zq114 FUEL) x
def zq1090 : Env := mkEnv ty fnB [(68,zq117),(69,zq1483)] []
theorem zq1091 : EnvOk Tryz.prog zq1090 := envOk tyOk fn_ok (zq251 zq121 (zq251 zq1484 zq252)) _
def zq1089 : Con := con [.one (.fl .pfx)] [.one (.fl .str)] (fun x => zq1093 x.1)
theorem zq1092 : TrOk Tryz.prog 30 zq1089 := by
 have h : zq794 (zq292 Tryz.f30) = [] := by kernel_rfl
 refine zq297 zq1091 Tryz.func30 (zq229 h lsNil) _ _ _ (fun x => ?_)
 kernel_rfl
def zq567 : Env := mkEnv ty fnB [(96,zq571)] []
theorem zq568 : EnvOk Tryz.prog zq567 := envOk tyOk fn_ok (zq251 zq572 zq252) _
def zq566 : Con := con [.one (.fl .str),.one (.fl .str)] [.one (.fl .str),.one (.fl .str),.one (.fl .bool)] (fun x => zq570 x.1 x.2.1)
theorem zq569 : TrOk Tryz.prog 70 zq566 := by
 have h : zq794 (zq292 Tryz.f70) = [] := by kernel_rfl
 refine zq297 zq568 Tryz.func70 (zq229 h lsNil) _ _ _ (fun x => ?_)
 kernel_rfl
def zq1487 : Env := mkEnv ty fnB [(70,zq566)] []
theorem zq1488 : EnvOk Tryz.prog zq1487 := envOk tyOk fn_ok (zq251 zq569 zq252) _
def zq1486 : Con := con [.one (.fl .str),.one (.fl .str)] [.one (.fl .str),.one (.fl .str),.one (.fl .bool)] (fun x => zq1490 x.1 x.2.1)
theorem zq1489 : TrOk Tryz.prog 31 zq1486 := by
 have h : zq794 (zq292 Tryz.f31) = [] := by kernel_rfl
 refine zq297 zq1488 Tryz.func31 (zq229 h lsNil) _ _ _ (fun x => ?_)
 kernel_rfl
def zq109 : Env := mkEnv ty fnB [(71,zq153)] []
theorem zq110 : EnvOk Tryz.prog zq109 := envOk tyOk fn_ok (zq251 zq154 zq252) _
def zq108 : Con := con [.one (.fl .str)] [.one (.fl .addr),.one (.fl .int)] (fun x => zq113 x.1)
theorem zq112 : TrOk Tryz.prog 32 zq108 := by
 have h : zq794 (zq292 Tryz.f32) = [] := by kernel_rfl
 refine zq297 zq110 Tryz.func32 (zq229 h lsNil) _ _ _ (fun x => ?_)
 kernel_rfl
def zq1084 : Env := mkEnv ty fnB [(31,zq1486),(32,zq108),(33,zq1049),(20,zq1037)] []
theorem zq1085 : EnvOk Tryz.prog zq1084 := envOk tyOk fn_ok (zq251 zq1489 (zq251 zq112 (zq251 zq1050 (zq251 zq1041 zq252)))) _
def zq1083 : Con := con [.one (.fl .str)] [.one (.fl .pfx),.one (.fl .int)] (fun x => zq1087 x.1)
theorem zq1086 : TrOk Tryz.prog 7 zq1083 := by
 have h : zq794 (zq292 Tryz.f7) = [] := by kernel_rfl
 refine zq297 zq1085 Tryz.func7 (zq229 h lsNil) _ _ _ (fun x => ?_)
 kernel_rfl
def zq1532 : Env := mkEnv ty fnB [] []
theorem zq1533 : EnvOk Tryz.prog zq1532 := envOk tyOk fn_ok zq252 _
theorem zq1531 : TrOk Tryz.prog 79 (zq349 zq1532 Tryz.f79) := by
 have h : zq794 (zq292 Tryz.f79) = [] := by kernel_rfl
 exact det_ok zq1533 Tryz.func79 (zq229 h lsNil)
def zq1527 : Env := mkEnv ty fnB [(30,zq1089),(80,zq1491),(79,(zq349 zq1532 Tryz.f79)),(68,zq117),(69,zq1483)] []
theorem zq1528 : EnvOk Tryz.prog zq1527 := envOk tyOk fn_ok (zq251 zq1092 (zq251 zq1492 (zq251 zq1531 (zq251 zq121 (zq251 zq1484 zq252))))) _
def zq1526 : Con := con [.one (.fl .op)] [.one (.fl .str)] (fun x => zq1530 x.1)
theorem zq1529 : TrOk Tryz.prog 55 zq1526 := by
 have h : zq794 (zq292 Tryz.f55) = [] := by kernel_rfl
 refine zq297 zq1528 Tryz.func55 (zq229 h lsNil) _ _ _ (fun x => ?_)
 kernel_rfl
def zq1542 : Env := mkEnv ty fnB [(29,zq1375),(55,zq1526)] []
theorem zq1543 : EnvOk Tryz.prog zq1542 := envOk tyOk fn_ok (zq251 zq1379 (zq251 zq1529 zq252)) _
def zq1541 : Con := con [.one (.fl .op)] [.one (.fl .str),.one (.fl .int)] (fun x => zq1545 x.1)
theorem zq1544 : TrOk Tryz.prog 22 zq1541 := by
 have h : zq794 (zq292 Tryz.f22) = [] := by kernel_rfl
 refine zq297 zq1543 Tryz.func22 (zq229 h lsNil) _ _ _ (fun x => ?_)
 kernel_rfl
def zq1562 : Env := mkEnv ty fnB [(81,zq1549),(33,zq1049)] []
theorem zq1563 : EnvOk Tryz.prog zq1562 := envOk tyOk fn_ok (zq251 zq1552 (zq251 zq1050 zq252)) _
theorem zq1564 : TrOk Tryz.prog 82 (zq534 zq1562 Tryz.f82) := by
 have h : zq794 (zq292 Tryz.f82) = [] := by kernel_rfl
 exact zq535 zq1563 Tryz.func82 (zq229 h lsNil)
def zq1555 : LoopS := { n := 69,base := 1,head := { keep := [1,2,3,8,9],vals := [.one (.cst (.ptr 1 0)),.one (.cst (.ptr 2 0)),.one (.cst (.ptr 3 0)),.agg [.fl .str,.fl .str,.fl .str,.fl .str,.fl .str,.fl .str],.one (.fl .int)],objs := [.row .str 9 false,.blk [.cst (.row 0)] 74 true,.blk [.fl .op] 51 true,.blk [.fl .op] 51 true] },exits := [⟨some 0,{ keep := [1,2,3],vals := [.one (.cst (.ptr 1 0)),.one (.cst (.ptr 2 0)),.one (.cst (.ptr 3 0))],objs := [.row .str 9 false,.blk [.cst (.row 0)] 74 true,.blk [.fl .op] 51 true,.blk [.fl .op] 51 true] }⟩] }
def zq1558 : Env := mkEnv ty fnB [(81,zq1549),(7,zq1083),(32,zq108),(82,(zq534 zq1562 Tryz.f82))] [(3,(zq790 zq1555 (loopN zq1554 FUEL)))]
theorem zq1559 : EnvOk Tryz.prog zq1558 := envOk tyOk fn_ok (zq251 zq1552 (zq251 zq1086 (zq251 zq112 (zq251 zq1564 zq252)))) _
theorem zq1556 : LOk Tryz.prog (zq859 (zq292 Tryz.f56) 0) (zq790 zq1555 (loopN zq1554 FUEL)) := by
 have h : zq794 (zq859 (zq292 Tryz.f56) 0) = [] := by kernel_rfl
 refine zq791 zq1559 (zq795 h lsNil) zq1555 zq1554 FUEL (fun rec x => ?_)
 kernel_rfl
def zq1557 : Con := con [.one (.row .str 9)] [.one (.fl .op)] (fun x => zq1561 x.1)
theorem zq1560 : TrOk Tryz.prog 56 zq1557 := by
 have h : zq794 (zq292 Tryz.f56) = [(zq859 (zq292 Tryz.f56) 0)] := by kernel_rfl
 refine zq297 zq1559 Tryz.func56 (zq229 h (zq801 (zq890 (t := (zq790 zq1555 (loopN zq1554 FUEL))) (by kernel_rfl) zq1556) lsNil)) _ _ _ (fun x => ?_)
 kernel_rfl
def zq1536 : Env := mkEnv ty fnB [(57,zq1494),(56,zq1557),(29,zq1375),(55,zq1526)] []
theorem zq1537 : EnvOk Tryz.prog zq1536 := envOk tyOk fn_ok (zq251 zq1495 (zq251 zq1560 (zq251 zq1379 (zq251 zq1529 zq252)))) _
def zq1535 : Con := con [.one (.fl .str)] [.one (.fl .op),.one (.fl .int)] (fun x => zq1539 x.1)
theorem zq1538 : TrOk Tryz.prog 23 zq1535 := by
 have h : zq794 (zq292 Tryz.f23) = [] := by kernel_rfl
 refine zq297 zq1537 Tryz.func23 (zq229 h lsNil) _ _ _ (fun x => ?_)
 kernel_rfl
def zq649 : Env := mkEnv ty fnB [(60,zq637),(22,zq1541),(23,zq1535)] []
theorem zq650 : EnvOk Tryz.prog zq649 := envOk tyOk fn_ok (zq251 zq641 (zq251 zq1544 (zq251 zq1538 zq252))) _
def zq648 : Con := con [] [.one (.fl .bool)] (fun x => zq652)
theorem zq651 : TrOk Tryz.prog 27 zq648 := by
 have h : zq794 (zq292 Tryz.f27) = [] := by kernel_rfl
 refine zq297 zq650 Tryz.func27 (zq229 h lsNil) _ _ _ (fun x => ?_)
 kernel_rfl
def zq1361 : LoopS := { n := 105,base := 3,head := { keep := [1,15,16,17],vals := [.one (.cst (.ptr 3 0)),.one (.cst (.row 1)),.one (.fl .int),.one (.fl .int)],objs := [.bag .addr 24 false false,.nest .pfx 0 116 false,.row .lease 121 false,.blk [.cst (.row 1),.cst (.row 2),.fl .int] 91 true] },exits := [⟨none,{ keep := [2],vals := [.one (.fl .int)],objs := [.bag .addr 24 false false,.nest .pfx 0 116 false,.row .lease 121 false] }⟩,⟨some 0,{ keep := [1],vals := [.one (.cst (.ptr 3 0))],objs := [.bag .addr 24 false false,.nest .pfx 0 116 false,.row .lease 121 false,.blk [.cst (.row 1),.cst (.row 2),.fl .int] 91 true] }⟩] }
def zq1355 : LoopS := { n := 105,base := 3,head := { keep := [1,6],vals := [.one (.cst (.ptr 3 0)),.one (.fl .int)],objs := [.bag .addr 24 false false,.nest .pfx 0 116 false,.row .lease 121 false,.blk [.cst (.row 1),.cst (.row 2),.fl .int] 91 true] },exits := [⟨none,{ keep := [2],vals := [.one (.fl .int)],objs := [.bag .addr 24 false false,.nest .pfx 0 116 false,.row .lease 121 false] }⟩,⟨some 2,{ keep := [1],vals := [.one (.cst (.ptr 3 0))],objs := [.bag .addr 24 false false,.nest .pfx 0 116 false,.row .lease 121 false,.blk [.cst (.row 1),.cst (.row 2),.fl .int] 91 true] }⟩] }
def zq1358 : LoopS := { n := 105,base := 3,head := { keep := [1,78,79,80],vals := [.one (.cst (.ptr 3 0)),.one (.cst (.row 2)),.one (.fl .int),.one (.fl .int)],objs := [.bag .addr 24 false false,.nest .pfx 0 116 false,.row .lease 121 false,.blk [.cst (.row 1),.cst (.row 2),.fl .int] 91 true] },exits := [⟨none,{ keep := [2],vals := [.one (.fl .int)],objs := [.bag .addr 24 false false,.nest .pfx 0 116 false,.row .lease 121 false] }⟩,⟨some 4,{ keep := [],vals := [],objs := [.bag .addr 24 false false,.nest .pfx 0 116 false,.row .lease 121 false] }⟩] }
def zq1364 : Env := mkEnv ty fnB [(85,zq705),(86,zq1070),(87,zq1064),(64,zq1460),(88,zq667),(89,zq1448),(90,zq740)] [(4,(zq790 zq1361 (loopN zq1360 FUEL))),(11,(zq790 zq1355 (loopN zq1354 FUEL))),(21,(zq790 zq1358 (loopN zq1357 FUEL)))]
theorem zq1365 : EnvOk Tryz.prog zq1364 := envOk tyOk fn_ok (zq251 zq709 (zq251 zq1074 (zq251 zq1068 (zq251 zq1464 (zq251 zq671 (zq251 zq1452 (zq251 zq741 zq252))))))) _
theorem zq1359 : LOk Tryz.prog (zq859 (zq292 Tryz.f63) 2) (zq790 zq1358 (loopN zq1357 FUEL)) := by
 have h : zq794 (zq859 (zq292 Tryz.f63) 2) = [] := by kernel_rfl
 refine zq791 zq1365 (zq795 h lsNil) zq1358 zq1357 FUEL (fun rec x => ?_)
 kernel_rfl
theorem zq1362 : LOk Tryz.prog (zq859 (zq292 Tryz.f63) 0) (zq790 zq1361 (loopN zq1360 FUEL)) := by
 have h : zq794 (zq859 (zq292 Tryz.f63) 0) = [] := by kernel_rfl
 refine zq791 zq1365 (zq795 h lsNil) zq1361 zq1360 FUEL (fun rec x => ?_)
 kernel_rfl
theorem zq1356 : LOk Tryz.prog (zq859 (zq292 Tryz.f63) 1) (zq790 zq1355 (loopN zq1354 FUEL)) := by
 have h : zq794 (zq859 (zq292 Tryz.f63) 1) = [] := by kernel_rfl
 refine zq791 zq1365 (zq795 h lsNil) zq1355 zq1354 FUEL (fun rec x => ?_)
 kernel_rfl
def zq1363 : Con := con [.agg [.nest .pfx .addr 116 24 true,.row .lease 121,.fl .int]] [.one (.fl .int)] (fun x => zq1368 x.1.1 x.1.2.1 x.1.2.2.1)
theorem zq1367 : TrOk Tryz.prog 63 zq1363 := by
 have h : zq794 (zq292 Tryz.f63) = [(zq859 (zq292 Tryz.f63) 0),(zq859 (zq292 Tryz.f63) 1),(zq859 (zq292 Tryz.f63) 2)] := by kernel_rfl
 refine zq297 zq1365 Tryz.func63 (zq229 h (zq801 (zq890 (t := (zq790 zq1361 (loopN zq1360 FUEL))) (by kernel_rfl) zq1362) (zq801 (zq890 (t := (zq790 zq1355 (loopN zq1354 FUEL))) (by kernel_rfl) zq1356) (zq801 (zq890 (t := (zq790 zq1358 (loopN zq1357 FUEL))) (by kernel_rfl) zq1359) lsNil)))) _ _ _ (fun x => ?_)
 kernel_rfl
def zq728 : LoopS := { n := 49,base := 10,head := { keep := [0,2,4,8,9,10],vals := [.one (.cst (.row 6)),.one (.cst (.fn 190 [])),.one (.cst (.ptr 10 0)),.one (.fl .int),.one (.fl .int),.one (.fl .int)],objs := [.row .addr 24 false,.row .lease 121 false,.blk [.fl .bool,.fl .u64,.fl .u64,.fl .int,.cst (.row 0)] 116 false,.blk [.fl .str] 9 false,.row .lease 121 false,.blk [.fl .addr] 24 false,.row .lease 121 false,.blk [.fl .bool,.fl .u64,.fl .u64,.fl .int,.cst (.row 0),.cst (.row 6)] 225 false,.blk [.fl .addr] 24 false,.blk [.fl .lease] 121 false,.blk [.fl .lease] 121 true] },exits := [⟨some 0,{ keep := [0,2,4,8,9],vals := [.one (.cst (.row 6)),.one (.cst (.fn 190 [])),.one (.cst (.ptr 10 0)),.one (.fl .int),.one (.fl .int)],objs := [.row .addr 24 false,.row .lease 121 false,.blk [.fl .bool,.fl .u64,.fl .u64,.fl .int,.cst (.row 0)] 116 false,.blk [.fl .str] 9 false,.row .lease 121 false,.blk [.fl .addr] 24 false,.row .lease 121 false,.blk [.fl .bool,.fl .u64,.fl .u64,.fl .int,.cst (.row 0),.cst (.row 6)] 225 false,.blk [.fl .addr] 24 false,.blk [.fl .lease] 121 false,.blk [.fl .lease] 121 true] }⟩] }
def zq730 : Env := mkEnv ty fnB [(190,zq716)] [(3,(zq790 zq728 (loopN zq727 FUEL)))]
theorem zq731 : EnvOk Tryz.prog zq730 := envOk tyOk fn_ok (zq251 zq719 zq252) _
theorem zq729 : LOk Tryz.prog (zq859 (zq292 Tryz.f189) 0) (zq790 zq728 (loopN zq727 FUEL)) := by
 have h : zq794 (zq859 (zq292 Tryz.f189) 0) = [] := by kernel_rfl
 refine zq791 zq731 (zq795 h lsNil) zq728 zq727 FUEL (fun rec x => ?_)
 kernel_rfl
theorem zq732 : TrOk Tryz.prog 189 (flCon zq730 Tryz.f189 [.one (.fl .int),.one (.fl .bool)]) := by
 have h : zq794 (zq292 Tryz.f189) = [(zq859 (zq292 Tryz.f189) 0)] := by kernel_rfl
 exact zq425 zq731 Tryz.func189 (zq229 h (zq801 (zq890 (t := (zq790 zq728 (loopN zq727 FUEL))) (by kernel_rfl) zq729) lsNil)) [.one (.fl .int),.one (.fl .bool)] rfl
def zq734 : LoopS := { n := 19,base := 8,head := { keep := [0,1,7,8],vals := [.one (.cst (.row 6)),.one (.cst (.fn 187 [.ptr 3 0])),.one (.fl .int),.one (.fl .int)],objs := [.row .addr 24 false,.row .lease 121 false,.blk [.fl .bool,.fl .u64,.fl .u64,.fl .int,.cst (.row 0)] 116 true,.blk [.fl .str] 9 true,.row .lease 121 true,.blk [.fl .addr] 24 true,.row .lease 121 true,.blk [.fl .bool,.fl .u64,.fl .u64,.fl .int,.cst (.row 0),.cst (.row 6)] 225 true] },exits := [⟨none,{ keep := [4],vals := [.one (.fl .int)],objs := [.row .addr 24 false,.row .lease 121 false,.blk [.fl .bool,.fl .u64,.fl .u64,.fl .int,.cst (.row 0)] 116 true,.blk [.fl .str] 9 true,.row .lease 121 true,.blk [.fl .addr] 24 true,.row .lease 121 true,.blk [.fl .bool,.fl .u64,.fl .u64,.fl .int,.cst (.row 0),.cst (.row 6)] 225 true] }⟩,⟨some 0,{ keep := [],vals := [],objs := [.row .addr 24 false,.row .lease 121 false,.blk [.fl .bool,.fl .u64,.fl .u64,.fl .int,.cst (.row 0)] 116 true,.blk [.fl .str] 9 true,.row .lease 121 true,.blk [.fl .addr] 24 true,.row .lease 121 true,.blk [.fl .bool,.fl .u64,.fl .u64,.fl .int,.cst (.row 0),.cst (.row 6)] 225 true] }⟩] }
def zq736 : Env := mkEnv ty fnB [(187,zq711)] [(2,(zq790 zq734 (loopN zq733 FUEL)))]
theorem zq737 : EnvOk Tryz.prog zq736 := envOk tyOk fn_ok (zq251 zq714 zq252) _
theorem zq735 : LOk Tryz.prog (zq859 (zq292 Tryz.f147) 0) (zq790 zq734 (loopN zq733 FUEL)) := by
 have h : zq794 (zq859 (zq292 Tryz.f147) 0) = [] := by kernel_rfl
 refine zq791 zq737 (zq795 h lsNil) zq734 zq733 FUEL (fun rec x => ?_)
 kernel_rfl
theorem zq738 : TrOk Tryz.prog 147 (zq534 zq736 Tryz.f147) := by
 have h : zq794 (zq292 Tryz.f147) = [(zq859 (zq292 Tryz.f147) 0)] := by kernel_rfl
 exact zq535 zq737 Tryz.func147 (zq229 h (zq801 (zq890 (t := (zq790 zq734 (loopN zq733 FUEL))) (by kernel_rfl) zq735) lsNil))
def zq722 : Env := mkEnv ty fnB [(145,zq678),(188,zq21),(189,(flCon zq730 Tryz.f189 [.one (.fl .int),.one (.fl .bool)])),(191,zq1293),(147,(zq534 zq736 Tryz.f147))] []
theorem zq723 : EnvOk Tryz.prog zq722 := envOk tyOk fn_ok (zq251 zq682 (zq251 zq22 (zq251 zq732 (zq251 zq1294 (zq251 zq738 zq252))))) _
def zq721 : Con := con [.agg [.fl .pfx,.row .addr 24],.one (.row .lease 121),.one (.fl .str),.one (.fl .int),.one (.fl .int)] [.one (.row .lease 121),.one (.fl .addr),.one (.fl .bool)] (fun x => zq739 x.1.1 x.1.2.1 x.2.1 x.2.2.1 x.2.2.2.1 x.2.2.2.2.1)
theorem zq725 : TrOk Tryz.prog 169 zq721 := by
 have h : zq794 (zq292 Tryz.f169) = [] := by kernel_rfl
 refine zq297 zq723 Tryz.func169 (zq229 h lsNil) _ _ _ (fun x => ?_)
 kernel_rfl
def zq1413 : LoopS := { n := 49,base := 17,head := { keep := [0,2,4,8,9,10],vals := [.one (.cst (.row 11)),.one (.cst (.fn 164 [])),.one (.cst (.ptr 17 0)),.one (.fl .int),.one (.fl .int),.one (.fl .int)],objs := [.bag .addr 24 false false,.nest .pfx 0 116 false,.row .lease 121 false,.blk [.cst (.row 1),.cst (.row 2),.fl .int] 91 false,.blk [.fl .op] 51 false,.blk [.cst (.row 7),.cst (.row 8),.fl .int] 91 false,.bag .addr 24 false false,.nest .pfx 6 116 false,.row .lease 121 false,.blk [.fl .addr] 24 false,.bag .addr 24 false false,.nest .pfx 10 116 false,.row .lease 121 false,.blk [.cst (.row 11),.cst (.row 12),.fl .int] 144 false,.blk [.fl .op] 51 false,.blk [.fl .addr] 24 false,.blk [.fl .pfx] 26 false,.blk [.fl .pfx] 26 true] },exits := [⟨some 0,{ keep := [0,2,4,8,9],vals := [.one (.cst (.row 11)),.one (.cst (.fn 164 [])),.one (.cst (.ptr 17 0)),.one (.fl .int),.one (.fl .int)],objs := [.bag .addr 24 false false,.nest .pfx 0 116 false,.row .lease 121 false,.blk [.cst (.row 1),.cst (.row 2),.fl .int] 91 false,.blk [.fl .op] 51 false,.blk [.cst (.row 7),.cst (.row 8),.fl .int] 91 false,.bag .addr 24 false false,.nest .pfx 6 116 false,.row .lease 121 false,.blk [.fl .addr] 24 false,.bag .addr 24 false false,.nest .pfx 10 116 false,.row .lease 121 false,.blk [.cst (.row 11),.cst (.row 12),.fl .int] 144 false,.blk [.fl .op] 51 false,.blk [.fl .addr] 24 false,.blk [.fl .pfx] 26 false,.blk [.fl .pfx] 26 true] }⟩] }
def zq1415 : Env := mkEnv ty fnB [(164,zq64)] [(3,(zq790 zq1413 (loopN zq1412 FUEL)))]
theorem zq1416 : EnvOk Tryz.prog zq1415 := envOk tyOk fn_ok (zq251 zq67 zq252) _
theorem zq1414 : LOk Tryz.prog (zq859 (zq292 Tryz.f163) 0) (zq790 zq1413 (loopN zq1412 FUEL)) := by
 have h : zq794 (zq859 (zq292 Tryz.f163) 0) = [] := by kernel_rfl
 refine zq791 zq1416 (zq795 h lsNil) zq1413 zq1412 FUEL (fun rec x => ?_)
 kernel_rfl
theorem zq1417 : TrOk Tryz.prog 163 (flCon zq1415 Tryz.f163 [.one (.fl .int),.one (.fl .bool)]) := by
 have h : zq794 (zq292 Tryz.f163) = [(zq859 (zq292 Tryz.f163) 0)] := by kernel_rfl
 exact zq425 zq1416 Tryz.func163 (zq229 h (zq801 (zq890 (t := (zq790 zq1413 (loopN zq1412 FUEL))) (by kernel_rfl) zq1414) lsNil)) [.one (.fl .int),.one (.fl .bool)] rfl
def zq1422 : LoopS := { n := 19,base := 17,head := { keep := [0,1,7,8],vals := [.one (.cst (.row 11)),.one (.cst (.fn 162 [.ptr 16 0])),.one (.fl .int),.one (.fl .int)],objs := [.bag .addr 24 false false,.nest .pfx 0 116 false,.row .lease 121 false,.blk [.cst (.row 1),.cst (.row 2),.fl .int] 91 true,.blk [.fl .op] 51 true,.blk [.cst (.row 7),.cst (.row 8),.fl .int] 91 true,.bag .addr 24 true true,.nest .pfx 6 116 true,.row .lease 121 true,.blk [.fl .addr] 24 true,.bag .addr 24 true true,.nest .pfx 10 116 true,.row .lease 121 true,.blk [.cst (.row 11),.cst (.row 12),.fl .int] 144 true,.blk [.fl .op] 51 true,.blk [.fl .addr] 24 true,.blk [.fl .pfx] 26 true] },exits := [⟨none,{ keep := [4],vals := [.one (.fl .int)],objs := [.bag .addr 24 false false,.nest .pfx 0 116 false,.row .lease 121 false,.blk [.cst (.row 1),.cst (.row 2),.fl .int] 91 true,.blk [.fl .op] 51 true,.blk [.cst (.row 7),.cst (.row 8),.fl .int] 91 true,.bag .addr 24 true true,.nest .pfx 6 116 true,.row .lease 121 true,.blk [.fl .addr] 24 true,.bag .addr 24 true true,.nest .pfx 10 116 true,.row .lease 121 true,.blk [.cst (.row 11),.cst (.row 12),.fl .int] 144 true,.blk [.fl .op] 51 true,.blk [.fl .addr] 24 true,.blk [.fl .pfx] 26 true] }⟩,⟨some 0,{ keep := [],vals := [],objs := [.bag .addr 24 false false,.nest .pfx 0 116 false,.row .lease 121 false,.blk [.cst (.row 1),.cst (.row 2),.fl .int] 91 true,.blk [.fl .op] 51 true,.blk [.cst (.row 7),.cst (.row 8),.fl .int] 91 true,.bag .addr 24 true true,.nest .pfx 6 116 true,.row .lease 121 true,.blk [.fl .addr] 24 true,.bag .addr 24 true true,.nest .pfx 10 116 true,.row .lease 121 true,.blk [.cst (.row 11),.cst (.row 12),.fl .int] 144 true,.blk [.fl .op] 51 true,.blk [.fl .addr] 24 true,.blk [.fl .pfx] 26 true] }⟩] }
def zq1424 : Env := mkEnv ty fnB [(162,zq59)] [(2,(zq790 zq1422 (loopN zq1421 FUEL)))]
theorem zq1425 : EnvOk Tryz.prog zq1424 := envOk tyOk fn_ok (zq251 zq62 zq252) _
theorem zq1423 : LOk Tryz.prog (zq859 (zq292 Tryz.f115) 0) (zq790 zq1422 (loopN zq1421 FUEL)) := by
 have h : zq794 (zq859 (zq292 Tryz.f115) 0) = [] := by kernel_rfl
 refine zq791 zq1425 (zq795 h lsNil) zq1422 zq1421 FUEL (fun rec x => ?_)
 kernel_rfl
theorem zq1426 : TrOk Tryz.prog 115 (zq534 zq1424 Tryz.f115) := by
 have h : zq794 (zq292 Tryz.f115) = [(zq859 (zq292 Tryz.f115) 0)] := by kernel_rfl
 exact zq535 zq1425 Tryz.func115 (zq229 h (zq801 (zq890 (t := (zq790 zq1422 (loopN zq1421 FUEL))) (by kernel_rfl) zq1423) lsNil))
def zq1418 : Env := mkEnv ty fnB [(115,(zq534 zq1424 Tryz.f115))] []
theorem zq1419 : EnvOk Tryz.prog zq1418 := envOk tyOk fn_ok (zq251 zq1426 zq252) _
theorem zq1420 : TrOk Tryz.prog 161 (zq534 zq1418 Tryz.f161) := by
 have h : zq794 (zq292 Tryz.f161) = [] := by kernel_rfl
 exact zq535 zq1419 Tryz.func161 (zq229 h lsNil)
def zq1408 : Env := mkEnv ty fnB [(163,(flCon zq1415 Tryz.f163 [.one (.fl .int),.one (.fl .bool)])),(165,zq1295),(161,(zq534 zq1418 Tryz.f161))] []
theorem zq1409 : EnvOk Tryz.prog zq1408 := envOk tyOk fn_ok (zq251 zq1417 (zq251 zq1296 (zq251 zq1420 zq252))) _
theorem zq1410 : TrOk Tryz.prog 141 (zq534 zq1408 Tryz.f141) := by
 have h : zq794 (zq292 Tryz.f141) = [] := by kernel_rfl
 exact zq535 zq1409 Tryz.func141 (zq229 h lsNil)
def zq1403 : LoopS := { n := 49,base := 17,head := { keep := [0,2,4,8,9,10],vals := [.one (.inn 10),.one (.cst (.fn 113 [])),.one (.cst (.ptr 17 0)),.one (.fl .int),.one (.fl .int),.one (.fl .int)],objs := [.bag .addr 24 false false,.nest .pfx 0 116 false,.row .lease 121 false,.blk [.cst (.row 1),.cst (.row 2),.fl .int] 91 false,.blk [.fl .op] 51 false,.blk [.cst (.row 7),.cst (.row 8),.fl .int] 91 false,.bag .addr 24 false false,.nest .pfx 6 116 false,.row .lease 121 false,.blk [.fl .addr] 24 false,.bag .addr 24 false false,.nest .pfx 10 116 false,.row .lease 121 false,.blk [.cst (.row 11),.cst (.row 12),.fl .int] 144 false,.blk [.fl .op] 51 false,.blk [.fl .addr] 24 false,.blk [.fl .addr] 24 false,.blk [.fl .addr] 24 true] },exits := [⟨some 0,{ keep := [0,2,4,8,9],vals := [.one (.inn 10),.one (.cst (.fn 113 [])),.one (.cst (.ptr 17 0)),.one (.fl .int),.one (.fl .int)],objs := [.bag .addr 24 false false,.nest .pfx 0 116 false,.row .lease 121 false,.blk [.cst (.row 1),.cst (.row 2),.fl .int] 91 false,.blk [.fl .op] 51 false,.blk [.cst (.row 7),.cst (.row 8),.fl .int] 91 false,.bag .addr 24 false false,.nest .pfx 6 116 false,.row .lease 121 false,.blk [.fl .addr] 24 false,.bag .addr 24 false false,.nest .pfx 10 116 false,.row .lease 121 false,.blk [.cst (.row 11),.cst (.row 12),.fl .int] 144 false,.blk [.fl .op] 51 false,.blk [.fl .addr] 24 false,.blk [.fl .addr] 24 false,.blk [.fl .addr] 24 true] }⟩] }
def zq1405 : Env := mkEnv ty fnB [(113,zq102)] [(3,(zq790 zq1403 (loopN zq1402 FUEL)))]
theorem zq1406 : EnvOk Tryz.prog zq1405 := envOk tyOk fn_ok (zq251 zq106 zq252) _
theorem zq1404 : LOk Tryz.prog (zq859 (zq292 Tryz.f166) 0) (zq790 zq1403 (loopN zq1402 FUEL)) := by
 have h : zq794 (zq859 (zq292 Tryz.f166) 0) = [] := by kernel_rfl
 refine zq791 zq1406 (zq795 h lsNil) zq1403 zq1402 FUEL (fun rec x => ?_)
 kernel_rfl
theorem zq1407 : TrOk Tryz.prog 166 (flCon zq1405 Tryz.f166 [.one (.fl .int),.one (.fl .bool)]) := by
 have h : zq794 (zq292 Tryz.f166) = [(zq859 (zq292 Tryz.f166) 0)] := by kernel_rfl
 exact zq425 zq1406 Tryz.func166 (zq229 h (zq801 (zq890 (t := (zq790 zq1403 (loopN zq1402 FUEL))) (by kernel_rfl) zq1404) lsNil)) [.one (.fl .int),.one (.fl .bool)] rfl
def zq1399 : Env := mkEnv ty fnB [(89,zq1448),(166,(flCon zq1405 Tryz.f166 [.one (.fl .int),.one (.fl .bool)])),(167,zq1291)] []
theorem zq1400 : EnvOk Tryz.prog zq1399 := envOk tyOk fn_ok (zq251 zq1452 (zq251 zq1407 (zq251 zq1292 zq252))) _
theorem zq1401 : TrOk Tryz.prog 142 (zq534 zq1399 Tryz.f142) := by
 have h : zq794 (zq292 Tryz.f142) = [] := by kernel_rfl
 exact zq535 zq1400 Tryz.func142 (zq229 h lsNil)
def zq1394 : LoopS := { n := 121,base := 16,head := { keep := [0,1,3,8,10,12,13,61,62,63],vals := [.one (.cst (.ptr 13 0)),.one (.fl .str),.one (.fl .int),.one (.cst (.ptr 16 0)),.one (.cst (.ptr 17 0)),.one (.cst (.row 18)),.one (.cst (.row 19)),.one (.cst (.row 12)),.one (.fl .int),.one (.fl .int)],objs := [.bag .addr 24 false false,.nest .pfx 0 116 false,.row .lease 121 false,.blk [.cst (.row 1),.cst (.row 2),.fl .int] 91 true,.blk [.fl .op] 51 true,.blk [.cst (.row 7),.cst (.row 8),.fl .int] 91 true,.bag .addr 24 true true,.nest .pfx 6 116 true,.row .lease 121 true,.blk [.fl .addr] 24 true,.bag .addr 24 true true,.nest .pfx 10 116 true,.row .lease 121 true,.blk [.cst (.row 11),.cst (.row 12),.fl .int] 144 true,.blk [.fl .op] 51 true,.blk [.fl .addr] 24 true,.blk [.fl .addr] 24 true,.blk [.fl .bool,.fl .u64,.fl .u64,.fl .int,.inn 10] 116 true,.row .lease 121 true,.row .lease 121 true] },exits := [⟨some 0,{ keep := [0,1,3,8,10,12,13],vals := [.one (.cst (.ptr 13 0)),.one (.fl .str),.one (.fl .int),.one (.cst (.ptr 16 0)),.one (.cst (.ptr 17 0)),.one (.cst (.row 18)),.one (.cst (.row 19))],objs := [.bag .addr 24 false false,.nest .pfx 0 116 false,.row .lease 121 false,.blk [.cst (.row 1),.cst (.row 2),.fl .int] 91 true,.blk [.fl .op] 51 true,.blk [.cst (.row 7),.cst (.row 8),.fl .int] 91 true,.bag .addr 24 true true,.nest .pfx 6 116 true,.row .lease 121 true,.blk [.fl .addr] 24 true,.bag .addr 24 true true,.nest .pfx 10 116 true,.row .lease 121 true,.blk [.cst (.row 11),.cst (.row 12),.fl .int] 144 true,.blk [.fl .op] 51 true,.blk [.fl .addr] 24 true,.blk [.fl .addr] 24 true,.blk [.fl .bool,.fl .u64,.fl .u64,.fl .int,.inn 10] 116 true,.row .lease 121 true,.row .lease 121 true] }⟩] }
def zq1396 : Env := mkEnv ty fnB [(168,zq48),(73,zq1052),(169,zq721),(170,zq1297)] [(9,(zq790 zq1394 (loopN zq1393 FUEL)))]
theorem zq1397 : EnvOk Tryz.prog zq1396 := envOk tyOk fn_ok (zq251 zq51 (zq251 zq1056 (zq251 zq725 (zq251 zq1298 zq252)))) _
theorem zq1395 : LOk Tryz.prog (zq859 (zq292 Tryz.f143) 0) (zq790 zq1394 (loopN zq1393 FUEL)) := by
 have h : zq794 (zq859 (zq292 Tryz.f143) 0) = [] := by kernel_rfl
 refine zq791 zq1397 (zq795 h lsNil) zq1394 zq1393 FUEL (fun rec x => ?_)
 kernel_rfl
theorem zq1398 : TrOk Tryz.prog 143 (zq534 zq1396 Tryz.f143) := by
 have h : zq794 (zq292 Tryz.f143) = [(zq859 (zq292 Tryz.f143) 0)] := by kernel_rfl
 exact zq535 zq1397 Tryz.func143 (zq229 h (zq801 (zq890 (t := (zq790 zq1394 (loopN zq1393 FUEL))) (by kernel_rfl) zq1395) lsNil))
def zq1390 : Env := mkEnv ty fnB [(168,zq48),(172,zq1281)] []
theorem zq1391 : EnvOk Tryz.prog zq1390 := envOk tyOk fn_ok (zq251 zq51 (zq251 zq1282 zq252)) _
theorem zq1392 : TrOk Tryz.prog 144 (zq534 zq1390 Tryz.f144) := by
 have h : zq794 (zq292 Tryz.f144) = [] := by kernel_rfl
 exact zq535 zq1391 Tryz.func144 (zq229 h lsNil)
def zq1427 : Env := mkEnv ty fnB [(141,(zq534 zq1408 Tryz.f141)),(142,(zq534 zq1399 Tryz.f142)),(143,(zq534 zq1396 Tryz.f143)),(144,(zq534 zq1390 Tryz.f144)),(145,zq678)] []
theorem zq1428 : EnvOk Tryz.prog zq1427 := envOk tyOk fn_ok (zq251 zq1410 (zq251 zq1401 (zq251 zq1398 (zq251 zq1392 (zq251 zq682 zq252))))) _
theorem zq1429 : TrOk Tryz.prog 112 (zq534 zq1427 Tryz.f112) := by
 have h : zq794 (zq292 Tryz.f112) = [] := by kernel_rfl
 exact zq535 zq1428 Tryz.func112 (zq229 h lsNil)
def zq1431 : Env := mkEnv ty fnB [(29,zq1375),(111,zq1384),(112,(zq534 zq1427 Tryz.f112))] []
theorem zq1432 : EnvOk Tryz.prog zq1431 := envOk tyOk fn_ok (zq251 zq1379 (zq251 zq1388 (zq251 zq1429 zq252))) _
def zq1430 : Con := con [.agg [.nest .pfx .addr 116 24 true,.row .lease 121,.fl .int],.one (.fl .op)] [.agg [.nest .pfx .addr 116 24 true,.row .lease 121,.fl .int],.one (.fl .addr),.one (.fl .int)] (fun x => zq1435 x.1.1 x.1.2.1 x.1.2.2.1 x.2.1)
theorem zq1434 : TrOk Tryz.prog 84 zq1430 := by
 have h : zq794 (zq292 Tryz.f84) = [] := by kernel_rfl
 refine zq297 zq1432 Tryz.func84 (zq229 h lsNil) _ _ _ (fun x => ?_)
 kernel_rfl
def zq1370 : Env := mkEnv ty fnB [(63,zq1363),(84,zq1430)] []
theorem zq1371 : EnvOk Tryz.prog zq1370 := envOk tyOk fn_ok (zq251 zq1367 (zq251 zq1434 zq252)) _
def zq1369 : Con := con [.agg [.nest .pfx .addr 116 24 true,.row .lease 121,.fl .int],.one (.fl .op)] [.agg [.nest .pfx .addr 116 24 true,.row .lease 121,.fl .int],.one (.fl .addr),.one (.fl .int)] (fun x => zq1374 x.1.1 x.1.2.1 x.1.2.2.1 x.2.1)
theorem zq1373 : TrOk Tryz.prog 62 zq1369 := by
 have h : zq794 (zq292 Tryz.f62) = [] := by kernel_rfl
 refine zq297 zq1371 Tryz.func62 (zq229 h lsNil) _ _ _ (fun x => ?_)
 kernel_rfl
def zq624 : LoopS := { n := 36,base := 1,head := { keep := [0,2,3,5,6,7],vals := [.one (.cst (.row 0)),.one (.cst (.ptr 1 0)),.one (.cst (.ptr 2 0)),.one (.cst (.ptr 3 0)),.one (.cst (.ptr 4 0)),.one (.fl .int)],objs := [.row .op 51 false,.blk [.cst (.row 5),.cst (.row 6),.fl .int] 91 true,.blk [.fl .addr] 24 true,.blk [.cst (.row 7),.cst (.row 8),.fl .int] 91 true,.blk [.fl .addr] 24 true,.nest .pfx 9 116 true,.row .lease 121 true,.nest .pfx 10 116 true,.row .lease 121 true,.bag .addr 24 true true,.bag .addr 24 true true] },exits := [⟨none,{ keep := [2,3,4],vals := [.one (.cst (.ptr 1 0)),.one (.cst (.ptr 2 0)),.one (.fl .int)],objs := [.row .op 51 false,.blk [.cst (.row 3),.cst (.row 4),.fl .int] 91 true,.blk [.fl .addr] 24 true,.nest .pfx 5 116 true,.row .lease 121 true,.bag .addr 24 true true] }⟩,⟨some 0,{ keep := [2,3,5,6],vals := [.one (.cst (.ptr 1 0)),.one (.cst (.ptr 2 0)),.one (.cst (.ptr 3 0)),.one (.cst (.ptr 4 0))],objs := [.row .op 51 false,.blk [.cst (.row 5),.cst (.row 6),.fl .int] 91 true,.blk [.fl .addr] 24 true,.blk [.cst (.row 7),.cst (.row 8),.fl .int] 91 true,.blk [.fl .addr] 24 true,.nest .pfx 9 116 true,.row .lease 121 true,.nest .pfx 10 116 true,.row .lease 121 true,.bag .addr 24 true true,.bag .addr 24 true true] }⟩] }
def zq627 : Env := mkEnv ty fnB [(62,zq1369)] [(4,(zq790 zq624 (loopN zq623 FUEL)))]
theorem zq628 : EnvOk Tryz.prog zq627 := envOk tyOk fn_ok (zq251 zq1373 zq252) _
theorem zq625 : LOk Tryz.prog (zq859 (zq292 Tryz.f61) 0) (zq790 zq624 (loopN zq623 FUEL)) := by
 have h : zq794 (zq859 (zq292 Tryz.f61) 0) = [] := by kernel_rfl
 refine zq791 zq628 (zq795 h lsNil) zq624 zq623 FUEL (fun rec x => ?_)
 kernel_rfl
def zq626 : Con := con [.one (.row .op 51)] [.agg [.nest .pfx .addr 116 24 true,.row .lease 121,.fl .int],.one (.fl .addr),.one (.fl .int)] (fun x => zq631 x.1)
theorem zq630 : TrOk Tryz.prog 61 zq626 := by
 have h : zq794 (zq292 Tryz.f61) = [(zq859 (zq292 Tryz.f61) 0)] := by kernel_rfl
 refine zq297 zq628 Tryz.func61 (zq229 h (zq801 (zq890 (t := (zq790 zq624 (loopN zq623 FUEL))) (by kernel_rfl) zq625) lsNil)) _ _ _ (fun x => ?_)
 kernel_rfl
def zq644 : Env := mkEnv ty fnB [(60,zq637),(61,zq626),(62,zq1369),(63,zq1363),(29,zq1375),(51,zq653)] []
theorem zq645 : EnvOk Tryz.prog zq644 := envOk tyOk fn_ok (zq251 zq641 (zq251 zq630 (zq251 zq1373 (zq251 zq1367 (zq251 zq1379 (zq251 zq656 zq252)))))) _
def zq643 : Con := con [] [.one (.fl .bool)] (fun x => zq647)
theorem zq646 : TrOk Tryz.prog 28 zq643 := by
 have h : zq794 (zq292 Tryz.f28) = [] := by kernel_rfl
 refine zq297 zq645 Tryz.func28 (zq229 h lsNil) _ _ _ (fun x => ?_)
 kernel_rfl
def zq617 : Env := mkEnv ty fnB [(27,zq648),(28,zq643),(22,zq1541),(23,zq1535),(29,zq1375)] []
theorem zq618 : EnvOk Tryz.prog zq617 := envOk tyOk fn_ok (zq251 zq651 (zq251 zq646 (zq251 zq1544 (zq251 zq1538 (zq251 zq1379 zq252))))) _
theorem zq619 (f0 : type_of% zq652) (f1 : type_of% zq647) (f2 : type_of% zq1545) (f3 : type_of% zq1539) (f4 : type_of% zq1380) (x : PsT [.one (.fl .op),.one (.fl .str)]) : ixF (mkEnv ty fnB [(27,(con [] [.one (.fl .bool)] (fun x => f0))),(28,(con [] [.one (.fl .bool)] (fun x => f1))),(22,(con [.one (.fl .op)] [.one (.fl .str),.one (.fl .int)] (fun x => f2 x.1))),(23,(con [.one (.fl .str)] [.one (.fl .op),.one (.fl .int)] (fun x => f3 x.1))),(29,(con [.one (.fl .op)] [.one (.fl .int)] (fun x => f4 x.1)))] []) Tryz.f5 (encA false [.one (.fl .op),.one (.fl .str)] x 0).1 (encA false [.one (.fl .op),.one (.fl .str)] x 0).2 (resR [.one (.fl .bool)]) = zq615 f0 f1 f2 f3 f4 x.1 x.2.1 := by
 kernel_rfl
def zq616 : Con := con [.one (.fl .op),.one (.fl .str)] [.one (.fl .bool)] (fun x => zq621 x.1 x.2.1)
theorem zq620 : TrOk Tryz.prog 5 zq616 := by
 have h : zq794 (zq292 Tryz.f5) = [] := by kernel_rfl
 refine zq297 zq618 Tryz.func5 (zq229 h lsNil) _ _ _ (fun x => ?_)
 exact zq619 zq652 zq647 zq1545 zq1539 zq1380 x
end Go.Proofs.YtafggolijpopeaaGreatDoor
namespace Go.Ma
open Go
theorem zq611 {P : Program} {w : World} : ∀ {l : List (String × DataW Unit)} {ps : List MemPlace},DataW.LaidVars P w l ps → ∀ n d,(n,d) ∈ l → ∃ g t cs fuel p,P.globalNamed n = some g ∧ (P.globals[g]?).map (·.type) = some t ∧ w.var? P n = some cs ∧ DataW.trod (fun _ => ()) P w 0 (fun _ => true) false fuel t cs.toList = some (d,p)
 | [],_,_,_,_,hm => by cases hm
 | (n',d') :: r,ps,h,n,d,hm => by
  obtain ⟨g,t,cs,fuel,p,q,h1,h2,h3,h4,h5,_⟩ := h
  rcases zc28.1 hm with e | e
  ·cases e
   exact ⟨g,t,cs,fuel,p,h1,h2,h3,h4⟩
  ·exact zq611 h5 n d e
theorem zq501 {P : Program} {w : World} {n : String} {g : Nat} {cs : Array Value} (hg : P.globalNamed n = some g) (h : w.var? P n = some cs) : ∃ t z,w.heap[g]? = some (.cells cs t z) := by
 unfold World.var? at h
 rw [hg,Option.bind_some] at h
 split at h
 ·rename_i c t z hh
  injection h with h
  exact ⟨t,z,by rw [hh,h]⟩
 ·cases h
def numB (P : Program) (n : String) : Bool := match P.globalNamed n with
 | none => true
 | some g => match ((begin P (fun _ _ => 0) default).world.heap[g]?).bind Obj.row? with
  | some (zero,t) => decide (g < P.globals.size) && zero.size == 1 && P.buildable t && (match P.cellTypes P.depth t with | some [u] => u == t | _ => false) && (match P.underlying t with | some (.int k) => (match k with | .i64 => true | _ => false) | _ => false)
  | none => false
theorem zq867 {P : Program} {w : World} (hS : w.ShapedOpen P) {n : String} (h : numB P n = true) {g : Nat} (hg : P.globalNamed n = some g) : ∃ m,w.cell? ⟨g,0,none⟩ = some (.int .i64 m) := by
 unfold numB at h
 rw [hg] at h
 simp only at h
 split at h
 ·rename_i zero t hz
  simp only [zc4,decide_eq_true_eq,beq_iff_eq] at h
  obtain ⟨⟨⟨⟨h1,h2⟩,h3⟩,h4⟩,h5⟩ := h
  split at h4
  ·rename_i u hu
   have h4 := eq_of_beq h4
   subst h4
   split at h5
   ·rename_i k hk
    split at h5
    ·exact Go.Proofs.cell_of_shapedOpen_int hS h1 hz h2 h3 hu hk
    ·cases h5
   ·cases h5
  ·cases h4
 ·cases h
def errB (P : Program) (laid : List (String × DataW Unit)) (n : String) : Bool := match P.globalNamed n with
 | none => true
 | some g => (laid.any fun x => x.1 == n && (match x.2 with | .iface _ (.ptr _) => true | _ => false)) && (match (P.globals[g]?).map (·.type) with | some t => (match P.underlying t with | some (.interface _) => true | _ => false) | none => false)
theorem zq398 {P : Program} {w : World} {laid : List (String × DataW Unit)} (hL : laidMet P laid w) {n : String} (h : errB P laid n = true) {g : Nat} (hg : P.globalNamed n = some g) : ∃ ev,w.cell? ⟨g,0,none⟩ = some ev ∧ (ev = .nilIface ∨ ∃ te pe,ev = .iface te pe) := by
 unfold errB at h
 rw [hg] at h
 simp only [zc4,List.any_eq_true,beq_iff_eq] at h
 obtain ⟨⟨⟨n',d⟩,hm,rfl,hd⟩,ht⟩ := h
 obtain ⟨ps,hv,_⟩ := hL
 obtain ⟨g',t,cs,fuel,p,h1,h2,h3,h4⟩ := zq611 hv _ _ hm
 obtain rfl := Option.some.inj (hg.symm.trans h1)
 rw [h2] at ht
 simp only at ht
 split at ht
 ·rename_i ms hi
  simp only at hd
  split at hd
  ·obtain ⟨f1,u,v,hcs,_⟩ := iface_of_trod hi h4
   obtain ⟨t',z,hh⟩ := zq501 h1 h3
   refine ⟨.iface u v,?_,.inr ⟨_,_,rfl⟩⟩
   obtain ⟨l⟩ := cs
   simp only at hcs
   subst hcs
   simp [World.cell?,hh]
  ·cases hd
 ·cases ht
def tabGo (k : IntKind) : List (DataW Unit) → List Int → Bool
 | [],[] => true
 | .lit (.int k' z') :: l,z :: zs => decide (k' = k) && decide (z' = z) && tabGo k l zs
 | _,_ => false
theorem zq1503 (k : IntKind) : ∀ (l : List (DataW Unit)) (zs : List Int),tabGo k l zs = true → l = zs.map fun z => .lit (.int k z)
 | [],[],_ => rfl
 | [],_ :: _,h => by simp [tabGo] at h
 | d :: l,[],h => by cases d with
  | lit x => cases x <;> simp [tabGo] at h
  | _ => simp [tabGo] at h
 | d :: l,z :: zs,h => by
  cases d with
  | lit x => cases x with
   | int k' z' =>
    simp only [tabGo,zc4,decide_eq_true_eq] at h
    obtain ⟨⟨rfl,rfl⟩,h⟩ := h
    rw [zq1503 _ l zs h]
    rfl
   | _ => simp [tabGo] at h
  | _ => simp [tabGo] at h
def tabB (P : Program) (laid : List (String × DataW Unit)) (n : String) (k : IntKind) (zs : List Int) : Bool := match P.globalNamed n with
 | none => true
 | some g => (laid.any fun x => x.1 == n && (match x.2 with | .agg l => tabGo k l zs | _ => false)) && (match (P.globals[g]?).map (·.type) with | some t => (match P.underlying t with | some (.array m e) => decide (P.cellsOf t = m) && decide (P.cellsOf e = 1) && (match P.underlying e with | some (.int k') => decide (k' = k) | _ => false) | _ => false) | none => false)
theorem zq1504 {P : Program} {w : World} {laid : List (String × DataW Unit)} (hL : laidMet P laid w) {n : String} {k : IntKind} {zs : List Int} (h : tabB P laid n k zs = true) {g : Nat} (hg : P.globalNamed n = some g) : ∃ t z,w.heap[g]? = some (.cells (zs.map (Value.int k)).toArray t z) := by
 unfold tabB at h
 rw [hg] at h
 simp only [zc4,List.any_eq_true,beq_iff_eq] at h
 obtain ⟨⟨⟨n',d⟩,hm,rfl,hd⟩,ht⟩ := h
 obtain ⟨ps,hv,_⟩ := hL
 obtain ⟨g',t,cs,fuel,p,h1,h2,h3,h4⟩ := zq611 hv _ _ hm
 obtain rfl := Option.some.inj (hg.symm.trans h1)
 rw [h2] at ht
 simp only at ht
 split at ht
 ·rename_i m e hu
  simp only [zc4,decide_eq_true_eq] at ht
  obtain ⟨⟨hc,he⟩,hk⟩ := ht
  split at hk
  ·rename_i k' hk'
   have hk := of_decide_eq_true hk
   subst hk
   simp only at hd
   split at hd
   ·rename_i l
    have := zq1503 _ _ _ hd
    subst this
    have := Lib.cells_of_tab hu hk' he hc h4
    obtain ⟨t',z,hh⟩ := zq501 h1 h3
    exact ⟨t',z,by rw [hh]; congr 1; rw [← this]⟩
   ·cases hd
  ·cases hk
 ·cases ht
theorem zq264 {H : Type} {enc : TypeId × Value → H} {P : Program} {w : World} {base : Nat} {sp : Nat → Bool} {held : Bool} {fuel : Nat} {t e : TypeId} {n : Nat} {cs : List Value} {zs : List ByteArray} {p : List MemPlace}
  (ht : P.underlying t = some (.array n e)) (he : P.underlying e = some .string) (hce : P.cellsOf e = 1) (hct : P.cellsOf t = n)
  (h : DataW.trod enc P w base sp held fuel t cs = some (.agg (zs.map fun z => .lit (.string z.data.toList)),p)) : cs = zs.map Value.string := by
 cases fuel with
 | zero => simp [DataW.trod] at h
 | succ fuel =>
  simp only [DataW.trod,ht,hce,hct,Nat.mul_one] at h
  split at h
  ·rename_i hl
   obtain ⟨xs,hm,hx⟩ := zc7.1 h
   have hxs : xs.map (·.1) = zs.map fun z => (DataW.lit (.string z.data.toList) : DataW H) := by
    have := congrArg Prod.fst hx
    simpa using this
   have hxl : xs.length = n := by simpa using Lib.mapM_length hm
   have hzl : zs.length = n := by
    have := congrArg List.length hxs
    simp at this
    omega
   apply List.ext_getElem?
   intro i
   by_cases hi : i < n
   ·obtain ⟨b,hb,hf⟩ := Lib.mapM_at hm i i (by simp [hi])
    obtain ⟨z,hc,rfl,_⟩ := DataW.trod_string he hf
    have h1 : cs[i]? = some (.string z) := by
     have := congrArg (·[0]?) hc
     simpa [List.getElem?_take,zc40] using this
    have h2 : (xs.map (·.1))[i]? = some (DataW.lit (.string z.data.toList) : DataW H) := by simp [hb]
    rw [hxs] at h2
    simp only [List.getElem?_map,zc7,DataW.lit.injEq,Lit.string.injEq] at h2
    obtain ⟨z',hz',hzz⟩ := h2
    have : z' = z := by
     apply ByteArray.ext
     exact Array.toList_inj.1 hzz
    subst this
    simp [h1,hz']
   ·rw [zc22 (by omega),zc22 (by simp; omega)]
  ·cases h
def zq1347 : List (DataW Unit) → List ByteArray → Bool
 | [],[] => true
 | .lit (.string b) :: l,z :: zs => decide (b = z.data.toList) && zq1347 l zs
 | _,_ => false
theorem zq1348 : ∀ (l : List (DataW Unit)) (zs : List ByteArray),zq1347 l zs = true → l = zs.map fun z => .lit (.string z.data.toList)
 | [],[],_ => rfl
 | [],_ :: _,h => by simp [zq1347] at h
 | d :: l,[],h => by cases d with
  | lit x => cases x <;> simp [zq1347] at h
  | _ => simp [zq1347] at h
 | d :: l,z :: zs,h => by
  cases d with
  | lit x => cases x with
   | string b =>
    simp only [zq1347,zc4,decide_eq_true_eq] at h
    obtain ⟨rfl,h⟩ := h
    rw [zq1348 l zs h]
    rfl
   | _ => simp [zq1347] at h
  | _ => simp [zq1347] at h
def stabB (P : Program) (laid : List (String × DataW Unit)) (n : String) (zs : List ByteArray) : Bool := match P.globalNamed n with
 | none => true
 | some g => (laid.any fun x => x.1 == n && (match x.2 with | .agg l => zq1347 l zs | _ => false)) && (match (P.globals[g]?).map (·.type) with | some t => (match P.underlying t with | some (.array m e) => decide (P.cellsOf t = m) && decide (P.cellsOf e = 1) && (match P.underlying e with | some .string => true | _ => false) | _ => false) | none => false)
theorem zq1349 {P : Program} {w : World} {laid : List (String × DataW Unit)} (hL : laidMet P laid w) {n : String} {zs : List ByteArray} (h : stabB P laid n zs = true) {g : Nat} (hg : P.globalNamed n = some g) : ∃ t z,w.heap[g]? = some (.cells (zs.map Value.string).toArray t z) := by
 unfold stabB at h
 rw [hg] at h
 simp only [zc4,List.any_eq_true,beq_iff_eq] at h
 obtain ⟨⟨⟨n',d⟩,hm,rfl,hd⟩,ht⟩ := h
 obtain ⟨ps,hv,_⟩ := hL
 obtain ⟨g',t,cs,fuel,p,h1,h2,h3,h4⟩ := zq611 hv _ _ hm
 obtain rfl := Option.some.inj (hg.symm.trans h1)
 rw [h2] at ht
 simp only at ht
 split at ht
 ·rename_i m e hu
  simp only [zc4,decide_eq_true_eq] at ht
  obtain ⟨⟨hc,he⟩,hk⟩ := ht
  split at hk
  ·rename_i hk'
   simp only at hd
   split at hd
   ·rename_i l
    have := zq1348 _ _ hd
    subst this
    have := zq264 hu hk' he hc h4
    obtain ⟨t',z,hh⟩ := zq501 h1 h3
    exact ⟨t',z,by rw [hh]; congr 1; rw [← this]⟩
   ·cases hd
  ·cases hk
 ·cases ht
def globB (P : Program) (laid : List (String × DataW Unit)) : Bool := numB P "internal/bytealg.MaxLen" && errB P laid "strconv.ErrSyntax" && errB P laid "strconv.ErrRange" && tabB P laid "internal/strconv.uint64pow10" .u64 zq1029 && tabB P laid "math/bits.deBruijn64tab" .u8 zq1005 && stabB P laid "yardarm/text.words" zq1634
theorem Glob.of_B {P : Program} {w : World} {laid : List (String × DataW Unit)} (hS : w.ShapedOpen P) (hL : laidMet P laid w) (h : globB P laid = true) : Glob P w := by
 simp only [globB,zc4] at h
 obtain ⟨⟨⟨⟨⟨h1,h2⟩,h3⟩,h4⟩,h5⟩,h6⟩ := h
 refine ⟨fun g hg => zq867 hS h1 hg,fun n g hn hg => ?_,fun g hg => zq1504 hL h4 hg,fun g hg => zq1504 hL h5 hg,fun g hg => zq1349 hL h6 hg⟩
 rcases hn with rfl | rfl
 ·exact zq398 hL h2 hg
 ·exact zq398 hL h3 hg
end Go.Ma
namespace Go.Proofs.YtafggolijpopeaaGreatDoor.textBack
open Go Go.Ma Go.ChangeShapes Go.WideShapes Go.ChangeAt Go.RowKit
set_option linter.unusedVariables false
theorem own : ownKnob Tryz.prog.godebug = none := by kernel_rfl
theorem laidOut : laidOutB Tryz.prog = true := by kernel_rfl
theorem one {H : Type} (d : DataW H) : 1 ≤ Rows.uptoBulk d := by
 cases d with
 | lit l => cases l <;> simp [Rows.uptoBulk]
 | _ => simp [Rows.uptoBulk]
theorem len {H : Type} : ∀ l : List (DataW H),l.length ≤ Rows.uptoBulkAll l
 | [] => Nat.zero_le _
 | d :: r => by
  have h1 := one d
  have h2 := len r
  simp only [Rows.uptoBulkAll,zc21]
  omega
theorem part {H : Type} {d : DataW H} : ∀ {l : List (DataW H)},d ∈ l → Rows.uptoBulk d ≤ Rows.uptoBulkAll l
 | e :: r,h => by
  simp only [Rows.uptoBulkAll]
  rcases zc28.1 h with rfl | h
  ·omega
  ·have := part h
   omega
theorem small {H : Type} : Small (H := H) 1048576 (fun d => Rows.uptoBulk d ≤ 1048576) := by
 refine ⟨fun es sp _ h => ?_,fun l q hq h => ?_,fun es sp q hq h => ?_,fun s _ h => ?_⟩
 ·have h1 := len es
  simp only [Rows.uptoBulk] at h
  omega
 ·have h1 := part hq
  simp only [Rows.uptoBulk] at h
  omega
 ·have h1 := part hq
  simp only [Rows.uptoBulk] at h
  omega
 ·simp only [Rows.uptoBulk] at h
  omega
theorem plainly : ∀ x,PsIn [.one (.fl .op),.one (.fl .str)] x → PsLe 1048576 [.one (.fl .op),.one (.fl .str)] x → (fun x => zq621 x.1 x.2.1) x = some ((true : Bool),()) := fun x hx hl => zq17 zq1520 zq1353 hx.1 hl.2.1
set_option maxRecDepth 100000 in
/-- What the walk gives. -/
theorem contract (H : Type) (enc : TypeId × Value → H) (W : World) (base : Nat) (args : Array Value) (ds gs : List (DataW H)) (before : List MemPlace)
  (hval : ∀ (j : Nat) t v,Tryz.f5.params[j]? = some t → args[j]? = some v → Value.okWide Tryz.prog W .any base t v)
  (hW : DataW.Whole enc Tryz.prog Tryz.f5.params.toList Rows.textBackSpec.vars false W args.toList ds gs before) (hk : Rows.uptoSmall H (ds ++ gs) = true) (hG : Glob Tryz.prog W) :
  Calls Tryz.prog 5 args W fun e W' => ∃ v,e = .returned v ∧ Rows.textBackSpec.post enc Tryz.prog Tryz.f5 false true false false W args v W' := by
 have hW' := hW
 obtain ⟨p,q,hA0,hV,rfl,hfz,hnd⟩ := hW
 have hA : DataW.TrodAll enc Tryz.prog W 0 (fun _ => true) true Tryz.f5.params.toList args.toList ds p := hA0
 rw [Tryz.params5] at hA hval
 have hA2 := hA
 obtain ⟨v0,vs0,d0,ds0,p0,q0,hargs,rfl,rfl,h0,r0⟩ := trodAll_cons hA
 obtain ⟨v1,vs1,d1,ds1,p1,q1,rfl,rfl,rfl,h1,r1⟩ := trodAll_cons r0
 obtain ⟨rfl,rfl,rfl⟩ := trodAll_nil r1
 obtain rfl : args = #[v0,v1] := by cases args; simp_all
 obtain ⟨rfl,rfl⟩ := trodVars_none hV
 have hb : Rows.uptoBulkAll ([d0,d1] ++ []) ≤ 1048576 := of_decide_eq_true hk
 rw [List.append_nil] at hb
 have call := zq622 (enc := enc) small hG zq620 plainly (fun x => rfl) (fun x => rfl) (ts := [51,9]) (vs := [v0,v1]) (by kernel_rfl) (fun j t v h1 h2 => hval j t v (by simpa using h1) (by simpa using h2)) hA2 (fun d hd => Nat.le_trans (part hd) hb)
 refine call.mono fun e W' ⟨he,bel⟩ => ?_
 subst he
 exact ⟨_,rfl,_,_,_,[],_,[],hW',trodAll_mk1 (shut_bool Tryz.underlying4 _),zq169 laidOut bel _ _ _ _ (by kernel_rfl) hA2,rfl,bel.frame _,fun h => by cases h⟩
mutual
def flat : DataW Unit → List Value
 | .lit (.int k x) => [.int k x]
 | .lit (.string b) => [.string ⟨b.toArray⟩]
 | .agg l => flats l
 | _ => []
def flats : List (DataW Unit) → List Value
 | [] => []
 | d :: r => flat d ++ flats r
end
def low : Nat := (World.holding Tryz.prog default ⟨#[],#[],[]⟩).heap.size
def laidWorld (os : Os) : World :=
 let w0 := World.holding Tryz.prog os ⟨#[.cells #[.string ⟨#[118,97,108,117,101,32,111,117,116,32,111,102,32,114,97,110,103,101]⟩] 214,.cells #[.string ⟨#[105,110,118,97,108,105,100,32,115,121,110,116,97,120]⟩] 214],#[],[]⟩
 {w0 with heap := ((((((((w0.heap.modify 7 fun | .cells _ t frozen => .cells (flat Rows.laid_math_bits_deBruijn32tab).toArray t frozen | o => o).modify 8 fun | .cells _ t frozen => .cells (flat Rows.laid_math_bits_deBruijn64tab).toArray t frozen | o => o).modify 4 fun | .cells _ t frozen => .cells (flat Rows.laid_internal_strconv_uint64pow10).toArray t frozen | o => o).modify 6 fun | .cells _ t frozen => .cells (flat Rows.laid_unicode_utf8_acceptRanges).toArray t frozen | o => o).modify 3 fun | .cells _ t frozen => .cells #[.iface 212 (.pointer (some ⟨low + 0,0,none⟩))] t frozen | o => o).modify 2 fun | .cells _ t frozen => .cells #[.iface 212 (.pointer (some ⟨low + 1,0,none⟩))] t frozen | o => o).modify 0 fun | .cells _ t frozen => .cells (flat Rows.laid_yardarm_text_words).toArray t frozen | o => o).modify 5 fun | .cells _ t frozen => .cells (flat Rows.laid_unicode_utf8_first).toArray t frozen | o => o) }
theorem laid_met (os : Os) (args : Array Value) : laidMet Tryz.prog Rows.textBackUptoRow.laid ((laidWorld os).forCall (fun _ _ => 0) ⟨#[],args,[]⟩).memory :=
 laidMet_of_run' 8 (by kernel_rfl) (by kernel_rfl)
theorem reads (os : Os) {H : Type} (enc : TypeId × Value → H) : ∃ places,DataW.whole enc Tryz.prog ((laidWorld os).forCall (fun _ _ => 0) ⟨#[],#[.agg #[.int .i64 0,.bool false,.int .u64 0,.int .u64 0,.int .i64 0,.bool false,.int .u64 0,.int .u64 0,.string ByteArray.empty,.int .i64 0,.int .i64 0],.string ByteArray.empty],[]⟩).memory Tryz.f5.params.toList Rows.textBackSpec.vars false (#[.agg #[.int .i64 0,.bool false,.int .u64 0,.int .u64 0,.int .i64 0,.bool false,.int .u64 0,.int .u64 0,.string ByteArray.empty,.int .i64 0,.int .i64 0],.string ByteArray.empty] : Array Value).toList 8 = some ([.agg [.lit (.int .i64 0),.agg [.agg [.lit (.bool false),.lit (.int .u64 0),.lit (.int .u64 0)],.lit (.int .i64 0)],.agg [.lit (.bool false),.lit (.int .u64 0),.lit (.int .u64 0)],.lit (.string []),.lit (.int .i64 0),.lit (.int .i64 0)],.lit (.string [])],[],places) :=
 ⟨[],by kernel_rfl⟩
set_option maxRecDepth 100000 in
theorem lifted (os : Os) (started : os.Started) (H : Type) (enc : TypeId × Value → H) (F : Stop.Interp) :
  ReturnsInHanded {} Tryz.checked os 5 .any ((Rows.OpenSpec.upto Rows.textBackSpec).preRow enc Tryz.prog Tryz.f5 Rows.textBackUptoRow.domain false Rows.textBackUptoRow.laid) (((Rows.OpenSpec.upto Rows.textBackSpec).at F).post enc Tryz.prog Tryz.f5 false true false false) := by
 obtain ⟨places,hx⟩ := reads os enc
 refine returnsInHanded_of_row (C := Tryz.checked) (s := Rows.OpenSpec.upto Rows.textBackSpec) own started (by kernel_rfl) Tryz.func5
  (witness_row_at (enc := enc) (C := Tryz.checked) false (laidWorld os) #[.agg #[.int .i64 0,.bool false,.int .u64 0,.int .u64 0,.int .i64 0,.bool false,.int .u64 0,.int .u64 0,.string ByteArray.empty,.int .i64 0,.int .i64 0],.string ByteArray.empty] rfl (by kernel_rfl) (by kernel_rfl) (by kernel_rfl)
   (OpenSpec.preRow_of_cond 8 hx (by kernel_rfl) (fun k hk => by cases hk; kernel_rfl) (by kernel_rfl) (laid_met os _))) ?_
 intro W base args ds gs before hval hW _ hcond _ hL hS _
 have hL2 : laidMet Tryz.prog Rows.textBackUptoRow.laid W := by rw [← MakeChecks.laidMetH_plain _ _ _ (by kernel_rfl)]; exact hL
 exact contract H enc W base args ds gs before hval hW (hcond _ rfl) (Glob.of_B hS hL2 (by kernel_rfl))
theorem said : Rows.TextBackUptoSaid :=
 OpenClaim.holds_of_cond 5 Tryz.f5 rfl rfl rfl rfl rfl rfl rfl ⟨rfl,rfl,rfl,rfl,rfl⟩ rfl rfl rfl rfl rfl (by kernel_rfl) Tryz.func5 (by kernel_rfl)
  (of_decide_eq_true (by kernel_rfl)) (by unfold Func.isWrapper; first | (rw [if_pos (by decide +kernel)]; kernel_rfl) | (rw [if_neg (by decide +kernel)]; exact ⟨rfl,rfl⟩))
  (fun os started H enc _ F => by rw [OpenClaim.pre_eq_preRow]; exact lifted os started H enc F)
theorem plain (f : FuncId) (fn : Func) (hf : Tryz.pinned.checked.prog.funcNamed "yardarm/yardarmlaw.TextBack" = some f) (hfn : Tryz.pinned.checked.prog.funcs[f]? = some fn) :
  true = Tryz.pinned.checked.prog.looks [] ∧ ∀ (j : Nat) t,fn.params[j]? = some t → Tryz.pinned.checked.prog.wantsStandIn t = false := by
 obtain rfl : f = 5 := Option.some.inj ((show Tryz.prog.funcNamed "yardarm/yardarmlaw.TextBack" = some 5 by kernel_rfl).symm.trans hf) |>.symm
 obtain rfl : fn = Tryz.f5 := (Option.some.inj (Tryz.func5.symm.trans hfn)).symm
 refine ⟨by kernel_rfl,fun j t ht => ?_⟩
 rw [Tryz.params5] at ht
 have hm := Array.mem_of_getElem? ht
 have hm2 : t = 51 ∨ t = 9 := by simpa using hm
 rcases hm2 with rfl | rfl
 ·exact (show Tryz.prog.wantsStandIn 51 = false by kernel_rfl)
 ·exact (show Tryz.prog.wantsStandIn 9 = false by kernel_rfl)
theorem card : Rows.TextBackUptoCardSaid :=
 Claim7.holds_tied_plain_at .later [] _ _ _ _ said (fun _ h => by cases h) (by kernel_rfl) (fun _ h => by cases h) textBackUpto_row_tie rfl ⟨rfl,rfl⟩ (by kernel_rfl) rfl plain (by kernel_rfl)
end Go.Proofs.YtafggolijpopeaaGreatDoor.textBack
namespace Go.Proofs.YtafggolijpopeaaGreatDoor
theorem textBack_said : Rows.TextBackUptoCardSaid := textBack.card
end Go.Proofs.YtafggolijpopeaaGreatDoor
