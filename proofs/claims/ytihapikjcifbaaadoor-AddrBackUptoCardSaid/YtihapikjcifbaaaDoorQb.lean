/-
  Functions of Go's library come to their plain forms, by the kit's contracts.
-/
import Derived.Test.YtihapikjcifbaaaDoorWk
import Derived.Test.YtihapikjcifbaaaDoorQa
import Derived.Test.YtihapikjcifbaaaDoorQs
import Derived.Test.YtihapikjcifbaaaDoorMaS
import Derived.WalkKit
import Derived.ProofKit
import Derived.Laws.IdiomStrings
namespace Go.Proofs.YtihapikjcifbaaaDoor
open Go Go.Ma Go.RowKit Go.Proofs

/-- A function of flat arguments with one flat result, out of a contract for each. -/
theorem one_flat {P : Program} {f : FuncId} {ps : List PS} {k : K} {t : PsT ps → Option (PsT [PS.one (.fl k)])} (vals : PsT ps → List Value)
    (hv : ∀ x ρ, denL ρ (encA false ps x 0).1 = vals x) 
    (h : ∀ x y, t x = some (y, ()) → ∀ w, Glob P w → Calls P f (vals x).toArray w fun e w' => e = .returned (den (fun _ => Go.undef) (flV k y)) ∧ Below w.heap.size w w')
    (hr : ∀ (y : k.T), resR [PS.one (.fl k)] (flV k y) [] = some (y, ())) : TrOk P f (con ps [.one (.fl k)] t) :=
  con_of _ _ _ fun x y hx ρ us vs w hG hu => by
    obtain ⟨y1, u⟩ := y
    have hd := hu.den _ (gives_nameOf us)
    rw [hv x] at hd
    rw [← hd]
    refine (h x y1 hx w hG).mono ?_
    rintro e w' ⟨rfl, hb⟩
    exact ⟨fun _ => Go.undef, flV k y1, [], rfl, ⟨hb, fun j o h => by simp at h, fun i j o o' _ h => by simp at h, fun j o h => by simp at h⟩, hr y1⟩
theorem below_drewN (w : World) (n : Nat) : Below w.heap.size w (w.drewN n) := ⟨rfl, rfl, rfl, Nat.le_refl _, fun _ _ => rfl⟩

noncomputable def internal_stringslite_Index_con : Con := con [.one (.fl .str), .one (.fl .str)] [.one (.fl .int)] (fun x => internal_stringslite_Index_t x.1 x.2.1)
theorem internal_stringslite_Index_ok : TrOk Tryd.prog 58 internal_stringslite_Index_con :=
  one_flat (fun x => [.string x.1, .string x.2.1]) (fun _ _ => rfl) (fun x y hx w hG => by
    obtain ⟨s, sep, u⟩ := x
    unfold internal_stringslite_Index_t at hx
    simp only at hx
    split at hx
    · rename_i c hc
      injection hx with hx
      injection hx with hx
      subst hx
      have hsep : sep = ⟨#[c]⟩ := by
        cases sep with | mk a => 
        have : a = #[c] := Array.toList_inj.1 hc
        rw [this]
      subst hsep
      refine (Go.Proofs.Tryd.stringslite_Index_one s c w).mono ?_
      rintro e w' ⟨rfl, rfl⟩
      exact ⟨rfl, Below.refl _ _⟩
    · cases hx) (fun _ => rfl)
noncomputable def internal_strconv_small_con : Con := con [.one (.fl .int)] [.one (.fl .str)] (fun x => internal_strconv_small_t x.1)
theorem internal_strconv_small_ok : TrOk Tryd.prog 52 internal_strconv_small_con :=
  one_flat (fun x => [.int .i64 x.1]) (fun _ _ => rfl) (fun x y hx w hG => by
    obtain ⟨n, u⟩ := x
    unfold internal_strconv_small_t at hx
    obtain ⟨hq, hx⟩ := req_some hx
    simp only [Bool.and_eq_true, decide_eq_true_eq] at hq
    injection hx with hx
    injection hx with hx
    subst hx
    obtain ⟨i, rfl⟩ := Int.eq_ofNat_of_zero_le hq.1
    refine (Go.Proofs.Tryd.internal_strconv_small i (by omega) w).mono ?_
    rintro e w' ⟨rfl, rfl⟩
    exact ⟨rfl, Below.refl _ _⟩) (fun _ => rfl)
noncomputable def strconv_Itoa_con : Con := con [.one (.fl .int)] [.one (.fl .str)] (fun x => strconv_Itoa_t x.1)
theorem strconv_Itoa_ok : TrOk Tryd.prog 93 strconv_Itoa_con :=
  one_flat (fun x => [.int .i64 x.1]) (fun _ _ => rfl) (fun x y hx w hG => by
    obtain ⟨n, u⟩ := x
    unfold strconv_Itoa_t at hx
    obtain ⟨hq, hx⟩ := req_some hx
    simp only [Bool.and_eq_true, decide_eq_true_eq] at hq
    injection hx with hx
    injection hx with hx
    subst hx
    obtain ⟨i, rfl⟩ := Int.eq_ofNat_of_zero_le hq.1
    refine (Go.Proofs.Tryd.strconv_Itoa_small i (by omega) w).mono ?_
    rintro e w' ⟨rfl, rfl⟩
    exact ⟨rfl, Below.refl _ _⟩) (fun _ => rfl)
theorem str_den (ρ : Nat → Value) : ∀ l : List ByteArray, (List.flatMap (fun a => denL ρ (K.enc .str a)) (show List K.str.T from l)) = l.map Value.string
  | [] => rfl
  | a :: r => by
    show denL ρ (K.enc .str a) ++ List.flatMap (fun a => denL ρ (K.enc .str a)) (show List K.str.T from r) = _
    rw [str_den ρ r]
    rfl
noncomputable def strings_Join_con : Con := con [.one (.row .str 9), .one (.fl .str)] [.one (.fl .str)] (fun x => strings_Join_t x.1 x.2.1)
theorem join_main (l : List ByteArray) (sep : ByteArray) (y : ByteArray × Unit) (hx : strings_Join_t l sep = some y) (ρ : Nat → Value) (us vals : List Value) (w : World)
    (hu : ArgsOk w ρ 0 vals (encA false [.one (.row .str 9), .one (.fl .str)] (l, sep, ()) 0).1 (encA false [.one (.row .str 9), .one (.fl .str)] (l, sep, ()) 0).2 us) :
    Calls Tryd.prog 29 vals.toArray w fun e w' => ∃ ρc r m', e = .returned (den ρc r) ∧ RelM w ρc m' w' ∧ resR [.one (.fl .str)] r m' = some y := by
  have hg := gives_nameOf us
  have hlen := hu.len
  have hdenv := hu.den _ hg
  obtain ⟨v, rfl⟩ : ∃ v, us = [v] := by
    have hl1 : us.length = 1 := hlen
    match us, hl1 with
    | [v], _ => exact ⟨v, rfl⟩
  obtain ⟨hob, _⟩ := hu.obj w _ hg 0 (.row (.ty .str l) 9 false) v rfl rfl
  obtain ⟨_, _, hrow0⟩ := hob
  rw [if_neg (by simp)] at hrow0
  have hrow : RowIs w v l.length 1 (List.flatMap (fun a => denL (nameOf [v]) (K.enc .str a)) (show List K.str.T from l)) := hrow0
  rw [str_den] at hrow
  unfold strings_Join_t at hx
  obtain ⟨hq, hx⟩ := req_some hx
  simp only [Bool.and_eq_true] at hq
  have q2 := Nat.le_of_ble_eq_true hq.1
  have q3 := Nat.le_of_ble_eq_true hq.2
  injection hx with hx
  subst hx
  obtain ⟨_, A, cap, hv, hn, hc, hA, hcells⟩ := hrow
  have hvals : vals = [.slice A l.length cap, .string sep] := hdenv.symm.trans (by rw [hv]; rfl)
  subst hvals
  by_cases hl0 : l = []
  · subst hl0
    refine (Go.Proofs.Tryd.strings_Join_none A cap sep w).mono ?_
    rintro e w' ⟨rfl, rfl⟩
    exact ⟨fun _ => Go.undef, .s ⟨#[]⟩, [], rfl, ⟨Below.refl _ _, fun j o h => by simp at h, fun i j o o' _ h => by simp at h, fun j o h => by simp at h⟩, rfl⟩
  have q1 : 1 ≤ l.length := by
    cases l with
    | nil => exact absurd rfl hl0
    | cons x r => simp
  cases A with
  | none => have := hA rfl; omega
  | some a =>
    obtain ⟨hlt, hcl⟩ := hcells a rfl
    obtain ⟨blk, off, spot⟩ := a
    have hs : spot = none := by
      have h0 := hcl 0 (.string (l[0]'(by omega))) (by simp)
      rw [show Addr.add ⟨blk, off, spot⟩ 0 = ⟨blk, off, spot⟩ from rfl] at h0
      cases spot with
      | none => rfl
      | some q =>
        unfold World.cell? at h0
        split at h0
        · simp at h0
        · cases h0
    subst hs
    have hj := Go.Proofs.Tryd.strings_Join blk off cap l sep w (fun j x hx => by
      have := hcl j (.string x) (by simp [hx])
      rwa [Addr.add_lit] at this) hlt (by omega) hn (by omega)
    refine hj.mono ?_
    rintro e w' ⟨rfl, hb⟩
    refine ⟨fun _ => Go.undef, .s ⟨(Lib.join (l.map (·.data.toList)) sep.data.toList).toArray⟩, [], rfl, ?_, rfl⟩
    exact ⟨hb, fun j o h => by simp at h, fun i j o o' _ h => by simp at h, fun j o h => by simp at h⟩
theorem strings_Join_ok : TrOk Tryd.prog 29 strings_Join_con := con_of _ _ _ fun x y hx ρ us vals w _ hu => join_main x.1 x.2.1 y hx ρ us vals w hu

theorem info9 : (Tryd.prog.info? 9).map (fun i => (i.zero, i.size, i.bytes)) = some (some (.string ByteArray.empty), 1, 16) := by kernel_rfl
set_option maxHeartbeats 1000000 in
theorem split_one (s : ByteArray) (c : UInt8) (w : World) (hs : s.size < 4294967281) :
    Calls Tryd.prog 50 #[.string s, .string ⟨#[c]⟩] w fun e w' =>
      e = .returned (.slice (some ⟨w.heap.size, 0, none⟩) (Lib.countB s ⟨#[c]⟩ + 1) (Lib.countB s ⟨#[c]⟩ + 1)) ∧ w' = w.alloc (.cells ((Lib.splitB ⟨#[c]⟩ 0 (Lib.countB s ⟨#[c]⟩) s).map Value.string).toArray 9) := by
  have h1 : 1 ≤ (⟨#[c]⟩ : ByteArray).size := Nat.le_refl _
  have hle := Lib.countB_le ⟨#[c]⟩ h1 s.size s (Nat.le_refl _)
  have hlen := Lib.splitB_all ⟨#[c]⟩ h1 0 _ s rfl
  have c0 := Go.Proofs.Any.strings_genSplit_core { Go.Proofs.Tryd.lays146 with } info9 s ⟨#[c]⟩ 0 (-1) (Lib.countB s ⟨#[c]⟩ + 1) w hs h1 (Nat.zero_le _)
    (fun x cc hx => (Go.Proofs.Tryd.strings_Index_one x c _).mono fun e w' ⟨he, hw⟩ => ⟨by rw [he, ← Lib.index_one], hw⟩)
    ((Go.Proofs.Tryd.strings_Count_one s c w).mono fun e w' ⟨he, hw⟩ => ⟨by rw [he]; show _ = Ending.returned (Value.int .i64 ((Lib.count s.data.toList [c] : Nat) : Int)); rw [Lib.count_one]; rfl, hw⟩)
    (by decide) (by decide) (by rw [if_pos (by decide)]; omega)
  rw [Nat.add_sub_cancel, hlen] at c0
  have e2 : Lib.cellsOf (Lib.splitB ⟨#[c]⟩ 0 (Lib.countB s ⟨#[c]⟩) s) (Lib.countB s ⟨#[c]⟩ + 1) = ((Lib.splitB ⟨#[c]⟩ 0 (Lib.countB s ⟨#[c]⟩) s).map Value.string).toArray := by rw [← hlen]; exact Lib.cellsOf_full _
  rw [e2] at c0
  have HC : Hid (Calls Tryd.prog 60 #[.string s, .string ⟨#[c]⟩, .int .i64 0, .int .i64 (-1)] w fun e w' => e = .returned (.slice (some ⟨w.heap.size, 0, none⟩) (Lib.countB s ⟨#[c]⟩ + 1) (Lib.countB s ⟨#[c]⟩ + 1)) ∧ w' = w.alloc (.cells ((Lib.splitB ⟨#[c]⟩ 0 (Lib.countB s ⟨#[c]⟩) s).map Value.string).toArray 9)) := c0
  clear c0
  go_enter Tryd.func50, Tryd.ntmps50
  go_wp2_with (go_at_call 60; refine HC.out.mono ?_; rintro e w' ⟨rfl, hw⟩; rw [hw])
  go_ret
  exact ⟨rfl, rfl⟩
noncomputable def strings_Split_con : Con := con [.one (.fl .str), .one (.fl .str)] [.one (.row .str 9)] (fun x => strings_Split_t x.1 x.2.1)
theorem split_main (s sep : ByteArray) (y : List ByteArray × Unit) (hx : strings_Split_t s sep = some y) (ρ : Nat → Value) (us vals : List Value) (w : World)
    (hu : ArgsOk w ρ 0 vals (encA false [.one (.fl .str), .one (.fl .str)] (s, sep, ()) 0).1 (encA false [.one (.fl .str), .one (.fl .str)] (s, sep, ()) 0).2 us) :
    Calls Tryd.prog 50 vals.toArray w fun e w' => ∃ ρc r m', e = .returned (den ρc r) ∧ RelM w ρc m' w' ∧ resR [.one (.row .str 9)] r m' = some y := by
  have hdenv := hu.den _ (gives_nameOf us)
  have hvals : vals = [.string s, .string sep] := hdenv.symm
  subst hvals
  unfold strings_Split_t at hx
  obtain ⟨hq, hx⟩ := req_some hx
  simp only [Bool.and_eq_true] at hq
  have q1 := Nat.le_of_ble_eq_true hq.1
  obtain ⟨c, rfl⟩ := Lib.one_byte sep (Nat.eq_of_beq_eq_true hq.2)
  injection hx with hx
  subst hx
  have hlen := Lib.splitB_all ⟨#[c]⟩ (Nat.le_refl _) 0 _ s rfl
  have hle := Lib.countB_le ⟨#[c]⟩ (Nat.le_refl _) s.size s (Nat.le_refl _)
  refine (split_one s c w (by omega)).mono ?_
  rintro e w' ⟨rfl, rfl⟩
  generalize Lib.splitB ⟨#[c]⟩ 0 (Lib.countB s ⟨#[c]⟩) s = l at hlen ⊢
  rw [← hlen]
  have hn : w.heap[w.heap.size]? = none := by simp
  refine ⟨fun _ => .slice (some ⟨w.heap.size, 0, none⟩) l.length l.length, .row 0, [.row (.ty .str l) 9 true], by simp [den, sliceVal], ?_, rfl⟩
  refine ⟨(Below.refl _ w).alloc (Nat.le_refl _) _, fun j o hj => ?_, fun i j o o' hij hi hj => ?_, fun j o hj => ?_⟩
  · cases j with
    | zero =>
      simp only [List.getElem?_cons_zero, Option.some.injEq] at hj
      subst hj
      refine ⟨(show 0 < K.sz .str by decide), fun u hu => ?_, ?_⟩
      · exact flat_one _ .str _ u hu
      · rw [if_pos rfl]
        have e1 : (C.ty K.str l).den (fun _ => Value.slice (some ⟨w.heap.size, 0, none⟩) l.length l.length) = l.map Value.string := str_den _ _
        rw [e1]
        refine ⟨by show (l.map Value.string).length = l.length * 1; simp, .inr ⟨w.heap.size, l.length, (l.map Value.string).toArray, rfl, Nat.le_refl _, heap_alloc_new w _, Nat.le_refl _, ?_, ?_, ?_⟩⟩
        · unfold maxLen
          omega
        · show (l.map Value.string).toArray.size = l.length * 1
          simp
        · show (l.map Value.string).toArray.toList.take (l.length * 1) = l.map Value.string
          rw [Nat.mul_one, List.take_of_length_le (by simp)]
    | succ j => simp at hj
  · have h1 := (List.getElem?_eq_some_iff.1 hi).1
    have h2 := (List.getElem?_eq_some_iff.1 hj).1
    simp at h1 h2
    omega
  · cases j with
    | zero =>
      simp only [List.getElem?_cons_zero, Option.some.injEq] at hj
      subst hj
      rfl
    | succ j => simp at hj
theorem strings_Split_ok : TrOk Tryd.prog 50 strings_Split_con := con_of _ _ _ fun x y hx ρ us vals w _ hu => split_main x.1 x.2.1 y hx ρ us vals w hu

theorem below_bytes (w : World) (e : TypeId) (s : ByteArray) : Below w.heap.size w (Lib.bytesWorld w e s) := by
  refine ⟨?_, ?_, ?_, by rw [Lib.bytesWorld_size]; omega, fun j hj => Lib.bytesWorld_at_old w e s j hj⟩
  · unfold Lib.bytesWorld World.freeze; rw [if_neg (by decide)]; rfl
  · unfold Lib.bytesWorld World.freeze; rw [if_neg (by decide)]; rfl
  · unfold Lib.bytesWorld World.freeze; rw [if_neg (by decide)]; rfl
theorem below_any (w : World) (e : TypeId) {w' : World} (h : ∃ t, w' = Lib.bytesWorld w e t) : Below w.heap.size w w' := by
  obtain ⟨t, rfl⟩ := h
  exact below_bytes w e t
end Go.Proofs.YtihapikjcifbaaaDoor
