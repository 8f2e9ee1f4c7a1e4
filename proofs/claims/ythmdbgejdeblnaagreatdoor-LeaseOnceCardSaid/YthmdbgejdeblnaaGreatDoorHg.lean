/-
  lease.Twice comes to its plain form: the walk by hand: a map that the call makes, written by a closure.
-/
import Derived.Test.YthmdbgejdeblnaaGreatDoorWk
import Derived.Test.YthmdbgejdeblnaaGreatDoorMaS
import Derived.Test.YthmdbgejdeblnaaGreatDoorHe
import Derived.WalkKit
import Derived.ProofKit
import Derived.Maps.Own
import Derived.StringKeys
import Derived.Maps.OwnOps
import Derived.Maps.Views
import Derived.Shelf.SlicesQ.Load
namespace Go.Proofs.YthmdbgejdeblnaaGreatDoor
open Go Go.Ma Go.RowKit Go.Maps Go.Proofs

def lsV (x : Ls) : Value := .agg #[.bool x.ad.v6, .int .u64 x.ad.hi, .int .u64 x.ad.lo, .string x.who, .int .i64 x.upto]
def lsC (x : Ls) : List Value := [.bool x.ad.v6, .int .u64 x.ad.hi, .int .u64 x.ad.lo, .string x.who, .int .i64 x.upto]
def skey (s : ByteArray) : Lit := .string s.data.toList

theorem zero3 (w : World) : (zeroValue 3).run Tryz.prog w = .ok (.int .i64 0) w := by kernel_rfl

theorem after_store {w w1 : World} {Bx b : Nat} {u0 u1 u2 u3 u4 : Value} (hbx : w.heap[Bx]? = some (Go.Obj.cells #[.map (some b)] 86 (0, 0))) (hbne : Bx ≠ b) (hb : b < w.heap.size) (hg : (w.alloc (Go.Obj.cells #[u0, u1, u2, u3, u4] 40)).grownBy w1 (some b)) :
    w1.cell? ⟨Bx, 0, none⟩ = some (.map (some b)) ∧ w1.cell? ⟨w.heap.size, 3, none⟩ = some u3 := by
  have hBx : Bx < w.heap.size := (Array.getElem?_eq_some_iff.1 hbx).1
  have e1 := hg.block Bx (by simp; omega) (by simpa using hbne)
  have e2 : w1.heap[Bx]? = _ := e1.trans ((Below.heap_alloc w (Go.Obj.cells #[u0, u1, u2, u3, u4] 40) Bx hBx).trans hbx)
  have e3 : w1.heap[w.heap.size]? = _ := (hg.block w.heap.size (by simp) (by simp; omega)).trans (heap_alloc_new w (Go.Obj.cells #[u0, u1, u2, u3, u4] 40))
  constructor
  · simp [World.cell?, e2]
  · simp [World.cell?, e3]

set_option maxRecDepth 100000 in
/-- The closure: one more for somebody; is it more than one? -/
theorem twice1_walk {H : Type} (x : Ls) (Bx b k : Nat) (D : DataW H) (c : Int) (w : World) (hbne : Bx ≠ b) (hbx : w.heap[Bx]? = some (.cells #[.map (some b)] 86 (0, 0)))
    (hown : w.ownsMap Tryz.prog 9 (plainElem Tryz.prog 3) b k D) (hmap : IsMap D) (hk : k < 2048) (hs : x.who.size ≤ 1024) (hc : D.atKey (skey x.who) (.lit (.int .i64 0)) = .lit (.int .i64 c)) (h0 : 0 ≤ c) (h1 : c ≤ 1) :
    Calls Tryz.prog 51 #[lsV x, .pointer (some ⟨Bx, 0, none⟩)] w fun e w' => e = .returned (.bool (decide (1 < c + 1))) ∧ w'.ownsMap Tryz.prog 9 (plainElem Tryz.prog 3) b (k + 1) (D.put (skey x.who) (.lit (.int .i64 (c + 1)))) ∧
      (∃ w1, Below w.heap.size w w1 ∧ w1.grownBy w' (some b)) := by
  have hkey : keyOf Tryz.prog 9 (.string x.who) = some (skey x.who) := Go.WideMaps.keyOf_string_mk Tryz.underlying9 (by unfold maxLen; omega)
  have cb : w.cell? ⟨Bx, 0, none⟩ = some (.map (some b)) := by simp [World.cell?, hbx]
  have hwf : (Lit.int .i64 (c + 1)).wf = true := WalkArith.wf_i64 (by omega)
  have hblt := hown.lt
  have hBx : Bx < w.heap.size := (Array.getElem?_eq_some_iff.1 hbx).1
  have hput : (D.put (skey x.who) (.lit (.int .i64 (c + 1)))).atKey (skey x.who) (.lit (.int .i64 0)) = .lit (.int .i64 (c + 1)) := atKey_put_same hmap (by trivial) _ _
  have litI : ∀ {a b : Int}, (DataW.lit (H := H) (.int .i64 a)) = .lit (.int .i64 b) → a = b := fun h => by cases h; rfl
  simp only [lsV]
  go_enter Tryz.func51, Tryz.ntmps51
  go_wp2_with (first
    | (at_lookup; refine wpList_lookup_own_int _ rfl _ _ 86 rfl 9 3 .i64 (string_keyed Tryz.underlying9) Tryz.underlying86 Tryz.underlying3 (zero3 _) b (k + 1) (D.put (skey x.who) (.lit (.int .i64 (c1 + 1)))) rfl hown1 _ _ rfl hkey ?_; intro c2 hat2 hwc2; obtain rfl := litI (hat2.symm.trans hput))
    | (at_lookup; refine wpList_lookup_own_int _ rfl _ _ 86 rfl 9 3 .i64 (string_keyed Tryz.underlying9) Tryz.underlying86 Tryz.underlying3 (zero3 _) b k D rfl (hown.alloc _) _ _ rfl hkey ?_; intro c1 hat1 hwc1; obtain rfl := litI (hat1.symm.trans hc))
    | (at_mapUpdate; refine wpList_mapUpdate_own _ rfl _ _ _ 86 rfl 9 3 (string_keyed Tryz.underlying9) Tryz.underlying86 _ b k D rfl (hown.alloc _) (by unfold maxLen; omega) _ _ (skey x.who) rfl rfl hkey (.lit (.int .i64 (c1 + 1))) [] (plainElem_int Tryz.underlying3 hwf) ?_; intro w1 hown1 hgrow1; obtain ⟨cb1, cw1⟩ := after_store hbx hbne hblt hgrow1))
  go_ret
  exact ⟨rfl, hown1, _, (Below.refl _ w).alloc (Nat.le_refl _) _, hgrow1⟩

/-- Who has been met: the last first. -/
def seenL (l : List Ls) (k : Nat) : List ByteArray := ((l.take k).map Ls.who).reverse
theorem seenL_succ {l : List Ls} {k : Nat} (h : k < l.length) : seenL l (k + 1) = (l[k]).who :: seenL l k := by
  unfold seenL
  rw [List.take_succ_eq_append_getElem h, List.map_append, List.reverse_append]
  rfl
def met (l : List Ls) (k : Nat) (s : ByteArray) : Int := bif (seenL l k).any (fun t => decide (t = s)) then 1 else 0
theorem skey_inj {a b : ByteArray} (h : skey a = skey b) : a = b := by
  have h1 : a.data.toList = b.data.toList := by unfold skey at h; injection h
  have h2 : a.data = b.data := Array.toList_inj.1 h1
  cases a; cases b; cases h2; rfl
theorem met_succ {l : List Ls} {k : Nat} (h : k < l.length) (s : ByteArray) (h0 : met l k (l[k]).who = 0) : met l (k + 1) s = if (l[k]).who = s then 1 else met l k s := by
  unfold met
  rw [seenL_succ h, List.any_cons]
  by_cases he : (l[k]).who = s
  · rw [if_pos he, decide_eq_true he]
    rfl
  · rw [if_neg he]
    have : decide ((l[k]).who = s) = false := decide_eq_false he
    rw [this, Bool.false_or]
theorem met_le (l : List Ls) (k : Nat) (s : ByteArray) : 0 ≤ met l k s ∧ met l k s ≤ 1 := by
  unfold met
  cases (seenL l k).any (fun t => decide (t = s)) <;> decide
theorem twiceL_step {l : List Ls} {k : Nat} (h : k < l.length) : twiceL (seenL l k) (l.drop k) = bif decide (1 < met l k (l[k]).who + 1) then true else twiceL (seenL l (k + 1)) (l.drop (k + 1)) := by
  rw [List.drop_eq_getElem_cons h, seenL_succ h]
  show (bif (seenL l k).any (fun s => decide (s = (l[k]).who)) then true else _) = _
  unfold met
  cases (seenL l k).any (fun t => decide (t = (l[k]).who)) <;> rfl

set_option maxRecDepth 100000 in
/-- slices.IndexFunc with the closure. -/
theorem twiceIdx_walk {H : Type} (A : Option Addr) (l : List Ls) (cap : Nat) (w0 w : World) (Bx b : Nat) (hbne : Bx ≠ b) (hlen : l.length ≤ 1024) (hwho : ∀ x ∈ l, x.who.size ≤ 1024)
    (hcells : ∀ W, Below w0.heap.size w0 W → ∀ k (h : k < l.length), ∃ a, A = some a ∧ ∀ i v, (lsC (l[k]))[i]? = some v → W.cell? ((a.add (k * 5)).add i) = some v)
    (hA : 0 < l.length → A ≠ none) (hb0 : w0.heap.size ≤ b) (hB0 : w0.heap.size ≤ Bx) (hbw : Below w0.heap.size w0 w) (hbx : w.heap[Bx]? = some (.cells #[.map (some b)] 86 (0, 0)))
    (hown : w.ownsMap (H := H) Tryz.prog 9 (plainElem Tryz.prog 3) b 0 (.map [])) :
    Calls Tryz.prog 52 #[.slice A l.length cap, .func (.func 51) #[] #[.pointer (some ⟨Bx, 0, none⟩)]] w fun e w' => ∃ i : Int, e = .returned (.int .i64 i) ∧ decide (0 ≤ i) = twiceL [] l ∧ Below w0.heap.size w0 w' := by
  have HC : Hid (∀ W, Below w0.heap.size w0 W → ∀ k (h : k < l.length), ∃ a, A = some a ∧ ∀ i v, (lsC (l[k]))[i]? = some v → W.cell? ((a.add (k * 5)).add i) = some v) := hcells
  clear hcells
  obtain ⟨nn, hnn⟩ : ∃ nn : Nat, nn = l.length := ⟨_, rfl⟩
  have HN : Hid (nn = l.length) := hnn
  rw [← hnn] at hlen hA ⊢
  clear hnn
  go_enter Tryz.func52, Tryz.ntmps52
  go_wp2
  go_loopw [8] (fun i wr => ∃ (k : Nat) (D : DataW H), k ≤ nn ∧ i = .int .i64 k ∧ wr.ownsMap Tryz.prog 9 (plainElem Tryz.prog 3) b k D ∧ IsMap D ∧ (∀ s : ByteArray, D.atKey (skey s) (.lit (.int .i64 0)) = .lit (.int .i64 (met l k s))) ∧ twiceL (seenL l k) (l.drop k) = twiceL [] l ∧
      wr.heap[Bx]? = some (.cells #[.map (some b)] 86 (0, 0)) ∧ Below w0.heap.size w0 wr)
    (fun i _ => nn - (intOf i).toNat)
  case atStart => exact ⟨0, .map [], Nat.zero_le _, rfl, hown, isMap_empty, fun s => rfl, rfl, hbx, hbw⟩
  case round =>
    obtain ⟨k, D, hk, rfl, hown, hmap, hspec, htw, hbx, hbw⟩ := hrel
    by_cases hlt : k < nn
    · have hkl : k < l.length := by rw [← HN.out]; exact hlt
      obtain ⟨a, rfl, hl⟩ := HC.out wr hbw k hkl
      have q0 : wr.cell? (a.add (k * 5)) = some (.bool (l[k]).ad.v6) := hl 0 _ rfl
      have q1 : wr.cell? ⟨(a.add (k * 5)).block, (a.add (k * 5)).off + 1, none⟩ = some (.int .u64 (l[k]).ad.hi) := hl 1 _ rfl
      have q2 : wr.cell? ⟨(a.add (k * 5)).block, (a.add (k * 5)).off + 2, none⟩ = some (.int .u64 (l[k]).ad.lo) := hl 2 _ rfl
      have q3 : wr.cell? ⟨(a.add (k * 5)).block, (a.add (k * 5)).off + 3, none⟩ = some (.string (l[k]).who) := hl 3 _ rfl
      have q4 : wr.cell? ⟨(a.add (k * 5)).block, (a.add (k * 5)).off + 4, none⟩ = some (.int .i64 (l[k]).upto) := hl 4 _ rfl
      clear hl
      have hmem : l[k] ∈ l := List.getElem_mem _
      have hcall := twice1_walk (l[k]) Bx b k D (met l k (l[k]).who) wr hbne hbx hown hmap (by omega) (hwho _ hmem) (hspec _) (met_le _ _ _).1 (met_le _ _ _).2
      have hst := twiceL_step hkl
      have HM : Hid (∀ s : ByteArray, D.atKey (skey s) (.lit (.int .i64 0)) = .lit (.int .i64 (met l k s))) := hspec
      have HT : Hid (twiceL (seenL l k) (l.drop k) = twiceL [] l) := htw
      have HS : Hid (twiceL (seenL l k) (l.drop k) = bif decide (1 < met l k (l[k]).who + 1) then true else twiceL (seenL l (k + 1)) (l.drop (k + 1))) := hst
      have HI : Hid (IsMap D) := hmap
      have hle := met_le l k (l[k]).who
      clear hspec htw hst hmap
      have hltI : (k : Int) < (nn : Int) := by omega
      simp only [lsV] at hcall
      have hblt : b < wr.heap.size := hown.lt
      by_cases hmm : 1 < met l k (l[k]).who + 1
      · rw [decide_eq_true hmm] at hcall
        go_wp2_with (go_at_call 51; refine hcall.mono ?_; rintro e w' ⟨rfl, hown', w1, hb1, hg1⟩)
        go_ret
        refine ⟨_, rfl, ?_, ?_⟩
        · rw [← HT.out, HS.out, decide_eq_true hmm]
          simp
        · exact (hbw.trans (hb1.mono hbw.size)).grown hg1 (Nat.le_trans hbw.size hb1.size) (fun j hj => by cases hj; exact hb0)
      · rw [decide_eq_false hmm] at hcall
        go_wp2_with (go_at_call 51; refine hcall.mono ?_; rintro e w' ⟨rfl, hown', w1, hb1, hg1⟩)
        go_roundw
        case rel =>
          refine ⟨k + 1, _, by omega, by go_num, hown', HI.out.put _ _, fun s => ?_, ?_, ?_, ?_⟩
          · have h0 : met l k (l[k]).who = 0 := by omega
            rw [met_succ hkl s h0]
            by_cases hs : (l[k]).who = s
            · rw [if_pos hs, ← hs, atKey_put_same HI.out (by trivial), h0]
              rfl
            · rw [if_neg hs, atKey_put_other (fun e => hs (skey_inj e).symm), HM.out s]
          · rw [← HT.out, HS.out, decide_eq_false (show ¬ (1 < met l k (l[k]).who + 1) by omega)]
            rfl
          · have h1 := (Array.getElem?_eq_some_iff.1 hbx).1
            have e1 := hg1.block Bx (Nat.lt_of_lt_of_le h1 hb1.size) (by simpa using hbne)
            exact e1.trans ((hb1.block Bx h1).trans hbx)
          · exact (hbw.trans (hb1.mono hbw.size)).grown hg1 (Nat.le_trans hbw.size hb1.size) (fun j hj => by cases hj; exact hb0)
        case measure => simp [intOf]; omega
    · have hkn : k = nn := by omega
      subst hkn
      go_wp2
      go_ret
      refine ⟨-1, rfl, ?_, hbw⟩
      rw [← htw]
      rw [HN.out, List.drop_length]
      rfl

set_option maxRecDepth 100000 in
theorem twice_walk {H : Type} (A : Option Addr) (l : List Ls) (cap : Nat) (w : World) (hlen : l.length ≤ 1024) (hwho : ∀ x ∈ l, x.who.size ≤ 1024)
    (hcells : ∀ W, Below w.heap.size w W → ∀ k (h : k < l.length), ∃ a, A = some a ∧ ∀ i v, (lsC (l[k]))[i]? = some v → W.cell? ((a.add (k * 5)).add i) = some v) (hA : 0 < l.length → A ≠ none) :
    Calls Tryz.prog 25 #[.slice A l.length cap] w fun e w' => e = .returned (.bool (twiceL [] l)) ∧ Below w.heap.size w w' := by
  have hmm := @run_makeMap Tryz.prog
  have HI : Hid (∀ W Bx b, Bx ≠ b → w.heap.size ≤ b → w.heap.size ≤ Bx → Below w.heap.size w W → W.heap[Bx]? = some (.cells #[.map (some b)] 86 (0, 0)) → W.ownsMap (H := H) Tryz.prog 9 (plainElem Tryz.prog 3) b 0 (.map []) →
      Calls Tryz.prog 50 #[.slice A l.length cap, .func (.func 51) #[] #[.pointer (some ⟨Bx, 0, none⟩)]] W fun e w' => e = .returned (.bool (twiceL [] l)) ∧ Below w.heap.size w w') := by
    intro W Bx b h1 h2 h3 h4 h5 h6
    have hc := twiceIdx_walk (H := H) A l cap w W Bx b h1 hlen hwho hcells hA h2 h3 h4 h5 h6
    clear hcells hmm
    go_enter Tryz.func50, Tryz.ntmps50
    go_wp2_with (go_at_call 52; refine hc.mono ?_; rintro e w' ⟨i, rfl, hi, hb⟩)
    go_ret
    exact ⟨rfl, hb⟩
  clear hcells
  go_enter Tryz.func25, Tryz.ntmps25
  go_wp2_with (go_at_call 50; refine (HI.out _ (w.heap.size + 1) w.heap.size (by omega) (by omega) (by omega) ?_ ?_ ?_).mono ?_)
  · exact ((Below.refl _ w).alloc (Nat.le_refl _) _).alloc (by simp) _
  · have := heap_alloc_new (w.alloc (Go.Obj.map #[] 0)) (Go.Obj.cells #[.map (some w.heap.size)] 86)
    simpa using this
  · exact (World.ownsMap_made w _ _ _).alloc _
  · rintro e w' ⟨rfl, hb⟩
    go_wp2
    go_ret
    exact ⟨rfl, hb⟩

noncomputable def lease_Twice_con : Con := con [.one (.row .lease 40)] [.one (.fl .bool)] (fun x => lease_Twice_t x.1)
theorem twice_main (l : List Ls) (y : Bool × Unit) (hx : lease_Twice_t l = some y) (ρ : Nat → Value) (us vals : List Value) (w : World)
    (hu : ArgsOk w ρ 0 vals (encA false [.one (.row .lease 40)] (l, ()) 0).1 (encA false [.one (.row .lease 40)] (l, ()) 0).2 us) :
    Calls Tryz.prog 25 vals.toArray w fun e w' => ∃ ρc r m', e = .returned (den ρc r) ∧ RelM w ρc m' w' ∧ resR [.one (.fl .bool)] r m' = some y := by
  have hg := gives_nameOf us
  have hlen := hu.len
  have hdenv := hu.den _ hg
  obtain ⟨v, rfl⟩ : ∃ v, us = [v] := by
    have hl1 : us.length = 1 := hlen
    match us, hl1 with
    | [v], _ => exact ⟨v, rfl⟩
  obtain ⟨hob, _⟩ := hu.obj w _ hg 0 (.row (.ty .lease l) 40 false) v rfl rfl
  obtain ⟨_, _, hrow0⟩ := hob
  rw [if_neg (by simp)] at hrow0
  have hrow : RowIs w v l.length 5 (l.flatMap fun a => denL (nameOf [v]) (K.enc .lease a)) := hrow0
  obtain ⟨hq, hx⟩ := req_some hx
  simp only [Bool.and_eq_true, List.all_eq_true] at hq
  have hq1 : l.length ≤ 1024 := Nat.le_of_ble_eq_true hq.1
  have hq2 : ∀ x ∈ l, x.who.size ≤ 1024 := fun x hx => Nat.le_of_ble_eq_true (hq.2 x hx)
  injection hx with hx
  subst hx
  have hrowW : ∀ W, Below w.heap.size w W → RowIs W v l.length 5 (l.flatMap fun a => denL (nameOf [v]) (K.enc .lease a)) := fun W hW => row_below hrow hW
  obtain ⟨_, A, cap, hv, hn, hc, hA, _⟩ := hrow
  have hvals : vals = [.slice A l.length cap] := hdenv.symm.trans (by rw [hv]; rfl)
  subst hvals
  refine (twice_walk (H := Unit) A l cap w hq1 hq2 (fun W hW k hk => ?_) (fun h e => by have := hA e; omega)).mono ?_
  · obtain ⟨_, A', cap', hv', _, _, hA', hcells⟩ := hrowW W hW
    rw [hv] at hv'
    injection hv' with h1 h2 h3
    subst h1
    cases A with
    | none => have := hA rfl; omega
    | some a =>
      obtain ⟨hlt, hcl⟩ := hcells a rfl
      refine ⟨a, rfl, fun i u hi => ?_⟩
      rw [add_add']
      exact hcl _ _ (flat_get (nameOf [v]) .lease l k (l[k]) (List.getElem?_eq_getElem hk) i u hi)
  · rintro e w' ⟨rfl, hb⟩
    refine ⟨fun _ => Go.undef, .b (twiceL [] l), [], rfl, ?_, rfl⟩
    exact ⟨hb, fun j o h => by simp at h, fun i j o o' _ h => by simp at h, fun j o h => by simp at h⟩
/-- **lease.Twice**. -/
theorem lease_Twice_ok : TrOk Tryz.prog 25 lease_Twice_con := con_of _ _ _ fun x y hx ρ us vals w _ hu => twice_main x.1 y hx ρ us vals w hu
end Go.Proofs.YthmdbgejdeblnaaGreatDoor
