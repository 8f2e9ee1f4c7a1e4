/-
  R.NextOf comes to its plain form: the walk by hand: the bytes of a string, written from the end.
-/
import Derived.Test.YthmdbgejdeblnaaGreatDoorWk
import Derived.Test.YthmdbgejdeblnaaGreatDoorMaS
import Derived.Test.YthmdbgejdeblnaaGreatDoorHe
import Derived.WalkKit
import Derived.ProofKit
import Derived.Laws.IdiomStrings
import Derived.RangeFuncNested
namespace Go.Proofs.YthmdbgejdeblnaaGreatDoor
open Go Go.Ma Go.RowKit Go.Proofs

/-- The bytes, the last ones noughts. -/
def cur (bs : List UInt8) (j : Nat) : List UInt8 := bs.take j ++ List.replicate (bs.length - j) 48
theorem cur_len (bs : List UInt8) (j : Nat) (h : j ≤ bs.length) : (cur bs j).length = bs.length := by simp [cur]; omega
theorem cur_full (bs : List UInt8) : cur bs bs.length = bs := by simp [cur]
theorem cur_at (bs : List UInt8) (q : Nat) (h : q < bs.length) : (cur bs (q + 1))[q]? = some bs[q] := by
  unfold cur
  rw [List.getElem?_append_left (by simp; omega), List.getElem?_take_of_lt (by omega), List.getElem?_eq_getElem h]
theorem cur_set (bs : List UInt8) (q : Nat) (h : q < bs.length) : (cur bs (q + 1)).set q 48 = cur bs q := by
  unfold cur
  rw [List.take_succ_eq_append_getElem h, List.append_assoc, List.set_append_right _ _ (by simp; omega)]
  have : q - (bs.take q).length = 0 := by simp; omega
  rw [this]
  have h2 : bs.length - q = bs.length - (q + 1) + 1 := by omega
  rw [h2, List.replicate_succ]
  rfl
theorem cur_one (bs : List UInt8) (q : Nat) (h : q < bs.length) : (cur bs (q + 1)).set q 49 = bs.take q ++ 49 :: List.replicate (bs.length - (q + 1)) 48 := by
  unfold cur
  rw [List.take_succ_eq_append_getElem h, List.append_assoc, List.set_append_right _ _ (by simp; omega)]
  have : q - (bs.take q).length = 0 := by simp; omega
  rw [this]
  rfl
/-- What is to come. -/
def IncAt (bs : List UInt8) (j : Nat) : Prop := incR bs.reverse = (incR (bs.take j).reverse).map (List.replicate (bs.length - j) 48 ++ ·)
theorem incAt_full (bs : List UInt8) : IncAt bs bs.length := by simp [IncAt]
theorem incAt_zero {bs : List UInt8} (h : IncAt bs 0) : incR bs.reverse = none := by simpa [IncAt, incR] using h
theorem incAt_step {bs : List UInt8} {q : Nat} (h : q < bs.length) (hi : IncAt bs (q + 1)) (hc : ¬ bs[q] = 48) : IncAt bs q := by
  unfold IncAt at *
  rw [hi, List.take_succ_eq_append_getElem h, List.reverse_append]
  show Option.map _ (incR (bs[q] :: (bs.take q).reverse)) = _
  simp only [incR, hc, if_false, Option.map_map]
  congr 1
  funext l
  have h2 : bs.length - q = bs.length - (q + 1) + 1 := by omega
  simp only [Function.comp, h2, List.replicate_succ', List.append_assoc]
  rfl
theorem incAt_hit {bs : List UInt8} {q : Nat} (h : q < bs.length) (hi : IncAt bs (q + 1)) (hc : bs[q] = 48) : ∃ l, incR bs.reverse = some l ∧ l.reverse = (cur bs (q + 1)).set q 49 := by
  unfold IncAt at *
  rw [List.take_succ_eq_append_getElem h, List.reverse_append] at hi
  have : incR ((bs[q] :: (bs.take q).reverse)) = some (49 :: (bs.take q).reverse) := by simp only [incR, hc, if_true]
  rw [show [bs[q]].reverse ++ (bs.take q).reverse = bs[q] :: (bs.take q).reverse from rfl, this] at hi
  exact ⟨_, hi, by rw [cur_one _ _ h]; simp⟩

theorem set3h {w : World} {N : Nat} {x y z a b c : Value} {t : TypeId} (h : w.heap[N]? = some (Go.Obj.cells #[x, y, z] t (0, 0))) :
    (((w.setCell ⟨N, 0, none⟩ a).setCell ⟨N, 1, none⟩ b).setCell ⟨N, 2, none⟩ c).heap[N]? = some (Go.Obj.cells #[a, b, c] t (0, 0)) ∧
    (∀ k, k ≠ N → (((w.setCell ⟨N, 0, none⟩ a).setCell ⟨N, 1, none⟩ b).setCell ⟨N, 2, none⟩ c).heap[k]? = w.heap[k]?) ∧
    Below N w (((w.setCell ⟨N, 0, none⟩ a).setCell ⟨N, 1, none⟩ b).setCell ⟨N, 2, none⟩ c) := by
  obtain ⟨h1, h2, _⟩ := setCells_spec w N 0 [a, b, c] #[x, y, z] t (0, 0) h
  refine ⟨h1, h2, ?_⟩
  exact (((Below.refl N w).setCell (p := ⟨N, 0, none⟩) (Nat.le_refl _) _).setCell (p := ⟨N, 1, none⟩) (Nat.le_refl _) _).setCell (p := ⟨N, 2, none⟩) (Nat.le_refl _) _
theorem three_cellsh {w : World} {N : Nat} {a b c : Value} {t : TypeId} (this : w.heap[N]? = some (Go.Obj.cells #[a, b, c] t (0, 0))) :
    w.cell? ⟨N, 0, none⟩ = some a ∧ w.cell? ⟨N, 1, none⟩ = some b ∧ w.cell? ⟨N, 2, none⟩ = some c ∧ w.frozen? ⟨N, 0, none⟩ = false ∧ w.frozen? ⟨N, 1, none⟩ = false ∧ w.frozen? ⟨N, 2, none⟩ = false := by
  refine ⟨?_, ?_, ?_, ?_, ?_, ?_⟩ <;> simp [World.cell?, World.frozen?, this]
def adV3 (a : Ad) : Value := .agg #[.bool a.v6, .int .u64 a.hi, .int .u64 a.lo]
/-- The cells are these bytes, and more behind. -/
def ByteCells (C : Array Value) (l : List UInt8) : Prop := ∀ q (h : q < l.length), C[q]? = some (.int .u8 (l[q].toNat : Int))
theorem byteCells_set {C : Array Value} {l : List UInt8} (h : ByteCells C l) {q : Nat} (hq : q < l.length) (c : UInt8) : ByteCells (C.setIfInBounds q (.int .u8 (c.toNat : Int))) (l.set q c) := by
  intro k hk
  have hk' : k < l.length := by simpa using hk
  by_cases e : k = q
  · subst e
    have := (Array.getElem?_eq_some_iff.1 (h k hk')).1
    simp [this]
  · rw [Array.getElem?_setIfInBounds_ne (by omega), List.getElem_set_ne (by omega)]
    exact h k hk'

set_option maxRecDepth 100000 in
set_option maxHeartbeats 4000000 in
theorem nextOf_walk (a : Ad) (s : ByteArray) (w : World) (hs : s.size ≤ 1024) (r : Ad × Bool) (HB : ∀ W, Below w.heap.size w W → Calls Tryz.prog 31 #[adV3 a] W fun e w' => e = .returned (.string s) ∧ Below W.heap.size W w')
    (hnone : incR s.data.toList.reverse = none → r = (⟨false, 0, 0⟩, false))
    (hsome : ∀ l, incR s.data.toList.reverse = some l → ∃ b, r = (b, true) ∧ ∀ W, Below w.heap.size w W → Calls Tryz.prog 32 #[.string ⟨l.reverse.toArray⟩] W fun e w' => e = .returned (adV3 b) ∧ Below W.heap.size W w') :
    Calls Tryz.prog 12 #[adV3 a] w fun e w' => e = .returned (.tuple #[adV3 r.1, .bool r.2]) ∧ Below w.heap.size w w' := by
  have hcv := fun w s => run_bytes_of_string (P := Tryz.prog) w 9 65 5 s Tryz.underlying9 Tryz.underlying65 Tryz.underlying5
  have HBx := HB _ ((((Below.refl w.heap.size w).alloc (Nat.le_refl _) (.cells #[.bool a.v6, .int .u64 a.hi, .int .u64 a.lo] 24)).alloc (by simp) (.cells #[.bool false, .int .u64 0, .int .u64 0] 24)))
  simp only [adV3] at HBx ⊢
  go_enter Tryz.func12, Tryz.ntmps12
  go_wp2_with (go_at_call 31; refine HBx.mono ?_; rintro e w1 ⟨rfl, hb1⟩)
  obtain ⟨B, hB⟩ : ∃ B, B = w1.heap.size := ⟨_, rfl⟩
  obtain ⟨cap, hcap⟩ : ∃ cap, cap = grownCap w1 s.size 0 5 := ⟨_, rfl⟩
  rw [← hB, ← hcap]
  obtain ⟨C0, hC0⟩ : ∃ C0, C0 = bytesRow s cap := ⟨_, rfl⟩
  rw [← hC0]
  obtain ⟨bs, hbs⟩ : ∃ bs, bs = s.data.toList := ⟨_, rfl⟩
  have hn : s.size = bs.length := by rw [hbs]; simp
  have hcells0 : ByteCells C0 bs := fun q hq => by
    rw [hC0, bytesRow, Array.getElem?_append_left (by simp; omega)]
    subst hbs
    simp at hq
    simp [hq]
  have hw1 : w.heap.size + 1 < w1.heap.size := by have := hb1.size; simp at this; omega
  have hres : w1.heap[w.heap.size + 1]? = some (Go.Obj.cells #[.bool false, .int .u64 0, .int .u64 0] 24 (0, 0)) := by
    refine (hb1.block (w.heap.size + 1) (by simp)).trans ?_
    have := heap_alloc_new (w.alloc (Go.Obj.cells #[.bool a.v6, .int .u64 a.hi, .int .u64 a.lo] 24)) (Go.Obj.cells #[.bool false, .int .u64 0, .int .u64 0] 24)
    simpa using this
  have hbw : Below w.heap.size w w1 := (((Below.refl w.heap.size w).alloc (Nat.le_refl _) _).alloc (by simp) _).trans (hb1.mono (by simp; omega))
  rw [hn]
  have HN : Hid (incR bs.reverse = none → r = (⟨false, 0, 0⟩, false)) := by rw [hbs]; exact hnone
  have HS : Hid (∀ l, incR bs.reverse = some l → ∃ b, r = (b, true) ∧ ∀ W, Below w.heap.size w W → Calls Tryz.prog 32 #[.string ⟨l.reverse.toArray⟩] W fun e w' => e = .returned (adV3 b) ∧ Below W.heap.size W w') := by rw [hbs]; exact hsome
  have HM : Hid (bs.length ≤ 1024) := by rw [← hn]; exact hs
  clear hnone hsome hcv HBx HB hbs hC0 hcap hs hn
  go_loopw [5] (fun i wr => ∃ (j : Nat) (C : Array Value) (iv : Int), j ≤ bs.length ∧ i = .int .i64 iv ∧ iv = (j : Int) - 1 ∧ wr.heap[B]? = some (.cells C 5 (C.size, C.size + 1)) ∧ ByteCells C (cur bs j) ∧ IncAt bs j ∧
      wr.heap[w.heap.size + 1]? = some (.cells #[.bool false, .int .u64 0, .int .u64 0] 24 (0, 0)) ∧ Below w.heap.size w wr)
    (fun i _ => (intOf i + 1).toNat)
  case atStart =>
    refine ⟨bs.length, C0, _, Nat.le_refl _, rfl, ?_, ?_, by rw [cur_full]; exact hcells0, incAt_full _, ?_, ?_⟩
    · have := HM.out
      first | rfl | omega
    · subst hB
      exact heap_alloc_new w1.drew _
    · exact (Below.heap_alloc w1.drew _ (w.heap.size + 1) hw1).trans hres
    · exact (show Below w.heap.size w w1.drew from ⟨hbw.os, hbw.tape, hbw.output, hbw.size, hbw.block⟩).alloc (show w.heap.size ≤ w1.heap.size by omega) _
  case round =>
    obtain ⟨j, C, iv, hj, rfl, hiv, hC, hbc, hinc, hz, hbw⟩ := hrel
    have hwB : w.heap.size + 1 < B := by omega
    cases j with
    | zero =>
      have hneg : ¬ (0 : Int) ≤ iv := by omega
      have hr := HN.out (incAt_zero hinc)
      obtain ⟨z0, z1, z2, z3, z4, z5⟩ := three_cellsh hz
      obtain ⟨s1, s2, s3⟩ := set3h (a := .bool false) (b := .int .u64 0) (c := .int .u64 0) hz
      obtain ⟨y0, y1, y2, _⟩ := three_cellsh s1
      have HP : Hid (Below (w.heap.size + 1) wr (((wr.setCell ⟨w.heap.size + 1, 0, none⟩ (.bool false)).setCell ⟨w.heap.size + 1, 1, none⟩ (.int .u64 0)).setCell ⟨w.heap.size + 1, 2, none⟩ (.int .u64 0)) ∧ Below w.heap.size w wr ∧ r = (⟨false, 0, 0⟩, false)) := ⟨s3, hbw, hr⟩
      clear HS HM HN hr s1 s2 s3 hbw hbc hinc hC hz hres hcells0 hb1 hB hw1 hiv
      go_wp2
      have hB3 := HP.out.2.1.trans (HP.out.1.mono (by omega))
      refine bodyPost_ret (v := .tuple #[.agg #[.bool false, .int .u64 0, .int .u64 0], .bool false]) ?_ rfl ⟨?_, hB3⟩
      · simp [results, Tryz.f12, go_sem, y0, y1, y2]
      · rw [HP.out.2.2]
    | succ q =>
      obtain rfl : iv = (q : Int) := by omega
      have hlt : q < bs.length := by omega
      have hwr : wrap64 ((q : Int) - 1) = (q : Int) - 1 := by have := HM.out; unfold wrap64; omega
      have hlc := cur_len bs (q + 1) hj
      have hat : (cur bs (q + 1))[q]'(by omega) = bs[q] := by
        have := cur_at bs q hlt
        rw [List.getElem?_eq_getElem (by omega)] at this
        simpa using this
      have hcell := hbc q (by omega)
      rw [hat] at hcell
      have cB : wr.cell? ⟨B, q, none⟩ = some (.int .u8 (bs[q].toNat : Int)) := by simp [World.cell?, hC, hcell]
      have fB : wr.frozen? ⟨B, q, none⟩ = false := by
        have := (Array.getElem?_eq_some_iff.1 hcell).1
        simp [World.frozen?, hC]
        omega
      have hset := fun v => setCell_heap wr B q v C 5 (C.size, C.size + 1) hC
      by_cases hc : bs[q] = 48
      · have hcI : (bs[q].toNat : Int) = 48 := by rw [hc]; rfl
        obtain ⟨l, hl1, hl2⟩ := incAt_hit hlt hinc hc
        obtain ⟨b, hr, HA⟩ := HS.out l hl1
        simp only [adV3] at HA
        have hl3 : (l.reverse).length = bs.length := by rw [hl2]; simpa using hlc
        have hback : ∀ W, W = wr.setCell ⟨B, q, none⟩ (.int .u8 49) → (convert 65 9 (.slice (some ⟨B, 0, none⟩) bs.length cap)).run Tryz.prog W = .ok (.string ⟨l.reverse.toArray⟩) W := by
          rintro W rfl
          have hb := byteCells_set hbc (q := q) (by omega) 49
          rw [← hl2] at hb
          have := run_convert_bytes_back (P := Tryz.prog) (wr.setCell ⟨B, q, none⟩ (.int .u8 49)) 65 9 5 ⟨B, 0, none⟩ cap l.reverse Tryz.underlying65 Tryz.underlying5 Tryz.underlying9 (fun j hj => by
            rw [Addr.add_lit, Nat.zero_add]
            have e := hset (.int .u8 49)
            simp only [World.cell?, e]
            exact hb j hj)
          rwa [hl3] at this
        have HK : Hid (∀ W, W = wr.setCell ⟨B, q, none⟩ (.int .u8 49) → (convert 65 9 (.slice (some ⟨B, 0, none⟩) bs.length cap)).run Tryz.prog W = .ok (.string ⟨l.reverse.toArray⟩) W) := hback
        have hback1 := hback _ rfl
        have HA' : Hid (∀ W, Below w.heap.size w W → Calls Tryz.prog 32 #[.string ⟨l.reverse.toArray⟩] W fun e w' => e = .returned (.agg #[.bool b.v6, .int .u64 b.hi, .int .u64 b.lo]) ∧ Below W.heap.size W w') := HA
        have hz2 : (wr.setCell ⟨B, q, none⟩ (.int .u8 49)).heap[w.heap.size + 1]? = some (.cells #[.bool false, .int .u64 0, .int .u64 0] 24 (0, 0)) := (Below.heap_setCell _ ⟨B, q, none⟩ _ _ (by show w.heap.size + 1 ≠ B; omega)).trans hz
        have hbw2 : Below w.heap.size w (wr.setCell ⟨B, q, none⟩ (.int .u8 49)) := hbw.setCell (p := ⟨B, q, none⟩) (by show w.heap.size ≤ B; omega) _
        have HP : Hid ((wr.setCell ⟨B, q, none⟩ (.int .u8 49)).heap[w.heap.size + 1]? = some (.cells #[.bool false, .int .u64 0, .int .u64 0] 24 (0, 0)) ∧ Below w.heap.size w (wr.setCell ⟨B, q, none⟩ (.int .u8 49)) ∧ r = (b, true)) := ⟨hz2, hbw2, hr⟩
        clear HS HM HN hset hcell hat hlc hbc hinc hC hz hbw hres hcells0 hb1 hB hw1 hiv hz2 hbw2 hr HA HK hback hl2 hl1 hl3 hc
        go_wp2_with (go_at_call 32; refine (HA'.out _ HP.out.2.1).mono ?_; rintro e w2 ⟨rfl, hb2⟩; obtain ⟨z0, z1, z2, z3, z4, z5⟩ := three_cellsh ((hb2.block _ (Array.getElem?_eq_some_iff.1 HP.out.1).1).trans HP.out.1))
        obtain ⟨hz2, hbw2, hr⟩ := HP.out
        obtain ⟨s1, s2, s3⟩ := set3h (a := .bool b.v6) (b := .int .u64 b.hi) (c := .int .u64 b.lo) ((hb2.block _ (Array.getElem?_eq_some_iff.1 hz2).1).trans hz2)
        obtain ⟨y0, y1, y2, _⟩ := three_cellsh s1
        have hB3 := (hbw2.trans (hb2.mono hbw2.size)).trans (s3.mono (by omega))
        refine bodyPost_ret (v := .tuple #[.agg #[.bool b.v6, .int .u64 b.hi, .int .u64 b.lo], .bool true]) ?_ rfl ⟨?_, hB3⟩
        · simp [results, Tryz.f12, go_sem, y0, y1, y2]
        · rw [hr]
      · have hcI : ¬ (bs[q].toNat : Int) = 48 := fun e => hc (by
          have : bs[q].toNat = 48 := by omega
          exact UInt8.toNat_inj.1 (by rw [this]; rfl))
        have HP : Hid ((wr.heap[B]? = some (.cells C 5 (C.size, C.size + 1)) ∧ ByteCells C (cur bs (q + 1)) ∧ IncAt bs (q + 1)) ∧ (wr.heap[w.heap.size + 1]? = some (.cells #[.bool false, .int .u64 0, .int .u64 0] 24 (0, 0)) ∧ Below w.heap.size w wr)) := ⟨⟨hC, hbc, hinc⟩, hz, hbw⟩
        clear HS HM HN hset hcell hat hlc hbc hinc hC hz hbw hres hcells0 hb1 hB hw1 hiv
        go_wp2
        go_roundw
        case rel =>
          obtain ⟨⟨hC, hbc, hinc⟩, hz, hbw⟩ := HP.out
          have hlc := cur_len bs (q + 1) hj
          have hset := setCell_heap wr B q (.int .u8 48) C 5 (C.size, C.size + 1) hC
          refine ⟨q, C.setIfInBounds q (.int .u8 48), (q : Int) - 1, by omega, ?_, rfl, ?_, ?_, incAt_step hlt hinc hc, ?_, ?_⟩
          · first | rw [hwr] | rfl
          · rw [hset]; simp
          · rw [← cur_set bs q hlt]
            exact byteCells_set hbc (by omega) 48
          · exact (Below.heap_setCell _ ⟨B, q, none⟩ _ _ (by show w.heap.size + 1 ≠ B; omega)).trans hz
          · exact hbw.setCell (p := ⟨B, q, none⟩) (by show w.heap.size ≤ B; omega) _
        case measure =>
          first | (simp only [hwr, intOf]; omega) | (simp only [intOf]; omega)

theorem flv_seg2 {k : K} (w : World) (ρ : Nat → Value) (a : k.T) (v : Value) (n : Nat) (h : ∀ ρ, v = den ρ (flV k a)) : ArgsOk w ρ n [v] [flV k a] [] [] :=
  ⟨rfl, fun ρ' _ => by simp only [denL, h ρ'], fun _ _ _ i o v h => by simp at h, by simp only [ltL, flV_lt, Bool.and_self], fun o h => by cases h⟩

noncomputable def R_NextOf_con : Con := con [.one (.fl .addr)] [.one (.fl .addr), .one (.fl .bool)] (fun x => R_NextOf_t x.1)
theorem nextOf_main (a : Ad) (y : Ad × Bool × Unit) (hx : R_NextOf_t a = some y) (ρ : Nat → Value) (us vals : List Value) (w : World) (hG : Glob Tryz.prog w)
    (hu : ArgsOk w ρ 0 vals (encA false [.one (.fl .addr)] (a, ()) 0).1 (encA false [.one (.fl .addr)] (a, ()) 0).2 us) :
    Calls Tryz.prog 12 vals.toArray w fun e w' => ∃ ρc r m', e = .returned (den ρc r) ∧ RelM w ρc m' w' ∧ resR [.one (.fl .addr), .one (.fl .bool)] r m' = some y := by
  have hg := gives_nameOf us
  have hdenv := hu.den _ hg
  have hvals : vals = [adV3 a] := hdenv.symm
  subst hvals
  obtain ⟨ra, rb, ru⟩ := y
  unfold R_NextOf_t at hx
  obtain ⟨y1, h1, hx⟩ := Option.bind_eq_some_iff.1 hx
  obtain ⟨s, us1⟩ := y1
  obtain ⟨hq, hx⟩ := req_some hx
  have hq : s.size ≤ 1024 := Nat.le_of_ble_eq_true hq
  refine (nextOf_walk a s w hq (ra, rb) (fun W hW => ?_) (fun hn => ?_) (fun l hl => ?_)).mono ?_
  · have ha := flv_seg2 (k := .addr) W (fun _ => Go.undef) a (adV3 a) 0 (fun _ => rfl)
    refine (flat_calls (hG.mono hW) R_Bits_ok (x := (a, ())) h1 rfl rfl ha).mono ?_
    rintro e w' ⟨⟨ρ', rfl⟩, hb'⟩
    exact ⟨rfl, hb'⟩
  · rw [show (s, us1).1.data.toList = s.data.toList from rfl, hn] at hx
    cases hx
    rfl
  · rw [show (s, us1).1.data.toList = s.data.toList from rfl, hl] at hx
    obtain ⟨z, hz, hx⟩ := Option.bind_eq_some_iff.1 hx
    cases hx
    refine ⟨z.1, rfl, fun W hW => ?_⟩
    have ha := flv_seg2 (k := .str) W (fun _ => Go.undef) (⟨l.reverse.toArray⟩ : ByteArray) (.string ⟨l.reverse.toArray⟩) 0 (fun _ => rfl)
    refine (flat_calls (hG.mono hW) R_AddrOf_ok (x := ((⟨l.reverse.toArray⟩ : ByteArray), ())) hz rfl rfl ha).mono ?_
    rintro e w' ⟨⟨ρ', rfl⟩, hb'⟩
    exact ⟨rfl, hb'⟩
  · rintro e w' ⟨rfl, hb⟩
    refine ⟨fun _ => Go.undef, .tup [.agg [.b ra.v6, .i .u64 ra.hi, .i .u64 ra.lo], .b rb], [], rfl, ?_, rfl⟩
    exact ⟨hb, fun j o h => by simp at h, fun i j o o' _ h => by simp at h, fun j o h => by simp at h⟩
/-- **R.NextOf**. -/
theorem R_NextOf_ok : TrOk Tryz.prog 12 R_NextOf_con := con_of _ _ _ fun x y hx ρ us vals w hG hu => nextOf_main x.1 y hx ρ us vals w hG hu
end Go.Proofs.YthmdbgejdeblnaaGreatDoor
