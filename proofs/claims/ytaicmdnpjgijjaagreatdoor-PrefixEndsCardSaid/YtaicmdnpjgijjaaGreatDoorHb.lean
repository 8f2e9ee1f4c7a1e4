/-
  table.Below comes to its plain form: the walk by hand: a map of rows that the call makes.
-/
import Derived.Test.YtaicmdnpjgijjaaGreatDoorWk
import Derived.Test.YtaicmdnpjgijjaaGreatDoorHa
import Derived.Test.YtaicmdnpjgijjaaGreatDoorMaR
import Derived.WalkKit
import Derived.ProofKit
import Derived.Maps.OwnRows
import Derived.Maps.AppendAt
import Derived.Maps.GroupsBeside
import Derived.Maps.Views
namespace Go.Proofs.YtaicmdnpjgijjaaGreatDoor
open Go Go.Ma Go.RowKit Go.WideMaps Go.Maps

theorem Tryz.infoInt : (Tryz.prog.info? 3).map (fun i => (i.zero, i.size, i.bytes)) = some (some (.int .i64 0), 1, 8) := by kernel_rfl
theorem zeroInts (w : World) : (zeroValue 50).run Tryz.prog w = .ok (.slice none 0 0) w := by kernel_rfl

/-- The elements of a row that reads so. -/
def itemsD {H : Type} : DataW H → List (DataW H)
  | .slice es _ => es
  | _ => []
theorem items_row {H : Type} {w : World} {base : Nat} {e : TypeId} {v : Value} {zs : List Int} (h : w.ownsInts base e .i64 v zs) : itemsD (rowDatum (H := H) .i64 v zs) = Go.ChangeShapes.lits .i64 zs := by
  rcases h.datum (H := H) with ⟨h1, rfl⟩ | h1
  · rw [h1]; rfl
  · rw [h1]; rfl
theorem lits_inj {H : Type} : ∀ {a b : List Int}, Go.ChangeShapes.lits (H := H) .i64 a = Go.ChangeShapes.lits .i64 b → a = b := by
  intro a
  induction a with
  | nil => intro b h; cases b with | nil => rfl | cons x r => simp [Go.ChangeShapes.lits] at h
  | cons x r ih =>
    intro b h
    cases b with
    | nil => simp [Go.ChangeShapes.lits] at h
    | cons y s =>
      simp only [Go.ChangeShapes.lits, List.map_cons, List.cons.injEq] at h
      obtain ⟨h1, h2⟩ := h
      have : x = y := by cases h1; rfl
      rw [this, ih h2]

/-- The places whose one above is m, among the first k. -/
def under (ks : Nat → Int) (m : Int) : Nat → List Int
  | 0 => []
  | k + 1 => if ks k = m then under ks m k ++ [(k : Int)] else under ks m k
theorem under_of {l : List Pf} {ks : Nat → Int} : ∀ {N : Nat} (n : Int), (∀ k, k < N → table_above_t l (k : Int) = some (ks k, ()) ∧ i64ok (ks k) = true) → belowTo l n N = some (under ks n N)
  | 0, _, _ => rfl
  | k + 1, n, h => by
    rw [belowTo, under_of n (fun i hi => h i (by omega)), Option.bind_some, (h k (by omega)).1, Option.bind_some, (h k (by omega)).2, under]
    rfl
theorem belowTo_tot {l : List Pf} {n : Int} : ∀ {N : Nat} {r : List Int}, belowTo l n N = some r → ∀ k, k < N → ∃ y, table_above_t l (k : Int) = some (y, ()) ∧ i64ok y = true
  | 0, _, _, k, hk => by omega
  | N + 1, r, h, k, hk => by
    rw [belowTo] at h
    obtain ⟨r', h1, h⟩ := Option.bind_eq_some_iff.1 h
    obtain ⟨y, h2, h⟩ := Option.bind_eq_some_iff.1 h
    by_cases hkN : k = N
    · subst hkN
      exact ⟨y.1, h2, (req_some h).1⟩
    · exact belowTo_tot h1 k (by omega)
theorem under_len (ks : Nat → Int) (m : Int) : ∀ k, (under ks m k).length ≤ k
  | 0 => Nat.le_refl _
  | k + 1 => by
    have := under_len ks m k
    unfold under
    split
    · simp; omega
    · omega
theorem below_trans {w w1 w2 : World} (h : Below w.heap.size w w1) (h' : Below w1.heap.size w1 w2) : Below w.heap.size w w2 :=
  ⟨h'.os.trans h.os, h'.tape.trans h.tape, h'.output.trans h.output, Nat.le_trans h.size h'.size, fun b hb => (h'.block b (Nat.lt_of_lt_of_le hb h.size)).trans (h.block b hb)⟩
theorem below_trans' {B : Nat} {w w1 w2 : World} (h : Below B w w1) (h' : Below w1.heap.size w1 w2) (hB : B ≤ w.heap.size := by omega) : Below B w w2 :=
  ⟨h'.os.trans h.os, h'.tape.trans h.tape, h'.output.trans h.output, Nat.le_trans h.size h'.size, fun b hb => (h'.block b (Nat.lt_of_lt_of_le hb (Nat.le_trans hB h.size))).trans (h.block b hb)⟩
theorem below_grown {w w' : World} (h : Below w.heap.size w w') : w.grownBy w' none := ⟨h.os, h.tape, h.output, h.size, fun k hk _ => h.block k hk⟩
theorem groups_below {H : Type} {P : Program} {k : TypeId} {w w' : World} {base : Nat} {e : TypeId} {q : IntKind} {b n : Nat} {D : DataW H} (h : w.ownsGroups P k base e q b n D) (hb : Below w.heap.size w w') : w'.ownsGroups P k base e q b n D := by
  refine h.kept (below_grown hb) (by simp) (fun es clock _ x _ => ?_)
  cases hx : x.val.ownBlock with
  | none => exact .inl rfl
  | some g => exact .inr (by simp)

set_option maxRecDepth 100000 in
theorem below_walk {H : Type} (A : Option Addr) (l : List Pf) (cap : Nat) (n : Int) (ks : Nat → Int) (w : World) (hG : Glob Tryz.prog w) (hlen : l.length ≤ 12) (h0 : 0 ≤ n) (h1 : n ≤ 12)
    (hrow : ∀ ρ, RowIs w (.slice A l.length cap) l.length 4 (l.flatMap fun a => denL ρ (K.enc .pfx a)))
    (hready : table_ready_t l n = some (0, ())) (habove : ∀ k, k < l.length → table_above_t l (k : Int) = some (ks k, ()) ∧ i64ok (ks k) = true) :
    Calls Tryz.prog 22 #[.slice A l.length cap, .int .i64 n] w fun e w' => ∃ v base, e = .returned (.tuple #[v, .int .i64 0]) ∧ w.heap.size ≤ base ∧ w'.ownsInts base 3 .i64 v (under ks n l.length) ∧ Below w.heap.size w w' := by
  have hmm := @run_makeMap Tryz.prog
  obtain ⟨i0, hi, hz0, hz1, hz2⟩ := info_parts Tryz.infoInt
  have crd : ∀ wr, Below w.heap.size w wr → Calls Tryz.prog 44 #[.slice A l.length cap, .int .i64 n] wr fun e w' => e = .returned (.int .i64 0) ∧ Below wr.heap.size wr w' := by
    intro wr hb
    have ha := (row_args wr (fun _ => Go.undef) .pfx 26 _ 0 l (row_below (hrow _) hb)).app (fl_seg (k := .int) wr (fun _ => Go.undef) n [.int .i64 n] 1 (fun _ => rfl))
    refine (flat_calls (hG.mono hb) table_ready_ok (x := (l, n, ())) hready rfl rfl ha).mono ?_
    rintro e w' ⟨⟨ρ', rfl⟩, hb'⟩
    exact ⟨rfl, hb'⟩
  have cab : ∀ wr (k : Nat), k < l.length → Below w.heap.size w wr → Calls Tryz.prog 45 #[.slice A l.length cap, .int .i64 (k : Int)] wr fun e w' => e = .returned (.int .i64 (ks k)) ∧ Below wr.heap.size wr w' := by
    intro wr k hk hb
    have ha := (row_args wr (fun _ => Go.undef) .pfx 26 _ 0 l (row_below (hrow _) hb)).app (fl_seg (k := .int) wr (fun _ => Go.undef) (k : Int) [.int .i64 (k : Int)] 1 (fun _ => rfl))
    refine (flat_calls (hG.mono hb) table_above_ok (x := (l, (k : Int), ())) (habove k hk).1 rfl rfl ha).mono ?_
    rintro e w' ⟨⟨ρ', rfl⟩, hb'⟩
    exact ⟨rfl, hb'⟩
  have hkk : ∀ k, k < l.length → keyOf Tryz.prog 3 (.int .i64 (ks k)) = some (.int .i64 (ks k)) := fun k hk => keyOf_int_mk Tryz.underlying3 (WalkArith.wf_i64 (by have := i64ok_iff.1 (habove k hk).2; omega))
  have crd0 := crd w (Below.refl _ _)
  have hkeyn : keyOf Tryz.prog 3 (.int .i64 n) = some (.int .i64 n) := keyOf_int_mk Tryz.underlying3 (WalkArith.wf_i64 (by omega))
  obtain ⟨nn, hnn⟩ : ∃ nn : Nat, nn = l.length := ⟨_, rfl⟩
  rw [← hnn] at hlen crd crd0 cab hkk ⊢
  clear hready habove hrow hnn
  clear crd
  have HC : Hid (∀ wr (k : Nat), k < nn → Below w.heap.size w wr → Calls Tryz.prog 45 #[.slice A nn cap, .int .i64 (k : Int)] wr fun e w' => e = .returned (.int .i64 (ks k)) ∧ Below wr.heap.size wr w') := cab
  have HR : Hid (Calls Tryz.prog 44 #[.slice A nn cap, .int .i64 n] w fun e w' => e = .returned (.int .i64 0) ∧ Below w.heap.size w w') := crd0
  have HK : Hid (∀ k, k < nn → keyOf Tryz.prog 3 (.int .i64 (ks k)) = some (.int .i64 (ks k))) := hkk
  clear cab crd0 hkk
  go_enter Tryz.func22, Tryz.ntmps22
  go_wp2_with (first
    | (go_at_call 44; refine HR.out.mono ?_; rintro e w1 ⟨rfl, hb1⟩; clear HR))
  have hB : w.heap.size ≤ w1.heap.size := hb1.size
  go_loopw [19] (fun i wr => ∃ (k : Nat) (D : DataW H), k ≤ nn ∧ i = .int .i64 k ∧ wr.ownsGroups Tryz.prog 3 (w1.heap.size + 1) 3 .i64 w1.heap.size k D ∧ Maps.IsMap D ∧ (∀ m : Int, itemsD (D.atKey (.int .i64 m) .nil) = Go.ChangeShapes.lits .i64 (under ks m k)) ∧ Below w1.heap.size w1 wr ∧ w1.heap.size + 1 ≤ wr.heap.size)
    (fun i _ => nn - (intOf i).toNat)
  case atStart => exact ⟨0, .map [], Nat.zero_le _, rfl, World.ownsGroups_made _ _ _ _ _, isMap_empty, fun m => rfl, (Below.refl _ _).alloc (Nat.le_refl _) _, by simp⟩
  case round =>
    obtain ⟨k, D, hk, rfl, hown, hmap, hspec, hnx, hws⟩ := hrel
    have hbw : Below w.heap.size w wr := below_trans hb1 hnx
    have HS : Hid (∀ m : Int, itemsD (D.atKey (.int .i64 m) .nil) = Go.ChangeShapes.lits .i64 (under ks m k)) := hspec
    clear hspec
    go_wp2_with (first
      | (go_at_call 45; refine (HC.out wr k (by omega) hbw).mono ?_; rintro e w2 ⟨rfl, hb2⟩; have hown2 := groups_below hown hb2; have hws2 : w1.heap.size + 1 ≤ w2.heap.size := Nat.le_trans hws hb2.size; have hkey := HK.out k (by omega))
      | (at_lookup; refine wpList_lookup_groups _ rfl _ _ 84 rfl 3 50 3 .i64 (int_keyed Tryz.underlying3) Tryz.underlying84 (zeroInts _) (w1.heap.size + 1) w1.heap.size k _ rfl hown2 (by unfold maxLen; omega) _ _ rfl hkey ?_; intro v zs hat hoi hzl hback)
      | (at_lookup; refine wpList_lookup_groups _ rfl _ _ 84 rfl 3 50 3 .i64 (int_keyed Tryz.underlying3) Tryz.underlying84 (zeroInts _) (w1.heap.size + 1) w1.heap.size k _ rfl hown (by unfold maxLen; omega) _ _ rfl hkeyn ?_; intro v zs hat hoi hzl hback)
      | (at_builtin; refine wpList_append_own_at _ rfl _ _ 50 rfl (w1.heap.size + 1) 3 i0 (.int .i64 0) 1 8 Tryz.underlying50 hi hz0 hz1 hz2 rfl (by decide) _ _ _ rfl (hoi.1.alloc _) ⟨w2.heap.size, 0, none⟩ 1 1 [.int .i64 k] rfl rfl (cell_one_new _ _ _) (ints_oneCell .i64 [(k : Int)]) (by unfold maxLen; omega) (by omega) (by simp; omega) ?_; intro v' w3 hown' hgrow hnil hloc)
      | (at_mapUpdate; refine wpList_mapUpdate_back _ rfl _ _ _ 84 rfl hback rfl rfl rfl ((World.grownBy_alloc _ _ _).trans hgrow) (hoi.appended hown' (WalkArith.wf_i64 (by omega))) (by simp; omega) (hloc.imp id (fun h => ⟨_, h, by simp⟩)) ?_; intro w4 hown4 hgrow4))
    · have hlt : k < nn := by assumption
      have hall := (World.grownBy_alloc w2 _ _).trans hgrow
      have hnx2 := below_trans' hnx hb2
      have happ := hoi.appended hown' (WalkArith.wf_i64 (by omega))
      have hzs : zs = under ks (ks k) k := by
        have := HS.out (ks k)
        rw [hat, items_row hoi] at this
        exact lits_inj this
      go_roundw
      case rel =>
        refine ⟨k + 1, D.put (.int .i64 (ks k)) (rowDatum .i64 v' (zs ++ [(k : Int)])), by omega, by go_num, hown4, hmap.put _ _, fun m => ?_, hnx2.groups hoi hall hgrow4 hnx2.size (Nat.le_succ _) (Nat.le_refl _), Nat.le_trans hws2 (Nat.le_trans hall.size hgrow4.size)⟩
        by_cases hm : ks k = m
        · rw [← hm, atKey_put_same hmap (by trivial), items_row happ, hzs, under, if_pos rfl]
        · rw [atKey_put_other (fun e => hm (by cases e; rfl)), HS.out m, under, if_neg hm]
      case measure => simp [intOf]; omega
    · have hkn : k = nn := by omega
      subst hkn
      have hzs : zs = under ks n k := by
        have := HS.out n
        rw [hat, items_row hoi] at this
        exact lits_inj this
      subst hzs
      go_ret2
      exact ⟨v, w1.heap.size + 1, rfl, by omega, hoi, hbw⟩

noncomputable def table_Below_con : Con := con [.one (.row .pfx 26), .one (.fl .int)] [.one (.row .int 3), .one (.fl .int)] (fun x => table_Below_t x.1 x.2.1)
set_option maxRecDepth 100000 in
theorem below_early (A : Option Addr) (l : List Pf) (cap : Nat) (n e0 : Int) (w : World) (hne : ¬ e0 = 0)
    (HR : Calls Tryz.prog 44 #[.slice A l.length cap, .int .i64 n] w fun e w' => e = .returned (.int .i64 e0) ∧ Below w.heap.size w w') :
    Calls Tryz.prog 22 #[.slice A l.length cap, .int .i64 n] w fun e w' => e = .returned (.tuple #[.slice none 0 0, .int .i64 e0]) ∧ Below w.heap.size w w' := by
  have hn2 : (!(e0 == 0)) = true := by simpa using hne
  have HR' : Hid (Calls Tryz.prog 44 #[.slice A l.length cap, .int .i64 n] w fun e w' => e = .returned (.int .i64 e0) ∧ Below w.heap.size w w') := HR
  clear HR
  go_enter Tryz.func22, Tryz.ntmps22
  go_wp2_with (first
    | (go_at_call 44; refine HR'.out.mono ?_; rintro e w1 ⟨rfl, hb1⟩; clear HR'))
  go_ret2
  exact ⟨rfl, hb1⟩
theorem flat_int (ρ : Nat → Value) : ∀ z : List Int, (List.flatMap (fun a => denL ρ (K.enc .int a)) (show List K.int.T from z)) = z.map (Value.int .i64)
  | [] => rfl
  | a :: r => by
    show denL ρ (K.enc .int a) ++ List.flatMap (fun a => denL ρ (K.enc .int a)) (show List K.int.T from r) = _
    rw [flat_int ρ r]
    rfl
theorem below_main (l : List Pf) (n : Int) (y : (List Int) × Int × Unit) (hx : table_Below_t l n = some y) (ρ : Nat → Value) (us vals : List Value) (w : World) (hG : Glob Tryz.prog w)
    (hu : ArgsOk w ρ 0 vals (encA false [.one (.row .pfx 26), .one (.fl .int)] (l, n, ()) 0).1 (encA false [.one (.row .pfx 26), .one (.fl .int)] (l, n, ()) 0).2 us) :
    Calls Tryz.prog 22 vals.toArray w fun e w' => ∃ ρc r m', e = .returned (den ρc r) ∧ RelM w ρc m' w' ∧ resR [.one (.row .int 3), .one (.fl .int)] r m' = some y := by
  have hg := gives_nameOf us
  have hlen := hu.len
  have hdenv := hu.den _ hg
  obtain ⟨v, rfl⟩ : ∃ v, us = [v] := by
    have hl1 : us.length = 1 := hlen
    match us, hl1 with
    | [v], _ => exact ⟨v, rfl⟩
  obtain ⟨hob, _⟩ := hu.obj w _ hg 0 (.row (.ty .pfx l) 26 false) v rfl rfl
  obtain ⟨_, _, hrow0⟩ := hob
  rw [if_neg (by simp)] at hrow0
  have hcells : ∀ ρ', (C.ty K.pfx l).den ρ' = l.flatMap fun a => denL ρ' (K.enc .pfx a) := fun ρ' => rfl
  have hrow : ∀ ρ', RowIs w v l.length 4 (l.flatMap fun a => denL ρ' (K.enc .pfx a)) := fun ρ' => by
    have : (l.flatMap fun a => denL ρ' (K.enc .pfx a)) = l.flatMap fun a => denL (nameOf [v]) (K.enc .pfx a) := by congr 1
    rw [this]
    exact hrow0
  obtain ⟨_, A, cap, hv, _⟩ := hrow ρ
  subst hv
  have hvals : vals = [.slice A l.length cap, .int .i64 n] := hdenv.symm
  subst hvals
  have hrd : ∀ e0, table_ready_t l n = some (e0, ()) → Calls Tryz.prog 44 #[.slice A l.length cap, .int .i64 n] w fun e w' => e = .returned (.int .i64 e0) ∧ Below w.heap.size w w' := by
    intro e0 he
    have ha := (row_args w (fun _ => Go.undef) .pfx 26 _ 0 l (hrow _)).app (fl_seg (k := .int) w (fun _ => Go.undef) n [.int .i64 n] 1 (fun _ => rfl))
    refine (flat_calls hG table_ready_ok (x := (l, n, ())) he rfl rfl ha).mono ?_
    rintro e w' ⟨⟨ρ', rfl⟩, hb'⟩
    exact ⟨rfl, hb'⟩
  unfold table_Below_t at hx
  obtain ⟨y1, h1, hx⟩ := Option.bind_eq_some_iff.1 hx
  obtain ⟨e0, u0⟩ := y1
  rcases br_some hx with ⟨hc, hx⟩ | ⟨hc, hx⟩
  · have hne : ¬ e0 = 0 := by simpa using hc
    injection hx with hx
    subst hx
    refine (below_early A l cap n e0 w hne (hrd e0 h1)).mono ?_
    rintro e w' ⟨rfl, hb⟩
    refine ⟨fun _ => Go.undef, .tup [.v (.slice none 0 0), .i .i64 e0], [], rfl, ?_, rfl⟩
    exact ⟨hb, fun j o h => by simp at h, fun i j o o' _ h => by simp at h, fun j o h => by simp at h⟩
  · have he : e0 = 0 := by simpa using hc
    subst he
    obtain ⟨hq, hx⟩ := req_some hx
    simp only [Bool.and_eq_true, decide_eq_true_eq] at hq
    obtain ⟨r, hr, hx⟩ := Option.bind_eq_some_iff.1 hx
    injection hx with hx
    subst hx
    have hks := belowTo_tot hr
    obtain ⟨ks, hks'⟩ : ∃ ks : Nat → Int, ∀ k, k < l.length → table_above_t l (k : Int) = some (ks k, ()) ∧ i64ok (ks k) = true := by
      refine ⟨fun k => if h : k < l.length then Classical.choose (hks k h) else 0, fun k hk => ?_⟩
      simp only [hk, dif_pos]
      exact Classical.choose_spec (hks k hk)
    have hr2 : r = under ks n l.length := by
      have := under_of n hks'
      rw [hr] at this
      injection this
    subst hr2
    refine (below_walk (H := Unit) A l cap n ks w hG hq.1 hq.2.1 hq.2.2 hrow h1 hks').mono ?_
    rintro e w' ⟨v, base, rfl, hbase, hown, hb⟩
    have hvs : ∃ B N c, v = .slice B N c := by
      rcases hown.1.2 with ⟨h, _⟩ | ⟨g, cp, cur, h, _⟩
      · exact ⟨_, _, _, h⟩
      · exact ⟨_, _, _, h⟩
    obtain ⟨B, N, c, hvs⟩ := hvs
    refine ⟨fun _ => v, .tup [.row 0, .i .i64 0], [.row (.ty .int (under ks n l.length)) 3 true], by simp [den, denL, hvs, sliceVal], ?_, rfl⟩
    refine ⟨hb, fun j o hj => ?_, fun i j o o' hij hi hj => ?_, fun j o hj => ?_⟩
    · cases j with
      | zero =>
        simp only [List.getElem?_cons_zero, Option.some.injEq] at hj
        subst hj
        refine ⟨(show 0 < K.sz .int by decide), fun u hu => ?_, ?_⟩
        · exact flat_one _ .int _ u hu
        · rw [if_pos rfl]
          have e1 : (C.ty K.int (under ks n l.length)).den (fun _ => v) = (under ks n l.length).map (Value.int .i64) := flat_int _ _
          rw [e1]
          obtain ⟨g1, g2⟩ := hown.1
          refine ⟨g1, g2.imp id ?_⟩
          rintro ⟨g, cp, cur, a1, a2, a3⟩
          exact ⟨g, cp, cur, a1, by omega, a3⟩
      | succ j => simp at hj
    · have h1 := (List.getElem?_eq_some_iff.1 hi).1
      have h2 := (List.getElem?_eq_some_iff.1 hj).1
      simp at h1 h2
      omega
    · cases j with
      | zero =>
        simp only [List.getElem?_cons_zero, Option.some.injEq] at hj
        subst hj
        rfl
      | succ j => simp at hj
/-- **table.Below**. -/
theorem table_Below_ok : TrOk Tryz.prog 22 table_Below_con := con_of _ _ _ fun x y hx ρ us vals w hG hu => below_main x.1 x.2.1 y hx ρ us vals w hG hu
end Go.Proofs.YtaicmdnpjgijjaaGreatDoor
