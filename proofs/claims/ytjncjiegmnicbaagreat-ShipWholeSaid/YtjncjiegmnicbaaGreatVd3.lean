/-
  Parts: MaT Pl Pc Pw Pf Po La Pv Lb He Pm Lc Ld Le Lg Lh Li Lo Ca Cf Ph Ce Pi Pj Pk Cb Cd Lm Pd Pe Pg Sa Cc Sb Sc Sd.
-/
import Derived.Test.YtjncjiegmnicbaaGreatVd2
set_option linter.unusedVariables false
set_option linter.unusedSimpArgs false
namespace Go.Ma
open Go Go.RowKit
def takeA (args : List SV) (m : Mem) : Option (Bool × List SV × Mem) :=
 match args with
 | .inn jb i :: r => (takeM m jb i).map fun m' => (decide (0 ≤ i), .row (m.length + 1) :: r, m')
 | _ => none
def takeCon (g : Con) : Con :=
 {tr := fun X args m k => match takeA args m with
   | some (c, args', m') => req c (g.tr X args' m' k)
   | none => g.tr X args m k
  q := false, law := false, det := g.det }
theorem takeCon_ok {P : Program} {f : FuncId} {g : Con} (h : TrOk P f g) : TrOk P f (takeCon g) := by
 refine ⟨fun W hG X args m k x hk hany => ⟨fun hlt ρ w hm => ?_⟩, (fun hq => by cases hq), fun hd X args m k x hk => ?_⟩
 ·simp only [takeCon] at hk
  cases ht : takeA args m with
  | none =>
   rw [ht] at hk
   exact (h.1 W hG X args m k x hk hany).call hlt ρ w hm
  | some z =>
   obtain ⟨c, args', m'⟩ := z
   rw [ht] at hk
   simp only at hk
   obtain ⟨hc, hk2⟩ := req_some hk
   clear hk
   unfold takeA at ht
   split at ht
   ·rename_i jb i r
    obtain ⟨m2, hm2, he⟩ := Option.map_eq_some_iff.1 ht
    simp only [Prod.mk.injEq] at he
    obtain ⟨rfl, rfl, rfl⟩ := he
    obtain ⟨ρ1, h1, h2, h3, h4⟩ := take_ok hm (by simpa using hc) hm2
    simp only [ltL, Bool.and_eq_true] at hlt
    have hcall := (h.1 W hG X _ m2 k x hk2 (by simpa [SV.isAny] using hany)).call (by
     simp only [ltL, Bool.and_eq_true, SV.lt, decide_eq_true_eq]
     exact ⟨by omega, ltL_mono (by omega) r hlt.2⟩) ρ1 w h1
    have hden : denL ρ1 (.row (m.length + 1) :: r) = denL ρ (.inn jb i :: r) := by
     simp only [denL]
     rw [h4, denL_agree h2 r hlt.2]
    rw [hden] at hcall
    refine hcall.mono ?_
    rintro e w' ⟨ρ', r', m', rfl, hm', hag, hle, hrl, hk'⟩
    exact ⟨ρ', r', m', rfl, hm', h2.trans hag (by omega), by omega, hrl, hk'⟩
   ·cases ht
 ·simp only [takeCon] at hk ⊢
  cases ht : takeA args m with
  | none =>
   rw [ht] at hk
   obtain ⟨r, m', h1, h2, _⟩ := h.2.2 hd X args m k x hk
   exact ⟨r, m', h1, h2, fun hl => by cases hl⟩
  | some z =>
   obtain ⟨c, args', m'⟩ := z
   rw [ht] at hk
   simp only at hk ⊢
   obtain ⟨hc, hk⟩ := req_some hk
   obtain ⟨r, m2, h1, h2, _⟩ := h.2.2 hd X args' m' k x hk
   exact ⟨r, m2, by rw [hc]; exact h1, h2, fun hl => by cases hl⟩
def delL {α : Type} (l : List α) (a b : Int) : List α := l.take a.toNat ++ l.drop b.toNat
def delArgs (k : K) (e : TypeId) (args : List SV) (m : Mem) : Option (Nat × List k.T × Int × Int) :=
 match args with
 | [.row j, .i .i64 a, .i .i64 b] => (match m[j]? with | some (.row (.ty k1 l) bt true) => if h : k1 = k then (if bt == e then some (j, castL h l, a, b) else none) else none | _ => none)
 | _ => none
def delCon (k : K) (e : TypeId) : Con :=
 {tr := fun _ args m kk => match delArgs k e args m with
   | some (j, l, a, b) => req (decide (0 ≤ a) && decide (a ≤ b) && decide (b ≤ lenL l)) (kk (.row m.length) (m.set j (.dead none) ++ [.row (.ty k (delL l a b)) e true]))
   | none => none
  q := false, law := false, det := true }
theorem delArgs_ok {k : K} {e : TypeId} {args : List SV} {m : Mem} {j : Nat} {l : List k.T} {a b : Int} (h : delArgs k e args m = some (j, l, a, b)) : args = [.row j, .i .i64 a, .i .i64 b] ∧ m[j]? = some (.row (.ty k l) e true) := by
 unfold delArgs at h
 split at h
 ·split at h
  ·rename_i hj
   split at h
   ·rename_i hk
    subst hk
    split at h
    ·rename_i hb
     simp only [beq_iff_eq] at hb
     subst hb
     simp only [Option.some.injEq, Prod.mk.injEq] at h
     obtain ⟨rfl, rfl, rfl, rfl⟩ := h
     exact ⟨rfl, hj⟩
    ·cases h
   ·cases h
  ·cases h
 ·cases h
theorem del_ok {P : Program} {f : FuncId} (k : K) (e : TypeId)
  (h : ∀ (base : Nat) (w : World) (v : Value) (n i j : Nat) (cs : List Value), w.ownsRow base e k.sz v n cs → (∀ x ∈ cs, oneC x = true) → base ≤ w.heap.size → i ≤ j → j ≤ n →
   Calls P f #[v, .int .i64 (i : Int), .int .i64 (j : Int)] w fun r w' => ∃ v', r = .returned v' ∧ w'.ownsRow base e k.sz v' (n - (j - i)) (cs.take (i * k.sz) ++ cs.drop (j * k.sz)) ∧ w.grownBy w' v.ownBlock ∧ (∀ b, v'.ownBlock = some b → v.ownBlock = some b ∨ w.heap.size ≤ b)) : TrOk P f (delCon k e) := by
 have inv : ∀ {X : Type} {args : List SV} {m : Mem} {kk : SV → Mem → Option X} {x : X}, (delCon k e).tr X args m kk = some x → ∃ (j : Nat) (l : List k.T) (a b : Int), delArgs k e args m = some (j, l, a, b) ∧ 0 ≤ a ∧ a ≤ b ∧ b ≤ lenL l ∧ kk (.row m.length) (m.set j (.dead none) ++ [.row (.ty k (delL l a b)) e true]) = some x := by
  intro X args m kk x hk
  simp only [delCon] at hk
  split at hk
  ·rename_i j l a b ha
   obtain ⟨h1, h2⟩ := req_some hk
   simp only [Bool.and_eq_true, decide_eq_true_eq] at h1
   exact ⟨j, l, a, b, ha, h1.1.1, h1.1.2, h1.2, h2⟩
  ·cases hk
 refine ⟨fun W _ X args m kk x hk _ => ⟨fun _ ρ w hm => ?_⟩, (fun hq => by cases hq), fun _ X args m kk x hk => ?_⟩
 ·obtain ⟨j, l, a, b, ha, h0, hab, hbl, hk2⟩ := inv hk
  clear hk
  obtain ⟨rfl, hj⟩ := delArgs_ok ha
  obtain ⟨_, hc1, ho1⟩ := hm.obj j _ hj
  rw [if_pos rfl] at ho1
  have hd1 : den ρ (.row j) = ρ j := row_val hm hj
  have e1 : ((a.toNat : Nat) : Int) = a := Int.toNat_of_nonneg h0
  have e2 : ((b.toNat : Nat) : Int) = b := Int.toNat_of_nonneg (by omega)
  have hbn : b.toNat ≤ l.length := by unfold lenL at hbl; omega
  have := h W.heap.size w (ρ j) l.length a.toNat b.toNat _ ho1 hc1 hm.below.size (by omega) hbn
  rw [e1, e2] at this
  have ed : (denL ρ [.row j, .i .i64 a, .i .i64 b]).toArray = #[ρ j, .int .i64 a, .int .i64 b] := by
   show #[den ρ (.row j), .int .i64 a, .int .i64 b] = _
   rw [hd1]
  rw [ed]
  refine this.mono ?_
  rintro r w' ⟨v', rfl, hown, hgb, hblk⟩
  have hcells : (C.ty k l).den ρ = l.flatMap fun a => denL ρ (k.enc a) := rfl
  rw [hcells] at hown
  have hfl : (l.flatMap fun a => denL ρ (k.enc a)).take (a.toNat * k.sz) ++ (l.flatMap fun a => denL ρ (k.enc a)).drop (b.toNat * k.sz) = (delL l a b).flatMap fun a => denL ρ (k.enc a) := by
   unfold delL
   rw [← flat_take, ← flat_drop, List.flatMap_append]
  rw [hfl] at hown
  have hlen : (delL l a b).length = l.length - (b.toNat - a.toNat) := by unfold delL; simp; omega
  rw [← hlen] at hown
  obtain ⟨hm', hv⟩ := hm.replaced hj (l := delL l a b) hown hgb hblk
  exact ⟨upd ρ m.length v', .row m.length, _, congrArg Ending.returned hv, hm', upd_agree _ _ _, by simp, fun _ => by simp [SV.lt], hk2⟩
 ·obtain ⟨j, l, a, b, ha, h0, hab, hbl, hk⟩ := inv hk
  refine ⟨.row m.length, _, ?_, hk, fun hl => by cases hl⟩
  simp only [delCon, ha]
  rw [show (decide (0 ≤ a) && decide (a ≤ b) && decide (b ≤ lenL l)) = true by simp [h0, hab, hbl]]
  rfl
def ownNst (m : Mem) (hk ik : K) (e ity : TypeId) (j : Nat) : Option (List hk.T × List (List ik.T) × Nat) :=
 match m[j]? with
 | some (.row (.nest hk' l jb) ty true) =>
  (match m[jb]? with
  | some (.bag ik' ls ity' true _) => if h : hk' = hk ∧ ik' = ik then (if ty == e && ity' == ity then some (castL h.1 l, castLL h.2 ls, jb) else none) else none
  | _ => none)
 | _ => none
theorem ownNst_ok {m : Mem} {hk ik : K} {e ity : TypeId} {j : Nat} {l : List hk.T} {ls : List (List ik.T)} {jb : Nat} (h : ownNst m hk ik e ity j = some (l, ls, jb)) : ∃ fr, m[j]? = some (.row (.nest hk l jb) e true) ∧ m[jb]? = some (.bag ik ls ity true fr) := by
 unfold ownNst at h
 split at h
 ·rename_i hj
  split at h
  ·rename_i hjb
   split at h
   ·rename_i hh
    obtain ⟨h1, h2⟩ := hh
    subst h1 h2
    split at h
    ·rename_i hc
     simp only [Bool.and_eq_true, beq_iff_eq] at hc
     obtain ⟨rfl, rfl⟩ := hc
     simp only [Option.some.injEq, Prod.mk.injEq] at h
     obtain ⟨rfl, rfl, rfl⟩ := h
     exact ⟨_, hj, hjb⟩
    ·cases h
   ·cases h
  ·cases h
 ·cases h
def insNArgs (hk ik : K) (e ity : TypeId) (args : List SV) (m : Mem) : Option (Nat × List hk.T × List (List ik.T) × Nat × Int × hk.T × List ik.T × Nat) :=
 match args with
 | [.row j, .i .i64 n, .row jv] =>
  (match ownNst m hk ik e ity j, ownNst m hk ik e ity jv with
  | some (l, ls, ja), some ([x], [y], jb) => if j != jv && ja != jb then some (j, l, ls, ja, n, x, y, jb) else none
  | _, _ => none)
 | _ => none
def insNMem (hk ik : K) (e ity : TypeId) (m : Mem) (j : Nat) (l : List hk.T) (ls : List (List ik.T)) (ja : Nat) (n : Int) (x : hk.T) (y : List ik.T) (jb : Nat) : Mem :=
 killO (goneL true [ja, jb] m ++ [.bag ik (insL (padL l.length ls) n y) ity true true]) (some j) ++ [.row (.nest hk (insL l n x) m.length) e true]
def insNCon (hk ik : K) (e ity : TypeId) : Con :=
 {tr := fun _ args m kk => match insNArgs hk ik e ity args m with
   | some (j, l, ls, ja, n, x, y, jb) => req (decide (0 ≤ n) && decide (n ≤ lenL l) && room (lenL l) 1) (kk (.row (m.length + 1)) (insNMem hk ik e ity m j l ls ja n x y jb))
   | none => none
  q := false, law := false, det := true }
theorem ins_get {α : Type} {l : List α} {n : Nat} (hn : n ≤ l.length) (x : α) (i : Nat) : (l.take n ++ x :: l.drop n)[i]? = if i < n then l[i]? else if i = n then some x else l[i - 1]? := by
 by_cases h1 : i < n
 ·rw [if_pos h1, List.getElem?_append_left (by simp; omega), List.getElem?_take, if_pos h1]
 ·rw [if_neg h1, List.getElem?_append_right (by simp; omega), List.length_take, Nat.min_eq_left hn]
  by_cases h2 : i = n
  ·rw [if_pos h2, h2]; simp
  ·rw [if_neg h2, show i - n = (i - n - 1) + 1 by omega, List.getElem?_cons_succ, List.getElem?_drop]
   congr 1
   omega
theorem insN_ok {P : Program} {f : FuncId} (hk ik : K) (e ity : TypeId)
  (h : ∀ (base : Nat) (w : World) (v u : Value) (n i : Nat) (cs xs : List Value), w.ownsRow base e (hk.sz + 1) v n cs → w.ownsRow base e (hk.sz + 1) u 1 xs → (∀ b, v.ownBlock = some b → u.ownBlock ≠ some b) → (∀ x ∈ cs, oneC x = true) → (∀ x ∈ xs, oneC x = true) → base ≤ w.heap.size → i ≤ n → n + 1 ≤ 274877906944 →
   Calls P f #[v, .int .i64 (i : Int), u] w fun r w' => ∃ v', r = .returned v' ∧ w'.ownsRow base e (hk.sz + 1) v' (n + 1) (cs.take (i * (hk.sz + 1)) ++ xs ++ cs.drop (i * (hk.sz + 1))) ∧ w.grownBy w' v.ownBlock ∧ (∀ b, v'.ownBlock = some b → v.ownBlock = some b ∨ w.heap.size ≤ b)) : TrOk P f (insNCon hk ik e ity) := by
 have inv : ∀ {X : Type} {args : List SV} {m : Mem} {kk : SV → Mem → Option X} {z : X}, (insNCon hk ik e ity).tr X args m kk = some z → ∃ (j jv : Nat) (l : List hk.T) (ls : List (List ik.T)) (ja : Nat) (n : Int) (x : hk.T) (y : List ik.T) (jb : Nat), args = [.row j, .i .i64 n, .row jv] ∧ ownNst m hk ik e ity j = some (l, ls, ja) ∧ ownNst m hk ik e ity jv = some ([x], [y], jb) ∧ j ≠ jv ∧ ja ≠ jb ∧ 0 ≤ n ∧ n ≤ lenL l ∧ room (lenL l) 1 = true ∧
   insNArgs hk ik e ity args m = some (j, l, ls, ja, n, x, y, jb) ∧ kk (.row (m.length + 1)) (insNMem hk ik e ity m j l ls ja n x y jb) = some z := by
  intro X args m kk z hz
  simp only [insNCon] at hz
  split at hz
  ·rename_i j l ls ja n x y jb ha
   obtain ⟨h1, h2⟩ := req_some hz
   simp only [Bool.and_eq_true, decide_eq_true_eq] at h1
   have ha0 := ha
   unfold insNArgs at ha
   split at ha
   ·rename_i j1 n1 jv1
    split at ha
    ·rename_i q1 q2
     split at ha
     ·rename_i hne
      simp only [Bool.and_eq_true, bne_iff_ne, ne_eq] at hne
      simp only [Option.some.injEq, Prod.mk.injEq] at ha
      obtain ⟨rfl, rfl, rfl, rfl, rfl, rfl, rfl, rfl⟩ := ha
      exact ⟨_, _, _, _, _, _, _, _, _, rfl, q1, q2, hne.1, hne.2, h1.1.1, h1.1.2, h1.2, ha0, h2⟩
     ·cases ha
    ·cases ha
   ·cases ha
  ·cases hz
 refine ⟨fun W _ X args m kk z hz _ => ⟨fun _ ρ w hm => ?_⟩, (fun hq => by cases hq), fun _ X args m kk z hz => ?_⟩
 ·obtain ⟨j, jv, l, ls, ja, n, x, y, jb, rfl, hA, hB, hne, hjb, h0, h1, hroom, _, hk2⟩ := inv hz
  clear hz
  obtain ⟨fa, a3, a4⟩ := ownNst_ok hA
  obtain ⟨fb, b3, b4⟩ := ownNst_ok hB
  obtain ⟨va, va1, va2, va3, va4, va5, _, va7⟩ := bag_pad hm a4
  obtain ⟨vb, vb1, vb2, _, _, _, vb6, vb7⟩ := bag_pad hm b4
  obtain ⟨u0, rfl⟩ : ∃ u0, vb = [u0] := by
   match vb, vb2 with
   | [u], _ => exact ⟨u, rfl⟩
  have hu0 := vb6 0 u0 y rfl rfl
  have hlp : (padV l.length va).length = l.length := padV_len _ _
  have hln : (padL l.length ls).length = l.length := pad_len _ _
  have hnl : n.toNat ≤ l.length := by unfold lenL at h1; omega
  have hub : ∀ b, valBlock u0 = some b → b ∈ valBlocks (ρ jb) := fun b hb => by rw [vb1]; simp [valBlocks, hb]
  have hcross : ∀ (z : Value) (b : Nat), z ∈ padV l.length va → valBlock z = some b → valBlock u0 ≠ some b := fun z b hz hb hb2 => by
   exact hm.sep ja jb _ _ hjb a4 b4 rfl rfl b ((va4 l.length z hz b).1 hb) (by rw [blocks_mut rfl]; exact hub b hb2)
  have hget : ∀ (p : Nat) (z : Value), (insL (padV l.length va) n u0)[p]? = some z → (p < n.toNat ∧ (padV l.length va)[p]? = some z) ∨ (p = n.toNat ∧ z = u0) ∨ (n.toNat < p ∧ (padV l.length va)[p - 1]? = some z) := fun p z hz => by
   unfold insL at hz
   rw [ins_get (by omega)] at hz
   split at hz
   ·exact .inl ⟨by assumption, hz⟩
   ·split at hz
    ·injection hz with hz; exact .inr (.inl ⟨by assumption, hz.symm⟩)
    ·exact .inr (.inr ⟨by omega, hz⟩)
  have hmem : ∀ z, z ∈ insL (padV l.length va) n u0 → z ∈ padV l.length va ∨ z = u0 := fun z hz => by
   obtain ⟨p, hp⟩ := List.mem_iff_getElem?.1 hz
   rcases hget p z hp with ⟨_, h⟩ | ⟨_, h⟩ | ⟨_, h⟩
   ·exact .inl (List.mem_of_getElem? h)
   ·exact .inr h
   ·exact .inl (List.mem_of_getElem? h)
  obtain ⟨g1, g2⟩ := hm.bagPush (k := ik) (ls := insL (padL l.length ls) n y) (ity := ity) (own := true) (fr := true) (vs := insL (padV l.length va) n u0) [ja, jb]
   (by simp [insL, hlp, hln]) (fun p z lz hp hl => by
    unfold insL at hl
    rw [ins_get (by omega)] at hl
    rcases hget p z hp with ⟨h, hp⟩ | ⟨rfl, rfl⟩ | ⟨h, hp⟩
    ·rw [if_pos h] at hl
     obtain ⟨r1, r2⟩ := va3 l.length p z lz hp hl
     exact ⟨r1, fun _ => r2 rfl⟩
    ·rw [if_neg (by omega), if_pos rfl] at hl
     injection hl with hl
     subst hl
     exact ⟨hu0.1, fun _ => hu0.2 rfl⟩
    ·rw [if_neg (by omega), if_neg (by omega)] at hl
     obtain ⟨r1, r2⟩ := va3 l.length (p - 1) z lz hp hl
     exact ⟨r1, fun _ => r2 rfl⟩) (fun z hz b hb => by
    rcases hmem z hz with hz | rfl
    ·exact ⟨ja, by simp, _, a4, rfl, rd_blocks ((va4 l.length z hz b).2 hb)⟩
    ·exact ⟨jb, by simp, _, b4, rfl, by rw [blocks_mut rfl]; exact hub b (rd_val hb)⟩) (fun _ z hz b hb => by
    rcases hmem z hz with hz | rfl
    ·exact ⟨ja, by simp, _, a4, (va4 l.length z hz b).1 hb, rfl⟩
    ·exact ⟨jb, by simp, _, b4, hub b hb, rfl⟩) (fun _ p q z z' b hpq hp hq hb => by
    rcases hget p z hp with ⟨h, hp2⟩ | ⟨rfl, rfl⟩ | ⟨h, hp2⟩ <;> rcases hget q z' hq with ⟨h', hq2⟩ | ⟨rfl, rfl⟩ | ⟨h', hq2⟩
    ·exact va5 rfl l.length p q z z' b hpq hp2 hq2 hb
    ·exact hcross z b (List.mem_of_getElem? hp2) hb
    ·exact va5 rfl l.length p (q - 1) z z' b (by omega) hp2 hq2 hb
    ·exact fun hb2 => hcross z' b (List.mem_of_getElem? hq2) hb2 hb
    ·exact absurd rfl hpq
    ·exact fun hb2 => hcross z' b (List.mem_of_getElem? hq2) hb2 hb
    ·exact va5 rfl l.length (p - 1) q z z' b (by omega) hp2 hq2 hb
    ·exact hcross z b (List.mem_of_getElem? hp2) hb
    ·exact va5 rfl l.length (p - 1) (q - 1) z z' b (by omega) hp2 hq2 hb) (fun _ z hz b hb => by
    rcases hmem z hz with hz | rfl
    ·exact (va7 rfl).2 l.length z hz b hb
    ·exact (vb7 rfl).1 _ (by simp) b hb)
  obtain ⟨_, hgl, _, _, _, hkeep⟩ := goneL_spec true [ja, jb] hm
  have hag := upd_agree ρ m.length (.tuple (insL (padV l.length va) n u0).toArray)
  -- the call
  obtain ⟨_, hc1, ho1⟩ := hm.obj j _ a3
  obtain ⟨_, hc2, ho2⟩ := hm.obj jv _ b3
  rw [if_pos rfl] at ho1 ho2
  have hd1 : den ρ (.row j) = ρ j := row_val hm a3
  have hd2 : den ρ (.row jv) = ρ jv := row_val hm b3
  have e1 : ((n.toNat : Nat) : Int) = n := Int.toNat_of_nonneg h0
  have hro : l.length + 1 ≤ 274877906944 := by
   have := Nat.le_of_ble_eq_true hroom
   simpa [lenL] using this
  have hjow : ∀ (q : Nat) (b : Nat), (ρ q).ownBlock = some b → b ∈ valBlocks (ρ q) := by
   intro q b hb
   refine mem_blocks ?_
   revert hb
   cases ρ q <;> simp [Value.ownBlock, valBlock]
   rename_i A1 _ _
   cases A1 <;> simp
  have := h W.heap.size w (ρ j) (ρ jv) l.length n.toNat _ _ ho1 ho2 (fun b hb hb' => hm.sep j jv _ _ hne a3 b3 rfl rfl b (hjow j b hb) (by rw [blocks_mut rfl]; exact hjow jv b hb')) hc1 hc2 hm.below.size hnl hro
  rw [e1] at this
  have ed : (denL ρ [.row j, .i .i64 n, .row jv]).toArray = #[ρ j, .int .i64 n, ρ jv] := by
   show #[den ρ (.row j), .int .i64 n, den ρ (.row jv)] = _
   rw [hd1, hd2]
  rw [ed]
  refine this.mono ?_
  rintro r w' ⟨v', rfl, hown, hgb, hblk⟩
  have hjl : j < m.length := (List.getElem?_eq_some_iff.1 a3).1
  have hjn : j ∉ [ja, jb] := by
   simp only [List.mem_cons, List.not_mem_nil, or_false, not_or]
   exact ⟨(fun e => by rw [e, a4] at a3; cases a3), (fun e => by rw [e, b4] at a3; cases a3)⟩
  have hm1j : (goneL true [ja, jb] m ++ [Obj.bag ik (insL (padL l.length ls) n y) ity true true])[j]? = some (.row (.nest hk l ja) e true) := by
   rw [List.getElem?_append_left (by rw [hgl]; exact hjl), hkeep j hjn, a3]
  have hIl : (insL l n x).length = l.length + 1 := by unfold insL; simp; omega
  have hden : nestDen (upd ρ m.length (.tuple (insL (padV l.length va) n u0).toArray)) hk (.tuple (insL (padV l.length va) n u0).toArray) (insL l n x) 0 = ((C.nest hk l ja).den ρ).take (n.toNat * (hk.sz + 1)) ++ (C.nest hk [x] jb).den ρ ++ ((C.nest hk l ja).den ρ).drop (n.toNat * (hk.sz + 1)) := by
   have hsplit : (C.nest hk l ja).den ρ = nestDen ρ hk (ρ ja) (l.take n.toNat) 0 ++ nestDen ρ hk (ρ ja) (l.drop n.toNat) n.toNat := by
    simp only [C.den]
    conv => lhs; rw [← List.take_append_drop n.toNat l]
    rw [nestDen_app, Nat.zero_add, List.length_take, Nat.min_eq_left hnl]
   have hlt : (nestDen ρ hk (ρ ja) (l.take n.toNat) 0).length = n.toNat * (hk.sz + 1) := by rw [nest_len, List.length_take, Nat.min_eq_left hnl]
   rw [hsplit, List.take_left' hlt, List.drop_left' hlt, nestDen_enc ρ]
   unfold insL
   rw [nestDen_app, Nat.zero_add, List.length_take, Nat.min_eq_left hnl, nestDen, List.append_assoc]
   have hin : ∀ p : Nat, innV (.tuple ((padV l.length va).take n.toNat ++ u0 :: (padV l.length va).drop n.toNat).toArray) (p : Int) = sliceVal ((if p < n.toNat then (padV l.length va)[p]? else if p = n.toNat then some u0 else (padV l.length va)[p - 1]?).getD (.slice none 0 0)) := fun p => by
    rw [innV_tup, List.getD_eq_getElem?_getD, ins_get (by omega)]
   have hia : ∀ p : Nat, p < l.length → innV (ρ ja) (p : Int) = sliceVal (((padV l.length va)[p]?).getD (.slice none 0 0)) := fun p hp => by
    rw [va1, innV_tup, padV_get, if_pos hp]; rfl
   congr 1
   ·refine nestDen_congr _ _ _ _ _ _ _ fun p hp => ?_
    have hp : p < n.toNat := by simp at hp; omega
    rw [Nat.zero_add, hin, if_pos hp, hia p (by omega)]
   ·simp only [C.den, nestDen]
    rw [hin, if_neg (by omega), if_pos rfl, vb1, show ((0 : Nat) : Int) = ((0 : Nat) : Int) from rfl, innV_tup]
    simp only [Option.getD_some, List.getD_cons_zero, List.append_assoc, List.cons_append, List.nil_append]
    congr 2
    refine nestDen_congr _ _ _ _ _ _ _ fun p hp => ?_
    have hp : n.toNat + p < l.length := by simp at hp; omega
    rw [hin, if_neg (by omega), if_neg (by omega), hia _ hp, show n.toNat + 1 + p - 1 = n.toNat + p by omega]
  obtain ⟨hrel, A', c', hv'⟩ := g1.grow (j := some j) (xv := ρ j) (d := .nest hk (insL l n x) m.length) (e := e) (.inr ⟨j, _, rfl, by rw [hag j hjl], hm1j⟩) ho1 hgb hblk (by simp [C.sz]) (by simp [C.lt, g2])
   (fun u hu => by simp only [C.den, upd_same] at hu; exact nest_one _ _ _ _ _ u hu) (by
    simp only [C.den, upd_same, hden, C.n, C.sz, hIl]
    exact hown)
  have hlen : (killO (goneL true [ja, jb] m ++ [Obj.bag ik (insL (padL l.length ls) n y) ity true true]) (some j)).length = m.length + 1 := by simp [killO, g2]
  refine ⟨_, .row (m.length + 1), _, ?_, hrel, hag.trans (upd_agree _ _ _) (by rw [g2]; omega), by simp [killO, g2]; omega, fun _ => by simp [SV.lt, killO, g2], hk2⟩
  congr 1
  rw [show (goneL true [ja, jb] m ++ [Obj.bag ik (insL (padL l.length ls) n y) ity true true]).length = m.length + 1 from g2]
  simp only [den, upd_same, hv', sliceVal]
 ·obtain ⟨j, jv, l, ls, ja, n, x, y, jb, rfl, hA, hB, hne, hjb, h0, h1, hroom, ha, hk2⟩ := inv hz
  refine ⟨.row (m.length + 1), _, ?_, hk2, fun hl => by cases hl⟩
  simp only [insNCon, ha]
  rw [show (decide (0 ≤ n) && decide (n ≤ lenL l) && room (lenL l) 1) = true by simp [h0, h1, hroom]]
  rfl
def adLt (a b : Ad) : Bool := (!a.v6 && b.v6) || (a.v6 == b.v6 && (decide (a.hi < b.hi) || (decide (a.hi = b.hi) && decide (a.lo < b.lo))))
def insS (x : Ls) : List Ls → List Ls
 | [] => [x]
 | y :: r => if adLt y.ad x.ad then y :: insS x r else x :: y :: r
def sortL : List Ls → List Ls
 | [] => []
 | x :: r => insS x (sortL r)
def apartL : List Ls → Bool
 | [] => true
 | x :: r => r.all (fun y => decide (y.ad ≠ x.ad)) && apartL r
theorem RelM.rewritten {W : World} {ρ : Nat → Value} {m : Mem} {w w' : World} (hm : RelM W ρ m w) {j : Nat} {c : C} {bt : TypeId} (hj : m[j]? = some (.row c bt true)) {k : K} {l : List k.T} {e : TypeId}
  (hown' : w'.ownsRow W.heap.size e k.sz (ρ j) l.length (l.flatMap fun a => denL ρ (k.enc a))) (hgb : w.grownBy w' (ρ j).ownBlock) : RelM W ρ (m.set j (.row (.ty k l) e true)) w' := by
 have hjl : j < m.length := (List.getElem?_eq_some_iff.1 hj).1
 have hset : ∀ (i : Nat) (x : Obj), (m.set j (.row (.ty k l) e true))[i]? = some x → (i = j ∧ x = .row (.ty k l) e true) ∨ (i ≠ j ∧ m[i]? = some x) := by
  intro i x hi
  by_cases hij : i = j
  ·subst hij
   rw [List.getElem?_set_self hjl] at hi
   injection hi with hi
   exact .inl ⟨rfl, hi.symm⟩
  ·rw [List.getElem?_set_ne (by omega)] at hi
   exact .inr ⟨hij, hi⟩
 have hjow : ∀ b, (ρ j).ownBlock = some b → b ∈ valBlocks (ρ j) := by
  intro b hb
  refine mem_blocks ?_
  revert hb
  cases ρ j <;> simp [Value.ownBlock, valBlock]
  rename_i A1 _ _
  cases A1 <;> simp
 have hbase : ∀ b, (ρ j).ownBlock = some b → W.heap.size ≤ b := by
  intro b hb
  obtain ⟨_, _, hown⟩ := hm.obj j _ hj
  rw [if_pos rfl] at hown
  rcases hown.2 with ⟨h, _⟩ | ⟨g, cp, cur, h, h2, _⟩
  ·rw [h] at hb; cases hb
  ·rw [h] at hb
   simp only [Value.ownBlock, Option.some.injEq] at hb
   omega
 refine ⟨hm.below.grown hgb hm.below.size hbase, fun i o hi => ?_, fun i q o1 o2 hiq hi hq hmu hd => ?_, fun i o hi => ?_⟩
 ·rcases hset i o hi with ⟨rfl, rfl⟩ | ⟨hne, hi⟩
  ·refine ⟨(sz_pos k : 0 < k.sz), fun u hu => flat_one' hu, ?_⟩
   rw [if_pos rfl]
   exact hown'
  ·cases hdd : o.deadB
   ·exact (hm.obj i o hi).keep (fun b hb hlt => hgb.block b hlt (fun e => hm.sep j i _ o (by omega) hj hi rfl (deadB_iff.2 hdd) b (hjow b e.symm) hb)) hgb.size
   ·exact (hm.obj i o hi).still hdd
 ·have hi' : ∃ o1', m[i]? = some o1' ∧ o1'.mutB = true := by
   rcases hset i o1 hi with ⟨rfl, rfl⟩ | ⟨hne, hi⟩
   ·exact ⟨_, hj, rfl⟩
   ·exact ⟨_, hi, hmu⟩
  have hq' : ∃ o2', m[q]? = some o2' ∧ (o2' matches .dead _) = false ∧ o2.blocks = o2'.blocks := by
   rcases hset q o2 hq with ⟨rfl, rfl⟩ | ⟨hne, hq⟩
   ·exact ⟨_, hj, rfl, rfl⟩
   ·exact ⟨_, hq, hd, rfl⟩
  obtain ⟨o1', hi', hm'⟩ := hi'
  obtain ⟨o2', hq', hd', hbl⟩ := hq'
  rw [hbl]
  exact hm.sep i q o1' o2' hiq hi' hq' hm' hd'
 ·rw [List.length_set]
  rcases hset i o hi with ⟨rfl, rfl⟩ | ⟨_, hi⟩
  ·rfl
  ·exact hm.lt i o hi
def sortArgs (k : K) (e : TypeId) (g : FuncId) (args : List SV) (m : Mem) : Option (Nat × List k.T) :=
 match args with
 | [.row j, .fn g' []] => (match m[j]? with | some (.row (.ty k1 l) bt true) => if h : k1 = k then (if bt == e && g' == g then some (j, castL h l) else none) else none | _ => none)
 | _ => none
def sortCon (k : K) (ok : List k.T → Bool) (srt : List k.T → List k.T) (e : TypeId) (g : FuncId) : Con :=
 {tr := fun _ args m kk => match sortArgs k e g args m with
   | some (j, l) => req (ok l) (kk (.tup []) (m.set j (.row (.ty k (srt l)) e true)))
   | none => none
  q := false, law := false, det := true }
theorem sortArgs_ok {k : K} {e : TypeId} {g : FuncId} {args : List SV} {m : Mem} {j : Nat} {l : List k.T} (h : sortArgs k e g args m = some (j, l)) : args = [.row j, .fn g []] ∧ m[j]? = some (.row (.ty k l) e true) := by
 unfold sortArgs at h
 split at h
 ·split at h
  ·rename_i hj
   split at h
   ·rename_i hk
    subst hk
    split at h
    ·rename_i hc
     simp only [Bool.and_eq_true, beq_iff_eq] at hc
     obtain ⟨rfl, rfl⟩ := hc
     simp only [Option.some.injEq, Prod.mk.injEq] at h
     obtain ⟨rfl, rfl⟩ := h
     exact ⟨rfl, hj⟩
    ·cases h
   ·cases h
  ·cases h
 ·cases h
theorem sort_ok {P : Program} {f : FuncId} (k : K) (ok : List k.T → Bool) (srt : List k.T → List k.T) (e : TypeId) (g : FuncId)
  (h : ∀ (W : World), Glob P W → ∀ (base : Nat) (w : World) (v : Value) (l : List k.T) (ρ : Nat → Value), Below W.heap.size W w → w.ownsRow base e k.sz v l.length (l.flatMap fun a => denL ρ (k.enc a)) → base ≤ w.heap.size → ok l = true →
   Calls P f #[v, .func (.func g) #[] #[]] w fun r w' => r = .returned (.tuple #[]) ∧ w'.ownsRow base e k.sz v (srt l).length ((srt l).flatMap fun a => denL ρ (k.enc a)) ∧ w.grownBy w' v.ownBlock) : TrOk P f (sortCon k ok srt e g) := by
 have inv : ∀ {X : Type} {args : List SV} {m : Mem} {kk : SV → Mem → Option X} {x : X}, (sortCon k ok srt e g).tr X args m kk = some x → ∃ (j : Nat) (l : List k.T), sortArgs k e g args m = some (j, l) ∧ ok l = true ∧ kk (.tup []) (m.set j (.row (.ty k (srt l)) e true)) = some x := by
  intro X args m kk x hk
  simp only [sortCon] at hk
  split at hk
  ·rename_i j l ha
   obtain ⟨h1, h2⟩ := req_some hk
   exact ⟨j, l, ha, h1, h2⟩
  ·cases hk
 refine ⟨fun W hG X args m kk x hk _ => ⟨fun _ ρ w hm => ?_⟩, (fun hq => by cases hq), fun _ X args m kk x hk => ?_⟩
 ·obtain ⟨j, l, ha, hap, hk2⟩ := inv hk
  clear hk
  obtain ⟨rfl, hj⟩ := sortArgs_ok ha
  obtain ⟨_, hc1, ho1⟩ := hm.obj j _ hj
  rw [if_pos rfl] at ho1
  have hd1 : den ρ (.row j) = ρ j := row_val hm hj
  have ed : (denL ρ [.row j, .fn g []]).toArray = #[ρ j, .func (.func g) #[] #[]] := by
   show #[den ρ (.row j), den ρ (.fn g [])] = _
   rw [hd1]
   rfl
  rw [ed]
  refine (h W hG W.heap.size w (ρ j) l ρ hm.below ho1 hm.below.size hap).mono ?_
  rintro r w' ⟨rfl, hown, hgb⟩
  exact ⟨ρ, .tup [], _, rfl, hm.rewritten (k := k) hj hown hgb, Agree.refl _ _, by simp, fun _ => rfl, hk2⟩
 ·obtain ⟨j, l, ha, hap, hk2⟩ := inv hk
  refine ⟨.tup [], _, ?_, hk2, fun hl => by cases hl⟩
  simp only [sortCon, ha]
  rw [hap]
  rfl
def sortOkL (l : List Ls) : Bool := !l.isEmpty && (room (lenL l) 0 && apartL l)
theorem adLt_iff (a b : Ad) : adLt a b = true ↔ (a.v6 = false ∧ b.v6 = true) ∨ (a.v6 = b.v6 ∧ (a.hi < b.hi ∨ (a.hi = b.hi ∧ a.lo < b.lo))) := by
 unfold adLt
 cases a.v6 <;> cases b.v6 <;> simp
theorem adLt_not {a b : Ad} : adLt a b = false ↔ ¬ adLt a b = true := by cases adLt a b <;> simp
theorem adLt_irrefl (a : Ad) : adLt a a = false := by
 rw [adLt_not, adLt_iff]
 rintro (⟨h1, h2⟩ | ⟨_, h | ⟨_, h⟩⟩)
 ·rw [h1] at h2; cases h2
 ·omega
 ·omega
theorem adLt_trans {a b c : Ad} (h1 : adLt a b = true) (h2 : adLt b c = true) : adLt a c = true := by
 rw [adLt_iff] at *
 rcases h1 with ⟨p1, p2⟩ | ⟨p1, p2⟩ <;> rcases h2 with ⟨q1, q2⟩ | ⟨q1, q2⟩
 ·rw [p2] at q1; cases q1
 ·exact .inl ⟨p1, by rw [← q1]; exact p2⟩
 ·exact .inl ⟨by rw [p1]; exact q1, q2⟩
 ·exact .inr ⟨p1.trans q1, by omega⟩
theorem adLt_tri (a b : Ad) (h1 : adLt a b = false) (h2 : adLt b a = false) : a = b := by
 rw [adLt_not, adLt_iff] at h1 h2
 obtain ⟨av, ah, al⟩ := a
 obtain ⟨bv, bh, bl⟩ := b
 simp only at h1 h2
 have hv : av = bv := by cases av <;> cases bv <;> simp_all
 subst hv
 have e1 : ah = bh := by
  rcases Int.lt_trichotomy ah bh with h | h | h
  ·exact absurd (.inr ⟨rfl, .inl h⟩) h1
  ·exact h
  ·exact absurd (.inr ⟨rfl, .inl h⟩) h2
 subst e1
 have e2 : al = bl := by
  rcases Int.lt_trichotomy al bl with h | h | h
  ·exact absurd (.inr ⟨rfl, .inr ⟨rfl, h⟩⟩) h1
  ·exact h
  ·exact absurd (.inr ⟨rfl, .inr ⟨rfl, h⟩⟩) h2
 subst e2
 rfl
theorem adLt_ntrans {a b c : Ad} (h1 : adLt a b = false) (h2 : adLt b c = false) : adLt a c = false := by
 cases h : adLt a c
 ·rfl
 ·exfalso
  cases hb : adLt b a
  ·have := adLt_tri a b h1 hb
   subst this
   rw [h2] at h; cases h
  ·have := adLt_trans hb h
   rw [h2] at this; cases this
theorem adLt_asymm {a b : Ad} (h : adLt a b = true) : adLt b a = false := by
 cases hb : adLt b a
 ·rfl
 ·have := adLt_trans h hb
  rw [adLt_irrefl] at this; cases this
theorem insS_perm (x : Ls) : ∀ l : List Ls, (insS x l).Perm (x :: l)
 | [] => .refl _
 | y :: r => by
  unfold insS
  split
  ·exact ((insS_perm x r).cons y).trans (.swap x y r)
  ·exact .refl _
theorem sortL_perm : ∀ l : List Ls, (sortL l).Perm l
 | [] => .refl _
 | x :: r => (insS_perm x (sortL r)).trans ((sortL_perm r).cons x)
def leL (a b : Ls) : Prop := adLt b.ad a.ad = false
theorem insS_pw (x : Ls) : ∀ l : List Ls, l.Pairwise leL → (insS x l).Pairwise leL
 | [], _ => by simp [insS]
 | y :: r, h => by
  have h' := List.pairwise_cons.1 h
  unfold insS
  split
  ·rename_i hlt
   refine List.pairwise_cons.2 ⟨fun z hz => ?_, insS_pw x r h'.2⟩
   rcases List.mem_cons.1 ((insS_perm x r).mem_iff.1 hz) with rfl | hz
   ·exact adLt_asymm hlt
   ·exact h'.1 z hz
  ·rename_i hlt
   have hyx : adLt y.ad x.ad = false := by simpa using hlt
   refine List.pairwise_cons.2 ⟨fun z hz => ?_, h⟩
   rcases List.mem_cons.1 hz with rfl | hz
   ·exact hyx
   ·exact adLt_ntrans (h'.1 z hz) hyx
theorem sortL_pw : ∀ l : List Ls, (sortL l).Pairwise leL
 | [] => .nil
 | x :: r => insS_pw x _ (sortL_pw r)
theorem apart_eq : ∀ {l : List Ls}, apartL l = true → ∀ {a b : Ls}, a ∈ l → b ∈ l → a.ad = b.ad → a = b
 | [], _, _, _, h, _, _ => by cases h
 | x :: r, hap, a, b, ha, hb, he => by
  simp only [apartL, Bool.and_eq_true, List.all_eq_true, decide_eq_true_eq] at hap
  rcases List.mem_cons.1 ha with ea | ha' <;> rcases List.mem_cons.1 hb with eb | hb'
  ·rw [ea, eb]
  ·exact absurd (by rw [← he, ea]) (hap.1 b hb')
  ·exact absurd (by rw [he, eb]) (hap.1 a ha')
  ·exact apart_eq hap.2 ha' hb' he
theorem sort_uniq {l l' : List Ls} (hp : l'.Perm l) (hs : l'.Pairwise leL) (hap : apartL l = true) : l' = sortL l :=
 List.Perm.eq_of_pairwise (le := leL) (fun _ _ ha hb h1 h2 => apart_eq hap (hp.mem_iff.1 ha) ((sortL_perm l).mem_iff.1 hb) (adLt_tri _ _ h2 h1)) hs (sortL_pw l) (hp.trans (sortL_perm l).symm)
end Go.Ma
namespace Go.Ma
open Go
noncomputable def log_epoch_t (a0 : Int) : Option (Bool × Unit) :=
 (br (decide (a0 ≥ 1))
   (some (decide (a0 ≤ 999)))
   (some false)).bind fun c1 =>
 some (c1, ())
noncomputable def state_within_t (a0 : Int) (a1 : Int) (a2 : Int) : Option (Bool × Unit) :=
 (br (decide (a0 ≥ a1))
   (some (decide (a0 ≤ a2)))
   (some false)).bind fun c1 =>
 some (c1, ())
noncomputable def state_extra_t (a0 : Oq) : Option (Bool × Unit) :=
 (br (!decide (a0.kind = 1))
   (some (!(eqPf a0.pf (⟨(⟨false, 0, 0⟩ : Ad), 0⟩ : Pf))))
   (some false)).bind fun c1 =>
 (br c1
   (some true)
   (br (!decide (a0.kind = 2))
    (some (!(eqAd a0.ad (⟨false, 0, 0⟩ : Ad))))
    (some false))).bind fun c2 =>
 (br c2
   (some true)
   (br (!decide (a0.kind = 3))
    (br (!decide (a0.kind = 4))
     (some (strcmp .neq a0.who (ByteArray.empty)))
     (some false))
    (some false))).bind fun c3 =>
 (br c3
   (some true)
   (br (!decide (a0.kind = 3))
    (some (!decide (a0.of_ = 0)))
    (some false))).bind fun c4 =>
 (br c4
   (some true)
   (br (!decide (a0.kind = 3))
    (br (!decide (a0.kind = 5))
     (some (!decide (a0.n = 0)))
     (some false))
    (some false))).bind fun c5 =>
 some (c5, ())
noncomputable def addr_Check_t (a0 : Ad) : Option (Int × Unit) :=
 (br (!a0.v6)
   (br (!decide (a0.hi = 0))
    (some true)
    (some (decide (a0.lo ≥ 4294967296))))
   (some false)).bind fun c1 =>
 br c1
  (some (3, ()))
  (some (0, ()))
noncomputable def prefix_Wide_t (a0 : Ad) : Option (Int × Unit) :=
 br a0.v6
  (some (128, ()))
  (some (32, ()))
noncomputable def prefix_mask_t (a0 : Ad) (a1 : Int) : Option (Ad × Unit) :=
 (prefix_Wide_t a0).bind fun y1 =>
 req (i64ok (y1.1 - a1)) <|
 br (decide (y1.1 - a1 < 64))
  (req (decide (0 ≤ y1.1 - a1)) <|
  br (decide (y1.1 - a1 > 64))
   (br (decide (y1.1 - a1 < 128))
    (req (i64ok ((y1.1 - a1) - 64)) <|
    req (decide (0 ≤ (y1.1 - a1) - 64)) <|
    some ((⟨a0.v6, aop .sub .u64 (aop .shl .u64 1 ((y1.1 - a1) - 64)) 1, aop .sub .u64 (aop .shl .u64 1 (y1.1 - a1)) 1⟩ : Ad), ()))
    (some ((⟨a0.v6, 18446744073709551615, aop .sub .u64 (aop .shl .u64 1 (y1.1 - a1)) 1⟩ : Ad), ())))
   (some ((⟨a0.v6, 0, aop .sub .u64 (aop .shl .u64 1 (y1.1 - a1)) 1⟩ : Ad), ())))
  (br (decide (y1.1 - a1 > 64))
   (br (decide (y1.1 - a1 < 128))
    (req (i64ok ((y1.1 - a1) - 64)) <|
    req (decide (0 ≤ (y1.1 - a1) - 64)) <|
    some ((⟨a0.v6, aop .sub .u64 (aop .shl .u64 1 ((y1.1 - a1) - 64)) 1, 18446744073709551615⟩ : Ad), ()))
    (some ((⟨a0.v6, 18446744073709551615, 18446744073709551615⟩ : Ad), ())))
   (some ((⟨a0.v6, 0, 18446744073709551615⟩ : Ad), ())))
noncomputable def prefix_Cut_t (a0 : Ad) (a1 : Int) : Option (Ad × Unit) :=
 (prefix_mask_t a0 a1).bind fun y1 =>
 some ((⟨a0.v6, aop .andNot .u64 a0.hi y1.1.hi, aop .andNot .u64 a0.lo y1.1.lo⟩ : Ad), ())
noncomputable def prefix_Check_t (a0 : Pf) : Option (Int × Unit) :=
 (addr_Check_t a0.ad).bind fun y1 =>
 br (!decide (y1.1 = 0))
  (some (y1.1, ()))
  ((br (decide (a0.bits < 0))
    (some true)
    ((prefix_Wide_t a0.ad).bind fun y2 =>
    some (decide (a0.bits > y2.1)))).bind fun c2 =>
  br c2
   (some (3, ()))
   ((prefix_Cut_t a0.ad a0.bits).bind fun y3 =>
   br (!(eqAd y3.1 a0.ad))
    (some (4, ()))
    (some (0, ()))))
noncomputable def lease_Narrow_t (a0 : Pf) : Option (Bool × Unit) :=
 (prefix_Wide_t a0.ad).bind fun y1 =>
 req (i64ok (y1.1 - a0.bits)) <|
 some (decide (y1.1 - a0.bits ≤ 4), ())
noncomputable def lease_within_t (a0 : Int) (a1 : Int) (a2 : Int) : Option (Bool × Unit) :=
 (br (decide (a0 ≥ a1))
   (some (decide (a0 ≤ a2)))
   (some false)).bind fun c1 =>
 some (c1, ())
noncomputable def lease_Who_L2 (rec : (((ByteArray × Unit) × (Int × Unit) × (Int × Unit) × Unit) × (Unit)) → Option ((((Bool × Unit) × Unit) × (Unit)) ⊕ (((ByteArray × Unit) × Unit) × (Unit)))) (x : (((ByteArray × Unit) × (Int × Unit) × (Int × Unit) × Unit) × (Unit))) : Option ((((Bool × Unit) × Unit) × (Unit)) ⊕ (((ByteArray × Unit) × Unit) × (Unit))) :=
 let v0 := x.1.1.1
 let v1 := x.1.2.1.1
 let v2 := x.1.2.2.1.1
 br (decide (v2 < v1))
  (req (inRange v2 (lenS v0)) <|
  (br (decide (byteAt v0 v2 ≥ 97))
    (some (decide (byteAt v0 v2 ≤ 122)))
    (some false)).bind fun c1 =>
  (br (!c1)
    (br (decide (byteAt v0 v2 ≥ 48))
     (some (!(decide (byteAt v0 v2 ≤ 57))))
     (some true))
    (some false)).bind fun c2 =>
  br c2
   (some (Sum.inl (((false, ()), ()), (()))))
   (req (i64ok (v2 + 1)) <|
   rec (((v0, ()), (v1, ()), (v2 + 1, ()), ()), (()))))
  (some (Sum.inr ((((v0, ()), ()), (())))))
noncomputable def lease_Who_t (a0 : ByteArray) : Option (Bool × Unit) :=
 (loopN lease_Who_L2 FUEL (((a0, ()), (lenS a0, ()), (0, ()), ()), (()))).bind fun y1 =>
 sumC y1 (fun y2 =>
  some (y2.1.1.1, ())) (fun y3 =>
  (lease_within_t (lenS y3.1.1.1) 1 8).bind fun y4 =>
  some (y4.1, ()))
noncomputable def state_Form_t (a0 : Oq) : Option (Int × Unit) :=
 (state_within_t a0.kind 1 5).bind fun y1 =>
 br (!y1.1)
  (some (7, ()))
  ((state_extra_t a0).bind fun y2 =>
  br y2.1
   (some (1, ()))
   (br (decide (a0.kind = 1))
    ((prefix_Check_t a0.pf).bind fun y3 =>
    br (!decide (y3.1 = 0))
     (some (y3.1, ()))
     ((lease_Narrow_t a0.pf).bind fun y4 =>
     br (!y4.1)
      (some (2, ()))
      (some (0, ()))))
    (br (decide (a0.kind = 2))
     ((addr_Check_t a0.ad).bind fun y3 =>
     some (y3.1, ()))
     (br (decide (a0.kind = 3))
      (br (decide (a0.kind = 3))
       ((lease_Who_t a0.who).bind fun y3 =>
       br (!y3.1)
        (some (1, ()))
        ((br (decide (a0.kind = 3))
          ((state_within_t a0.of_ 0 2).bind fun y4 =>
          br (!y4.1)
           (some true)
           ((state_within_t a0.n 1 500).bind fun y5 =>
           some (!y5.1)))
          (some false)).bind fun c4 =>
        br c4
         (some (3, ()))
         (some (0, ()))))
       (br (decide (a0.kind = 5))
        ((state_within_t a0.n 0 9999).bind fun y3 =>
        br (!y3.1)
         (some (3, ()))
         (some (0, ())))
        (some (0, ()))))
      (br (decide (a0.kind = 4))
       ((lease_Who_t a0.who).bind fun y3 =>
       br (!y3.1)
        (some (1, ()))
        ((br (decide (a0.kind = 3))
          ((state_within_t a0.of_ 0 2).bind fun y4 =>
          br (!y4.1)
           (some true)
           ((state_within_t a0.n 1 500).bind fun y5 =>
           some (!y5.1)))
          (some false)).bind fun c4 =>
        br c4
         (some (3, ()))
         (some (0, ()))))
       (br (decide (a0.kind = 5))
        ((state_within_t a0.n 0 9999).bind fun y3 =>
        br (!y3.1)
         (some (3, ()))
         (some (0, ())))
        (some (0, ()))))))))
noncomputable def log_Check_L4 (rec : (((Unit) × (Unit) × (Int × Unit) × (Int × Unit) × Unit) × (List En × Unit)) → Option ((((Int × Unit) × Unit) × (List En × Unit)) ⊕ ((Unit) × (List En × Unit)))) (x : (((Unit) × (Unit) × (Int × Unit) × (Int × Unit) × Unit) × (List En × Unit))) : Option ((((Int × Unit) × Unit) × (List En × Unit)) ⊕ ((Unit) × (List En × Unit))) :=
 let v0 := x.1.2.2.1.1
 let v1 := x.1.2.2.2.1.1
 let v2 := x.2.1
 br (decide (v1 < v0))
  (req (inRange v1 (lenL v2)) <|
  (geti v2 v1).bind fun p1 =>
  req (i64ok (v1 + 1)) <|
  br (!decide (p1.num = v1 + 1))
   (some (Sum.inl (((4, ()), ()), (v2, ()))))
   ((log_epoch_t p1.epoch).bind fun y2 =>
   br (!y2.1)
    (some (Sum.inl (((3, ()), ()), (v2, ()))))
    ((br (decide (v1 > 0))
      (req (i64ok (v1 - 1)) <|
      req (inRange (v1 - 1) (lenL v2)) <|
      req (inRange (v1 - 1) (lenL v2)) <|
      (geti v2 (v1 - 1)).bind fun p3 =>
      some (decide (p1.epoch < p3.epoch)))
      (some false)).bind fun c3 =>
    br c3
     (some (Sum.inl (((4, ()), ()), (v2, ()))))
     ((state_Form_t p1.op).bind fun y4 =>
     br (!decide (y4.1 = 0))
      (some (Sum.inl (((y4.1, ()), ()), (v2, ()))))
      (req (i64ok (v1 + 1)) <|
      rec (((()), (()), (v0, ()), (v1 + 1, ()), ()), (v2, ())))))))
  (some (Sum.inr (((()), (v2, ())))))
noncomputable def log_Check_t (a0 : List En) : Option (Int × Unit) :=
 br (decide (lenL a0 > 30))
  (some (2, ()))
  ((loopN log_Check_L4 FUEL (((()), (()), (lenL a0, ()), (0, ()), ()), (a0, ()))).bind fun y1 =>
  sumC y1 (fun y2 =>
   some (y2.1.1.1, ())) (fun y3 =>
   some (0, ())))
noncomputable def zq54 (a0 : List En) : Option ((List En) × Unit) :=
 nilB a0.length
  (some (([] : List En), ()))
  (req (room (lenL ([] : List En)) (lenL a0)) <|
  some (([] : List En) ++ a0, ()))
noncomputable def log_More_t (a0 : List En) (a1 : Int) (a2 : Oq) : Option ((List En) × Int × Unit) :=
 (log_epoch_t a1).bind fun y1 =>
 br (!y1.1)
  (some (([] : List En), 3, ()))
  ((br (decide (lenL a0 > 0))
    (req (i64ok ((lenL a0) - 1)) <|
    req (inRange ((lenL a0) - 1) (lenL a0)) <|
    req (inRange ((lenL a0) - 1) (lenL a0)) <|
    (geti a0 ((lenL a0) - 1)).bind fun p2 =>
    some (decide (a1 < p2.epoch)))
    (some false)).bind fun c2 =>
  br c2
   (some (([] : List En), 4, ()))
   ((state_Form_t a2).bind fun y3 =>
   br (!decide (y3.1 = 0))
    (some (([] : List En), y3.1, ()))
    (br (decide (lenL a0 = 30))
     (some (([] : List En), 2, ()))
     (req (i64ok ((lenL a0) + 1)) <|
     dup 1 <|
     (zq54 a0).bind fun y4 =>
     req (room (lenL y4.1) (lenL ([(⟨(lenL a0) + 1, a1, a2⟩ : En)] : List En))) <|
     some (y4.1 ++ ([(⟨(lenL a0) + 1, a1, a2⟩ : En)] : List En), 0, ())))))
noncomputable def log_Add_t (a0 : List En) (a1 : Int) (a2 : Oq) : Option ((List En) × Int × Unit) :=
 (log_Check_t a0).bind fun y1 =>
 br (!decide (y1.1 = 0))
  (some (([] : List En), y1.1, ()))
  ((log_More_t a0 a1 a2).bind fun y2 =>
  some (y2.1, y2.2.1, ()))
noncomputable def zq56 (a0 : List Ls) : Option ((List Ls) × Unit) :=
 nilB a0.length
  (some (([] : List Ls), ()))
  (req (room (lenL ([] : List Ls)) (lenL a0)) <|
  some (([] : List Ls) ++ a0, ()))
noncomputable def zq52 (a0 : List Ad) : Option ((List Ad) × Unit) :=
 nilB a0.length
  (some (([] : List Ad), ()))
  (req (room (lenL ([] : List Ad)) (lenL a0)) <|
  some (([] : List Ad) ++ a0, ()))
noncomputable def state_Own_L3 (rec : (((Unit) × (Unit) × (Unit) × (Int × Unit) × (Int × Unit) × Unit) × (List (List Ad) × List Pf × List Ls × (Int × Unit) × (Int × Unit) × List Pf × List Ls × List Pf × List Ls × List (List Ad) × List (List Ad) × Unit)) → Option (((Unit) × (Unit) × Unit) × (List (List Ad) × List Pf × List Ls × (Int × Unit) × (Int × Unit) × List Pf × List Ls × List Pf × List Ls × List (List Ad) × List (List Ad) × Unit))) (x : (((Unit) × (Unit) × (Unit) × (Int × Unit) × (Int × Unit) × Unit) × (List (List Ad) × List Pf × List Ls × (Int × Unit) × (Int × Unit) × List Pf × List Ls × List Pf × List Ls × List (List Ad) × List (List Ad) × Unit))) : Option (((Unit) × (Unit) × Unit) × (List (List Ad) × List Pf × List Ls × (Int × Unit) × (Int × Unit) × List Pf × List Ls × List Pf × List Ls × List (List Ad) × List (List Ad) × Unit)) :=
 let v0 := x.1.2.2.2.1.1
 let v1 := x.1.2.2.2.2.1.1
 let v2 := x.2.1
 let v3 := x.2.2.1
 let v4 := x.2.2.2.1
 let v5 := x.2.2.2.2.1.1
 let v6 := x.2.2.2.2.2.1.1
 let v7 := x.2.2.2.2.2.2.1
 let v8 := x.2.2.2.2.2.2.2.1
 let v9 := x.2.2.2.2.2.2.2.2.1
 let v10 := x.2.2.2.2.2.2.2.2.2.1
 let v11 := x.2.2.2.2.2.2.2.2.2.2.1
 let v12 := x.2.2.2.2.2.2.2.2.2.2.2.1
 br (decide (v1 < v0))
  (req (inRange v1 (lenL v3)) <|
  (geti v3 v1).bind fun p1 =>
  both
   (both
    ((zq52 (getL v2 v1)).bind fun y2 =>
    req (room (lenL v9) (lenL ([p1] : List Pf))) <|
    req (i64ok (v1 + 1)) <|
    rec (((()), (()), (()), (v0, ()), (v1 + 1, ()), ()), (v2, v3, v4, (v5, ()), (v6, ()), v7, v8, v9 ++ ([p1] : List Pf), v10, v11, padL v9.length v12 ++ ([y2.1] : List (List Ad)), ())))
    ((zq52 (getL v2 v1)).bind fun y2 =>
    dup 1 <|
    req (room (lenL v9) (lenL ([p1] : List Pf))) <|
    req (i64ok (v1 + 1)) <|
    rec (((()), (()), (()), (v0, ()), (v1 + 1, ()), ()), (v2, v3, v4, (v5, ()), (v6, ()), v7, v8, v9 ++ ([p1] : List Pf), v10, v11, padL v9.length v12 ++ ([y2.1] : List (List Ad)), ()))))
   ((zq52 (getL v2 v1)).bind fun y2 =>
   both
    (dup 1 <|
    req (room (lenL v9) (lenL ([p1] : List Pf))) <|
    req (i64ok (v1 + 1)) <|
    rec (((()), (()), (()), (v0, ()), (v1 + 1, ()), ()), (v2, v3, v4, (v5, ()), (v6, ()), v7, v8, v9 ++ ([p1] : List Pf), v10, v11, padL v9.length v12 ++ ([y2.1] : List (List Ad)), ())))
    (req (room (lenL v9) (lenL ([p1] : List Pf))) <|
    req (i64ok (v1 + 1)) <|
    rec (((()), (()), (()), (v0, ()), (v1 + 1, ()), ()), (v2, v3, v4, (v5, ()), (v6, ()), v7, v8, v9 ++ ([p1] : List Pf), v10, v11, padL v9.length v12 ++ ([y2.1] : List (List Ad)), ())))))
  (some (((()), (()), ()), (v2, v3, v4, (v5, ()), (v6, ()), v7, v8, v9, v10, v11, v12, ())))
noncomputable def state_Own_t (a0 : List Pf × List (List Ad)) (a1 : List Ls) (a2 : Int) : Option (((List Pf × List (List Ad)) × (List Ls) × Int × Unit) × Unit) :=
 dup 1 <|
 (zq56 a1).bind fun y1 =>
 (loopN state_Own_L3 FUEL (((()), (()), (()), (lenL a0.1, ()), (0, ()), ()), (a0.2, a0.1, a1, (0, ()), (a2, ()), ([] : List Pf), ([] : List Ls), ([] : List Pf), y1.1, ([] : List (List Ad)), ([] : List (List Ad)), ()))).bind fun y2 =>
 some (((y2.2.2.2.2.2.2.2.2.1, y2.2.2.2.2.2.2.2.2.2.2.2.1), y2.2.2.2.2.2.2.2.2.2.1, y2.2.2.2.2.2.1.1, ()), ())
noncomputable def prefix_Holds_t (a0 : Pf) (a1 : Ad) : Option (Bool × Unit) :=
 (br (beqB a0.ad.v6 a1.v6)
   ((prefix_Cut_t a1 a0.bits).bind fun y1 =>
   some (eqAd y1.1 a0.ad))
   (some false)).bind fun c1 =>
 some (c1, ())
noncomputable def prefix_Over_t (a0 : Pf) (a1 : Pf) : Option (Bool × Unit) :=
 (br (decide (a0.bits ≤ a1.bits))
   ((prefix_Holds_t a0 a1.ad).bind fun y1 =>
   some y1.1)
   (some false)).bind fun c1 =>
 some (c1, ())
noncomputable def prefix_Meet_t (a0 : Pf) (a1 : Pf) : Option (Bool × Unit) :=
 (prefix_Over_t a0 a1).bind fun y1 =>
 (br y1.1
   (some true)
   ((prefix_Over_t a1 a0).bind fun y2 =>
   some y2.1)).bind fun c2 =>
 some (c2, ())
noncomputable def m_state_doer__pool_1_t (a0 : Pf) (a1 : List Ad) (a2 : Pf) : Option (Bool × Unit) :=
 (prefix_Meet_t a0 a2).bind fun y1 =>
 some (y1.1, ())
noncomputable def addr_Order_1_t (a0 : Int) (a1 : Int) : Option (Int × Unit) :=
 br (decide (a0 < a1))
  (some ((-1), ()))
  (br (decide (a0 > a1))
   (some (1, ()))
   (some (0, ())))
noncomputable def addr_Order_t (a0 : Ad) (a1 : Ad) : Option (Int × Unit) :=
 (br (!(beqB a0.v6 a1.v6))
   (some a1.v6)
   (some false)).bind fun c1 =>
 br c1
  (some ((-1), ()))
  (br (!(beqB a0.v6 a1.v6))
   (some (1, ()))
   (br (!decide (a0.hi = a1.hi))
    ((addr_Order_1_t a0.hi a1.hi).bind fun y2 =>
    some (y2.1, ()))
    ((addr_Order_1_t a0.lo a1.lo).bind fun y2 =>
    some (y2.1, ()))))
noncomputable def prefix_Order_t (a0 : Pf) (a1 : Pf) : Option (Int × Unit) :=
 (addr_Order_t a0.ad a1.ad).bind fun y1 =>
 br (!decide (y1.1 = 0))
  (some (y1.1, ()))
  (req (i64ok (a0.bits - a1.bits)) <|
  some (a0.bits - a1.bits, ()))
noncomputable def zq14 (a0 : Pf) (a1 : List Ad) (a2 : Pf) : Option (Int × Unit) :=
 (prefix_Order_t a0 a2).bind fun y1 =>
 some (y1.1, ())
noncomputable def state_poolOf_1_t (a0 : Pf) (a1 : List Ad) (a2 : Ad) : Option (Bool × Unit) :=
 (prefix_Holds_t a0 a2).bind fun y1 =>
 some (y1.1, ())
noncomputable def zq92 (rec : (((Unit) × (Unit) × (Int × Unit) × (Int × Unit) × Unit) × (List (List Ad) × List Pf × List Ls × (Int × Unit) × (Ad × Unit) × Unit)) → Option ((((Int × Unit) × Unit) × (List (List Ad) × List Pf × List Ls × (Int × Unit) × (Ad × Unit) × Unit)) ⊕ ((Unit) × (List (List Ad) × List Pf × List Ls × (Int × Unit) × (Ad × Unit) × Unit)))) (x : (((Unit) × (Unit) × (Int × Unit) × (Int × Unit) × Unit) × (List (List Ad) × List Pf × List Ls × (Int × Unit) × (Ad × Unit) × Unit))) : Option ((((Int × Unit) × Unit) × (List (List Ad) × List Pf × List Ls × (Int × Unit) × (Ad × Unit) × Unit)) ⊕ ((Unit) × (List (List Ad) × List Pf × List Ls × (Int × Unit) × (Ad × Unit) × Unit))) :=
 let v0 := x.1.2.2.1.1
 let v1 := x.1.2.2.2.1.1
 let v2 := x.2.1
 let v3 := x.2.2.1
 let v4 := x.2.2.2.1
 let v5 := x.2.2.2.2.1.1
 let v6 := x.2.2.2.2.2.1.1
 br (decide (v1 < v0))
  (req (inRange v1 (lenL v3)) <|
  (geti v3 v1).bind fun p1 =>
  (state_poolOf_1_t p1 (getL v2 v1) v6).bind fun y2 =>
  br y2.1
   (some (Sum.inl (((v1, ()), ()), (v2, v3, v4, (v5, ()), (v6, ()), ()))))
   (req (i64ok (v1 + 1)) <|
   rec (((()), (()), (v0, ()), (v1 + 1, ()), ()), (v2, v3, v4, (v5, ()), (v6, ()), ()))))
  (some (Sum.inr (((()), (v2, v3, v4, (v5, ()), (v6, ()), ())))))
noncomputable def state_poolOf_t (a0 : List Pf × List (List Ad)) (a1 : List Ls) (a2 : Int) (a3 : Ad) : Option (Int × Unit) :=
 (loopN zq92 FUEL (((()), (()), (lenL a0.1, ()), (0, ()), ()), (a0.2, a0.1, a1, (a2, ()), (a3, ()), ()))).bind fun y1 =>
 sumC y1 (fun y2 =>
  some (y2.1.1.1, ())) (fun y3 =>
  some ((-1), ()))
noncomputable def m_state_doer__find_1_t (a0 : Ls) (a1 : ByteArray) : Option (Bool × Unit) :=
 some (strcmp .eql a0.who a1, ())
noncomputable def zq10 (rec : (((Unit) × (Unit) × (Int × Unit) × (Int × Unit) × Unit) × ((Int × Unit) × List (List Ad) × List Pf × List Ls × (ByteArray × Unit) × Unit)) → Option ((((Int × Unit) × Unit) × ((Int × Unit) × List (List Ad) × List Pf × List Ls × (ByteArray × Unit) × Unit)) ⊕ ((Unit) × ((Int × Unit) × List (List Ad) × List Pf × List Ls × (ByteArray × Unit) × Unit)))) (x : (((Unit) × (Unit) × (Int × Unit) × (Int × Unit) × Unit) × ((Int × Unit) × List (List Ad) × List Pf × List Ls × (ByteArray × Unit) × Unit))) : Option ((((Int × Unit) × Unit) × ((Int × Unit) × List (List Ad) × List Pf × List Ls × (ByteArray × Unit) × Unit)) ⊕ ((Unit) × ((Int × Unit) × List (List Ad) × List Pf × List Ls × (ByteArray × Unit) × Unit))) :=
 let v0 := x.1.2.2.1.1
 let v1 := x.1.2.2.2.1.1
 let v2 := x.2.1.1
 let v3 := x.2.2.1
 let v4 := x.2.2.2.1
 let v5 := x.2.2.2.2.1
 let v6 := x.2.2.2.2.2.1.1
 br (decide (v1 < v0))
  (req (inRange v1 (lenL v5)) <|
  (geti v5 v1).bind fun p1 =>
  (m_state_doer__find_1_t p1 v6).bind fun y2 =>
  br y2.1
   (some (Sum.inl (((v1, ()), ()), ((v2, ()), v3, v4, v5, (v6, ()), ()))))
   (req (i64ok (v1 + 1)) <|
   rec (((()), (()), (v0, ()), (v1 + 1, ()), ()), ((v2, ()), v3, v4, v5, (v6, ()), ()))))
  (some (Sum.inr (((()), ((v2, ()), v3, v4, v5, (v6, ()), ())))))
noncomputable def m_state_doer__find_t (a0 : List Pf × List (List Ad)) (a1 : List Ls) (a2 : Int) (a3 : ByteArray) : Option (Int × Unit) :=
 (loopN zq10 FUEL (((()), (()), (lenL a1, ()), (0, ()), ()), ((a2, ()), a0.2, a0.1, a1, (a3, ()), ()))).bind fun y1 =>
 sumC y1 (fun y2 =>
  some (y2.1.1.1, ())) (fun y3 =>
  some ((-1), ()))
noncomputable def lease_Live_1_t (a0 : Ls) (a1 : Int) : Option (Bool × Unit) :=
 some (decide (a0.upto < a1), ())
noncomputable def zq22 (rec : (((Unit) × (Unit) × (Int × Unit) × (Int × Unit) × Unit) × (List Ls × (Int × Unit) × List Ls × List Ls × List Ls × Unit)) → Option ((((Int × Unit) × Unit) × (List Ls × (Int × Unit) × List Ls × List Ls × List Ls × Unit)) ⊕ ((Unit) × (List Ls × (Int × Unit) × List Ls × List Ls × List Ls × Unit)))) (x : (((Unit) × (Unit) × (Int × Unit) × (Int × Unit) × Unit) × (List Ls × (Int × Unit) × List Ls × List Ls × List Ls × Unit))) : Option ((((Int × Unit) × Unit) × (List Ls × (Int × Unit) × List Ls × List Ls × List Ls × Unit)) ⊕ ((Unit) × (List Ls × (Int × Unit) × List Ls × List Ls × List Ls × Unit))) :=
 let v0 := x.1.2.2.1.1
 let v1 := x.1.2.2.2.1.1
 let v2 := x.2.1
 let v3 := x.2.2.1.1
 let v4 := x.2.2.2.1
 let v5 := x.2.2.2.2.1
 let v6 := x.2.2.2.2.2.1
 br (decide (v1 < v0))
  (req (inRange v1 (lenL v5)) <|
  (geti v5 v1).bind fun p1 =>
  (lease_Live_1_t p1 v3).bind fun y2 =>
  br y2.1
   (some (Sum.inl (((v1, ()), ()), (v2, (v3, ()), v4, v5, v6, ()))))
   (req (i64ok (v1 + 1)) <|
   rec (((()), (()), (v0, ()), (v1 + 1, ()), ()), (v2, (v3, ()), v4, v5, v6, ()))))
  (some (Sum.inr (((()), (v2, (v3, ()), v4, v5, v6, ())))))
noncomputable def zq18 (rec : (((Unit) × (Unit) × (Int × Unit) × (Int × Unit) × Unit) × (List Ls × (Int × Unit) × List Ls × List Ls × Unit)) → Option (((Unit) × (Int × Unit) × Unit) × (List Ls × (Int × Unit) × List Ls × List Ls × Unit))) (x : (((Unit) × (Unit) × (Int × Unit) × (Int × Unit) × Unit) × (List Ls × (Int × Unit) × List Ls × List Ls × Unit))) : Option (((Unit) × (Int × Unit) × Unit) × (List Ls × (Int × Unit) × List Ls × List Ls × Unit)) :=
 let v0 := x.1.2.2.1.1
 let v1 := x.1.2.2.2.1.1
 let v2 := x.2.1
 let v3 := x.2.2.1.1
 let v4 := x.2.2.2.1
 let v5 := x.2.2.2.2.1
 br (decide (v1 < lenL v5))
  (req (inRange v1 (lenL v5)) <|
  (geti v5 v1).bind fun p1 =>
  (lease_Live_1_t p1 v3).bind fun y2 =>
  br (!y2.1)
   (req (inRange v0 (lenL v5)) <|
   (geti v5 v0).bind fun p3 =>
   req (i64ok (v0 + 1)) <|
   req (i64ok (v1 + 1)) <|
   rec (((()), (()), (v0 + 1, ()), (v1 + 1, ()), ()), (v2, (v3, ()), v4, seti v5 v0 p1, ())))
   (req (i64ok (v1 + 1)) <|
   rec (((()), (()), (v0, ()), (v1 + 1, ()), ()), (v2, (v3, ()), v4, v5, ()))))
  (some (((()), (v0, ()), ()), (v2, (v3, ()), v4, v5, ())))
noncomputable def lease_Live_t (a0 : List Ls) (a1 : Int) : Option ((List Ls) × Unit) :=
 (zq56 a0).bind fun y1 =>
 (loopN zq22 FUEL (((()), (()), (lenL y1.1, ()), (0, ()), ()), (a0, (a1, ()), ([] : List Ls), y1.1, ([] : List Ls), ()))).bind fun y2 =>
 sumC y2 (fun y3 =>
  br (decide (y3.1.1.1 = (-1)))
   (some (y3.2.2.2.2.1, ()))
   (req (i64ok (y3.1.1.1 + 1)) <|
   (loopN zq18 FUEL (((()), (()), (y3.1.1.1, ()), (y3.1.1.1 + 1, ()), ()), (y3.2.1, (y3.2.2.1.1, ()), y3.2.2.2.1, y3.2.2.2.2.1, ()))).bind fun y4 =>
   req ((decide (0 ≤ y4.1.2.1.1)) && (decide (y4.1.2.1.1 ≤ lenL y4.2.2.2.2.1))) <|
   req ((decide (0 ≤ y4.1.2.1.1)) && (decide (y4.1.2.1.1 ≤ lenL (clrL y4.2.2.2.2.1 y4.1.2.1.1 (⟨(⟨false, 0, 0⟩ : Ad), (ByteArray.empty), 0⟩ : Ls))))) <|
   some (subL (clrL y4.2.2.2.2.1 y4.1.2.1.1 (⟨(⟨false, 0, 0⟩ : Ad), (ByteArray.empty), 0⟩ : Ls)) 0 y4.1.2.1.1, ()))) (fun y5 =>
  some (y5.2.2.2.2.1, ()))
noncomputable def lease_Raw_1_t (a0 : Ls) (a1 : ByteArray) : Option (Bool × Unit) :=
 some (strcmp .eql a0.who a1, ())
noncomputable def prefix_Last_t (a0 : Pf) : Option (Ad × Unit) :=
 (prefix_mask_t a0.ad a0.bits).bind fun y1 =>
 some ((⟨a0.ad.v6, aop .or .u64 a0.ad.hi y1.1.hi, aop .or .u64 a0.ad.lo y1.1.lo⟩ : Ad), ())
noncomputable def addr_After_t (a0 : Ad) : Option (Ad × Bool × Unit) :=
 (br a0.v6
   (some (decide (aop .add .u64 a0.lo 1 = 0)))
   (some false)).bind fun c1 =>
 br c1
  (some ((⟨a0.v6, aop .add .u64 a0.hi 1, aop .add .u64 a0.lo 1⟩ : Ad), !decide (aop .add .u64 a0.hi 1 = 0), ()))
  (br a0.v6
   (both
    (dup 1 <|
    some ((⟨a0.v6, a0.hi, aop .add .u64 a0.lo 1⟩ : Ad), true, ()))
    (some ((⟨a0.v6, a0.hi, aop .add .u64 a0.lo 1⟩ : Ad), true, ())))
   (some ((⟨a0.v6, a0.hi, aop .add .u64 a0.lo 1⟩ : Ad), decide (aop .add .u64 a0.lo 1 < 4294967296), ())))
noncomputable def zq60 (rec : (((Unit) × (Unit) × (Int × Unit) × (Int × Unit) × Unit) × (List Ad × (Ad × Unit) × Unit)) → Option ((((Int × Unit) × Unit) × (List Ad × Unit)) ⊕ ((Unit) × (List Ad × Unit)))) (x : (((Unit) × (Unit) × (Int × Unit) × (Int × Unit) × Unit) × (List Ad × (Ad × Unit) × Unit))) : Option ((((Int × Unit) × Unit) × (List Ad × Unit)) ⊕ ((Unit) × (List Ad × Unit))) :=
 let v0 := x.1.2.2.1.1
 let v1 := x.1.2.2.2.1.1
 let v2 := x.2.1
 let v3 := x.2.2.1.1
 br (decide (v1 < v0))
  (req (inRange v1 (lenL v2)) <|
  (geti v2 v1).bind fun p1 =>
  br (eqAd v3 p1)
   (some (Sum.inl (((v1, ()), ()), (v2, ()))))
   (req (i64ok (v1 + 1)) <|
   rec (((()), (()), (v0, ()), (v1 + 1, ()), ()), (v2, (v3, ()), ()))))
  (some (Sum.inr (((()), (v2, ())))))
noncomputable def zq62 (a0 : List Ad) (a1 : Ad) : Option (Int × Unit) :=
 (loopN zq60 FUEL (((()), (()), (lenL a0, ()), (0, ()), ()), (a0, (a1, ()), ()))).bind fun y1 =>
 sumC y1 (fun y2 =>
  some (y2.1.1.1, ())) (fun y3 =>
  some ((-1), ()))
noncomputable def zq57 (a0 : List Ad) (a1 : Ad) : Option (Bool × Unit) :=
 (zq62 a0 a1).bind fun y1 =>
 some (decide (y1.1 ≥ 0), ())
noncomputable def m_lease_book__taken_1_t (a0 : Ls) (a1 : Ad) : Option (Bool × Unit) :=
 some (eqAd a0.ad a1, ())
noncomputable def zq4 (rec : (((Unit) × (Unit) × (Int × Unit) × (Int × Unit) × Unit) × ((Bool × Int × Int × Int × Unit) × List Ad × List Ls × (Ad × Unit) × Unit)) → Option ((((Int × Unit) × Unit) × ((Bool × Int × Int × Int × Unit) × List Ad × List Ls × (Ad × Unit) × Unit)) ⊕ ((Unit) × ((Bool × Int × Int × Int × Unit) × List Ad × List Ls × (Ad × Unit) × Unit)))) (x : (((Unit) × (Unit) × (Int × Unit) × (Int × Unit) × Unit) × ((Bool × Int × Int × Int × Unit) × List Ad × List Ls × (Ad × Unit) × Unit))) : Option ((((Int × Unit) × Unit) × ((Bool × Int × Int × Int × Unit) × List Ad × List Ls × (Ad × Unit) × Unit)) ⊕ ((Unit) × ((Bool × Int × Int × Int × Unit) × List Ad × List Ls × (Ad × Unit) × Unit))) :=
 let v0 := x.1.2.2.1.1
 let v1 := x.1.2.2.2.1.1
 let v2 := x.2.1.1
 let v3 := x.2.1.2.1
 let v4 := x.2.1.2.2.1
 let v5 := x.2.1.2.2.2.1
 let v6 := x.2.2.1
 let v7 := x.2.2.2.1
 let v8 := x.2.2.2.2.1.1
 br (decide (v1 < v0))
  (req (inRange v1 (lenL v7)) <|
  (geti v7 v1).bind fun p1 =>
  (m_lease_book__taken_1_t p1 v8).bind fun y2 =>
  br y2.1
   (some (Sum.inl (((v1, ()), ()), ((v2, v3, v4, v5, ()), v6, v7, (v8, ()), ()))))
   (req (i64ok (v1 + 1)) <|
   rec (((()), (()), (v0, ()), (v1 + 1, ()), ()), ((v2, v3, v4, v5, ()), v6, v7, (v8, ()), ()))))
  (some (Sum.inr (((()), ((v2, v3, v4, v5, ()), v6, v7, (v8, ()), ())))))
noncomputable def m_lease_book__taken_t (a0 : Pf) (a1 : List Ad) (a2 : List Ls) (a3 : Ad) : Option (Bool × Unit) :=
 (zq57 a1 a3).bind fun y1 =>
 (br y1.1
   (some true)
   (((loopN zq4 FUEL (((()), (()), (lenL a2, ()), (0, ()), ()), ((a0.ad.v6, a0.ad.hi, a0.ad.lo, a0.bits, ()), a1, a2, (a3, ()), ()))).bind fun y2 =>
    sumC y2 (fun y3 =>
     some (decide (y3.1.1.1 ≥ 0), ())) (fun y4 =>
     some (false, ()))).bind fun y5 =>
   some y5.1)).bind fun c2 =>
 some (c2, ())
noncomputable def lease_Raw_2_t (a0 : Ls) (a1 : Ls) : Option (Int × Unit) :=
 (addr_Order_t a0.ad a1.ad).bind fun y1 =>
 some (y1.1, ())
noncomputable def log_Is_1_t (a0 : En) (a1 : En) : Option (Bool × Unit) :=
 some (eqEn a0 a1, ())
noncomputable def zq40 (rec : (((Unit) × (Unit) × (Unit) × (Int × Unit) × (Int × Unit) × Unit) × (List En × List En × List En × Unit)) → Option ((((Bool × Unit) × Unit) × (List En × List En × List En × Unit)) ⊕ ((Unit) × (List En × List En × List En × Unit)))) (x : (((Unit) × (Unit) × (Unit) × (Int × Unit) × (Int × Unit) × Unit) × (List En × List En × List En × Unit))) : Option ((((Bool × Unit) × Unit) × (List En × List En × List En × Unit)) ⊕ ((Unit) × (List En × List En × List En × Unit))) :=
 let v0 := x.1.2.2.2.1.1
 let v1 := x.1.2.2.2.2.1.1
 let v2 := x.2.1
 let v3 := x.2.2.1
 let v4 := x.2.2.2.1
 br (decide (v1 < v0))
  (req (inRange v1 (lenL v2)) <|
  (geti v2 v1).bind fun p1 =>
  req (inRange v1 (lenL v4)) <|
  (geti v4 v1).bind fun p2 =>
  (log_Is_1_t p1 p2).bind fun y3 =>
  br (!y3.1)
   (some (Sum.inl (((false, ()), ()), (v2, v3, v4, ()))))
   (req (i64ok (v1 + 1)) <|
   rec (((()), (()), (()), (v0, ()), (v1 + 1, ()), ()), (v2, v3, v4, ()))))
  (some (Sum.inr (((()), (v2, v3, v4, ())))))
noncomputable def log_Is_t (a0 : List En) (a1 : List En) : Option (Bool × Unit) :=
 br (decide (lenL a0 ≤ lenL a1))
  (req ((decide (0 ≤ lenL a0)) && (decide (lenL a0 ≤ lenL a1))) <|
  br (!decide (lenL a0 = lenL (subL a1 0 (lenL a0))))
   (some (false, ()))
   ((loopN zq40 FUEL (((()), (()), (()), (lenL a0, ()), (0, ()), ()), (a0, a1, subL a1 0 (lenL a0), ()))).bind fun y1 =>
   sumC y1 (fun y2 =>
    some (y2.1.1.1, ())) (fun y3 =>
    some (true, ()))))
  (some (false, ()))
noncomputable def log_Begins_t (a0 : List En) (a1 : List En) : Option (Bool × Int × Unit) :=
 (log_Check_t a0).bind fun y1 =>
 br (!decide (y1.1 = 0))
  (some (false, y1.1, ()))
  ((log_Check_t a1).bind fun y2 =>
  br (!decide (y2.1 = 0))
   (some (false, y2.1, ()))
   ((log_Is_t a0 a1).bind fun y3 =>
   some (y3.1, 0, ())))
noncomputable def law_v4_t (a0 : Int) : Option (Ad × Unit) :=
 some ((⟨false, 0, a0⟩ : Ad), ())
noncomputable def law_net_t (a0 : Int) (a1 : Int) : Option (Pf × Unit) :=
 (law_v4_t a0).bind fun y1 =>
 some ((⟨y1.1, a1⟩ : Pf), ())
noncomputable def law_some_t : Option ((List Oq) × Unit) :=
 (law_net_t 8 30).bind fun y1 =>
 (law_v4_t 8).bind fun y2 =>
 some (([(⟨1, y1.1, (⟨false, 0, 0⟩ : Ad), (ByteArray.empty), 0, 0⟩ : Oq), (⟨2, (⟨(⟨false, 0, 0⟩ : Ad), 0⟩ : Pf), y2.1, (ByteArray.empty), 0, 0⟩ : Oq), (⟨3, (⟨(⟨false, 0, 0⟩ : Ad), 0⟩ : Pf), (⟨false, 0, 0⟩ : Ad), (⟨#[120]⟩ : ByteArray), 0, 10⟩ : Oq)] : List Oq), ())
noncomputable def law_entries_t : Option ((List En) × Unit) :=
 law_some_t.bind fun y1 =>
 req (inRange 0 (lenL y1.1)) <|
 (geti y1.1 0).bind fun p2 =>
 law_some_t.bind fun y3 =>
 req (inRange 1 (lenL y3.1)) <|
 (geti y3.1 1).bind fun p4 =>
 law_some_t.bind fun y5 =>
 req (inRange 2 (lenL y5.1)) <|
 (geti y5.1 2).bind fun p6 =>
 some (([(⟨1, 1, p2⟩ : En), (⟨2, 1, p4⟩ : En), (⟨3, 4, p6⟩ : En)] : List En), ())
noncomputable def R_SameLog_L4 (rec : (((Unit) × (Unit) × (Int × Unit) × Unit) × (List En × List En × Unit)) → Option ((((Bool × Unit) × Unit) × (List En × List En × Unit)) ⊕ ((Unit) × (List En × List En × Unit)))) (x : (((Unit) × (Unit) × (Int × Unit) × Unit) × (List En × List En × Unit))) : Option ((((Bool × Unit) × Unit) × (List En × List En × Unit)) ⊕ ((Unit) × (List En × List En × Unit))) :=
 let v0 := x.1.2.2.1.1
 let v1 := x.2.1
 let v2 := x.2.2.1
 br (decide (v0 < lenL v1))
  (req (inRange v0 (lenL v1)) <|
  (geti v1 v0).bind fun p1 =>
  req (inRange v0 (lenL v2)) <|
  (geti v2 v0).bind fun p2 =>
  br (!(eqEn p1 p2))
   (some (Sum.inl (((false, ()), ()), (v1, v2, ()))))
   (req (i64ok (v0 + 1)) <|
   rec (((()), (()), (v0 + 1, ()), ()), (v1, v2, ()))))
  (some (Sum.inr (((()), (v1, v2, ())))))
noncomputable def R_SameLog_t (a0 : List En) (a1 : List En) : Option (Bool × Unit) :=
 br (!decide (lenL a0 = lenL a1))
  (some (false, ()))
  ((loopN R_SameLog_L4 FUEL (((()), (()), (0, ()), ()), (a0, a1, ()))).bind fun y1 =>
  sumC y1 (fun y2 =>
   some (y2.1.1.1, ())) (fun y3 =>
   some (true, ())))
noncomputable def ship_Behind_t (a0 : List En) (a1 : List En) (a2 : Int) : Option ((List En) × Unit) :=
 req (i64ok ((lenL a0) + a2)) <|
 req (((decide (0 ≤ lenL a0)) && (decide (lenL a0 ≤ minI (lenL a1) ((lenL a0) + a2)))) && (decide (minI (lenL a1) ((lenL a0) + a2) ≤ lenL a1))) <|
 (zq54 (subL a1 (lenL a0) (minI (lenL a1) ((lenL a0) + a2)))).bind fun y1 =>
 some (y1.1, ())
noncomputable def ship_Next_t (a0 : List En) (a1 : List En) (a2 : Int) : Option ((List En) × Int × Unit) :=
 (log_Begins_t a0 a1).bind fun y1 =>
 br (!decide (y1.2.1 = 0))
  (br (!decide (y1.2.1 = 0))
   (some (([] : List En), y1.2.1, ()))
   ((ship_Behind_t a0 a1 a2).bind fun y2 =>
   some (y2.1, 0, ())))
  (br (!y1.1)
   (some (([] : List En), 4, ()))
   ((br (decide (a2 < 0))
     (some true)
     (some (decide (a2 > 30)))).bind fun c2 =>
   br c2
    (some (([] : List En), 3, ()))
    (br (!decide (y1.2.1 = 0))
     (some (([] : List En), y1.2.1, ()))
     ((ship_Behind_t a0 a1 a2).bind fun y3 =>
     some (y3.1, 0, ())))))
end Go.Ma
namespace Go.Ma
open Go
theorem addr_Check_eq (a : Ad) : addr_Check_t a = some (chkA a, ()) := by
 unfold addr_Check_t chkA
 cases hv : a.v6 <;> by_cases h1 : a.hi = 0 <;> by_cases h2 : a.lo ≥ 4294967296 <;> simp [br_true, br_false, h1, h2]
theorem wid_le (v : Bool) : wid v ≤ 128 := by cases v <;> decide
theorem prefix_Wide_eq (a : Ad) : prefix_Wide_t a = some (((wid a.v6 : Nat) : Int), ()) := by
 unfold prefix_Wide_t
 cases a.v6 <;> rfl
theorem prefix_mask_eq (a : Ad) (bits : Int) (hb : 0 ≤ bits) (hb' : bits ≤ (wid a.v6 : Nat)) : prefix_mask_t a bits = some (maskA a.v6 bits, ()) := by
 unfold prefix_mask_t
 rw [prefix_Wide_eq, bind_s, maskA_parts]
 have hw := wid_le a.v6
 obtain ⟨r, hr⟩ : ∃ r : Nat, ((wid a.v6 : Nat) : Int) - bits = (r : Int) := ⟨(((wid a.v6 : Nat) : Int) - bits).toNat, by omega⟩
 have hrn : wid a.v6 - bits.toNat = r := by omega
 rw [hrn, hr]
 rw [req_of (i64ok_of (by omega) (by omega))]
 by_cases h1 : r < 64
 ·rw [decide_eq_true (show (r : Int) < 64 by omega), br_true, req_of (by simp), decide_eq_false (show ¬ (r : Int) > 64 by omega), br_false, shl_one h1]
  rw [show r - 64 = 0 by omega, Nat.min_eq_left (by omega)]
  rfl
 ·rw [decide_eq_false (show ¬ (r : Int) < 64 by omega), br_false]
  by_cases h2 : r > 64
  ·rw [decide_eq_true (show (r : Int) > 64 by omega), br_true]
   by_cases h3 : r < 128
   ·rw [decide_eq_true (show (r : Int) < 128 by omega), br_true, req_of (i64ok_of (by omega) (by omega)), req_of (by simp; omega)]
    rw [show (r : Int) - 64 = ((r - 64 : Nat) : Int) by omega, shl_one (by omega), Nat.min_eq_right (by omega)]
    rfl
   ·rw [decide_eq_false (show ¬ (r : Int) < 128 by omega), br_false]
    have : r = 128 := by omega
    subst this
    rfl
  ·have : r = 64 := by omega
   subst this
   rfl
theorem prefix_Cut_eq (a : Ad) (h : a.wf) (bits : Int) (hb : 0 ≤ bits) (hb' : bits ≤ (wid a.v6 : Nat)) : prefix_Cut_t a bits = some (cutA a bits, ()) := by
 unfold prefix_Cut_t
 rw [prefix_mask_eq a bits hb hb', bind_s, maskA_parts, cutA_parts a h]
 obtain ⟨h1, h2, h3, h4⟩ := h
 have hw := wid_le a.v6
 have e1 := andNot_mask a.hi.toNat (wid a.v6 - bits.toNat - 64) (by omega) (by omega)
 have e2 := andNot_mask a.lo.toNat (min (wid a.v6 - bits.toNat) 64) (by omega) (by omega)
 rw [Int.toNat_of_nonneg h1] at e1
 rw [Int.toNat_of_nonneg h3] at e2
 simp only
 rw [e1, e2]
theorem eqAd_eq (a b : Ad) : eqAd a b = decide (a = b) := by
 have e : (a = b) ↔ (a.v6 = b.v6 ∧ a.hi = b.hi ∧ a.lo = b.lo) := by
  cases a; cases b
  simp only [Ad.mk.injEq]
 rw [Bool.eq_iff_iff, decide_eq_true_iff, e]
 unfold eqAd
 simp [beqB, acmp]
theorem prefix_Check_eq {p : Pf} (h : p.In) : prefix_Check_t p = some (chkP p, ()) := by
 unfold prefix_Check_t chkP
 rw [addr_Check_eq, bind_s]
 by_cases h1 : chkA p.ad = 0
 ·simp only [h1, decide_true, Bool.not_true, br_false, ne_eq, not_true, if_false]
  rw [prefix_Wide_eq, bind_s, br_ss, bind_s]
  by_cases h2 : p.bits < 0 ∨ p.bits > wid p.ad.v6
  ·rw [if_pos h2]
   have : (bif decide (p.bits < 0) then true else decide (p.bits > ((wid p.ad.v6 : Nat) : Int))) = true := by
    rcases h2 with h2 | h2 <;> simp [h2]
   rw [this, br_true]
  ·rw [if_neg h2]
   have : (bif decide (p.bits < 0) then true else decide (p.bits > ((wid p.ad.v6 : Nat) : Int))) = false := by
    simp only [not_or] at h2
    simp [h2.1]; omega
   rw [this, br_false, prefix_Cut_eq p.ad h.1.wf p.bits (by omega) (by omega), bind_s, eqAd_eq]
   by_cases h3 : cutA p.ad p.bits = p.ad <;> simp [h3, br_true, br_false]
 ·simp [h1, br_true]
end Go.Ma
namespace Go.Ma
open Go
def lowB (b : UInt8) : Bool := betw (b.toNat : Int) 97 122 || betw (b.toNat : Int) 48 57
def whoOk (s : ByteArray) : Bool := s.data.toList.all lowB && betw (lenS s) 1 8
theorem lease_within_eq (x a b : Int) : lease_within_t x a b = some (betw x a b, ()) := by
 unfold lease_within_t
 rw [br_ss, bind_s, betw_bif]
theorem lease_Who_eq {s : ByteArray} (h : strIn s) : lease_Who_t s = some (whoOk s, ()) := by
 have hs : s.size < 9223372036854775808 := lt_of_max h
 have hl : ∀ i, i ≤ s.size → loopN lease_Who_L2 FUEL (((s, ()), (lenS s, ()), ((i : Int), ()), ()), ()) = some (if (s.data.toList.drop i).all lowB then Sum.inr (((s, ()), ()), ()) else Sum.inl ((((false : Bool), ()), ()), ())) := by
  intro i hi
  refine loop_up (fun i => ((((s, ()), (lenS s, ()), ((i : Int), ()), ()), ()) : (((ByteArray × Unit) × (Int × Unit) × (Int × Unit) × Unit) × (Unit)))) s.size (fun i => some (if (s.data.toList.drop i).all lowB then Sum.inr (((s, ()), ()), ()) else Sum.inl ((((false : Bool), ()), ()), ()))) (fun rec i hi hr => ?_) (fun rec => ?_) FUEL i hi (fuel_gt (by omega))
  ·obtain ⟨b, hb⟩ : ∃ b, s.data.toList[i]? = some b := ⟨_, List.getElem?_eq_getElem (by rw [data_len]; exact hi)⟩
   simp only [lease_Who_L2]
   rw [decide_eq_true (show (i : Int) < lenS s by unfold lenS; omega), br_true, req_of (zq17 (by omega) (by unfold lenS; omega)), byteAt_eq hb]
   rw [br_ss, bind_s]
   simp only [br_ss, bind_s]
   rw [show ((i : Int) + 1) = ((i + 1 : Nat) : Int) by omega] 
   rw [req_of (i64ok_of (by omega) (by omega)), hr, drop_all lowB hb]
   have : (bif !(bif decide ((b.toNat : Int) ≥ 97) then decide ((b.toNat : Int) ≤ 122) else false) then (bif decide ((b.toNat : Int) ≥ 48) then !decide ((b.toNat : Int) ≤ 57) else true) else false) = !lowB b := by
    rw [betw_bif]
    unfold lowB
    cases betw (b.toNat : Int) 97 122
    ·unfold betw
     by_cases h1 : (48 : Int) ≤ b.toNat <;> simp [h1]
    ·rfl
   rw [this]
   cases lowB b <;> simp [br_true, br_false]
  ·simp only [lease_Who_L2]
   rw [decide_eq_false (show ¬ (s.size : Int) < lenS s by unfold lenS; omega), br_false, List.drop_of_length_le (by rw [data_len]; exact Nat.le_refl _)]
   rfl
 unfold lease_Who_t whoOk
 have := hl 0 (Nat.zero_le _)
 rw [List.drop_zero] at this
 rw [show ((0 : Nat) : Int) = 0 from rfl] at this
 rw [this, bind_s]
 cases s.data.toList.all lowB
 ·rfl
 ·simp only [if_true, sumC, lease_within_eq, bind_s, Bool.true_and]
theorem lease_Narrow_eq {p : Pf} (h : chkP p = 0) : lease_Narrow_t p = some (decide (((wid p.ad.v6 : Nat) : Int) - p.bits ≤ 4), ()) := by
 obtain ⟨h1, h2⟩ := chkP_bits h
 have := wid_le p.ad.v6
 unfold lease_Narrow_t
 rw [prefix_Wide_eq, bind_s, req_of (i64ok_of (by simp only; omega) (by simp only; omega))]
end Go.Ma
namespace Go.Ma
open Go
theorem cutN_iff (n k : Nat) : cutN n k = n ↔ n % 2 ^ k = 0 := by
 unfold cutN
 have := Nat.div_add_mod n (2 ^ k)
 rw [Nat.mul_comm] at this
 omega
theorem cutA_iff {a : Ad} (h : a.wf) (bits : Int) : cutA a bits = a ↔ cutN a.num (wid a.v6 - bits.toNat) = a.num := by
 unfold cutA
 constructor
 ·intro he
  have := congrArg Ad.num he
  rwa [num_ofNum] at this
 ·intro he
  rw [he, ofNum_num a h]
end Go.Ma
namespace Go.Ma
open Go
theorem addr_Order_eq (a b : Ad) : addr_Order_t a b = some (ordA a b, ()) := by
 unfold addr_Order_t addr_Order_1_t ordA ordI
 by_cases hv : a.v6 = b.v6
 ·have : beqB a.v6 b.v6 = true := by simp [beqB, hv]
  rw [this]
  simp only [Bool.not_true, br_false, bind_s, hv, ne_eq, not_true, false_and, if_false]
  by_cases h1 : a.hi = b.hi
  ·simp only [h1, decide_true, Bool.not_true, br_false, not_true, if_false]
   by_cases h2 : a.lo < b.lo
   ·simp only [h2, decide_true, br_true, bind_s, if_true]
   ·by_cases h3 : a.lo > b.lo
    ·simp only [h2, h3, decide_true, decide_false, br_true, br_false, bind_s, if_true, if_false]
    ·simp only [h2, h3, decide_false, br_false, bind_s, if_false]
  ·simp only [h1, decide_false, Bool.not_false, br_true, not_false_eq_true, if_true]
   by_cases h2 : a.hi < b.hi
   ·simp only [h2, decide_true, br_true, bind_s, if_true]
   ·by_cases h3 : a.hi > b.hi
    ·simp only [h2, h3, decide_true, decide_false, br_true, br_false, bind_s, if_true, if_false]
    ·simp only [h2, h3, decide_false, br_false, bind_s, if_false]
 ·have : beqB a.v6 b.v6 = false := by simp [beqB, hv]
  rw [this]
  cases hb : b.v6 <;> simp_all [br_true, br_false]
theorem chkP_ad {p : Pf} (h : chkP p = 0) : chkA p.ad = 0 := by
 unfold chkP at h
 split at h
 ·rename_i h1; exact absurd h h1
 ·rename_i h1; exact Decidable.not_not.1 h1
theorem chkP_cut {p : Pf} (h : chkP p = 0) : cutA p.ad p.bits = p.ad := by
 unfold chkP at h
 split at h
 ·rename_i h1; exact absurd h h1
 split at h
 ·cases h
 split at h
 ·cases h
 ·rename_i h1; exact Decidable.not_not.1 h1
theorem prefix_Holds_eq {p : Pf} {a : Ad} (h1 : 0 ≤ p.bits) (h2 : p.bits ≤ (wid p.ad.v6 : Nat)) (ha : a.In) : prefix_Holds_t p a = some (holds p a, ()) := by
 unfold prefix_Holds_t holds
 by_cases hv : p.ad.v6 = a.v6
 ·rw [show beqB p.ad.v6 a.v6 = true by simp [beqB, hv], br_true, prefix_Cut_eq a ha.wf p.bits h1 (by rw [← hv]; exact h2), bind_s, bind_s, eqAd_eq]
  simp [hv]
 ·rw [show beqB p.ad.v6 a.v6 = false by simp [beqB, hv], br_false, bind_s]
  simp [hv]
end Go.Ma
namespace Go.Ma
open Go
def rank (a : Ad) : Nat := (if a.v6 then 340282366920938463463374607431768211456 else 0) + a.num
theorem num_lt {a : Ad} (h : a.In) : a.num < 340282366920938463463374607431768211456 := by
 obtain ⟨⟨h1, h2⟩, h3, h4⟩ := h
 unfold Ad.num
 omega
theorem ord_rank {a b : Ad} (ha : a.In) (hb : b.In) : (ordA a b < 0 ↔ rank a < rank b) ∧ (ordA a b = 0 ↔ rank a = rank b) := by
 have h1 := num_lt ha
 have h2 := num_lt hb
 obtain ⟨⟨a1, a2⟩, a3, a4⟩ := ha
 obtain ⟨⟨b1, b2⟩, b3, b4⟩ := hb
 unfold ordA ordI rank
 unfold Ad.num at *
 cases hv : a.v6 <;> cases hw : b.v6 <;> simp
 ·by_cases h : a.hi = b.hi
  ·simp only [h, if_true]
   by_cases h3 : a.lo < b.lo
   ·simp only [h3, if_true]; omega
   ·by_cases h4 : b.lo < a.lo
    ·simp only [h3, h4, if_true, if_false]; omega
    ·have h5 : a.lo = b.lo := by omega
     simp [h5]
  ·simp only [h, if_false]
   by_cases h3 : a.hi < b.hi
   ·simp only [h3, if_true]; omega
   ·by_cases h4 : b.hi < a.hi
    ·simp only [h3, h4, if_true, if_false]; omega
    ·simp only [h3, h4, if_false]; omega
 ·omega
 ·omega
 ·by_cases h : a.hi = b.hi
  ·simp only [h, if_true]
   by_cases h3 : a.lo < b.lo
   ·simp only [h3, if_true]; omega
   ·by_cases h4 : b.lo < a.lo
    ·simp only [h3, h4, if_true, if_false]; omega
    ·have h5 : a.lo = b.lo := by omega
     simp [h5]
  ·simp only [h, if_false]
   by_cases h3 : a.hi < b.hi
   ·simp only [h3, if_true]; omega
   ·by_cases h4 : b.hi < a.hi
    ·simp only [h3, h4, if_true, if_false]; omega
    ·simp only [h3, h4, if_false]; omega
theorem rank_inj {a b : Ad} (ha : a.In) (hb : b.In) (h : rank a = rank b) : a = b := by
 have h1 := num_lt ha
 have h2 := num_lt hb
 unfold rank at h
 have hv : a.v6 = b.v6 := by
  cases hv : a.v6 <;> cases hw : b.v6 <;> first | rfl | (exfalso; rw [hv, hw] at h; simp at h; omega)
 refine num_inj ha.wf hb.wf hv ?_
 rw [hv] at h
 omega
def lsIn (l : List Ls) : Prop := ∀ x ∈ l, x.In
def chkLs (x : Ls) : Int := if chkA x.ad ≠ 0 then chkA x.ad else if whoOk x.who = false then 1 else if betw x.upto 0 10499 = false then 3 else 0
def chkLsF : List Ls → Int
 | [] => 0
 | x :: r => if chkLs x ≠ 0 then chkLs x else chkLsF r
def ascF : Ad → List Ls → Bool
 | _, [] => true
 | a, x :: r => decide (ordA a x.ad < 0) && ascF x.ad r
def ascL : List Ls → Bool
 | [] => true
 | x :: r => ascF x.ad r
def allC (l : List Ls) (now : Int) : Int := if l.length > 20 then 2 else if chkLsF l ≠ 0 then chkLsF l else if ascL l = false then 4 else if betw now 0 9999 = false then 3 else 0
end Go.Ma
namespace Go.Ma
open Go
end Go.Ma
namespace Go.Ma
open Go
def firstF {α : Type} (q : α → Bool) : List α → Option Nat
 | [] => none
 | x :: r => if q x then some 0 else (firstF q r).map (· + 1)
theorem firstF_at {α : Type} {q : α → Bool} {l : List α} {i : Nat} {x : α} (h : l[i]? = some x) : (firstF q (l.drop i)).map (· + i) = if q x then some i else (firstF q (l.drop (i + 1))).map (· + (i + 1)) := by
 rw [drop_cons h, firstF]
 cases q x
 ·simp only [Bool.false_eq_true, if_false, Option.map_map]
  congr 1
  funext k
  simp only [Function.comp]
  omega
 ·simp
theorem firstF_none {α : Type} {q : α → Bool} : ∀ {l : List α}, firstF q l = none → ∀ x ∈ l, q x = false
 | [], _, x, hx => by cases hx
 | y :: r, h, x, hx => by
  unfold firstF at h
  split at h
  ·cases h
  ·rename_i hq
   rw [Option.map_eq_none_iff] at h
   rcases List.mem_cons.1 hx with rfl | hx
   ·simpa using hq
   ·exact firstF_none h x hx
theorem firstF_some {α : Type} {q : α → Bool} : ∀ {l : List α} {k : Nat}, firstF q l = some k → ∃ x, l[k]? = some x ∧ q x = true ∧ ∀ y ∈ l.take k, q y = false
 | [], _, h => by cases h
 | y :: r, k, h => by
  unfold firstF at h
  split at h
  ·rename_i hq
   cases h
   exact ⟨y, rfl, hq, fun z hz => by simp at hz⟩
  ·rename_i hq
   obtain ⟨k', hk, rfl⟩ := Option.map_eq_some_iff.1 h
   obtain ⟨x, h1, h2, h3⟩ := firstF_some hk
   refine ⟨x, by simpa using h1, h2, fun z hz => ?_⟩
   rw [List.take_succ_cons] at hz
   rcases List.mem_cons.1 hz with rfl | hz
   ·simpa using hq
   ·exact h3 z hz
theorem firstF_lt {α : Type} {q : α → Bool} {l : List α} {k : Nat} (h : firstF q l = some k) : k < l.length := by
 obtain ⟨x, h1, _⟩ := firstF_some h
 exact (List.getElem?_eq_some_iff.1 h1).1
theorem firstF_any {α : Type} {q : α → Bool} : ∀ l : List α, (firstF q l).isSome = l.any q
 | [] => rfl
 | x :: r => by
  unfold firstF
  cases h : q x
  ·simp [h, firstF_any r]
  ·simp [h]
def idxI : Option Nat → Int
 | some k => (k : Int)
 | none => -1
def liveP (now : Int) (x : Ls) : Bool := decide (now ≤ x.upto)
def live (l : List Ls) (now : Int) : List Ls := l.filter (liveP now)
def overP (now : Int) (x : Ls) : Bool := decide (x.upto < now)
theorem over_not (now : Int) (x : Ls) : overP now x = !liveP now x := by
 unfold overP liveP
 by_cases h : x.upto < now
 ·have : ¬ now ≤ x.upto := by omega
  simp [h, this]
 ·have : now ≤ x.upto := by omega
  simp [h, this]
abbrev DL := List Ls × (Int × Unit) × List Ls × List Ls × List Ls × Unit
def overOut (l : List Ls) (now : Int) : Option Nat → (((Int × Unit) × Unit) × DL) ⊕ ((Unit) × DL)
 | some k => Sum.inl ((((k : Int), ()), ()), (l, (now, ()), [], l, [], ()))
 | none => Sum.inr ((), (l, (now, ()), [], l, [], ()))
theorem live_loop1 {l : List Ls} (hlen : l.length ≤ 1048576) (now : Int) : loopN zq22 FUEL (((), (), (lenL l, ()), (0, ()), ()), (l, (now, ()), [], l, [], ())) = some (overOut l now (firstF (overP now) l)) := by
 have := loop_up (step := zq22) (fun i => (((), (), (lenL l, ()), ((i : Int), ()), ()), (l, (now, ()), [], l, [], ()))) l.length (fun i => some (overOut l now ((firstF (overP now) (l.drop i)).map (· + i)))) (fun rec i hi hr => ?_) (fun rec => ?_) FUEL 0 (Nat.zero_le _) (fuel_gt (by omega))
 ·simpa using this
 ·obtain ⟨e, he⟩ : ∃ e, l[i]? = some e := ⟨_, List.getElem?_eq_getElem hi⟩
  simp only [zq22]
  rw [decide_eq_true (show (i : Int) < lenL l by unfold lenL; omega), br_true, req_of (zq17 (by omega) (by unfold lenL; omega)), geti_at he, bind_s, lease_Live_1_t, bind_s, firstF_at he]
  unfold overP
  by_cases hc : e.upto < now
  ·simp only [hc, decide_true, br_true, if_true]
   rfl
  ·simp only [hc, decide_false, br_false]
   rw [show ((i : Int) + 1) = ((i + 1 : Nat) : Int) by omega, req_of (i64ok_of (by omega) (by omega)), hr]
   rfl
 ·simp only [zq22]
  rw [decide_eq_false (show ¬ (l.length : Int) < lenL l by unfold lenL; omega), br_false, List.drop_of_length_le (Nat.le_refl _)]
  rfl
theorem live_loop2 {l : List Ls} (hlen : l.length ≤ 1048576) (now : Int) : ∀ (N j w : Nat) (r : List Ls), l.length - j < N → j ≤ l.length → w < j → r.length = l.length → r.take w = live (l.take j) now → r.drop j = l.drop j →
  ∃ (w' : Nat) (r' : List Ls), loopN zq18 N (((), (), ((w : Int), ()), ((j : Int), ()), ()), (l, (now, ()), [], r, ())) = some (((), ((w' : Int), ()), ()), (l, (now, ()), [], r', ())) ∧ r'.take w' = live l now ∧ w' ≤ r'.length
 | 0, _, _, _, h, _, _, _, _, _ => by omega
 | N + 1, j, w, r, hN, hj, hw, hr, ht, hd => by
  rw [loopN_succ]
  simp only [zq18]
  by_cases hjl : j < l.length
  ·obtain ⟨e, he⟩ : ∃ e, l[j]? = some e := ⟨_, List.getElem?_eq_getElem hjl⟩
   have her : r[j]? = some e := by
    have := congrArg (fun x : List Ls => x[0]?) hd
    simp only [List.getElem?_drop, Nat.add_zero] at this
    rw [this, he]
   have hlt : live (l.take (j + 1)) now = live (l.take j) now ++ (if liveP now e then [e] else []) := by
    unfold live
    have hx := (List.getElem?_eq_some_iff.1 he).2
    rw [List.take_succ_eq_append_getElem hjl, List.filter_append, hx]
    congr 1
    simp only [List.filter_cons, List.filter_nil]
   have hd1 : r.drop (j + 1) = l.drop (j + 1) := by
    have := congrArg (List.drop 1) hd
    simpa using this
   rw [decide_eq_true (show (j : Int) < lenL r by unfold lenL; omega), br_true, req_of (zq17 (by omega) (by unfold lenL; omega)), geti_at her, bind_s, lease_Live_1_t, bind_s]
   have ho := over_not now e
   unfold overP at ho
   cases hp : liveP now e
   ·rw [hp] at ho hlt
    simp only [ho, Bool.not_false, Bool.not_true, br_false]
    rw [show ((j : Int) + 1) = ((j + 1 : Nat) : Int) by omega, req_of (i64ok_of (by omega) (by omega))]
    exact live_loop2 hlen now N (j + 1) w r (by omega) (by omega) (by omega) hr (by rw [ht, hlt]; simp) hd1
   ·rw [hp] at ho hlt
    obtain ⟨e2, he2⟩ : ∃ e, r[w]? = some e := ⟨_, List.getElem?_eq_getElem (by omega)⟩
    simp only [ho, Bool.not_false, Bool.not_true, br_true]
    rw [req_of (zq17 (by omega) (by unfold lenL; omega)), geti_at he2, bind_s, show ((j : Int) + 1) = ((j + 1 : Nat) : Int) by omega, show ((w : Int) + 1) = ((w + 1 : Nat) : Int) by omega, req_of (i64ok_of (by omega) (by omega)), req_of (i64ok_of (by omega) (by omega))]
    have hs : seti r (w : Int) e = r.set w e := by simp [seti]
    rw [hs]
    refine live_loop2 hlen now N (j + 1) (w + 1) (r.set w e) (by omega) (by omega) (by omega) (by simp [hr]) ?_ ?_
    ·rw [hlt, ← ht]
     have hwl : w < (r.set w e).length := by simp; omega
     rw [List.take_succ_eq_append_getElem hwl, List.take_set_of_le (Nat.le_refl _)]
     simp
    ·rw [List.drop_set_of_lt (by omega), hd1]
  ·have : j = l.length := by omega
   subst this
   rw [decide_eq_false (show ¬ (l.length : Int) < lenL r by unfold lenL; omega), br_false]
   rw [List.take_of_length_le (Nat.le_refl _)] at ht
   exact ⟨w, r, rfl, ht, by omega⟩
theorem clone_ls {l : List Ls} (h : l.length ≤ 1048576) : zq56 l = some (l, ()) := by
 unfold zq56
 rw [req_of (room_of (by simp [lenL]) (zq39 l) (by unfold lenL; simp; omega)), List.nil_append]
 cases l with
 | nil => exact both_self _
 | cons a r => rfl
theorem lease_Live_eq {l : List Ls} (h : l.length ≤ 1048576) (now : Int) : lease_Live_t l now = some (live l now, ()) := by
 unfold lease_Live_t
 rw [clone_ls h, bind_s, live_loop1 h now, bind_s]
 cases hf : firstF (overP now) l with
 | none =>
  simp only [overOut, sumC]
  have : live l now = l := by
   unfold live
   rw [List.filter_eq_self]
   intro x hx
   have := firstF_none hf x hx
   rw [over_not] at this
   simpa using this
  rw [this]
 | some k =>
  obtain ⟨x, hx, hq, hb⟩ := firstF_some hf
  have hk := firstF_lt hf
  simp only [overOut, sumC]
  rw [decide_eq_false (show ¬ (k : Int) = -1 by omega), br_false, req_of (i64ok_of (by omega) (by omega)), show ((k : Int) + 1) = ((k + 1 : Nat) : Int) by omega]
  have hlk : live (l.take (k + 1)) now = l.take k := by
   unfold live
   have hxe := (List.getElem?_eq_some_iff.1 hx).2
   rw [List.take_succ_eq_append_getElem hk, List.filter_append, hxe]
   have h1 : (l.take k).filter (liveP now) = l.take k := by
    rw [List.filter_eq_self]
    intro y hy
    have := hb y hy
    rw [over_not] at this
    simpa using this
   have h2 : liveP now x = false := by
    rw [over_not] at hq
    simpa using hq
   rw [h1, List.filter_cons, h2]
   simp
  obtain ⟨w', r', hl, ht, hw⟩ := live_loop2 h now FUEL (k + 1) k l (by have : FUEL = 18446744073709551616 := rfl; omega) (by omega) (by omega) rfl (by rw [hlk]) rfl
  rw [hl, bind_s]
  have hc : (clrL r' (w' : Int) (⟨(⟨false, 0, 0⟩ : Ad), (ByteArray.empty), 0⟩ : Ls)).length = r'.length := by simp [clrL]; omega
  have hz : (decide ((0 : Int) ≤ (w' : Int)) && decide ((w' : Int) ≤ lenL r')) = true := by simp [lenL]; omega
  have hz2 : (decide ((0 : Int) ≤ (w' : Int)) && decide ((w' : Int) ≤ lenL (clrL r' (w' : Int) (⟨(⟨false, 0, 0⟩ : Ad), (ByteArray.empty), 0⟩ : Ls)))) = true := by
   unfold lenL
   rw [hc]
   exact hz
  rw [req_of hz, req_of hz2]
  have : subL (clrL r' (w' : Int) (⟨(⟨false, 0, 0⟩ : Ad), (ByteArray.empty), 0⟩ : Ls)) 0 (w' : Int) = r'.take w' := by
   simp [subL, clrL, List.take_append_of_le_length, hw]
  rw [this, ht]
theorem live_len (l : List Ls) (now : Int) : (live l now).length ≤ l.length := List.length_filter_le _ _
theorem allC_len {l : List Ls} {now : Int} (h : allC l now = 0) : l.length ≤ 20 := by
 unfold allC at h
 split at h
 ·cases h
 ·omega
def whoP (who : ByteArray) (x : Ls) : Bool := decide (x.who = who)
end Go.Ma
namespace Go.Ma
open Go
noncomputable def allA (last : Ad) : Nat → Ad → Option (List Ad)
 | 0, _ => none
 | k + 1, a => br (decide (a = last)) (some [a]) ((addr_After_t a).bind fun y => br y.2.1 ((allA last k y.1).map (a :: ·)) (some [a]))
noncomputable def firstIn (p : Pf) (as : List Ad) (ls : List Ls) : List Ad → Option (Ad × Bool × Unit)
 | [] => some (⟨false, 0, 0⟩, false, ())
 | a :: r => (m_lease_book__taken_t p as ls a).bind fun t => (firstIn p as ls r).bind fun y => some (bif t.1 then y else (a, true, ()))
noncomputable def zq0 (p : Pf) (as : List Ad) (ls : List Ls) : Option (Ad × Bool × Unit) :=
 (prefix_Last_t p).bind fun y => (allA y.1 64 p.ad).bind fun xs => firstIn p as ls xs
end Go.Ma
namespace Go.Ma
open Go
noncomputable def zq35 (rec : (((Unit) × (Unit) × (Int × Unit) × (Int × Unit) × Unit) × (List Ad × List Ls × (Bool × Int × Int × Int × Unit) × (ByteArray × Unit) × List Ls × (Ad × Unit) × List Ls × (Bool × Int × Int × Int × Unit) × Unit)) → Option ((((Int × Unit) × Unit) × (List Ad × List Ls × (Bool × Int × Int × Int × Unit) × (ByteArray × Unit) × List Ls × (Ad × Unit) × List Ls × (Bool × Int × Int × Int × Unit) × Unit)) ⊕ ((Unit) × (List Ad × List Ls × (Bool × Int × Int × Int × Unit) × (ByteArray × Unit) × List Ls × (Ad × Unit) × List Ls × (Bool × Int × Int × Int × Unit) × Unit)))) (x : (((Unit) × (Unit) × (Int × Unit) × (Int × Unit) × Unit) × (List Ad × List Ls × (Bool × Int × Int × Int × Unit) × (ByteArray × Unit) × List Ls × (Ad × Unit) × List Ls × (Bool × Int × Int × Int × Unit) × Unit))) : Option ((((Int × Unit) × Unit) × (List Ad × List Ls × (Bool × Int × Int × Int × Unit) × (ByteArray × Unit) × List Ls × (Ad × Unit) × List Ls × (Bool × Int × Int × Int × Unit) × Unit)) ⊕ ((Unit) × (List Ad × List Ls × (Bool × Int × Int × Int × Unit) × (ByteArray × Unit) × List Ls × (Ad × Unit) × List Ls × (Bool × Int × Int × Int × Unit) × Unit))) :=
 let v0 := x.1.2.2.1.1
 let v1 := x.1.2.2.2.1.1
 let v2 := x.2.1
 let v3 := x.2.2.1
 let v4 := x.2.2.2.1.1
 let v5 := x.2.2.2.1.2.1
 let v6 := x.2.2.2.1.2.2.1
 let v7 := x.2.2.2.1.2.2.2.1
 let v8 := x.2.2.2.2.1.1
 let v9 := x.2.2.2.2.2.1
 let v10 := x.2.2.2.2.2.2.1.1
 let v11 := x.2.2.2.2.2.2.2.1
 let v12 := x.2.2.2.2.2.2.2.2.1.1
 let v13 := x.2.2.2.2.2.2.2.2.1.2.1
 let v14 := x.2.2.2.2.2.2.2.2.1.2.2.1
 let v15 := x.2.2.2.2.2.2.2.2.1.2.2.2.1
 br (decide (v1 < v0))
  (req (inRange v1 (lenL v11)) <|
  (geti v11 v1).bind fun p1 =>
  (lease_Raw_1_t p1 v8).bind fun y2 =>
  br y2.1
   (some (Sum.inl (((v1, ()), ()), (v2, v3, (v4, v5, v6, v7, ()), (v8, ()), v9, (v10, ()), v11, (v12, v13, v14, v15, ()), ()))))
   (req (i64ok (v1 + 1)) <|
   rec (((()), (()), (v0, ()), (v1 + 1, ()), ()), (v2, v3, (v4, v5, v6, v7, ()), (v8, ()), v9, (v10, ()), v11, (v12, v13, v14, v15, ()), ()))))
  (some (Sum.inr (((()), (v2, v3, (v4, v5, v6, v7, ()), (v8, ()), v9, (v10, ()), v11, (v12, v13, v14, v15, ()), ())))))
noncomputable def zq29 (rec : (((Unit) × (Unit) × (Unit) × (Int × Unit) × (Int × Unit) × (Int × Unit) × Unit) × (List Ad × List Ls × (Bool × Int × Int × Int × Unit) × (ByteArray × Unit) × List Ls × (Ad × Unit) × List Ls × (Bool × Int × Int × Int × Unit) × (Ad × Unit) × (Ls × Unit) × (Ls × Unit) × Unit)) → Option (((Unit) × (Unit) × (Unit) × (Int × Unit) × (Int × Unit) × Unit) × (List Ad × List Ls × (Bool × Int × Int × Int × Unit) × (ByteArray × Unit) × List Ls × (Ad × Unit) × List Ls × (Bool × Int × Int × Int × Unit) × (Ad × Unit) × (Ls × Unit) × (Ls × Unit) × Unit))) (x : (((Unit) × (Unit) × (Unit) × (Int × Unit) × (Int × Unit) × (Int × Unit) × Unit) × (List Ad × List Ls × (Bool × Int × Int × Int × Unit) × (ByteArray × Unit) × List Ls × (Ad × Unit) × List Ls × (Bool × Int × Int × Int × Unit) × (Ad × Unit) × (Ls × Unit) × (Ls × Unit) × Unit))) : Option (((Unit) × (Unit) × (Unit) × (Int × Unit) × (Int × Unit) × Unit) × (List Ad × List Ls × (Bool × Int × Int × Int × Unit) × (ByteArray × Unit) × List Ls × (Ad × Unit) × List Ls × (Bool × Int × Int × Int × Unit) × (Ad × Unit) × (Ls × Unit) × (Ls × Unit) × Unit)) :=
 let v0 := x.1.2.2.2.1.1
 let v1 := x.1.2.2.2.2.1.1
 let v2 := x.1.2.2.2.2.2.1.1
 let v3 := x.2.1
 let v4 := x.2.2.1
 let v5 := x.2.2.2.1.1
 let v6 := x.2.2.2.1.2.1
 let v7 := x.2.2.2.1.2.2.1
 let v8 := x.2.2.2.1.2.2.2.1
 let v9 := x.2.2.2.2.1.1
 let v10 := x.2.2.2.2.2.1
 let v11 := x.2.2.2.2.2.2.1.1
 let v12 := x.2.2.2.2.2.2.2.1
 let v13 := x.2.2.2.2.2.2.2.2.1.1
 let v14 := x.2.2.2.2.2.2.2.2.1.2.1
 let v15 := x.2.2.2.2.2.2.2.2.1.2.2.1
 let v16 := x.2.2.2.2.2.2.2.2.1.2.2.2.1
 let v17 := x.2.2.2.2.2.2.2.2.2.1.1
 let v18 := x.2.2.2.2.2.2.2.2.2.2.1.1
 let v19 := x.2.2.2.2.2.2.2.2.2.2.2.1.1
 br (decide (v1 < v2))
  (req (i64ok (v1 + v2)) <|
  req (inRange (convI .i64 (aop .shr .u64 (convI .u64 (v1 + v2)) 1)) (lenL v12)) <|
  (geti v12 (convI .i64 (aop .shr .u64 (convI .u64 (v1 + v2)) 1))).bind fun p1 =>
  (lease_Raw_2_t p1 v19).bind fun y2 =>
  br (decide (y2.1 < 0))
   (req (i64ok ((convI .i64 (aop .shr .u64 (convI .u64 (v1 + v2)) 1)) + 1)) <|
   rec (((()), (()), (()), (v0, ()), ((convI .i64 (aop .shr .u64 (convI .u64 (v1 + v2)) 1)) + 1, ()), (v2, ()), ()), (v3, v4, (v5, v6, v7, v8, ()), (v9, ()), v10, (v11, ()), v12, (v13, v14, v15, v16, ()), (v17, ()), (v18, ()), (v19, ()), ())))
   (rec (((()), (()), (()), (v0, ()), (v1, ()), (convI .i64 (aop .shr .u64 (convI .u64 (v1 + v2)) 1), ()), ()), (v3, v4, (v5, v6, v7, v8, ()), (v9, ()), v10, (v11, ()), v12, (v13, v14, v15, v16, ()), (v17, ()), (v18, ()), (v19, ()), ()))))
  (some (((()), (()), (()), (v0, ()), (v1, ()), ()), (v3, v4, (v5, v6, v7, v8, ()), (v9, ()), v10, (v11, ()), v12, (v13, v14, v15, v16, ()), (v17, ()), (v18, ()), (v19, ()), ())))
noncomputable def zq28 (rec : (((Unit) × (Unit) × (Unit) × (Int × Unit) × (Int × Unit) × (Int × Unit) × Unit) × (List Ad × List Ls × (Bool × Int × Int × Int × Unit) × (ByteArray × Unit) × List Ls × (Ad × Unit) × List Ls × (Bool × Int × Int × Int × Unit) × (Ad × Unit) × (Ls × Unit) × (Ls × Unit) × Unit)) → Option (((Unit) × (Unit) × (Unit) × (Int × Unit) × (Int × Unit) × Unit) × (List Ad × List Ls × (Bool × Int × Int × Int × Unit) × (ByteArray × Unit) × List Ls × (Ad × Unit) × List Ls × (Bool × Int × Int × Int × Unit) × (Ad × Unit) × (Ls × Unit) × (Ls × Unit) × Unit))) (x : (((Unit) × (Unit) × (Unit) × (Int × Unit) × (Int × Unit) × (Int × Unit) × Unit) × (List Ad × List Ls × (Bool × Int × Int × Int × Unit) × (ByteArray × Unit) × List Ls × (Ad × Unit) × List Ls × (Bool × Int × Int × Int × Unit) × (Ad × Unit) × (Ls × Unit) × (Ls × Unit) × Unit))) : Option (((Unit) × (Unit) × (Unit) × (Int × Unit) × (Int × Unit) × Unit) × (List Ad × List Ls × (Bool × Int × Int × Int × Unit) × (ByteArray × Unit) × List Ls × (Ad × Unit) × List Ls × (Bool × Int × Int × Int × Unit) × (Ad × Unit) × (Ls × Unit) × (Ls × Unit) × Unit)) :=
 let v0 := x.1.2.2.2.1.1
 let v1 := x.1.2.2.2.2.1.1
 let v2 := x.1.2.2.2.2.2.1.1
 let v3 := x.2.1
 let v4 := x.2.2.1
 let v5 := x.2.2.2.1.1
 let v6 := x.2.2.2.1.2.1
 let v7 := x.2.2.2.1.2.2.1
 let v8 := x.2.2.2.1.2.2.2.1
 let v9 := x.2.2.2.2.1.1
 let v10 := x.2.2.2.2.2.1
 let v11 := x.2.2.2.2.2.2.1.1
 let v12 := x.2.2.2.2.2.2.2.1
 let v13 := x.2.2.2.2.2.2.2.2.1.1
 let v14 := x.2.2.2.2.2.2.2.2.1.2.1
 let v15 := x.2.2.2.2.2.2.2.2.1.2.2.1
 let v16 := x.2.2.2.2.2.2.2.2.1.2.2.2.1
 let v17 := x.2.2.2.2.2.2.2.2.2.1.1
 let v18 := x.2.2.2.2.2.2.2.2.2.2.1.1
 let v19 := x.2.2.2.2.2.2.2.2.2.2.2.1.1
 br (decide (v1 < v2))
  (req (i64ok (v1 + v2)) <|
  req (inRange (convI .i64 (aop .shr .u64 (convI .u64 (v1 + v2)) 1)) (lenL v12)) <|
  (geti v12 (convI .i64 (aop .shr .u64 (convI .u64 (v1 + v2)) 1))).bind fun p1 =>
  (lease_Raw_2_t p1 v19).bind fun y2 =>
  br (decide (y2.1 < 0))
   (req (i64ok ((convI .i64 (aop .shr .u64 (convI .u64 (v1 + v2)) 1)) + 1)) <|
   rec (((()), (()), (()), (v0, ()), ((convI .i64 (aop .shr .u64 (convI .u64 (v1 + v2)) 1)) + 1, ()), (v2, ()), ()), (v3, v4, (v5, v6, v7, v8, ()), (v9, ()), v10, (v11, ()), v12, (v13, v14, v15, v16, ()), (v17, ()), (v18, ()), (v19, ()), ())))
   (rec (((()), (()), (()), (v0, ()), (v1, ()), (convI .i64 (aop .shr .u64 (convI .u64 (v1 + v2)) 1), ()), ()), (v3, v4, (v5, v6, v7, v8, ()), (v9, ()), v10, (v11, ()), v12, (v13, v14, v15, v16, ()), (v17, ()), (v18, ()), (v19, ()), ()))))
  (some (((()), (()), (()), (v0, ()), (v1, ()), ()), (v3, v4, (v5, v6, v7, v8, ()), (v9, ()), v10, (v11, ()), v12, (v13, v14, v15, v16, ()), (v17, ()), (v18, ()), (v19, ()), ())))
noncomputable def lease_Raw_t (a0 : Pf) (a1 : List Ad) (a2 : List Ls) (a3 : ByteArray) (a4 : Int) (a5 : Int) : Option ((List Ls) × Ad × Bool × Unit) :=
 (lease_Live_t a2 a4).bind fun y1 =>
 (loopN zq35 FUEL (((()), (()), (lenL y1.1, ()), (0, ()), ()), (a1, a2, (a0.ad.v6, a0.ad.hi, a0.ad.lo, a0.bits, ()), (a3, ()), ([] : List Ls), ((⟨false, 0, 0⟩ : Ad), ()), y1.1, (a0.ad.v6, a0.ad.hi, a0.ad.lo, a0.bits, ()), ()))).bind fun y2 =>
 sumC y2 (fun y3 =>
  br (decide (y3.1.1.1 ≥ 0))
   (req (i64ok (a4 + a5)) <|
   req (inRange y3.1.1.1 (lenL y3.2.2.2.2.2.2.2.1)) <|
   req (inRange y3.1.1.1 (lenL y3.2.2.2.2.2.2.2.1)) <|
   (geti y3.2.2.2.2.2.2.2.1 y3.1.1.1).bind fun p4 =>
   req (inRange y3.1.1.1 (lenL (seti y3.2.2.2.2.2.2.2.1 y3.1.1.1 (⟨p4.ad, p4.who, a4 + a5⟩ : Ls)))) <|
   req (inRange y3.1.1.1 (lenL (seti y3.2.2.2.2.2.2.2.1 y3.1.1.1 (⟨p4.ad, p4.who, a4 + a5⟩ : Ls)))) <|
   (geti (seti y3.2.2.2.2.2.2.2.1 y3.1.1.1 (⟨p4.ad, p4.who, a4 + a5⟩ : Ls)) y3.1.1.1).bind fun p5 =>
   some (seti y3.2.2.2.2.2.2.2.1 y3.1.1.1 (⟨p4.ad, p4.who, a4 + a5⟩ : Ls), p5.ad, true, ()))
   ((zq0 (⟨(⟨y3.2.2.2.2.2.2.2.2.1.1, y3.2.2.2.2.2.2.2.2.1.2.1, y3.2.2.2.2.2.2.2.2.1.2.2.1⟩ : Ad), y3.2.2.2.2.2.2.2.2.1.2.2.2.1⟩ : Pf) y3.2.1 y3.2.2.2.2.2.2.2.1).bind fun y4 =>
   br (!y4.2.1)
    (some (([] : List Ls), y4.1, false, ()))
    (req (i64ok (a4 + a5)) <|
    ((loopN zq29 FUEL (((()), (()), (()), (lenL y3.2.2.2.2.2.2.2.1, ()), (0, ()), (lenL y3.2.2.2.2.2.2.2.1, ()), ()), (y3.2.1, y3.2.2.1, (y3.2.2.2.1.1, y3.2.2.2.1.2.1, y3.2.2.2.1.2.2.1, y3.2.2.2.1.2.2.2.1, ()), (y3.2.2.2.2.1.1, ()), y3.2.2.2.2.2.1, (y3.2.2.2.2.2.2.1.1, ()), y3.2.2.2.2.2.2.2.1, (y3.2.2.2.2.2.2.2.2.1.1, y3.2.2.2.2.2.2.2.2.1.2.1, y3.2.2.2.2.2.2.2.2.1.2.2.1, y3.2.2.2.2.2.2.2.2.1.2.2.2.1, ()), (y4.1, ()), ((⟨y4.1, y3.2.2.2.2.1.1, a4 + a5⟩ : Ls), ()), ((⟨y4.1, y3.2.2.2.2.1.1, a4 + a5⟩ : Ls), ()), ()))).bind fun y5 =>
     br (decide (y5.1.2.2.2.2.1.1 < y5.1.2.2.2.1.1))
      (req (inRange y5.1.2.2.2.2.1.1 (lenL y5.2.2.2.2.2.2.2.1)) <|
      (geti y5.2.2.2.2.2.2.2.1 y5.1.2.2.2.2.1.1).bind fun p6 =>
      (lease_Raw_2_t p6 y5.2.2.2.2.2.2.2.2.2.2.2.1.1).bind fun y7 =>
      some (y5.1.2.2.2.2.1.1, decide (y7.1 = 0), ()))
      (some (y5.1.2.2.2.2.1.1, false, ()))).bind fun y6 =>
    both
     (dup 1 <|
     req (decide (0 ≤ y6.1) && decide (y6.1 ≤ lenL y3.2.2.2.2.2.2.2.1) && room (lenL y3.2.2.2.2.2.2.2.1) 1) <|
     some (insL y3.2.2.2.2.2.2.2.1 y6.1 (⟨y4.1, y3.2.2.2.2.1.1, a4 + a5⟩ : Ls), y4.1, true, ()))
     (req (decide (0 ≤ y6.1) && decide (y6.1 ≤ lenL y3.2.2.2.2.2.2.2.1) && room (lenL y3.2.2.2.2.2.2.2.1) 1) <|
     some (insL y3.2.2.2.2.2.2.2.1 y6.1 (⟨y4.1, y3.2.2.2.2.1.1, a4 + a5⟩ : Ls), y4.1, true, ()))))) (fun y7 =>
  (zq0 (⟨(⟨y7.2.2.2.2.2.2.2.2.1.1, y7.2.2.2.2.2.2.2.2.1.2.1, y7.2.2.2.2.2.2.2.2.1.2.2.1⟩ : Ad), y7.2.2.2.2.2.2.2.2.1.2.2.2.1⟩ : Pf) y7.2.1 y7.2.2.2.2.2.2.2.1).bind fun y8 =>
  br (!y8.2.1)
   (some (([] : List Ls), y8.1, false, ()))
   (req (i64ok (a4 + a5)) <|
   ((loopN zq28 FUEL (((()), (()), (()), (lenL y7.2.2.2.2.2.2.2.1, ()), (0, ()), (lenL y7.2.2.2.2.2.2.2.1, ()), ()), (y7.2.1, y7.2.2.1, (y7.2.2.2.1.1, y7.2.2.2.1.2.1, y7.2.2.2.1.2.2.1, y7.2.2.2.1.2.2.2.1, ()), (y7.2.2.2.2.1.1, ()), y7.2.2.2.2.2.1, (y7.2.2.2.2.2.2.1.1, ()), y7.2.2.2.2.2.2.2.1, (y7.2.2.2.2.2.2.2.2.1.1, y7.2.2.2.2.2.2.2.2.1.2.1, y7.2.2.2.2.2.2.2.2.1.2.2.1, y7.2.2.2.2.2.2.2.2.1.2.2.2.1, ()), (y8.1, ()), ((⟨y8.1, y7.2.2.2.2.1.1, a4 + a5⟩ : Ls), ()), ((⟨y8.1, y7.2.2.2.2.1.1, a4 + a5⟩ : Ls), ()), ()))).bind fun y9 =>
    br (decide (y9.1.2.2.2.2.1.1 < y9.1.2.2.2.1.1))
     (req (inRange y9.1.2.2.2.2.1.1 (lenL y9.2.2.2.2.2.2.2.1)) <|
     (geti y9.2.2.2.2.2.2.2.1 y9.1.2.2.2.2.1.1).bind fun p10 =>
     (lease_Raw_2_t p10 y9.2.2.2.2.2.2.2.2.2.2.2.1.1).bind fun y11 =>
     some (y9.1.2.2.2.2.1.1, decide (y11.1 = 0), ()))
     (some (y9.1.2.2.2.2.1.1, false, ()))).bind fun y10 =>
   both
    (dup 1 <|
    req (decide (0 ≤ y10.1) && decide (y10.1 ≤ lenL y7.2.2.2.2.2.2.2.1) && room (lenL y7.2.2.2.2.2.2.2.1) 1) <|
    some (insL y7.2.2.2.2.2.2.2.1 y10.1 (⟨y8.1, y7.2.2.2.2.1.1, a4 + a5⟩ : Ls), y8.1, true, ()))
    (req (decide (0 ≤ y10.1) && decide (y10.1 ≤ lenL y7.2.2.2.2.2.2.2.1) && room (lenL y7.2.2.2.2.2.2.2.1) 1) <|
    some (insL y7.2.2.2.2.2.2.2.1 y10.1 (⟨y8.1, y7.2.2.2.2.1.1, a4 + a5⟩ : Ls), y8.1, true, ()))))
noncomputable def zq86 (rec : (((Unit) × (Unit) × (Int × Unit) × (Int × Unit) × Unit) × (List (List Ad) × List Pf × List Ls × (Int × Unit) × (Oq × Unit) × (Int × Unit) × List (List Ad) × List Pf × List Ls × (Ad × Unit) × List (List Ad) × List Pf × List Ls × (Int × Unit) × (Oq × Unit) × (Ad × Unit) × (Pf × Unit) × Unit)) → Option ((((Int × Unit) × Unit) × (List (List Ad) × List Pf × List Ls × (Int × Unit) × (Oq × Unit) × (Int × Unit) × List (List Ad) × List Pf × List Ls × (Ad × Unit) × List (List Ad) × List Pf × List Ls × (Int × Unit) × (Oq × Unit) × (Ad × Unit) × (Pf × Unit) × Unit)) ⊕ ((Unit) × (List (List Ad) × List Pf × List Ls × (Int × Unit) × (Oq × Unit) × (Int × Unit) × List (List Ad) × List Pf × List Ls × (Ad × Unit) × List (List Ad) × List Pf × List Ls × (Int × Unit) × (Oq × Unit) × (Ad × Unit) × (Pf × Unit) × Unit)))) (x : (((Unit) × (Unit) × (Int × Unit) × (Int × Unit) × Unit) × (List (List Ad) × List Pf × List Ls × (Int × Unit) × (Oq × Unit) × (Int × Unit) × List (List Ad) × List Pf × List Ls × (Ad × Unit) × List (List Ad) × List Pf × List Ls × (Int × Unit) × (Oq × Unit) × (Ad × Unit) × (Pf × Unit) × Unit))) : Option ((((Int × Unit) × Unit) × (List (List Ad) × List Pf × List Ls × (Int × Unit) × (Oq × Unit) × (Int × Unit) × List (List Ad) × List Pf × List Ls × (Ad × Unit) × List (List Ad) × List Pf × List Ls × (Int × Unit) × (Oq × Unit) × (Ad × Unit) × (Pf × Unit) × Unit)) ⊕ ((Unit) × (List (List Ad) × List Pf × List Ls × (Int × Unit) × (Oq × Unit) × (Int × Unit) × List (List Ad) × List Pf × List Ls × (Ad × Unit) × List (List Ad) × List Pf × List Ls × (Int × Unit) × (Oq × Unit) × (Ad × Unit) × (Pf × Unit) × Unit))) :=
 let v0 := x.1.2.2.1.1
 let v1 := x.1.2.2.2.1.1
 let v2 := x.2.1
 let v3 := x.2.2.1
 let v4 := x.2.2.2.1
 let v5 := x.2.2.2.2.1.1
 let v6 := x.2.2.2.2.2.1.1
 let v7 := x.2.2.2.2.2.2.1.1
 let v8 := x.2.2.2.2.2.2.2.1
 let v9 := x.2.2.2.2.2.2.2.2.1
 let v10 := x.2.2.2.2.2.2.2.2.2.1
 let v11 := x.2.2.2.2.2.2.2.2.2.2.1.1
 let v12 := x.2.2.2.2.2.2.2.2.2.2.2.1
 let v13 := x.2.2.2.2.2.2.2.2.2.2.2.2.1
 let v14 := x.2.2.2.2.2.2.2.2.2.2.2.2.2.1
 let v15 := x.2.2.2.2.2.2.2.2.2.2.2.2.2.2.1.1
 let v16 := x.2.2.2.2.2.2.2.2.2.2.2.2.2.2.2.1.1
 let v17 := x.2.2.2.2.2.2.2.2.2.2.2.2.2.2.2.2.1.1
 let v18 := x.2.2.2.2.2.2.2.2.2.2.2.2.2.2.2.2.2.1.1
 br (decide (v1 < v0))
  (req (inRange v1 (lenL v13)) <|
  (geti v13 v1).bind fun p1 =>
  (m_state_doer__pool_1_t p1 (getL v12 v1) v18).bind fun y2 =>
  br y2.1
   (some (Sum.inl (((v1, ()), ()), (v2, v3, v4, (v5, ()), (v6, ()), (v7, ()), v8, v9, v10, (v11, ()), v12, v13, v14, (v15, ()), (v16, ()), (v17, ()), (v18, ()), ()))))
   (req (i64ok (v1 + 1)) <|
   rec (((()), (()), (v0, ()), (v1 + 1, ()), ()), (v2, v3, v4, (v5, ()), (v6, ()), (v7, ()), v8, v9, v10, (v11, ()), v12, v13, v14, (v15, ()), (v16, ()), (v17, ()), (v18, ()), ()))))
  (some (Sum.inr (((()), (v2, v3, v4, (v5, ()), (v6, ()), (v7, ()), v8, v9, v10, (v11, ()), v12, v13, v14, (v15, ()), (v16, ()), (v17, ()), (v18, ()), ())))))
noncomputable def zq77 (rec : (((Unit) × (Unit) × (Unit) × (Int × Unit) × (Int × Unit) × (Int × Unit) × Unit) × (List (List Ad) × List Pf × List Ls × (Int × Unit) × (Oq × Unit) × (Int × Unit) × List (List Ad) × List Pf × List Ls × (Ad × Unit) × List (List Ad) × List Pf × List Ls × (Int × Unit) × (Oq × Unit) × (Ad × Unit) × (Pf × Unit) × (Pf × Unit) × Unit)) → Option (((Unit) × (Unit) × (Unit) × (Int × Unit) × (Int × Unit) × Unit) × (List (List Ad) × List Pf × List Ls × (Int × Unit) × (Oq × Unit) × (Int × Unit) × List (List Ad) × List Pf × List Ls × (Ad × Unit) × List (List Ad) × List Pf × List Ls × (Int × Unit) × (Oq × Unit) × (Ad × Unit) × (Pf × Unit) × (Pf × Unit) × Unit))) (x : (((Unit) × (Unit) × (Unit) × (Int × Unit) × (Int × Unit) × (Int × Unit) × Unit) × (List (List Ad) × List Pf × List Ls × (Int × Unit) × (Oq × Unit) × (Int × Unit) × List (List Ad) × List Pf × List Ls × (Ad × Unit) × List (List Ad) × List Pf × List Ls × (Int × Unit) × (Oq × Unit) × (Ad × Unit) × (Pf × Unit) × (Pf × Unit) × Unit))) : Option (((Unit) × (Unit) × (Unit) × (Int × Unit) × (Int × Unit) × Unit) × (List (List Ad) × List Pf × List Ls × (Int × Unit) × (Oq × Unit) × (Int × Unit) × List (List Ad) × List Pf × List Ls × (Ad × Unit) × List (List Ad) × List Pf × List Ls × (Int × Unit) × (Oq × Unit) × (Ad × Unit) × (Pf × Unit) × (Pf × Unit) × Unit)) :=
 let v0 := x.1.2.2.2.1.1
 let v1 := x.1.2.2.2.2.1.1
 let v2 := x.1.2.2.2.2.2.1.1
 let v3 := x.2.1
 let v4 := x.2.2.1
 let v5 := x.2.2.2.1
 let v6 := x.2.2.2.2.1.1
 let v7 := x.2.2.2.2.2.1.1
 let v8 := x.2.2.2.2.2.2.1.1
 let v9 := x.2.2.2.2.2.2.2.1
 let v10 := x.2.2.2.2.2.2.2.2.1
 let v11 := x.2.2.2.2.2.2.2.2.2.1
 let v12 := x.2.2.2.2.2.2.2.2.2.2.1.1
 let v13 := x.2.2.2.2.2.2.2.2.2.2.2.1
 let v14 := x.2.2.2.2.2.2.2.2.2.2.2.2.1
 let v15 := x.2.2.2.2.2.2.2.2.2.2.2.2.2.1
 let v16 := x.2.2.2.2.2.2.2.2.2.2.2.2.2.2.1.1
 let v17 := x.2.2.2.2.2.2.2.2.2.2.2.2.2.2.2.1.1
 let v18 := x.2.2.2.2.2.2.2.2.2.2.2.2.2.2.2.2.1.1
 let v19 := x.2.2.2.2.2.2.2.2.2.2.2.2.2.2.2.2.2.1.1
 let v20 := x.2.2.2.2.2.2.2.2.2.2.2.2.2.2.2.2.2.2.1.1
 br (decide (v1 < v2))
  (req (i64ok (v1 + v2)) <|
  req (inRange (convI .i64 (aop .shr .u64 (convI .u64 (v1 + v2)) 1)) (lenL v14)) <|
  (geti v14 (convI .i64 (aop .shr .u64 (convI .u64 (v1 + v2)) 1))).bind fun p1 =>
  (zq14 p1 (getL v13 (convI .i64 (aop .shr .u64 (convI .u64 (v1 + v2)) 1))) v20).bind fun y2 =>
  br (decide (y2.1 < 0))
   (req (i64ok ((convI .i64 (aop .shr .u64 (convI .u64 (v1 + v2)) 1)) + 1)) <|
   rec (((()), (()), (()), (v0, ()), ((convI .i64 (aop .shr .u64 (convI .u64 (v1 + v2)) 1)) + 1, ()), (v2, ()), ()), (v3, v4, v5, (v6, ()), (v7, ()), (v8, ()), v9, v10, v11, (v12, ()), v13, v14, v15, (v16, ()), (v17, ()), (v18, ()), (v19, ()), (v20, ()), ())))
   (rec (((()), (()), (()), (v0, ()), (v1, ()), (convI .i64 (aop .shr .u64 (convI .u64 (v1 + v2)) 1), ()), ()), (v3, v4, v5, (v6, ()), (v7, ()), (v8, ()), v9, v10, v11, (v12, ()), v13, v14, v15, (v16, ()), (v17, ()), (v18, ()), (v19, ()), (v20, ()), ()))))
  (some (((()), (()), (()), (v0, ()), (v1, ()), ()), (v3, v4, v5, (v6, ()), (v7, ()), (v8, ()), v9, v10, v11, (v12, ()), v13, v14, v15, (v16, ()), (v17, ()), (v18, ()), (v19, ()), (v20, ()), ())))
noncomputable def zq76 (rec : (((Unit) × (Unit) × (Unit) × (Int × Unit) × (Int × Unit) × (Int × Unit) × Unit) × (List (List Ad) × List Pf × List Ls × (Int × Unit) × (Oq × Unit) × (Int × Unit) × List (List Ad) × List Pf × List Ls × (Ad × Unit) × List (List Ad) × List Pf × List Ls × (Int × Unit) × (Oq × Unit) × (Ad × Unit) × (Pf × Unit) × (Pf × Unit) × Unit)) → Option (((Unit) × (Unit) × (Unit) × (Int × Unit) × (Int × Unit) × Unit) × (List (List Ad) × List Pf × List Ls × (Int × Unit) × (Oq × Unit) × (Int × Unit) × List (List Ad) × List Pf × List Ls × (Ad × Unit) × List (List Ad) × List Pf × List Ls × (Int × Unit) × (Oq × Unit) × (Ad × Unit) × (Pf × Unit) × (Pf × Unit) × Unit))) (x : (((Unit) × (Unit) × (Unit) × (Int × Unit) × (Int × Unit) × (Int × Unit) × Unit) × (List (List Ad) × List Pf × List Ls × (Int × Unit) × (Oq × Unit) × (Int × Unit) × List (List Ad) × List Pf × List Ls × (Ad × Unit) × List (List Ad) × List Pf × List Ls × (Int × Unit) × (Oq × Unit) × (Ad × Unit) × (Pf × Unit) × (Pf × Unit) × Unit))) : Option (((Unit) × (Unit) × (Unit) × (Int × Unit) × (Int × Unit) × Unit) × (List (List Ad) × List Pf × List Ls × (Int × Unit) × (Oq × Unit) × (Int × Unit) × List (List Ad) × List Pf × List Ls × (Ad × Unit) × List (List Ad) × List Pf × List Ls × (Int × Unit) × (Oq × Unit) × (Ad × Unit) × (Pf × Unit) × (Pf × Unit) × Unit)) :=
 let v0 := x.1.2.2.2.1.1
 let v1 := x.1.2.2.2.2.1.1
 let v2 := x.1.2.2.2.2.2.1.1
 let v3 := x.2.1
 let v4 := x.2.2.1
 let v5 := x.2.2.2.1
 let v6 := x.2.2.2.2.1.1
 let v7 := x.2.2.2.2.2.1.1
 let v8 := x.2.2.2.2.2.2.1.1
 let v9 := x.2.2.2.2.2.2.2.1
 let v10 := x.2.2.2.2.2.2.2.2.1
 let v11 := x.2.2.2.2.2.2.2.2.2.1
 let v12 := x.2.2.2.2.2.2.2.2.2.2.1.1
 let v13 := x.2.2.2.2.2.2.2.2.2.2.2.1
 let v14 := x.2.2.2.2.2.2.2.2.2.2.2.2.1
 let v15 := x.2.2.2.2.2.2.2.2.2.2.2.2.2.1
 let v16 := x.2.2.2.2.2.2.2.2.2.2.2.2.2.2.1.1
 let v17 := x.2.2.2.2.2.2.2.2.2.2.2.2.2.2.2.1.1
 let v18 := x.2.2.2.2.2.2.2.2.2.2.2.2.2.2.2.2.1.1
 let v19 := x.2.2.2.2.2.2.2.2.2.2.2.2.2.2.2.2.2.1.1
 let v20 := x.2.2.2.2.2.2.2.2.2.2.2.2.2.2.2.2.2.2.1.1
 br (decide (v1 < v2))
  (req (i64ok (v1 + v2)) <|
  req (inRange (convI .i64 (aop .shr .u64 (convI .u64 (v1 + v2)) 1)) (lenL v14)) <|
  (geti v14 (convI .i64 (aop .shr .u64 (convI .u64 (v1 + v2)) 1))).bind fun p1 =>
  (zq14 p1 (getL v13 (convI .i64 (aop .shr .u64 (convI .u64 (v1 + v2)) 1))) v20).bind fun y2 =>
  br (decide (y2.1 < 0))
   (req (i64ok ((convI .i64 (aop .shr .u64 (convI .u64 (v1 + v2)) 1)) + 1)) <|
   rec (((()), (()), (()), (v0, ()), ((convI .i64 (aop .shr .u64 (convI .u64 (v1 + v2)) 1)) + 1, ()), (v2, ()), ()), (v3, v4, v5, (v6, ()), (v7, ()), (v8, ()), v9, v10, v11, (v12, ()), v13, v14, v15, (v16, ()), (v17, ()), (v18, ()), (v19, ()), (v20, ()), ())))
   (rec (((()), (()), (()), (v0, ()), (v1, ()), (convI .i64 (aop .shr .u64 (convI .u64 (v1 + v2)) 1), ()), ()), (v3, v4, v5, (v6, ()), (v7, ()), (v8, ()), v9, v10, v11, (v12, ()), v13, v14, v15, (v16, ()), (v17, ()), (v18, ()), (v19, ()), (v20, ()), ()))))
  (some (((()), (()), (()), (v0, ()), (v1, ()), ()), (v3, v4, v5, (v6, ()), (v7, ()), (v8, ()), v9, v10, v11, (v12, ()), v13, v14, v15, (v16, ()), (v17, ()), (v18, ()), (v19, ()), (v20, ()), ())))
noncomputable def zq69 (rec : (((Int × Unit) × (Unit) × (Unit) × (Int × Unit) × (Int × Unit) × (Int × Unit) × Unit) × (List (List Ad) × List Pf × List Ls × (Int × Unit) × (Oq × Unit) × (Int × Unit) × List (List Ad) × List Pf × List Ls × (Ad × Unit) × List (List Ad) × List Pf × List Ls × (Int × Unit) × (Oq × Unit) × (Ad × Unit) × (Ad × Unit) × (Ad × Unit) × Unit)) → Option (((Int × Unit) × (Unit) × (Unit) × (Int × Unit) × (Int × Unit) × Unit) × (List (List Ad) × List Pf × List Ls × (Int × Unit) × (Oq × Unit) × (Int × Unit) × List (List Ad) × List Pf × List Ls × (Ad × Unit) × List (List Ad) × List Pf × List Ls × (Int × Unit) × (Oq × Unit) × (Ad × Unit) × (Ad × Unit) × (Ad × Unit) × Unit))) (x : (((Int × Unit) × (Unit) × (Unit) × (Int × Unit) × (Int × Unit) × (Int × Unit) × Unit) × (List (List Ad) × List Pf × List Ls × (Int × Unit) × (Oq × Unit) × (Int × Unit) × List (List Ad) × List Pf × List Ls × (Ad × Unit) × List (List Ad) × List Pf × List Ls × (Int × Unit) × (Oq × Unit) × (Ad × Unit) × (Ad × Unit) × (Ad × Unit) × Unit))) : Option (((Int × Unit) × (Unit) × (Unit) × (Int × Unit) × (Int × Unit) × Unit) × (List (List Ad) × List Pf × List Ls × (Int × Unit) × (Oq × Unit) × (Int × Unit) × List (List Ad) × List Pf × List Ls × (Ad × Unit) × List (List Ad) × List Pf × List Ls × (Int × Unit) × (Oq × Unit) × (Ad × Unit) × (Ad × Unit) × (Ad × Unit) × Unit)) :=
 let v0 := x.1.1.1
 let v1 := x.1.2.2.2.1.1
 let v2 := x.1.2.2.2.2.1.1
 let v3 := x.1.2.2.2.2.2.1.1
 let v4 := x.2.1
 let v5 := x.2.2.1
 let v6 := x.2.2.2.1
 let v7 := x.2.2.2.2.1.1
 let v8 := x.2.2.2.2.2.1.1
 let v9 := x.2.2.2.2.2.2.1.1
 let v10 := x.2.2.2.2.2.2.2.1
 let v11 := x.2.2.2.2.2.2.2.2.1
 let v12 := x.2.2.2.2.2.2.2.2.2.1
 let v13 := x.2.2.2.2.2.2.2.2.2.2.1.1
 let v14 := x.2.2.2.2.2.2.2.2.2.2.2.1
 let v15 := x.2.2.2.2.2.2.2.2.2.2.2.2.1
 let v16 := x.2.2.2.2.2.2.2.2.2.2.2.2.2.1
 let v17 := x.2.2.2.2.2.2.2.2.2.2.2.2.2.2.1.1
 let v18 := x.2.2.2.2.2.2.2.2.2.2.2.2.2.2.2.1.1
 let v19 := x.2.2.2.2.2.2.2.2.2.2.2.2.2.2.2.2.1.1
 let v20 := x.2.2.2.2.2.2.2.2.2.2.2.2.2.2.2.2.2.1.1
 let v21 := x.2.2.2.2.2.2.2.2.2.2.2.2.2.2.2.2.2.2.1.1
 br (decide (v2 < v3))
  (req (i64ok (v2 + v3)) <|
  req (inRange (convI .i64 (aop .shr .u64 (convI .u64 (v2 + v3)) 1)) (lenL (getL v14 v0))) <|
  (geti (getL v14 v0) (convI .i64 (aop .shr .u64 (convI .u64 (v2 + v3)) 1))).bind fun p1 =>
  (addr_Order_t p1 v21).bind fun y2 =>
  br (decide (y2.1 < 0))
   (req (i64ok ((convI .i64 (aop .shr .u64 (convI .u64 (v2 + v3)) 1)) + 1)) <|
   rec (((v0, ()), (()), (()), (v1, ()), ((convI .i64 (aop .shr .u64 (convI .u64 (v2 + v3)) 1)) + 1, ()), (v3, ()), ()), (v4, v5, v6, (v7, ()), (v8, ()), (v9, ()), v10, v11, v12, (v13, ()), v14, v15, v16, (v17, ()), (v18, ()), (v19, ()), (v20, ()), (v21, ()), ())))
   (rec (((v0, ()), (()), (()), (v1, ()), (v2, ()), (convI .i64 (aop .shr .u64 (convI .u64 (v2 + v3)) 1), ()), ()), (v4, v5, v6, (v7, ()), (v8, ()), (v9, ()), v10, v11, v12, (v13, ()), v14, v15, v16, (v17, ()), (v18, ()), (v19, ()), (v20, ()), (v21, ()), ()))))
  (some (((v0, ()), (()), (()), (v1, ()), (v2, ()), ()), (v4, v5, v6, (v7, ()), (v8, ()), (v9, ()), v10, v11, v12, (v13, ()), v14, v15, v16, (v17, ()), (v18, ()), (v19, ()), (v20, ()), (v21, ()), ())))
noncomputable def zq64 (rec : (((Unit) × (ByteArray × Unit) × (Int × Unit) × (Unit) × (Unit) × (Unit) × (Unit) × (Unit) × (Int × Unit) × (Int × Unit) × Unit) × (List (List Ad) × List Pf × List Ls × (Int × Unit) × (Oq × Unit) × (Int × Unit) × List (List Ad) × List Pf × List Ls × (Ad × Unit) × List (List Ad) × List Pf × List Ls × (Int × Unit) × (Oq × Unit) × (Ad × Unit) × (Ad × Unit) × (Bool × Int × Int × Int × Int × Unit) × List Ls × List Ls × Unit)) → Option (((Unit) × (ByteArray × Unit) × (Int × Unit) × (Unit) × (Unit) × (Unit) × (Unit) × Unit) × (List (List Ad) × List Pf × List Ls × (Int × Unit) × (Oq × Unit) × (Int × Unit) × List (List Ad) × List Pf × List Ls × (Ad × Unit) × List (List Ad) × List Pf × List Ls × (Int × Unit) × (Oq × Unit) × (Ad × Unit) × (Ad × Unit) × (Bool × Int × Int × Int × Int × Unit) × List Ls × List Ls × Unit))) (x : (((Unit) × (ByteArray × Unit) × (Int × Unit) × (Unit) × (Unit) × (Unit) × (Unit) × (Unit) × (Int × Unit) × (Int × Unit) × Unit) × (List (List Ad) × List Pf × List Ls × (Int × Unit) × (Oq × Unit) × (Int × Unit) × List (List Ad) × List Pf × List Ls × (Ad × Unit) × List (List Ad) × List Pf × List Ls × (Int × Unit) × (Oq × Unit) × (Ad × Unit) × (Ad × Unit) × (Bool × Int × Int × Int × Int × Unit) × List Ls × List Ls × Unit))) : Option (((Unit) × (ByteArray × Unit) × (Int × Unit) × (Unit) × (Unit) × (Unit) × (Unit) × Unit) × (List (List Ad) × List Pf × List Ls × (Int × Unit) × (Oq × Unit) × (Int × Unit) × List (List Ad) × List Pf × List Ls × (Ad × Unit) × List (List Ad) × List Pf × List Ls × (Int × Unit) × (Oq × Unit) × (Ad × Unit) × (Ad × Unit) × (Bool × Int × Int × Int × Int × Unit) × List Ls × List Ls × Unit)) :=
 let v0 := x.1.2.1.1
 let v1 := x.1.2.2.1.1
 let v2 := x.1.2.2.2.2.2.2.2.2.1.1
 let v3 := x.1.2.2.2.2.2.2.2.2.2.1.1
 let v4 := x.2.1
 let v5 := x.2.2.1
 let v6 := x.2.2.2.1
 let v7 := x.2.2.2.2.1.1
 let v8 := x.2.2.2.2.2.1.1
 let v9 := x.2.2.2.2.2.2.1.1
 let v10 := x.2.2.2.2.2.2.2.1
 let v11 := x.2.2.2.2.2.2.2.2.1
 let v12 := x.2.2.2.2.2.2.2.2.2.1
 let v13 := x.2.2.2.2.2.2.2.2.2.2.1.1
 let v14 := x.2.2.2.2.2.2.2.2.2.2.2.1
 let v15 := x.2.2.2.2.2.2.2.2.2.2.2.2.1
 let v16 := x.2.2.2.2.2.2.2.2.2.2.2.2.2.1
 let v17 := x.2.2.2.2.2.2.2.2.2.2.2.2.2.2.1.1
 let v18 := x.2.2.2.2.2.2.2.2.2.2.2.2.2.2.2.1.1
 let v19 := x.2.2.2.2.2.2.2.2.2.2.2.2.2.2.2.2.1.1
 let v20 := x.2.2.2.2.2.2.2.2.2.2.2.2.2.2.2.2.2.1.1
 let v21 := x.2.2.2.2.2.2.2.2.2.2.2.2.2.2.2.2.2.2.1.1
 let v22 := x.2.2.2.2.2.2.2.2.2.2.2.2.2.2.2.2.2.2.1.2.1
 let v23 := x.2.2.2.2.2.2.2.2.2.2.2.2.2.2.2.2.2.2.1.2.2.1
 let v24 := x.2.2.2.2.2.2.2.2.2.2.2.2.2.2.2.2.2.2.1.2.2.2.1
 let v25 := x.2.2.2.2.2.2.2.2.2.2.2.2.2.2.2.2.2.2.1.2.2.2.2.1
 let v26 := x.2.2.2.2.2.2.2.2.2.2.2.2.2.2.2.2.2.2.2.1
 let v27 := x.2.2.2.2.2.2.2.2.2.2.2.2.2.2.2.2.2.2.2.2.1
 br (decide (v3 < v2))
  (req (inRange v3 (lenL v16)) <|
  (geti v16 v3).bind fun p1 =>
  (prefix_Holds_t (⟨(⟨v21, v22, v23⟩ : Ad), v24⟩ : Pf) p1.ad).bind fun y2 =>
  br y2.1
   (req (room (lenL v26) (lenL ([p1] : List Ls))) <|
   req (i64ok (v3 + 1)) <|
   rec (((()), (v0, ()), (v1, ()), (()), (()), (()), (()), (()), (v2, ()), (v3 + 1, ()), ()), (v4, v5, v6, (v7, ()), (v8, ()), (v9, ()), v10, v11, v12, (v13, ()), v14, v15, v16, (v17, ()), (v18, ()), (v19, ()), (v20, ()), (v21, v22, v23, v24, v25, ()), v26 ++ ([p1] : List Ls), v27, ())))
   (req (room (lenL v27) (lenL ([p1] : List Ls))) <|
   req (i64ok (v3 + 1)) <|
   rec (((()), (v0, ()), (v1, ()), (()), (()), (()), (()), (()), (v2, ()), (v3 + 1, ()), ()), (v4, v5, v6, (v7, ()), (v8, ()), (v9, ()), v10, v11, v12, (v13, ()), v14, v15, v16, (v17, ()), (v18, ()), (v19, ()), (v20, ()), (v21, v22, v23, v24, v25, ()), v26, v27 ++ ([p1] : List Ls), ()))))
  (some (((()), (v0, ()), (v1, ()), (()), (()), (()), (()), ()), (v4, v5, v6, (v7, ()), (v8, ()), (v9, ()), v10, v11, v12, (v13, ()), v14, v15, v16, (v17, ()), (v18, ()), (v19, ()), (v20, ()), (v21, v22, v23, v24, v25, ()), v26, v27, ())))
noncomputable def state_Raw_t (a0 : List Pf × List (List Ad)) (a1 : List Ls) (a2 : Int) (a3 : Oq) : Option (((List Pf × List (List Ad)) × (List Ls) × Int × Unit) × Ad × Int × Unit) :=
 (state_Form_t a3).bind fun y1 =>
 br (!decide (y1.1 = 0))
  (some (((([] : List Pf), ([] : List (List Ad))), ([] : List Ls), 0, ()), (⟨false, 0, 0⟩ : Ad), y1.1, ()))
  ((state_Own_t a0 a1 a2).bind fun y2 =>
  br (decide (a3.kind = 1))
   ((loopN zq86 FUEL (((()), (()), (lenL y2.1.1.1, ()), (0, ()), ()), (a0.2, a0.1, a1, (a2, ()), (a3, ()), (0, ()), ([] : List (List Ad)), ([] : List Pf), ([] : List Ls), ((⟨false, 0, 0⟩ : Ad), ()), y2.1.1.2, y2.1.1.1, y2.1.2.1, (y2.1.2.2.1, ()), (a3, ()), ((⟨false, 0, 0⟩ : Ad), ()), (a3.pf, ()), ()))).bind fun y3 =>
   sumC y3 (fun y4 =>
    br (decide (y4.1.1.1 ≥ 0))
     (some (((([] : List Pf), ([] : List (List Ad))), ([] : List Ls), 0, ()), (⟨false, 0, 0⟩ : Ad), 6, ()))
     (br (decide (lenL y4.2.2.2.2.2.2.2.2.2.2.2.2.1 = 3))
      (some (((([] : List Pf), ([] : List (List Ad))), ([] : List Ls), 0, ()), (⟨false, 0, 0⟩ : Ad), 2, ()))
      (((loopN zq77 FUEL (((()), (()), (()), (lenL y4.2.2.2.2.2.2.2.2.2.2.2.2.1, ()), (0, ()), (lenL y4.2.2.2.2.2.2.2.2.2.2.2.2.1, ()), ()), (y4.2.1, y4.2.2.1, y4.2.2.2.1, (y4.2.2.2.2.1.1, ()), (y4.2.2.2.2.2.1.1, ()), (y4.2.2.2.2.2.2.1.1, ()), y4.2.2.2.2.2.2.2.1, y4.2.2.2.2.2.2.2.2.1, y4.2.2.2.2.2.2.2.2.2.1, (y4.2.2.2.2.2.2.2.2.2.2.1.1, ()), y4.2.2.2.2.2.2.2.2.2.2.2.1, y4.2.2.2.2.2.2.2.2.2.2.2.2.1, y4.2.2.2.2.2.2.2.2.2.2.2.2.2.1, (y4.2.2.2.2.2.2.2.2.2.2.2.2.2.2.1.1, ()), (y4.2.2.2.2.2.2.2.2.2.2.2.2.2.2.2.1.1, ()), (y4.2.2.2.2.2.2.2.2.2.2.2.2.2.2.2.2.1.1, ()), (y4.2.2.2.2.2.2.2.2.2.2.2.2.2.2.2.2.2.1.1, ()), (y4.2.2.2.2.2.2.2.2.2.2.2.2.2.2.2.2.2.1.1, ()), ()))).bind fun y5 =>
       br (decide (y5.1.2.2.2.2.1.1 < y5.1.2.2.2.1.1))
        (req (inRange y5.1.2.2.2.2.1.1 (lenL y5.2.2.2.2.2.2.2.2.2.2.2.2.1)) <|
        (geti y5.2.2.2.2.2.2.2.2.2.2.2.2.1 y5.1.2.2.2.2.1.1).bind fun p6 =>
        (zq14 p6 (getL y5.2.2.2.2.2.2.2.2.2.2.2.1 y5.1.2.2.2.2.1.1) y5.2.2.2.2.2.2.2.2.2.2.2.2.2.2.2.2.2.2.1.1).bind fun y7 =>
        some (y5.1.2.2.2.2.1.1, decide (y7.1 = 0), ()))
        (some (y5.1.2.2.2.2.1.1, false, ()))).bind fun y6 =>
      both
       (both
        (both
         (dup 1 <|
         req (decide (0 ≤ y6.1) && decide (y6.1 ≤ lenL y4.2.2.2.2.2.2.2.2.2.2.2.2.1) && room (lenL y4.2.2.2.2.2.2.2.2.2.2.2.2.1) 1) <|
         some (((insL y4.2.2.2.2.2.2.2.2.2.2.2.2.1 y6.1 y4.2.2.2.2.2.2.2.2.2.2.2.2.2.2.2.2.2.1.1, insL (padL y4.2.2.2.2.2.2.2.2.2.2.2.2.1.length y4.2.2.2.2.2.2.2.2.2.2.2.1) y6.1 ([] : List Ad)), y4.2.2.2.2.2.2.2.2.2.2.2.2.2.1, y4.2.2.2.2.2.2.2.2.2.2.2.2.2.2.1.1, ()), (⟨false, 0, 0⟩ : Ad), 0, ()))
         (req (decide (0 ≤ y6.1) && decide (y6.1 ≤ lenL y4.2.2.2.2.2.2.2.2.2.2.2.2.1) && room (lenL y4.2.2.2.2.2.2.2.2.2.2.2.2.1) 1) <|
         some (((insL y4.2.2.2.2.2.2.2.2.2.2.2.2.1 y6.1 y4.2.2.2.2.2.2.2.2.2.2.2.2.2.2.2.2.2.1.1, insL (padL y4.2.2.2.2.2.2.2.2.2.2.2.2.1.length y4.2.2.2.2.2.2.2.2.2.2.2.1) y6.1 ([] : List Ad)), y4.2.2.2.2.2.2.2.2.2.2.2.2.2.1, y4.2.2.2.2.2.2.2.2.2.2.2.2.2.2.1.1, ()), (⟨false, 0, 0⟩ : Ad), 0, ())))
        (req (decide (0 ≤ y6.1) && decide (y6.1 ≤ lenL y4.2.2.2.2.2.2.2.2.2.2.2.2.1) && room (lenL y4.2.2.2.2.2.2.2.2.2.2.2.2.1) 1) <|
        some (((insL y4.2.2.2.2.2.2.2.2.2.2.2.2.1 y6.1 y4.2.2.2.2.2.2.2.2.2.2.2.2.2.2.2.2.2.1.1, insL (padL y4.2.2.2.2.2.2.2.2.2.2.2.2.1.length y4.2.2.2.2.2.2.2.2.2.2.2.1) y6.1 ([] : List Ad)), y4.2.2.2.2.2.2.2.2.2.2.2.2.2.1, y4.2.2.2.2.2.2.2.2.2.2.2.2.2.2.1.1, ()), (⟨false, 0, 0⟩ : Ad), 0, ())))
       (req (decide (0 ≤ y6.1) && decide (y6.1 ≤ lenL y4.2.2.2.2.2.2.2.2.2.2.2.2.1) && room (lenL y4.2.2.2.2.2.2.2.2.2.2.2.2.1) 1) <|
       some (((insL y4.2.2.2.2.2.2.2.2.2.2.2.2.1 y6.1 y4.2.2.2.2.2.2.2.2.2.2.2.2.2.2.2.2.2.1.1, insL (padL y4.2.2.2.2.2.2.2.2.2.2.2.2.1.length y4.2.2.2.2.2.2.2.2.2.2.2.1) y6.1 ([] : List Ad)), y4.2.2.2.2.2.2.2.2.2.2.2.2.2.1, y4.2.2.2.2.2.2.2.2.2.2.2.2.2.2.1.1, ()), (⟨false, 0, 0⟩ : Ad), 0, ()))))) (fun y7 =>
    br (decide (lenL y7.2.2.2.2.2.2.2.2.2.2.2.2.1 = 3))
     (some (((([] : List Pf), ([] : List (List Ad))), ([] : List Ls), 0, ()), (⟨false, 0, 0⟩ : Ad), 2, ()))
     (((loopN zq76 FUEL (((()), (()), (()), (lenL y7.2.2.2.2.2.2.2.2.2.2.2.2.1, ()), (0, ()), (lenL y7.2.2.2.2.2.2.2.2.2.2.2.2.1, ()), ()), (y7.2.1, y7.2.2.1, y7.2.2.2.1, (y7.2.2.2.2.1.1, ()), (y7.2.2.2.2.2.1.1, ()), (y7.2.2.2.2.2.2.1.1, ()), y7.2.2.2.2.2.2.2.1, y7.2.2.2.2.2.2.2.2.1, y7.2.2.2.2.2.2.2.2.2.1, (y7.2.2.2.2.2.2.2.2.2.2.1.1, ()), y7.2.2.2.2.2.2.2.2.2.2.2.1, y7.2.2.2.2.2.2.2.2.2.2.2.2.1, y7.2.2.2.2.2.2.2.2.2.2.2.2.2.1, (y7.2.2.2.2.2.2.2.2.2.2.2.2.2.2.1.1, ()), (y7.2.2.2.2.2.2.2.2.2.2.2.2.2.2.2.1.1, ()), (y7.2.2.2.2.2.2.2.2.2.2.2.2.2.2.2.2.1.1, ()), (y7.2.2.2.2.2.2.2.2.2.2.2.2.2.2.2.2.2.1.1, ()), (y7.2.2.2.2.2.2.2.2.2.2.2.2.2.2.2.2.2.1.1, ()), ()))).bind fun y8 =>
      br (decide (y8.1.2.2.2.2.1.1 < y8.1.2.2.2.1.1))
       (req (inRange y8.1.2.2.2.2.1.1 (lenL y8.2.2.2.2.2.2.2.2.2.2.2.2.1)) <|
       (geti y8.2.2.2.2.2.2.2.2.2.2.2.2.1 y8.1.2.2.2.2.1.1).bind fun p9 =>
       (zq14 p9 (getL y8.2.2.2.2.2.2.2.2.2.2.2.1 y8.1.2.2.2.2.1.1) y8.2.2.2.2.2.2.2.2.2.2.2.2.2.2.2.2.2.2.1.1).bind fun y10 =>
       some (y8.1.2.2.2.2.1.1, decide (y10.1 = 0), ()))
       (some (y8.1.2.2.2.2.1.1, false, ()))).bind fun y9 =>
     both
      (both
       (both
        (dup 1 <|
        req (decide (0 ≤ y9.1) && decide (y9.1 ≤ lenL y7.2.2.2.2.2.2.2.2.2.2.2.2.1) && room (lenL y7.2.2.2.2.2.2.2.2.2.2.2.2.1) 1) <|
        some (((insL y7.2.2.2.2.2.2.2.2.2.2.2.2.1 y9.1 y7.2.2.2.2.2.2.2.2.2.2.2.2.2.2.2.2.2.1.1, insL (padL y7.2.2.2.2.2.2.2.2.2.2.2.2.1.length y7.2.2.2.2.2.2.2.2.2.2.2.1) y9.1 ([] : List Ad)), y7.2.2.2.2.2.2.2.2.2.2.2.2.2.1, y7.2.2.2.2.2.2.2.2.2.2.2.2.2.2.1.1, ()), (⟨false, 0, 0⟩ : Ad), 0, ()))
        (req (decide (0 ≤ y9.1) && decide (y9.1 ≤ lenL y7.2.2.2.2.2.2.2.2.2.2.2.2.1) && room (lenL y7.2.2.2.2.2.2.2.2.2.2.2.2.1) 1) <|
        some (((insL y7.2.2.2.2.2.2.2.2.2.2.2.2.1 y9.1 y7.2.2.2.2.2.2.2.2.2.2.2.2.2.2.2.2.2.1.1, insL (padL y7.2.2.2.2.2.2.2.2.2.2.2.2.1.length y7.2.2.2.2.2.2.2.2.2.2.2.1) y9.1 ([] : List Ad)), y7.2.2.2.2.2.2.2.2.2.2.2.2.2.1, y7.2.2.2.2.2.2.2.2.2.2.2.2.2.2.1.1, ()), (⟨false, 0, 0⟩ : Ad), 0, ())))
       (req (decide (0 ≤ y9.1) && decide (y9.1 ≤ lenL y7.2.2.2.2.2.2.2.2.2.2.2.2.1) && room (lenL y7.2.2.2.2.2.2.2.2.2.2.2.2.1) 1) <|
       some (((insL y7.2.2.2.2.2.2.2.2.2.2.2.2.1 y9.1 y7.2.2.2.2.2.2.2.2.2.2.2.2.2.2.2.2.2.1.1, insL (padL y7.2.2.2.2.2.2.2.2.2.2.2.2.1.length y7.2.2.2.2.2.2.2.2.2.2.2.1) y9.1 ([] : List Ad)), y7.2.2.2.2.2.2.2.2.2.2.2.2.2.1, y7.2.2.2.2.2.2.2.2.2.2.2.2.2.2.1.1, ()), (⟨false, 0, 0⟩ : Ad), 0, ())))
      (req (decide (0 ≤ y9.1) && decide (y9.1 ≤ lenL y7.2.2.2.2.2.2.2.2.2.2.2.2.1) && room (lenL y7.2.2.2.2.2.2.2.2.2.2.2.2.1) 1) <|
      some (((insL y7.2.2.2.2.2.2.2.2.2.2.2.2.1 y9.1 y7.2.2.2.2.2.2.2.2.2.2.2.2.2.2.2.2.2.1.1, insL (padL y7.2.2.2.2.2.2.2.2.2.2.2.2.1.length y7.2.2.2.2.2.2.2.2.2.2.2.1) y9.1 ([] : List Ad)), y7.2.2.2.2.2.2.2.2.2.2.2.2.2.1, y7.2.2.2.2.2.2.2.2.2.2.2.2.2.2.1.1, ()), (⟨false, 0, 0⟩ : Ad), 0, ())))))
   (br (decide (a3.kind = 2))
    ((state_poolOf_t y2.1.1 y2.1.2.1 y2.1.2.2.1 a3.ad).bind fun y3 =>
    br (decide (y3.1 < 0))
     (some (((([] : List Pf), ([] : List (List Ad))), ([] : List Ls), 0, ()), (⟨false, 0, 0⟩ : Ad), 5, ()))
     (req (inRange y3.1 (lenL y2.1.1.1)) <|
     req (inRange y3.1 (lenL y2.1.1.1)) <|
     req (inRange y3.1 (lenL y2.1.1.1)) <|
     (geti y2.1.1.1 y3.1).bind fun p4 =>
     ((loopN zq69 FUEL (((y3.1, ()), (()), (()), (lenL (getL y2.1.1.2 y3.1), ()), (0, ()), (lenL (getL y2.1.1.2 y3.1), ()), ()), (a0.2, a0.1, a1, (a2, ()), (a3, ()), (0, ()), ([] : List (List Ad)), ([] : List Pf), ([] : List Ls), ((⟨false, 0, 0⟩ : Ad), ()), y2.1.1.2, y2.1.1.1, y2.1.2.1, (y2.1.2.2.1, ()), (a3, ()), ((⟨false, 0, 0⟩ : Ad), ()), (a3.ad, ()), (a3.ad, ()), ()))).bind fun y5 =>
      br (decide (y5.1.2.2.2.2.1.1 < y5.1.2.2.2.1.1))
       (req (inRange y5.1.2.2.2.2.1.1 (lenL (getL y5.2.2.2.2.2.2.2.2.2.2.2.1 y5.1.1.1))) <|
       (geti (getL y5.2.2.2.2.2.2.2.2.2.2.2.1 y5.1.1.1) y5.1.2.2.2.2.1.1).bind fun p6 =>
       (addr_Order_t p6 y5.2.2.2.2.2.2.2.2.2.2.2.2.2.2.2.2.2.2.1.1).bind fun y7 =>
       some (y5.1.2.2.2.2.1.1, decide (y7.1 = 0), ()))
       (some (y5.1.2.2.2.2.1.1, false, ()))).bind fun y6 =>
     br y6.2.1
      (some (((([] : List Pf), ([] : List (List Ad))), ([] : List Ls), 0, ()), (⟨false, 0, 0⟩ : Ad), 6, ()))
      (req (inRange y3.1 (lenL y2.1.1.1)) <|
      req (inRange y3.1 (lenL y2.1.1.1)) <|
      (geti y2.1.1.1 y3.1).bind fun p7 =>
      br (decide (lenL (getL y2.1.1.2 y3.1) = 6))
       (some (((([] : List Pf), ([] : List (List Ad))), ([] : List Ls), 0, ()), (⟨false, 0, 0⟩ : Ad), 2, ()))
       (req (inRange y3.1 (lenL y2.1.1.1)) <|
       req (inRange y3.1 (lenL y2.1.1.1)) <|
       (geti y2.1.1.1 y3.1).bind fun p8 =>
       req (decide (0 ≤ y3.1)) <|
       req (decide (0 ≤ y6.1) && decide (y6.1 ≤ lenL (getL y2.1.1.2 y3.1)) && room (lenL (getL y2.1.1.2 y3.1)) 1) <|
       req (inRange y3.1 (lenL y2.1.1.1)) <|
       req (inRange y3.1 (lenL y2.1.1.1)) <|
       req (decide (y3.1 = y3.1)) <|
       (geti y2.1.1.1 y3.1).bind fun p9 =>
       some (((seti y2.1.1.1 y3.1 p9, seti (padL y2.1.1.1.length (outL y2.1.1.2 y3.1)) y3.1 (insL (getL y2.1.1.2 y3.1) y6.1 a3.ad)), y2.1.2.1, y2.1.2.2.1, ()), (⟨false, 0, 0⟩ : Ad), 0, ())))))
    (br (decide (a3.kind = 3))
     (br (decide (a3.of_ ≥ lenL y2.1.1.1))
      (some (((([] : List Pf), ([] : List (List Ad))), ([] : List Ls), 0, ()), (⟨false, 0, 0⟩ : Ad), 5, ()))
      (req (inRange a3.of_ (lenL y2.1.1.1)) <|
      (geti y2.1.1.1 a3.of_).bind fun p3 =>
      (m_state_doer__find_t y2.1.1 y2.1.2.1 y2.1.2.2.1 a3.who).bind fun y4 =>
      (br (decide (y4.1 ≥ 0))
        (req (inRange y4.1 (lenL y2.1.2.1)) <|
        req (inRange y4.1 (lenL y2.1.2.1)) <|
        (geti y2.1.2.1 y4.1).bind fun p5 =>
        (prefix_Holds_t p3 p5.ad).bind fun y6 =>
        some (!y6.1))
        (some false)).bind fun c5 =>
      br c5
       (some (((([] : List Pf), ([] : List (List Ad))), ([] : List Ls), 0, ()), (⟨false, 0, 0⟩ : Ad), 6, ()))
       ((loopN zq64 FUEL (((()), (a3.who, ()), (a3.n, ()), (()), (()), (()), (()), (()), (lenL y2.1.2.1, ()), (0, ()), ()), (a0.2, a0.1, a1, (a2, ()), (a3, ()), (0, ()), ([] : List (List Ad)), ([] : List Pf), ([] : List Ls), ((⟨false, 0, 0⟩ : Ad), ()), y2.1.1.2, y2.1.1.1, y2.1.2.1, (y2.1.2.2.1, ()), (a3, ()), ((⟨false, 0, 0⟩ : Ad), ()), ((⟨false, 0, 0⟩ : Ad), ()), (p3.ad.v6, p3.ad.hi, p3.ad.lo, p3.bits, a3.of_, ()), ([] : List Ls), ([] : List Ls), ()))).bind fun y6 =>
       dup 1 <|
       (lease_Raw_t (⟨(⟨y6.2.2.2.2.2.2.2.2.2.2.2.2.2.2.2.2.2.2.1.1, y6.2.2.2.2.2.2.2.2.2.2.2.2.2.2.2.2.2.2.1.2.1, y6.2.2.2.2.2.2.2.2.2.2.2.2.2.2.2.2.2.2.1.2.2.1⟩ : Ad), y6.2.2.2.2.2.2.2.2.2.2.2.2.2.2.2.2.2.2.1.2.2.2.1⟩ : Pf) (getL y6.2.2.2.2.2.2.2.2.2.2.2.1 y6.2.2.2.2.2.2.2.2.2.2.2.2.2.2.2.2.2.2.1.2.2.2.2.1) y6.2.2.2.2.2.2.2.2.2.2.2.2.2.2.2.2.2.2.2.1 y6.1.2.1.1 y6.2.2.2.2.2.2.2.2.2.2.2.2.2.2.1.1 y6.1.2.2.1.1).bind fun y7 =>
       br (!y7.2.2.1)
        (some (((([] : List Pf), ([] : List (List Ad))), ([] : List Ls), 0, ()), (⟨false, 0, 0⟩ : Ad), 8, ()))
        (req (i64ok ((lenL y7.1) + (lenL y6.2.2.2.2.2.2.2.2.2.2.2.2.2.2.2.2.2.2.2.2.1))) <|
        br (decide ((lenL y7.1) + (lenL y6.2.2.2.2.2.2.2.2.2.2.2.2.2.2.2.2.2.2.2.2.1) > 20))
         (some (((([] : List Pf), ([] : List (List Ad))), ([] : List Ls), 0, ()), (⟨false, 0, 0⟩ : Ad), 2, ()))
         (req (room (lenL y7.1) (lenL y6.2.2.2.2.2.2.2.2.2.2.2.2.2.2.2.2.2.2.2.2.1)) <|
         req (sortOkL (y7.1 ++ y6.2.2.2.2.2.2.2.2.2.2.2.2.2.2.2.2.2.2.2.2.1)) <|
         some (((y6.2.2.2.2.2.2.2.2.2.2.2.2.1, y6.2.2.2.2.2.2.2.2.2.2.2.1), sortL (y7.1 ++ y6.2.2.2.2.2.2.2.2.2.2.2.2.2.2.2.2.2.2.2.2.1), y6.2.2.2.2.2.2.2.2.2.2.2.2.2.2.1.1, ()), y7.2.1, 0, ()))))))
     (br (decide (a3.kind = 4))
      ((m_state_doer__find_t y2.1.1 y2.1.2.1 y2.1.2.2.1 a3.who).bind fun y3 =>
      br (decide (y3.1 < 0))
       (some (((([] : List Pf), ([] : List (List Ad))), ([] : List Ls), 0, ()), (⟨false, 0, 0⟩ : Ad), 5, ()))
       (req (inRange y3.1 (lenL y2.1.2.1)) <|
       req (inRange y3.1 (lenL y2.1.2.1)) <|
       (geti y2.1.2.1 y3.1).bind fun p4 =>
       req (i64ok (y3.1 + 1)) <|
       req (decide (0 ≤ y3.1) && decide (y3.1 ≤ y3.1 + 1) && decide (y3.1 + 1 ≤ lenL y2.1.2.1)) <|
       some ((y2.1.1, delL y2.1.2.1 y3.1 (y3.1 + 1), y2.1.2.2.1, ()), p4.ad, 0, ())))
      (br (decide (a3.n < y2.1.2.2.1))
       (some (((([] : List Pf), ([] : List (List Ad))), ([] : List Ls), 0, ()), (⟨false, 0, 0⟩ : Ad), 4, ()))
       ((lease_Live_t y2.1.2.1 a3.n).bind fun y3 =>
       some ((y2.1.1, y3.1, a3.n, ()), (⟨false, 0, 0⟩ : Ad), 0, ())))))))
noncomputable def log_All_L3 (rec : (((Unit) × (Unit) × (Unit) × (Int × Unit) × (Int × Unit) × Unit) × (List En × (Int × Unit) × (Int × Unit) × List Pf × List Ls × List Pf × List Ls × List Ad × List (List Ad) × List (List Ad) × Unit)) → Option (((Unit) × (Unit) × Unit) × (List En × (Int × Unit) × (Int × Unit) × List Pf × List Ls × List Pf × List Ls × List Ad × List (List Ad) × List (List Ad) × Unit))) (x : (((Unit) × (Unit) × (Unit) × (Int × Unit) × (Int × Unit) × Unit) × (List En × (Int × Unit) × (Int × Unit) × List Pf × List Ls × List Pf × List Ls × List Ad × List (List Ad) × List (List Ad) × Unit))) : Option (((Unit) × (Unit) × Unit) × (List En × (Int × Unit) × (Int × Unit) × List Pf × List Ls × List Pf × List Ls × List Ad × List (List Ad) × List (List Ad) × Unit)) :=
 let v0 := x.1.2.2.2.1.1
 let v1 := x.1.2.2.2.2.1.1
 let v2 := x.2.1
 let v3 := x.2.2.1.1
 let v4 := x.2.2.2.1.1
 let v5 := x.2.2.2.2.1
 let v6 := x.2.2.2.2.2.1
 let v7 := x.2.2.2.2.2.2.1
 let v8 := x.2.2.2.2.2.2.2.1
 let v9 := x.2.2.2.2.2.2.2.2.1
 let v10 := x.2.2.2.2.2.2.2.2.2.1
 let v11 := x.2.2.2.2.2.2.2.2.2.2.1
 br (decide (v1 < v0))
  (req (inRange v1 (lenL v2)) <|
  (geti v2 v1).bind fun p1 =>
  both
   ((state_Raw_t (v7, v11) v8 v4 p1.op).bind fun y2 =>
   dup 1 <|
   br (decide (y2.2.2.1 = 0))
    (req (room (lenL v9) (lenL ([y2.2.1] : List Ad))) <|
    req (i64ok (v1 + 1)) <|
    rec (((()), (()), (()), (v0, ()), (v1 + 1, ()), ()), (v2, (v3, ()), (y2.1.2.2.1, ()), v5, v6, y2.1.1.1, y2.1.2.1, v9 ++ ([y2.2.1] : List Ad), v10, y2.1.1.2, ())))
    (req (room (lenL v9) (lenL ([y2.2.1] : List Ad))) <|
    req (i64ok (v1 + 1)) <|
    rec (((()), (()), (()), (v0, ()), (v1 + 1, ()), ()), (v2, (v3, ()), (v4, ()), v5, v6, v7, v8, v9 ++ ([y2.2.1] : List Ad), v10, v11, ()))))
   (both
    (dup 1 <|
    (state_Raw_t (v7, v11) v8 v4 p1.op).bind fun y2 =>
    br (decide (y2.2.2.1 = 0))
     (req (room (lenL v9) (lenL ([y2.2.1] : List Ad))) <|
     req (i64ok (v1 + 1)) <|
     rec (((()), (()), (()), (v0, ()), (v1 + 1, ()), ()), (v2, (v3, ()), (y2.1.2.2.1, ()), v5, v6, y2.1.1.1, y2.1.2.1, v9 ++ ([y2.2.1] : List Ad), v10, y2.1.1.2, ())))
     (req (room (lenL v9) (lenL ([y2.2.1] : List Ad))) <|
     req (i64ok (v1 + 1)) <|
     rec (((()), (()), (()), (v0, ()), (v1 + 1, ()), ()), (v2, (v3, ()), (v4, ()), v5, v6, v7, v8, v9 ++ ([y2.2.1] : List Ad), v10, v11, ()))))
    (dup 1 <|
    (state_Raw_t (v7, v11) v8 v4 p1.op).bind fun y2 =>
    br (decide (y2.2.2.1 = 0))
     (req (room (lenL v9) (lenL ([y2.2.1] : List Ad))) <|
     req (i64ok (v1 + 1)) <|
     rec (((()), (()), (()), (v0, ()), (v1 + 1, ()), ()), (v2, (v3, ()), (y2.1.2.2.1, ()), v5, v6, y2.1.1.1, y2.1.2.1, v9 ++ ([y2.2.1] : List Ad), v10, y2.1.1.2, ())))
     (req (room (lenL v9) (lenL ([y2.2.1] : List Ad))) <|
     req (i64ok (v1 + 1)) <|
     rec (((()), (()), (()), (v0, ()), (v1 + 1, ()), ()), (v2, (v3, ()), (v4, ()), v5, v6, v7, v8, v9 ++ ([y2.2.1] : List Ad), v10, v11, ()))))))
  (some (((()), (()), ()), (v2, (v3, ()), (v4, ()), v5, v6, v7, v8, v9, v10, v11, ())))
noncomputable def log_All_t (a0 : List En) : Option (((List Pf × List (List Ad)) × (List Ls) × Int × Unit) × (List Ad) × Unit) :=
 (loopN log_All_L3 FUEL (((()), (()), (()), (lenL a0, ()), (0, ()), ()), (a0, (0, ()), (0, ()), ([] : List Pf), ([] : List Ls), ([] : List Pf), ([] : List Ls), ([] : List Ad), ([] : List (List Ad)), ([] : List (List Ad)), ()))).bind fun y1 =>
 some (((y1.2.2.2.2.2.2.1, y1.2.2.2.2.2.2.2.2.2.2.1), y1.2.2.2.2.2.2.2.1, y1.2.2.2.1.1, ()), y1.2.2.2.2.2.2.2.2.1, ())
noncomputable def log_Replay_t (a0 : List En) : Option (((List Pf × List (List Ad)) × (List Ls) × Int × Unit) × (List Ad) × Int × Unit) :=
 (log_Check_t a0).bind fun y1 =>
 br (!decide (y1.1 = 0))
  (some (((([] : List Pf), ([] : List (List Ad))), ([] : List Ls), 0, ()), ([] : List Ad), y1.1, ()))
  ((log_All_t a0).bind fun y2 =>
  some ((y2.1.1, y2.1.2.1, y2.1.2.2.1, ()), y2.2.1, 0, ()))
noncomputable def law_logBegun_t : Option (Bool × Unit) :=
 law_entries_t.bind fun y1 =>
 law_some_t.bind fun y2 =>
 req (inRange 2 (lenL y2.1)) <|
 (geti y2.1 2).bind fun p3 =>
 (log_Add_t y1.1 4 p3).bind fun y4 =>
 (log_Replay_t y4.1).bind fun y5 =>
 law_entries_t.bind fun y6 =>
 (log_Begins_t y6.1 y4.1).bind fun y7 =>
 law_entries_t.bind fun y8 =>
 law_some_t.bind fun y9 =>
 req (inRange 2 (lenL y9.1)) <|
 (geti y9.1 2).bind fun p10 =>
 (log_Add_t y8.1 3 p10).bind fun y11 =>
 law_entries_t.bind fun y12 =>
 (log_Check_t y12.1).bind fun y13 =>
 br (decide (y13.1 = 0))
  (br (decide (y4.2.1 = 0))
   (br (decide (y5.2.2.1 = 0))
    (br (decide (y7.2.1 = 0))
     (br (decide (y11.2.1 = 4))
      (br y7.1
       (br (decide (lenL y4.1 = 4))
        (br (decide (lenL y5.1.2.1 = 1))
         (br (decide (lenL y5.2.1 = 4))
          (req (inRange 3 (lenL y5.2.1)) <|
          (geti y5.2.1 3).bind fun p14 =>
          (law_v4_t 9).bind fun y15 =>
          some (eqAd p14 y15.1, ()))
          (both
           (dup 1 <|
           some (false, ()))
           (some (false, ()))))
         (both
          (dup 1 <|
          some (false, ()))
          (some (false, ()))))
        (both
         (dup 1 <|
         some (false, ()))
         (some (false, ()))))
       (both
        (dup 1 <|
        some (false, ()))
        (some (false, ()))))
      (both
       (dup 1 <|
       some (false, ()))
       (some (false, ()))))
     (both
      (dup 1 <|
      some (false, ()))
      (some (false, ()))))
    (both
     (dup 1 <|
     some (false, ()))
     (some (false, ()))))
   (both
    (dup 1 <|
    some (false, ()))
    (some (false, ()))))
  (both
   (dup 1 <|
   some (false, ()))
   (some (false, ())))
noncomputable def ship_Take_t (a0 : List En) (a1 : List En) : Option ((List En) × Int × Unit) :=
 (log_Check_t a0).bind fun y1 =>
 br (!decide (y1.1 = 0))
  (some (([] : List En), y1.1, ()))
  (req (i64ok (0 + (lenL a0))) <|
  br (decide (0 + (lenL a0) < 0))
   (none)
   (req (i64ok ((0 + (lenL a0)) + (lenL a1))) <|
   br (decide ((0 + (lenL a0)) + (lenL a1) < 0))
    (none)
    (req ((decide (0 ≤ (0 + (lenL a0)) + (lenL a1))) && (Nat.ble ((0 + (lenL a0)) + (lenL a1)).toNat 1099511627776)) <|
    req (room (lenL ([] : List En)) (lenL a0)) <|
    req (room (lenL (([] : List En) ++ a0)) (lenL a1)) <|
    (log_Check_t ((([] : List En) ++ a0) ++ a1)).bind fun y2 =>
    br (!decide (y2.1 = 0))
     (some (([] : List En), y2.1, ()))
     (some ((([] : List En) ++ a0) ++ a1, 0, ())))))
noncomputable def law_shipBegun_t : Option (Bool × Unit) :=
 law_entries_t.bind fun y1 =>
 both
  (req (true && (decide (1 ≤ lenL y1.1))) <|
  law_entries_t.bind fun y2 =>
  (ship_Next_t (subL y1.1 0 1) y2.1 1).bind fun y3 =>
  law_entries_t.bind fun y4 =>
  req (true && (decide (1 ≤ lenL y4.1))) <|
  (ship_Take_t (subL y4.1 0 1) y3.1).bind fun y5 =>
  (ship_Take_t y5.1 y3.1).bind fun y6 =>
  (br (decide (y3.2.1 = 0))
    (some (decide (y5.2.1 = 0)))
    (some false)).bind fun c7 =>
  (br c7
    (some (decide (y6.2.1 = 4)))
    (some false)).bind fun c8 =>
  (br c8
    (some (decide (lenL y3.1 = 1)))
    (some false)).bind fun c9 =>
  br c9
   (law_entries_t.bind fun y10 =>
   req (true && (decide (2 ≤ lenL y10.1))) <|
   (R_SameLog_t y5.1 (subL y10.1 0 2)).bind fun y11 =>
   some (y11.1, ()))
   (some (false, ())))
  (law_entries_t.bind fun y2 =>
  req (true && (decide (1 ≤ lenL y1.1))) <|
  (ship_Next_t (subL y1.1 0 1) y2.1 1).bind fun y3 =>
  law_entries_t.bind fun y4 =>
  req (true && (decide (1 ≤ lenL y4.1))) <|
  (ship_Take_t (subL y4.1 0 1) y3.1).bind fun y5 =>
  (ship_Take_t y5.1 y3.1).bind fun y6 =>
  (br (decide (y3.2.1 = 0))
    (some (decide (y5.2.1 = 0)))
    (some false)).bind fun c7 =>
  (br c7
    (some (decide (y6.2.1 = 4)))
    (some false)).bind fun c8 =>
  (br c8
    (some (decide (lenL y3.1 = 1)))
    (some false)).bind fun c9 =>
  br c9
   (law_entries_t.bind fun y10 =>
   req (true && (decide (2 ≤ lenL y10.1))) <|
   (R_SameLog_t y5.1 (subL y10.1 0 2)).bind fun y11 =>
   some (y11.1, ()))
   (some (false, ())))
noncomputable def law_ShipWhole_L7 (rec : (((Unit) × (Int × Unit) × (Unit) × (Int × Unit) × Unit) × (List En × List En × Unit)) → Option ((((Bool × Unit) × Unit) × (List En × Unit)) ⊕ (((Unit) × (Unit) × Unit) × (List En × List En × Unit)))) (x : (((Unit) × (Int × Unit) × (Unit) × (Int × Unit) × Unit) × (List En × List En × Unit))) : Option ((((Bool × Unit) × Unit) × (List En × Unit)) ⊕ (((Unit) × (Unit) × Unit) × (List En × List En × Unit))) :=
 let v0 := x.1.2.1.1
 let v1 := x.1.2.2.2.1.1
 let v2 := x.2.1
 let v3 := x.2.2.1
 br (decide (v1 ≤ 30))
  ((ship_Next_t v3 v2 v0).bind fun y1 =>
  br (!decide (y1.2.1 = 0))
   (some (Sum.inl (((false, ()), ()), (v2, ()))))
   (br (decide (lenL y1.1 = 0))
    (some (Sum.inr ((((()), (()), ()), (v2, v3, ())))))
    ((ship_Take_t v3 y1.1).bind fun y2 =>
    br (!decide (y2.2.1 = 0))
     (some (Sum.inl (((false, ()), ()), (v2, ()))))
     (req (i64ok (v1 + 1)) <|
     rec (((()), (v0, ()), (()), (v1 + 1, ()), ()), (v2, y2.1, ()))))))
  (some (Sum.inr ((((()), (()), ()), (v2, v3, ())))))
noncomputable def law_ShipWhole_t (a0 : List En) (a1 : Int) : Option (Bool × Unit) :=
 law_shipBegun_t.bind fun y1 =>
 (br (!y1.1)
   (some true)
   (law_logBegun_t.bind fun y2 =>
   some (!y2.1))).bind fun c2 =>
 br c2
  (some (false, ()))
  ((log_Check_t a0).bind fun y3 =>
  (br (!decide (y3.1 = 0))
    (some true)
    (some (decide (a1 < 1)))).bind fun c4 =>
  (br c4
    (some true)
    (some (decide (a1 > 30)))).bind fun c5 =>
  br c5
   (some (true, ()))
   ((loopN law_ShipWhole_L7 FUEL (((()), (a1, ()), (()), (0, ()), ()), (a0, ([] : List En), ()))).bind fun y6 =>
   sumC y6 (fun y7 =>
    some (y7.1.1.1, ())) (fun y8 =>
    (R_SameLog_t y8.2.2.1 y8.2.1).bind fun y9 =>
    some (y9.1, ()))))
end Go.Ma
namespace Go.Ma
open Go
theorem chkLs_ad {x : Ls} (h : chkLs x = 0) : chkA x.ad = 0 ∧ whoOk x.who = true ∧ betw x.upto 0 10499 = true := by
 unfold chkLs at h
 split at h
 ·rename_i h1; exact absurd h h1
 split at h
 ·cases h
 split at h
 ·cases h
 ·rename_i h1 h2 h3
  exact ⟨Decidable.not_not.1 h1, by simpa using h2, by simpa using h3⟩
theorem chkLsF_all : ∀ {l : List Ls}, chkLsF l = 0 → ∀ x ∈ l, chkLs x = 0
 | [], _, x, hx => by cases hx
 | y :: r, h, x, hx => by
  unfold chkLsF at h
  split at h
  ·rename_i h1; exact absurd h h1
  ·rename_i h1
   rcases List.mem_cons.1 hx with rfl | hx
   ·exact Decidable.not_not.1 h1
   ·exact chkLsF_all h x hx
theorem allC_ok {l : List Ls} {now : Int} (h : allC l now = 0) : l.length ≤ 20 ∧ (∀ x ∈ l, chkLs x = 0) ∧ ascL l = true ∧ betw now 0 9999 = true := by
 have h0 := allC_len h
 unfold allC at h
 rw [if_neg (by omega)] at h
 split at h
 ·rename_i h1; exact absurd h h1
 split at h
 ·cases h
 split at h
 ·cases h
 ·rename_i h1 h2 h3
  exact ⟨h0, chkLsF_all (Decidable.not_not.1 h1), by simpa using h2, by simpa using h3⟩
def adIn (l : List Ad) : Prop := ∀ a ∈ l, a.In
def backB : Option Ad → Ad → Bool
 | some b, a => decide (ordA b a ≥ 0)
 | none, _ => false
def keptF (p : Pf) : Option Ad → List Ad → Int
 | _, [] => 0
 | prev, a :: r => if chkA a ≠ 0 then chkA a else if holds p a = false then 5 else if backB prev a = true then 4 else keptF p (some a) r
def chkPool (p : Pf) (kp : List Ad) : Int := if chkP p ≠ 0 then chkP p else if ¬ ((wid p.ad.v6 : Nat) : Int) - p.bits ≤ 4 ∨ kp.length > 6 then 2 else keptF p none kp
end Go.Ma
namespace Go.Ma
open Go
theorem idxI_nonneg (o : Option Nat) : decide (idxI o ≥ 0) = o.isSome := by
 cases o with
 | none => rfl
 | some k =>
  have : idxI (some k) ≥ 0 := by show (k : Int) ≥ 0; omega
  simp [this]
def ofF (p : Pf) : List Ls → List Ls → Int
 | _, [] => 0
 | bf, x :: r => if holds p x.ad = false then 5 else if bf.any (whoP x.who) = true then 6 else ofF p (bf ++ [x]) r
def chkOf (p : Pf) (kp : List Ad) (l : List Ls) (now : Int) : Int := if chkPool p kp ≠ 0 then chkPool p kp else if allC l now ≠ 0 then allC l now else ofF p [] l
theorem chkPool_ok {p : Pf} {kp : List Ad} (h : chkPool p kp = 0) : chkP p = 0 ∧ ((wid p.ad.v6 : Nat) : Int) - p.bits ≤ 4 ∧ kp.length ≤ 6 := by
 unfold chkPool at h
 split at h
 ·rename_i h1; exact absurd h h1
 split at h
 ·cases h
 ·rename_i h1 h2
  simp only [not_or, Decidable.not_not] at h2
  exact ⟨Decidable.not_not.1 h1, h2.1, by omega⟩
end Go.Ma
namespace Go.Ma
open Go
def freeBits (p : Pf) : Nat := wid p.ad.v6 - p.bits.toNat
def addrI (p : Pf) (i : Nat) : Ad := ofNum p.ad.v6 (p.ad.num + i)
theorem narrow {p : Pf} (hp : p.In) (cp : chkP p = 0) (hn : ((wid p.ad.v6 : Nat) : Int) - p.bits ≤ 4) : freeBits p ≤ 4 ∧ 2 ^ freeBits p ≤ 16 ∧ p.ad.num % 2 ^ freeBits p = 0 ∧ p.ad.num + 2 ^ freeBits p ≤ 2 ^ wid p.ad.v6 := by
 obtain ⟨b1, b2⟩ := chkP_bits cp
 have h1 : freeBits p ≤ 4 := by unfold freeBits; omega
 have h2 : 2 ^ freeBits p ≤ 2 ^ 4 := Nat.pow_le_pow_right (by omega) h1
 have h3 : p.ad.num % 2 ^ freeBits p = 0 := (cutN_iff _ _).1 ((cutA_iff hp.1.wf p.bits).1 (chkP_cut cp))
 have h4 := right_num p.ad ⟨hp.1.wf, chkP_ad cp⟩
 refine ⟨h1, h2, h3, ?_⟩
 have hk : freeBits p ≤ wid p.ad.v6 := by unfold freeBits; omega
 have h5 : 2 ^ wid p.ad.v6 = 2 ^ freeBits p * 2 ^ (wid p.ad.v6 - freeBits p) := by rw [← Nat.pow_add]; congr 1; omega
 obtain ⟨m, hm⟩ := Nat.dvd_of_mod_eq_zero h3
 rw [hm, h5] at h4 ⊢
 have := Nat.lt_of_mul_lt_mul_left h4
 calc 2 ^ freeBits p * m + 2 ^ freeBits p = 2 ^ freeBits p * (m + 1) := by rw [Nat.mul_add, Nat.mul_one]
  _ ≤ _ := Nat.mul_le_mul_left _ this
theorem wid_pow (v : Bool) : 2 ^ wid v ≤ 340282366920938463463374607431768211456 := by cases v <;> decide
theorem ofNum_in {v : Bool} {n : Nat} (h : n < 2 ^ wid v) : (ofNum v n).In := by
 have := wid_pow v
 unfold ofNum
 exact ⟨⟨by simp only; omega, by simp only; omega⟩, by simp only; omega, by simp only; omega⟩
theorem ofNum_chk {v : Bool} {n : Nat} (h : n < 2 ^ wid v) : chkA (ofNum v n) = 0 := by
 unfold chkA ofNum
 cases v
 ·rw [show wid false = 32 from rfl] at h
  rw [if_neg]
  simp only
  omega
 ·simp
theorem or_mask (x k : Nat) (hx : x < 18446744073709551616) (hk : k ≤ 64) (hm : x % 2 ^ k = 0) : aop .or .u64 (x : Int) ((2 ^ k - 1 : Nat) : Int) = ((x + (2 ^ k - 1) : Nat) : Int) := by
 have hp := Nat.two_pow_pos k
 have hle : 2 ^ k ≤ 2 ^ 64 := Nat.pow_le_pow_right (by omega) hk
 obtain ⟨m, rfl⟩ := Nat.dvd_of_mod_eq_zero hm
 have hlt : 2 ^ k * m + 2 ^ k ≤ 18446744073709551616 := by
  have h5 : (18446744073709551616 : Nat) = 2 ^ k * 2 ^ (64 - k) := by rw [← Nat.pow_add]; rw [show k + (64 - k) = 64 by omega]
  rw [h5] at hx ⊢
  have := Nat.lt_of_mul_lt_mul_left hx
  calc 2 ^ k * m + 2 ^ k = 2 ^ k * (m + 1) := by rw [Nat.mul_add, Nat.mul_one]
   _ ≤ _ := Nat.mul_le_mul_left _ this
 have e1 : ∀ n : Nat, n < 18446744073709551616 → (BitVec.ofInt 64 (n : Int)).toNat = n := fun n hn => by
  rw [BitVec.toNat_ofInt]
  have : ((n : Int) % ((2 ^ 64 : Nat) : Int)) = (n : Int) := Int.emod_eq_of_lt (by omega) (by omega)
  rw [this]; rfl
 show IntKind.u64.wrap (((BitVec.ofInt 64 ((2 ^ k * m : Nat) : Int) ||| BitVec.ofInt 64 ((2 ^ k - 1 : Nat) : Int)).toNat : Nat) : Int) = _
 rw [BitVec.toNat_or, e1 _ (by omega), e1 _ (by omega), ← Nat.two_pow_add_eq_or_of_lt (by omega), wrap_u64 (by omega) (by omega)]
theorem prefix_Last_eq {p : Pf} (hp : p.In) (cp : chkP p = 0) (hn : ((wid p.ad.v6 : Nat) : Int) - p.bits ≤ 4) : prefix_Last_t p = some (addrI p (2 ^ freeBits p - 1), ()) := by
 obtain ⟨b1, b2⟩ := chkP_bits cp
 obtain ⟨n1, n2, n3, n4⟩ := narrow hp cp hn
 have hpp := Nat.two_pow_pos (freeBits p)
 obtain ⟨⟨h1, h2⟩, h3, h4⟩ := hp.1
 unfold prefix_Last_t
 rw [prefix_mask_eq p.ad p.bits b1 b2, bind_s, maskA_parts]
 show some _ = some _
 have k1 : wid p.ad.v6 - p.bits.toNat - 64 = 0 := by unfold freeBits at n1; omega
 have k2 : min (wid p.ad.v6 - p.bits.toNat) 64 = freeBits p := by unfold freeBits at n1 ⊢; omega
 rw [k1, k2]
 obtain ⟨hi, hhi⟩ := Int.eq_ofNat_of_zero_le h1
 obtain ⟨lo, hlo⟩ := Int.eq_ofNat_of_zero_le h3
 have hnum : p.ad.num = hi * 18446744073709551616 + lo := by unfold Ad.num; rw [hhi, hlo]; rfl
 have hlo2 : lo % 2 ^ freeBits p = 0 := by
  rw [hnum] at n3
  have h5 : (18446744073709551616 : Nat) = 2 ^ freeBits p * 2 ^ (64 - freeBits p) := by rw [← Nat.pow_add]; rw [show freeBits p + (64 - freeBits p) = 64 by omega]
  rw [h5, Nat.mul_left_comm] at n3
  rwa [Nat.mul_add_mod] at n3
 have o1 : aop .or .u64 p.ad.hi ((2 ^ 0 - 1 : Nat) : Int) = p.ad.hi := by
  rw [hhi, or_mask hi 0 (by omega) (by omega) (Nat.mod_one _)]
  simp
 have o2 : aop .or .u64 p.ad.lo ((2 ^ freeBits p - 1 : Nat) : Int) = ((lo + (2 ^ freeBits p - 1) : Nat) : Int) := by
  rw [hlo, or_mask lo (freeBits p) (by omega) (by omega) hlo2]
 simp only [o1, o2]
 have hlt : lo + 2 ^ freeBits p ≤ 18446744073709551616 := by
  have h5 : (18446744073709551616 : Nat) = 2 ^ freeBits p * 2 ^ (64 - freeBits p) := by rw [← Nat.pow_add]; rw [show freeBits p + (64 - freeBits p) = 64 by omega]
  obtain ⟨m, rfl⟩ := Nat.dvd_of_mod_eq_zero hlo2
  have hx : 2 ^ freeBits p * m < 2 ^ freeBits p * 2 ^ (64 - freeBits p) := by omega
  have := Nat.lt_of_mul_lt_mul_left hx
  rw [h5]
  calc 2 ^ freeBits p * m + 2 ^ freeBits p = 2 ^ freeBits p * (m + 1) := by rw [Nat.mul_add, Nat.mul_one]
   _ ≤ _ := Nat.mul_le_mul_left _ this
 unfold addrI ofNum
 rw [hnum, hhi]
 have q1 : (hi * 18446744073709551616 + lo + (2 ^ freeBits p - 1)) / 18446744073709551616 = hi := by omega
 have q2 : (hi * 18446744073709551616 + lo + (2 ^ freeBits p - 1)) % 18446744073709551616 = lo + (2 ^ freeBits p - 1) := by omega
 rw [q1, q2]
theorem addr_After_eq {v : Bool} {n : Nat} (h : n + 1 < 2 ^ wid v) : addr_After_t (ofNum v n) = some (ofNum v (n + 1), true, ()) := by
 unfold addr_After_t
 simp only [both_self, dup_eq]
 have hadd : ∀ m : Nat, aop .add .u64 (m : Int) 1 = (((m + 1) % 18446744073709551616 : Nat) : Int) := fun m => by
  simp only [aop, wrap_u64_mod]
  omega
 have hw := wid_pow v
 cases v
 ·rw [show wid false = 32 from rfl] at h
  have q1 : (n + 1) / 18446744073709551616 = 0 := by omega
  have q2 : n / 18446744073709551616 = 0 := by omega
  have q3 : (n % 18446744073709551616 + 1) % 18446744073709551616 = n + 1 := by omega
  have q4 : (n + 1) % 18446744073709551616 = n + 1 := by omega
  simp only [ofNum, hadd, br_false, bind_s, q1, q2, q3, q4, both_self]
  rw [decide_eq_true (show (((n + 1 : Nat) : Int)) < 4294967296 by omega)]
 ·rw [show wid true = 128 from rfl] at h
  simp only [ofNum, hadd, br_true, bind_s]
  by_cases hc : n % 18446744073709551616 + 1 = 18446744073709551616
  ·have q1 : (n + 1) / 18446744073709551616 = n / 18446744073709551616 + 1 := by omega
   have q2 : (n + 1) % 18446744073709551616 = 0 := by omega
   have q3 : (n / 18446744073709551616 + 1) % 18446744073709551616 = n / 18446744073709551616 + 1 := by omega
   rw [hc, Nat.mod_self, decide_eq_true (show ((0 : Nat) : Int) = 0 from rfl), br_true, q1, q2, q3]
   rw [decide_eq_false (show ¬ (((n / 18446744073709551616 + 1 : Nat) : Int)) = 0 by omega)]
   rfl
  ·have q1 : (n + 1) / 18446744073709551616 = n / 18446744073709551616 := by omega
   have q2 : (n + 1) % 18446744073709551616 = n % 18446744073709551616 + 1 := by omega
   have q3 : (n % 18446744073709551616 + 1) % 18446744073709551616 = n % 18446744073709551616 + 1 := by omega
   rw [q3, decide_eq_false (show ¬ (((n % 18446744073709551616 + 1 : Nat) : Int)) = 0 by omega), br_false, q1, q2]
theorem ofNum_ne {v : Bool} {n m : Nat} (h : n ≠ m) : ofNum v n ≠ ofNum v m := fun e => h (by have := congrArg Ad.num e; rwa [num_ofNum, num_ofNum] at this)
theorem allA_eq (v : Bool) (base c : Nat) (h : base + c ≤ 2 ^ wid v) : ∀ (fuel d : Nat), d < fuel → d < c → allA (ofNum v (base + (c - 1))) fuel (ofNum v (base + (c - 1 - d))) = some ((List.range' (c - 1 - d) (d + 1)).map fun i => ofNum v (base + i))
 | 0, d, h, _ => by omega
 | fuel + 1, d, h1, h2 => by
  rw [allA]
  cases d with
  | zero =>
   rw [decide_eq_true (show ofNum v (base + (c - 1 - 0)) = ofNum v (base + (c - 1)) from rfl), br_true]
   rfl
  | succ d =>
   rw [decide_eq_false (ofNum_ne (by omega)), br_false, addr_After_eq (by omega), bind_s, br_true, show base + (c - 1 - (d + 1)) + 1 = base + (c - 1 - d) by omega, allA_eq v base c h fuel d (by omega) (by omega)]
   have hr : List.range' (c - 1 - (d + 1)) (d + 1 + 1) = (c - 1 - (d + 1)) :: List.range' (c - 1 - d) (d + 1) := by
    rw [List.range'_succ]
    congr 2
    omega
   rw [Option.map_some, hr, List.map_cons]
def takenB (kp : List Ad) (b : List Ls) (a : Ad) : Bool := kp.any (fun x => decide (a = x)) || b.any (fun x => decide (x.ad = a))
def ixOut (kp : List Ad) : Option Nat → (((Int × Unit) × Unit) × (List Ad × Unit)) ⊕ ((Unit) × (List Ad × Unit))
 | some k => Sum.inl ((((k : Int), ()), ()), (kp, ()))
 | none => Sum.inr ((), (kp, ()))
theorem slices_Contains_eq {kp : List Ad} (hlen : kp.length ≤ 1048576) (a : Ad) : zq57 kp a = some (kp.any (fun x => decide (a = x)), ()) := by
 unfold zq57 zq62
 have := loop_up (step := zq60) (fun i => (((), (), (lenL kp, ()), ((i : Int), ()), ()), (kp, (a, ()), ()))) kp.length (fun i => some (ixOut kp ((firstF (fun x => decide (a = x)) (kp.drop i)).map (· + i)))) (fun rec i hi hr => ?_) (fun rec => ?_) FUEL 0 (Nat.zero_le _) (fuel_gt (by omega))
 ·rw [List.drop_zero, show (fun x => x + 0) = (id : Nat → Nat) from rfl, Option.map_id] at this
  rw [show ((0 : Nat) : Int) = 0 from rfl] at this
  rw [this, bind_s, ← firstF_any]
  simp only [id]
  cases firstF (fun x => decide (a = x)) kp with
  | none => rfl
  | some k =>
   simp only [ixOut, sumC, bind_s]
   rw [decide_eq_true (show (k : Int) ≥ 0 by omega)]
   rfl
 ·obtain ⟨e, he⟩ : ∃ e, kp[i]? = some e := ⟨_, List.getElem?_eq_getElem hi⟩
  simp only [zq60]
  rw [decide_eq_true (show (i : Int) < lenL kp by unfold lenL; omega), br_true, req_of (zq17 (by omega) (by unfold lenL; omega)), geti_at he, bind_s, firstF_at he, eqAd_eq]
  by_cases hc : a = e
  ·simp only [hc, decide_true, br_true, if_true]
   rfl
  ·simp only [hc, decide_false, br_false]
   rw [show ((i : Int) + 1) = ((i + 1 : Nat) : Int) by omega, req_of (i64ok_of (by omega) (by omega)), hr]
   rfl
 ·simp only [zq60]
  rw [decide_eq_false (show ¬ (kp.length : Int) < lenL kp by unfold lenL; omega), br_false, List.drop_of_length_le (Nat.le_refl _)]
  rfl
abbrev DT := (Bool × Int × Int × Int × Unit) × List Ad × List Ls × (Ad × Unit) × Unit
def tkOut (d : DT) : Option Nat → (((Int × Unit) × Unit) × DT) ⊕ ((Unit) × DT)
 | some k => Sum.inl ((((k : Int), ()), ()), d)
 | none => Sum.inr ((), d)
theorem taken_eq (p : Pf) {kp : List Ad} (hk : kp.length ≤ 1048576) {b : List Ls} (hb : b.length ≤ 1048576) (a : Ad) : m_lease_book__taken_t p kp b a = some (takenB kp b a, ()) := by
 unfold m_lease_book__taken_t takenB
 rw [slices_Contains_eq hk, bind_s]
 have := loop_up (step := zq4) (fun i => (((), (), (lenL b, ()), ((i : Int), ()), ()), ((p.ad.v6, p.ad.hi, p.ad.lo, p.bits, ()), kp, b, (a, ()), ()))) b.length (fun i => some (tkOut ((p.ad.v6, p.ad.hi, p.ad.lo, p.bits, ()), kp, b, (a, ()), ()) ((firstF (fun x => decide (x.ad = a)) (b.drop i)).map (· + i)))) (fun rec i hi hr => ?_) (fun rec => ?_) FUEL 0 (Nat.zero_le _) (fuel_gt (by omega))
 ·rw [List.drop_zero, show (fun x => x + 0) = (id : Nat → Nat) from rfl, Option.map_id] at this
  rw [show ((0 : Nat) : Int) = 0 from rfl] at this
  rw [this, bind_s, ← firstF_any b]
  simp only [id]
  cases kp.any (fun x => decide (a = x))
  ·rw [br_false]
   cases firstF (fun x => decide (x.ad = a)) b with
   | none => rfl
   | some k =>
    simp only [tkOut, sumC, bind_s]
    rw [decide_eq_true (show (k : Int) ≥ 0 by omega)]
    rfl
  ·rfl
 ·obtain ⟨e, he⟩ : ∃ e, b[i]? = some e := ⟨_, List.getElem?_eq_getElem hi⟩
  simp only [zq4]
  rw [decide_eq_true (show (i : Int) < lenL b by unfold lenL; omega), br_true, req_of (zq17 (by omega) (by unfold lenL; omega)), geti_at he, bind_s, firstF_at he, m_lease_book__taken_1_t, bind_s, eqAd_eq]
  by_cases hc : e.ad = a
  ·simp only [hc, decide_true, br_true, if_true]
   rfl
  ·simp only [hc, decide_false, br_false]
   rw [show ((i : Int) + 1) = ((i + 1 : Nat) : Int) by omega, req_of (i64ok_of (by omega) (by omega)), hr]
   rfl
 ·simp only [zq4]
  rw [decide_eq_false (show ¬ (b.length : Int) < lenL b by unfold lenL; omega), br_false, List.drop_of_length_le (Nat.le_refl _)]
  rfl
def foundA : Option Ad → Ad × Bool × Unit
 | some a => (a, true, ())
 | none => (⟨false, 0, 0⟩, false, ())
def freeOf (p : Pf) (kp : List Ad) (b : List Ls) : Option Ad := ((List.range (2 ^ freeBits p)).map (addrI p)).find? fun a => !takenB kp b a
theorem firstIn_eq (p : Pf) {kp : List Ad} (hk : kp.length ≤ 1048576) {b : List Ls} (hb : b.length ≤ 1048576) : ∀ xs : List Ad, firstIn p kp b xs = some (foundA (xs.find? fun a => !takenB kp b a))
 | [] => rfl
 | a :: r => by
  rw [firstIn, taken_eq p hk hb, bind_s, firstIn_eq p hk hb r, bind_s, List.find?_cons]
  cases takenB kp b a <;> rfl
theorem first_eq {p : Pf} (hp : p.In) (cp : chkP p = 0) (hn : ((wid p.ad.v6 : Nat) : Int) - p.bits ≤ 4) {kp : List Ad} (hk : kp.length ≤ 1048576) {b : List Ls} (hb : b.length ≤ 1048576) :
  zq0 p kp b = some (foundA (freeOf p kp b)) := by
 obtain ⟨n1, n2, n3, n4⟩ := narrow hp cp hn
 have hpp := Nat.two_pow_pos (freeBits p)
 unfold zq0 freeOf
 rw [prefix_Last_eq hp cp hn, bind_s]
 have := allA_eq p.ad.v6 p.ad.num (2 ^ freeBits p) n4 64 (2 ^ freeBits p - 1) (by omega) (by omega)
 rw [show 2 ^ freeBits p - 1 - (2 ^ freeBits p - 1) = 0 by omega, Nat.add_zero, ofNum_num _ hp.1.wf, show 2 ^ freeBits p - 1 + 1 = 2 ^ freeBits p by omega, ← List.range_eq_range'] at this
 show (allA (ofNum p.ad.v6 (p.ad.num + (2 ^ freeBits p - 1))) 64 p.ad).bind _ = _
 rw [this, bind_s, firstIn_eq p hk hb]
 rfl
end Go.Ma
namespace Go.Ma
open Go
theorem ascF_rank : ∀ {r : List Ls} {c : Ad}, c.In → lsIn r → ascF c r = true → ∀ z ∈ r, rank c < rank z.ad
 | [], _, _, _, _, z, hz => by cases hz
 | y :: r, c, hc, hr, h, z, hz => by
  unfold ascF at h
  simp only [Bool.and_eq_true, decide_eq_true_eq] at h
  have hy := hr y (by simp)
  have h1 := (ord_rank hc hy.1).1.1 h.1
  rcases List.mem_cons.1 hz with rfl | hz
  ·exact h1
  ·have := ascF_rank hy.1 (fun x hx => hr x (by simp [hx])) h.2 z hz
   omega
theorem asc_pair : ∀ {l : List Ls}, lsIn l → (ascL l = true ↔ l.Pairwise fun x y => rank x.ad < rank y.ad)
 | [], _ => by simp [ascL]
 | x :: r, h => by
  have hx := h x (by simp)
  have hr : lsIn r := fun y hy => h y (by simp [hy])
  rw [List.pairwise_cons, ← asc_pair hr]
  constructor
  ·intro h1
   have h1 : ascF x.ad r = true := h1
   refine ⟨ascF_rank hx.1 hr h1, ?_⟩
   cases r with
   | nil => rfl
   | cons y r =>
    unfold ascF at h1
    simp only [Bool.and_eq_true] at h1
    exact h1.2
  ·rintro ⟨h1, h2⟩
   show ascF x.ad r = true
   cases r with
   | nil => rfl
   | cons y r =>
    unfold ascF
    simp only [Bool.and_eq_true, decide_eq_true_eq]
    exact ⟨(ord_rank hx.1 (hr y (by simp)).1).1.2 (h1 y (by simp)), h2⟩
theorem live_in {l : List Ls} (h : lsIn l) (now : Int) : lsIn (live l now) := fun x hx => h x (List.mem_filter.1 hx).1
theorem live_asc {l : List Ls} (h : lsIn l) (ha : ascL l = true) (now : Int) : ascL (live l now) = true := (asc_pair (live_in h now)).2 (((asc_pair h).1 ha).filter _)
def posF (a : Ad) (b : List Ls) : Nat := (b.takeWhile fun y => decide (ordA y.ad a < 0)).length
theorem posF_le (a : Ad) (b : List Ls) : posF a b ≤ b.length := (List.takeWhile_sublist _).length_le
theorem pos_iff {a : Ad} (ha : a.In) : ∀ {b : List Ls}, lsIn b → ascL b = true → ∀ {h : Nat} {x : Ls}, b[h]? = some x → (ordA x.ad a < 0 ↔ h < posF a b)
 | [], _, _, _, _, hx => by simp at hx
 | y :: r, hb, hs, h, x, hx => by
  have hy := hb y (by simp)
  have hr : lsIn r := fun z hz => hb z (by simp [hz])
  have hrs : ascL r = true := (asc_pair hr).2 (List.pairwise_cons.1 ((asc_pair hb).1 hs)).2
  have hyr := (List.pairwise_cons.1 ((asc_pair hb).1 hs)).1
  unfold posF
  rw [List.takeWhile_cons]
  by_cases ho : ordA y.ad a < 0
  ·simp only [ho, decide_true, if_true, List.length_cons]
   cases h with
   | zero =>
    simp only [List.getElem?_cons_zero, Option.some.injEq] at hx
    subst hx
    simp [ho]
   | succ h =>
    have := pos_iff ha hr hrs (h := h) (x := x) (by simpa using hx)
    unfold posF at this
    omega
  ·simp only [ho, decide_false, Bool.false_eq_true, if_false, List.length_nil]
   cases h with
   | zero =>
    simp only [List.getElem?_cons_zero, Option.some.injEq] at hx
    subst hx
    simp [ho]
   | succ h =>
    have hx' : r[h]? = some x := by simpa using hx
    have hm := List.mem_of_getElem? hx'
    have h1 := hyr x hm
    have h2 := (ord_rank hy.1 ha).1
    have h3 := (ord_rank (hr x hm).1 ha).1
    constructor
    ·intro h4
     have := h3.1 h4
     have : ¬ rank y.ad < rank a := fun h => ho (h2.2 h)
     omega
    ·intro h4; omega
theorem half_eq (i j : Nat) (h : i + j < 9223372036854775808) : convI .i64 (aop .shr .u64 (convI .u64 ((i : Int) + (j : Int))) 1) = (((i + j) / 2 : Nat) : Int) := by
 unfold convI
 rw [wrap_u64 (by omega) (by omega)]
 have e1 : aop .shr .u64 ((i : Int) + (j : Int)) 1 = (((i + j) / 2 : Nat) : Int) := by
  simp only [aop, IntKind.bits]
  rw [show ((2 : Int) ^ (min ((1 : Int).toNat) 64)) = 2 from rfl, Int.fdiv_eq_ediv_of_nonneg _ (by omega)]
  omega
 rw [e1]
 exact wrap_i64 (by omega) (by omega)
abbrev DR := List Ad × List Ls × (Bool × Int × Int × Int × Unit) × (ByteArray × Unit) × List Ls × (Ad × Unit) × List Ls × (Bool × Int × Int × Int × Unit) × (Ad × Unit) × (Ls × Unit) × (Ls × Unit) × Unit
theorem bs_loop {kp : List Ad} {l b g : List Ls} (q q' : Bool × Int × Int × Int × Unit) (who : ByteArray) (ga a0 : Ad) (x x2 : Ls) (hx : x2.ad.In) (hb : lsIn b) (hs : ascL b = true) (hlen : b.length ≤ 1048576) (n : Int) :
  ∀ (N i j : Nat), j - i < N → i ≤ posF x2.ad b → posF x2.ad b ≤ j → j ≤ b.length →
   loopN zq29 N (((), (), (), (n, ()), ((i : Int), ()), ((j : Int), ()), ()), ((kp, l, q, (who, ()), g, (ga, ()), b, q', (a0, ()), (x, ()), (x2, ()), ()) : DR)) =
    some (((), (), (), (n, ()), (((posF x2.ad b : Nat) : Int), ()), ()), (kp, l, q, (who, ()), g, (ga, ()), b, q', (a0, ()), (x, ()), (x2, ()), ()))
 | 0, _, _, h, _, _, _ => by omega
 | N + 1, i, j, hN, h1, h2, h3 => by
  rw [loopN_succ]
  simp only [zq29]
  obtain ⟨q1, q2, q3, q4, _⟩ := q
  obtain ⟨r1, r2, r3, r4, _⟩ := q'
  by_cases hij : i < j
  ·have hh : (i + j) / 2 < b.length := by omega
   obtain ⟨e, he⟩ : ∃ e, b[(i + j) / 2]? = some e := ⟨_, List.getElem?_eq_getElem hh⟩
   have hp := pos_iff hx hb hs he
   rw [decide_eq_true (show (i : Int) < (j : Int) by omega), br_true, req_of (i64ok_of (by omega) (by omega))]
   simp only [half_eq i j (by omega)]
   rw [req_of (zq17 (by omega) (by unfold lenL; omega)), geti_at he, bind_s, lease_Raw_2_t, addr_Order_eq, bind_s, bind_s]
   by_cases ho : ordA e.ad x2.ad < 0
   ·have := hp.1 ho
    simp only [ho, decide_true, br_true]
    rw [show (((i + j) / 2 : Nat) : Int) + 1 = (((i + j) / 2 + 1 : Nat) : Int) by omega, req_of (i64ok_of (by omega) (by omega))]
    exact bs_loop _ _ who ga a0 x x2 hx hb hs hlen n N ((i + j) / 2 + 1) j (by omega) (by omega) h2 h3
   ·have : ¬ (i + j) / 2 < posF x2.ad b := fun h => ho (hp.2 h)
    simp only [ho, decide_false, br_false]
    exact bs_loop _ _ who ga a0 x x2 hx hb hs hlen n N i ((i + j) / 2) (by omega) h1 (by omega) (by omega)
  ·have : posF x2.ad b = i := by omega
   rw [decide_eq_false (show ¬ (i : Int) < (j : Int) by omega), br_false, this]
theorem bs_same : zq28 = zq29 := rfl
abbrev DW := List Ad × List Ls × (Bool × Int × Int × Int × Unit) × (ByteArray × Unit) × List Ls × (Ad × Unit) × List Ls × (Bool × Int × Int × Int × Unit) × Unit
def rwOut (d : DW) : Option Nat → (((Int × Unit) × Unit) × DW) ⊕ ((Unit) × DW)
 | some k => Sum.inl ((((k : Int), ()), ()), d)
 | none => Sum.inr ((), d)
theorem rw_loop (p : Pf) (kp : List Ad) (l : List Ls) {b : List Ls} (hlen : b.length ≤ 1048576) (who : ByteArray) :
  loopN zq35 FUEL (((), (), (lenL b, ()), (0, ()), ()), (kp, l, (p.ad.v6, p.ad.hi, p.ad.lo, p.bits, ()), (who, ()), ([] : List Ls), ((⟨false, 0, 0⟩ : Ad), ()), b, (p.ad.v6, p.ad.hi, p.ad.lo, p.bits, ()), ())) =
   some (rwOut (kp, l, (p.ad.v6, p.ad.hi, p.ad.lo, p.bits, ()), (who, ()), ([] : List Ls), ((⟨false, 0, 0⟩ : Ad), ()), b, (p.ad.v6, p.ad.hi, p.ad.lo, p.bits, ()), ()) (firstF (whoP who) b)) := by
 have := loop_up (step := zq35) (fun i => (((), (), (lenL b, ()), ((i : Int), ()), ()), ((kp, l, (p.ad.v6, p.ad.hi, p.ad.lo, p.bits, ()), (who, ()), ([] : List Ls), ((⟨false, 0, 0⟩ : Ad), ()), b, (p.ad.v6, p.ad.hi, p.ad.lo, p.bits, ()), ()) : DW))) b.length
  (fun i => some (rwOut (kp, l, (p.ad.v6, p.ad.hi, p.ad.lo, p.bits, ()), (who, ()), ([] : List Ls), ((⟨false, 0, 0⟩ : Ad), ()), b, (p.ad.v6, p.ad.hi, p.ad.lo, p.bits, ()), ()) ((firstF (whoP who) (b.drop i)).map (· + i)))) (fun rec i hi hr => ?_) (fun rec => ?_) FUEL 0 (Nat.zero_le _) (fuel_gt (by omega))
 ·rw [List.drop_zero, show (fun x => x + 0) = (id : Nat → Nat) from rfl, Option.map_id] at this
  exact this
 ·obtain ⟨e, he⟩ : ∃ e, b[i]? = some e := ⟨_, List.getElem?_eq_getElem hi⟩
  simp only [zq35]
  rw [decide_eq_true (show (i : Int) < lenL b by unfold lenL; omega), br_true, req_of (zq17 (by omega) (by unfold lenL; omega)), geti_at he, bind_s, lease_Raw_1_t, bind_s, firstF_at he, strcmp_eql]
  unfold whoP
  by_cases hc : e.who = who
  ·simp only [hc, decide_true, br_true, if_true]
   rfl
  ·simp only [hc, decide_false, br_false]
   rw [show ((i : Int) + 1) = ((i + 1 : Nat) : Int) by omega, req_of (i64ok_of (by omega) (by omega)), hr]
   rfl
 ·simp only [zq35]
  rw [decide_eq_false (show ¬ (b.length : Int) < lenL b by unfold lenL; omega), br_false, List.drop_of_length_le (Nat.le_refl _)]
  rfl
def insAt (b : List Ls) (x : Ls) : List Ls := b.take (posF x.ad b) ++ x :: b.drop (posF x.ad b)
def keepOn (b : List Ls) (k : Nat) (u : Int) : List Ls × Ad × Bool × Unit := match b[k]? with | some e => (b.set k ⟨e.ad, e.who, u⟩, e.ad, true, ()) | none => ([], ⟨false, 0, 0⟩, false, ())
def putNew (b : List Ls) (who : ByteArray) (u : Int) : Option Ad → List Ls × Ad × Bool × Unit
 | some a => (insAt b ⟨a, who, u⟩, a, true, ())
 | none => ([], ⟨false, 0, 0⟩, false, ())
def rawOf (p : Pf) (kp : List Ad) (b : List Ls) (who : ByteArray) (u : Int) : List Ls × Ad × Bool × Unit :=
 match firstF (whoP who) b with
 | some k => keepOn b k u
 | none => putNew b who u (freeOf p kp b)
theorem addrI_in {p : Pf} (n4 : p.ad.num + 2 ^ freeBits p ≤ 2 ^ wid p.ad.v6) {i : Nat} (h : i < 2 ^ freeBits p) : (addrI p i).In ∧ chkA (addrI p i) = 0 := ⟨ofNum_in (by omega), ofNum_chk (by omega)⟩
theorem freeOf_some {p : Pf} {kp : List Ad} {b : List Ls} {a : Ad} (h : freeOf p kp b = some a) : (∃ i, i < 2 ^ freeBits p ∧ a = addrI p i) ∧ takenB kp b a = false := by
 unfold freeOf at h
 have h1 := List.mem_of_find?_eq_some h
 have h2 := List.find?_some h
 obtain ⟨i, hi, rfl⟩ := List.mem_map.1 h1
 exact ⟨⟨i, List.mem_range.1 hi, rfl⟩, by simpa using h2⟩
theorem lease_Raw_eq {p : Pf} (hp : p.In) {kp : List Ad} {l : List Ls} (h : lsIn l) {now ttl : Int} (hc : chkPool p kp = 0) (ha : allC l now = 0) (hu : -9223372036854775808 ≤ now + ttl) (hu' : now + ttl < 9223372036854775808) (who : ByteArray) :
  lease_Raw_t p kp l who now ttl = some (rawOf p kp (live l now) who (now + ttl)) := by
 obtain ⟨a1, a2, a3, a4⟩ := allC_ok ha
 obtain ⟨c1, c2, c3⟩ := chkPool_ok hc
 have hll := live_len l now
 unfold lease_Raw_t
 rw [lease_Live_eq (by omega) now, bind_s]
 have hbs := live_asc h a3 now
 have hbi := live_in h now
 generalize live l now = b at hll hbs hbi ⊢
 obtain ⟨n1, n2, n3, n4⟩ := narrow hp c1 c2
 rw [rw_loop p kp l (show b.length ≤ 1048576 by omega) who, bind_s]
 unfold rawOf
 have hin : ∀ a, freeOf p kp b = some a → a.In := fun a hf => by
  obtain ⟨⟨i, hi, rfl⟩, _⟩ := freeOf_some hf
  exact (addrI_in n4 hi).1
 have hf := first_eq hp c1 c2 (kp := kp) (by omega) (b := b) (by omega)
 have hfu : b.length - 0 < FUEL := by have : FUEL = 18446744073709551616 := rfl; omega
 have hroom : ∀ a : Ad, (decide ((0 : Int) ≤ ((posF a b : Nat) : Int)) && decide (((posF a b : Nat) : Int) ≤ lenL b) && room (lenL b) 1) = true := fun a => by
  have := posF_le a b
  rw [decide_eq_true (show (0 : Int) ≤ ((posF a b : Nat) : Int) by omega), decide_eq_true (show ((posF a b : Nat) : Int) ≤ lenL b by unfold lenL; omega), room_of (zq39 _) (by omega) (by unfold lenL; omega)]
  rfl
 have hpick : ∀ (a : Ad) (x : Ls), x.ad = a → (br (decide (((posF a b : Nat) : Int) < lenL b)) (req (inRange ((posF a b : Nat) : Int) (lenL b)) ((geti b ((posF a b : Nat) : Int)).bind fun p6 => (lease_Raw_2_t p6 x).bind fun y7 => some (((posF a b : Nat) : Int), decide (y7.1 = 0), ()))) (some (((posF a b : Nat) : Int), false, ()))) =
   some (((posF a b : Nat) : Int), (br (decide (((posF a b : Nat) : Int) < lenL b)) ((geti b ((posF a b : Nat) : Int)).bind fun p6 => (lease_Raw_2_t p6 x).bind fun y7 => some (decide (y7.1 = 0))) (some false)).getD false, ()) := fun a x hx => by
  by_cases hlt : posF a b < b.length
  ·obtain ⟨e, he⟩ : ∃ e, b[posF a b]? = some e := ⟨_, List.getElem?_eq_getElem hlt⟩
   rw [decide_eq_true (show ((posF a b : Nat) : Int) < lenL b by unfold lenL; omega), br_true, req_of (zq17 (by omega) (by unfold lenL; omega)), geti_at he, bind_s, lease_Raw_2_t, addr_Order_eq, bind_s, bind_s, br_true, bind_s, lease_Raw_2_t, addr_Order_eq, bind_s, bind_s]
   rfl
  ·rw [decide_eq_false (show ¬ ((posF a b : Nat) : Int) < lenL b by unfold lenL; omega), br_false, br_false]
   rfl
 cases hfw : firstF (whoP who) b with
 | some k =>
  have hk := firstF_lt hfw
  obtain ⟨e, he⟩ : ∃ e, b[k]? = some e := ⟨_, List.getElem?_eq_getElem hk⟩
  have r1 : inRange (k : Int) (lenL b) = true := zq17 (by omega) (by unfold lenL; omega)
  have r2 : inRange (k : Int) (lenL (seti b (k : Int) (⟨e.ad, e.who, now + ttl⟩ : Ls))) = true := zq17 (by omega) (by unfold lenL seti; simp only [List.length_set]; omega)
  have hg : geti (seti b (k : Int) (⟨e.ad, e.who, now + ttl⟩ : Ls)) (k : Int) = some ⟨e.ad, e.who, now + ttl⟩ := by
   rw [geti_nat]
   simp [seti, hk]
  simp only [rwOut, sumC]
  rw [decide_eq_true (show (k : Int) ≥ 0 by omega), br_true, req_of (i64ok_of hu hu')]
  simp only [r1, req_true, geti_at he, bind_s, r2, hg]
  unfold keepOn
  rw [he]
  simp [seti]
 | none =>
  simp only [rwOut, sumC]
  show (zq0 p kp b).bind _ = _
  rw [hf, bind_s]
  cases hfo : freeOf p kp b with
  | none => rfl
  | some a =>
   simp only [foundA, Bool.not_true, br_false]
   rw [req_of (i64ok_of hu hu')]
   have hl := bs_loop (kp := kp) (l := l) (g := ([] : List Ls)) (p.ad.v6, p.ad.hi, p.ad.lo, p.bits, ()) (p.ad.v6, p.ad.hi, p.ad.lo, p.bits, ()) who ⟨false, 0, 0⟩ a ⟨a, who, now + ttl⟩ ⟨a, who, now + ttl⟩ (hin a hfo) hbi hbs (by omega) (lenL b) FUEL 0 b.length hfu (Nat.zero_le _) (posF_le _ _) (Nat.le_refl _)
   rw [show ((0 : Nat) : Int) = 0 from rfl, show ((b.length : Nat) : Int) = lenL b from rfl] at hl
   rw [bs_same, hl, bind_s, hpick a ⟨a, who, now + ttl⟩ rfl, bind_s]
   simp only [hroom a, req_true, dup_eq, both_self]
   unfold putNew insAt insL
   simp
def grantOf (p : Pf) (kp : List Ad) (l : List Ls) (who : ByteArray) (now ttl : Int) : List Ls × Ad × Int × Unit :=
 if chkOf p kp l now ≠ 0 then ([], ⟨false, 0, 0⟩, chkOf p kp l now, ()) else if whoOk who = false then ([], ⟨false, 0, 0⟩, 1, ()) else if betw ttl 1 500 = false then ([], ⟨false, 0, 0⟩, 3, ())
 else if (rawOf p kp (live l now) who (now + ttl)).2.2.1 = false then ([], ⟨false, 0, 0⟩, 8, ()) else ((rawOf p kp (live l now) who (now + ttl)).1, (rawOf p kp (live l now) who (now + ttl)).2.1, 0, ())
theorem chkOf_ok {p : Pf} {kp : List Ad} {l : List Ls} {now : Int} (h : chkOf p kp l now = 0) : chkPool p kp = 0 ∧ allC l now = 0 ∧ ofF p [] l = 0 := by
 unfold chkOf at h
 split at h
 ·rename_i h1; exact absurd h h1
 split at h
 ·rename_i h1; exact absurd h h1
 ·rename_i h1 h2
  exact ⟨Decidable.not_not.1 h1, Decidable.not_not.1 h2, h⟩
end Go.Ma
namespace Go.Ma
open Go
end Go.Ma
namespace Go.Ma
open Go
theorem holds_at {p : Pf} (hp : p.In) (cp : chkP p = 0) (hn : ((wid p.ad.v6 : Nat) : Int) - p.bits ≤ 4) {i : Nat} : holds p (addrI p i) = decide (i < 2 ^ freeBits p) := by
 obtain ⟨n1, n2, n3, n4⟩ := narrow hp cp hn
 have hpp := Nat.two_pow_pos (freeBits p)
 unfold holds addrI
 rw [show (ofNum p.ad.v6 (p.ad.num + i)).v6 = p.ad.v6 from rfl, beq_self_eq_true, Bool.true_and]
 refine decide_eq_decide.2 ?_
 unfold cutA
 rw [num_ofNum, show (ofNum p.ad.v6 (p.ad.num + i)).v6 = p.ad.v6 from rfl]
 show ofNum p.ad.v6 (cutN (p.ad.num + i) (freeBits p)) = p.ad ↔ _
 have hq : cutN (p.ad.num + i) (freeBits p) = p.ad.num ↔ i < 2 ^ freeBits p := by
  unfold cutN
  obtain ⟨m, hm⟩ := Nat.dvd_of_mod_eq_zero n3
  rw [hm, Nat.mul_add_div hpp]
  constructor
  ·intro h
   have h1 : i / 2 ^ freeBits p = 0 := by
    rw [Nat.mul_comm (2 ^ freeBits p) m] at h
    have := Nat.eq_of_mul_eq_mul_right hpp h
    omega
   rcases Nat.div_eq_zero_iff.1 h1 with h2 | h2
   ·omega
   ·exact h2
  ·intro h
   rw [Nat.div_eq_of_lt h, Nat.add_zero, Nat.mul_comm]
 rw [← hq]
 constructor
 ·intro h
  have := congrArg Ad.num h
  rwa [num_ofNum] at this
 ·intro h
  rw [h, ofNum_num _ hp.1.wf]
end Go.Ma
namespace Go.Ma
open Go
theorem live_mem {l : List Ls} {now : Int} {x : Ls} (h : x ∈ live l now) : x ∈ l ∧ now ≤ x.upto := ⟨(List.mem_filter.1 h).1, by have := (List.mem_filter.1 h).2; simpa [liveP] using this⟩
theorem lsIn_nil : lsIn [] := fun x hx => by cases hx
theorem chkLsF_of : ∀ {l : List Ls}, (∀ x ∈ l, chkLs x = 0) → chkLsF l = 0
 | [], _ => rfl
 | y :: r, h => by
  unfold chkLsF
  rw [if_neg (fun h' => h' (h y (by simp))), chkLsF_of fun x hx => h x (by simp [hx])]
end Go.Ma
namespace Go.Ma
open Go
end Go.Ma
namespace Go.Ma
open Go
end Go.Ma
namespace Go.Ma
open Go
theorem prefix_Order_eq {p q : Pf} (hp : chkP p = 0) (hq : chkP q = 0) : prefix_Order_t p q = some (ordP p q, ()) := by
 have h1 := chkP_bits hp
 have h2 := chkP_bits hq
 have h3 := wid_le p.ad.v6
 have h4 := wid_le q.ad.v6
 unfold prefix_Order_t ordP
 rw [addr_Order_eq, bind_s]
 by_cases h : ordA p.ad q.ad = 0
 ·rw [decide_eq_true (show (ordA p.ad q.ad, ()).1 = 0 from h), Bool.not_true, br_false, if_neg (fun h' => h' h), req_of (i64ok_of (by omega) (by omega))]
 ·rw [decide_eq_false (show ¬ (ordA p.ad q.ad, ()).1 = 0 from h), Bool.not_false, br_true, if_pos h]
theorem prefix_Over_eq {p q : Pf} (cp : chkP p = 0) (hq : q.In) : prefix_Over_t p q = some (over p q, ()) := by
 obtain ⟨h1, h2⟩ := chkP_bits cp
 unfold prefix_Over_t over
 rw [prefix_Holds_eq h1 h2 hq.1, bind_s, br_sb, bind_s]
 cases decide (p.bits ≤ q.bits) <;> rfl
end Go.Ma
namespace Go.Ma
open Go
end Go.Ma
namespace Go.Ma
open Go
end Go.Ma
namespace Go.Ma
open Go
end Go.Ma
namespace Go.Ma
open Go
end Go.Ma
namespace Go.Ma
open Go
theorem holds_iff {p : Pf} {a : Ad} : holds p a = true ↔ p.ad.v6 = a.v6 ∧ cutA a p.bits = p.ad := by simp [holds]
theorem over_iff {p q : Pf} : over p q = true ↔ p.bits ≤ q.bits ∧ holds p q.ad = true := by simp [over]
theorem holds_self {p : Pf} (cp : chkP p = 0) : holds p p.ad = true := by
 rw [holds_iff]
 exact ⟨rfl, chkP_cut cp⟩
end Go.Ma
namespace Go.Ma
open Go
def free (p : Pf) : Nat := wid p.ad.v6 - p.bits.toNat
theorem free_facts {p : Pf} (hp : p.In) (cp : chkP p = 0) : free p ≤ wid p.ad.v6 ∧ p.ad.num % 2 ^ free p = 0 ∧ p.ad.num + 2 ^ free p ≤ 2 ^ wid p.ad.v6 := by
 have h3 : p.ad.num % 2 ^ free p = 0 := (cutN_iff _ _).1 ((cutA_iff hp.1.wf p.bits).1 (chkP_cut cp))
 have h4 := right_num p.ad ⟨hp.1.wf, chkP_ad cp⟩
 have hk : free p ≤ wid p.ad.v6 := by unfold free; omega
 refine ⟨hk, h3, ?_⟩
 have h5 : 2 ^ wid p.ad.v6 = 2 ^ free p * 2 ^ (wid p.ad.v6 - free p) := by rw [← Nat.pow_add]; congr 1; omega
 obtain ⟨m, hm⟩ := Nat.dvd_of_mod_eq_zero h3
 rw [hm, h5] at h4 ⊢
 have := Nat.lt_of_mul_lt_mul_left h4
 calc 2 ^ free p * m + 2 ^ free p = 2 ^ free p * (m + 1) := by rw [Nat.mul_add, Nat.mul_one]
  _ ≤ _ := Nat.mul_le_mul_left _ this
theorem holds_span {p : Pf} {a : Ad} (hp : p.In) (cp : chkP p = 0) (ha : a.In) : holds p a = true ↔ p.ad.v6 = a.v6 ∧ p.ad.num ≤ a.num ∧ a.num < p.ad.num + 2 ^ free p := by
 obtain ⟨f1, f2, f3⟩ := free_facts hp cp
 have hpp := Nat.two_pow_pos (free p)
 rw [holds_iff]
 constructor
 ·rintro ⟨h1, h2⟩
  have h3 : p.ad.num = cutN a.num (free p) := by
   have h4 : (cutA a p.bits).num = cutN a.num (wid a.v6 - p.bits.toNat) := by unfold cutA; rw [num_ofNum]
   rw [h2] at h4
   rw [h4]
   unfold free
   rw [h1]
  unfold cutN at h3
  have := Nat.div_add_mod a.num (2 ^ free p)
  have h5 := Nat.mod_lt a.num hpp
  rw [Nat.mul_comm] at this
  refine ⟨h1, by omega, by omega⟩
 ·rintro ⟨h1, h2, h3⟩
  refine ⟨h1, ?_⟩
  obtain ⟨m, hm⟩ := Nat.dvd_of_mod_eq_zero f2
  have h4 : a.num / 2 ^ free p = m := by
   apply Nat.div_eq_of_lt_le
   ·rw [Nat.mul_comm]; omega
   ·rw [Nat.add_mul, Nat.one_mul, Nat.mul_comm]; omega
  unfold cutA cutN
  rw [show wid a.v6 - p.bits.toNat = free p by unfold free; rw [h1], h4, ← h1, Nat.mul_comm, ← hm, ofNum_num p.ad hp.1.wf]
theorem over_refl {p : Pf} (cp : chkP p = 0) : over p p = true := over_iff.2 ⟨Int.le_refl _, holds_self cp⟩
theorem apart_one {p q : Pf} (hp : p.In) (hq : q.In) (cp : chkP p = 0) (cq : chkP q = 0) (hv : p.ad.v6 = q.ad.v6) (h1 : q.ad.num ≤ p.ad.num + (2 ^ free p - 1)) (h2 : p.ad.num ≤ q.ad.num + (2 ^ free q - 1)) (hb : p.bits ≤ q.bits) : over p q = true := by
 rw [over_iff]
 refine ⟨hb, (holds_span hp cp hq.1).2 ⟨hv, ?_, by have := Nat.two_pow_pos (free p); omega⟩⟩
 obtain ⟨_, f2, _⟩ := free_facts hp cp
 obtain ⟨_, g2, _⟩ := free_facts hq cq
 have hle : free q ≤ free p := by unfold free; rw [hv]; omega
 have e : 2 ^ free p = 2 ^ free q * 2 ^ (free p - free q) := by rw [← Nat.pow_add]; congr 1; omega
 obtain ⟨m, hm⟩ := Nat.dvd_of_mod_eq_zero f2
 obtain ⟨k, hk⟩ := Nat.dvd_of_mod_eq_zero g2
 have hpos := Nat.two_pow_pos (free q)
 have hm' : p.ad.num = 2 ^ free q * (2 ^ (free p - free q) * m) := by rw [hm, e, Nat.mul_assoc]
 rw [hm', hk] at h2 ⊢
 apply Nat.mul_le_mul_left
 apply Nat.le_of_lt_succ
 apply Nat.lt_of_mul_lt_mul_left (a := 2 ^ free q)
 rw [Nat.mul_succ]
 omega
end Go.Ma
namespace Go.Ma
open Go
theorem ofF_iff (p : Pf) : ∀ (m bf : List Ls), ofF p bf m = 0 ↔ (∀ x ∈ m, holds p x.ad = true) ∧ (∀ y ∈ bf, ∀ x ∈ m, y.who ≠ x.who) ∧ m.Pairwise fun x y => x.who ≠ y.who
 | [], bf => by simp [ofF]
 | x :: r, bf => by
  unfold ofF
  by_cases h1 : holds p x.ad = true
  ·rw [if_neg (by simp [h1])]
   by_cases h2 : bf.any (whoP x.who) = true
   ·rw [if_pos h2]
    constructor
    ·intro h; exact absurd h (by decide)
    ·rintro ⟨_, h3, _⟩
     obtain ⟨y, hy, hq⟩ := List.any_eq_true.1 h2
     exact absurd (by simpa [whoP] using hq) (h3 y hy x (by simp))
   ·rw [if_neg h2, ofF_iff p r (bf ++ [x])]
    have h2' : ∀ y ∈ bf, y.who ≠ x.who := fun y hy he => h2 (List.any_eq_true.2 ⟨y, hy, by simp [whoP, he]⟩)
    constructor
    ·rintro ⟨a1, a2, a3⟩
     refine ⟨fun z hz => ?_, fun y hy z hz => ?_, List.pairwise_cons.2 ⟨fun z hz => a2 x (by simp) z hz, a3⟩⟩
     ·rcases List.mem_cons.1 hz with rfl | hz
      ·exact h1
      ·exact a1 z hz
     ·rcases List.mem_cons.1 hz with rfl | hz
      ·exact h2' y hy
      ·exact a2 y (by simp [hy]) z hz
    ·rintro ⟨a1, a2, a3⟩
     obtain ⟨b1, b2⟩ := List.pairwise_cons.1 a3
     refine ⟨fun z hz => a1 z (by simp [hz]), fun y hy z hz => ?_, b2⟩
     rcases List.mem_append.1 hy with hy | hy
     ·exact a2 y hy z (by simp [hz])
     ·have : y = x := by simpa using hy
      subst this
      exact b1 z hz
  ·rw [if_pos (by simpa using h1)]
   constructor
   ·intro h; exact absurd h (by decide)
   ·rintro ⟨a1, _⟩; exact absurd (a1 x (by simp)) h1
structure Good (p : Pf) (m : List Ls) : Prop where
 ins : lsIn m
 chk : ∀ x ∈ m, chkLs x = 0
 held : ∀ x ∈ m, holds p x.ad = true
 asc : m.Pairwise fun x y => rank x.ad < rank y.ad
 whos : m.Pairwise fun x y => x.who ≠ y.who
theorem good_of {p : Pf} {kp : List Ad} {l : List Ls} {now : Int} (h : lsIn l) (hc : chkOf p kp l now = 0) : Good p l := by
 obtain ⟨c1, c2, c3⟩ := chkOf_ok hc
 obtain ⟨a1, a2, a3, a4⟩ := allC_ok c2
 obtain ⟨o1, _, o3⟩ := (ofF_iff p l []).1 c3
 exact ⟨h, a2, o1, (asc_pair h).1 a3, o3⟩
theorem Good.live {p : Pf} {l : List Ls} (g : Good p l) (now : Int) : Good p (live l now) :=
 ⟨fun x hx => g.ins x (live_mem hx).1, fun x hx => g.chk x (live_mem hx).1, fun x hx => g.held x (live_mem hx).1, g.asc.filter _, g.whos.filter _⟩
theorem asc_len {lo : Nat} : ∀ {l : List Nat} {hi : Nat}, l.Pairwise (· < ·) → (∀ x ∈ l, lo ≤ x ∧ x < hi) → l.length ≤ hi - lo
 | [], _, _, _ => Nat.zero_le _
 | x :: r, hi, h, hb => by
  obtain ⟨h1, h2⟩ := List.pairwise_cons.1 h
  have hx := hb x (by simp)
  have := asc_len (lo := x + 1) (l := r) (hi := hi) h2 fun y hy => ⟨h1 y hy, (hb y (by simp [hy])).2⟩
  simp only [List.length_cons]
  omega
theorem Good.len {p : Pf} {l : List Ls} (g : Good p l) (hp : p.In) (cp : chkP p = 0) (hn : ((wid p.ad.v6 : Nat) : Int) - p.bits ≤ 4) : l.length ≤ 16 := by
 obtain ⟨n1, n2, n3, n4⟩ := narrow hp cp hn
 have h := asc_len (lo := rank p.ad) (l := l.map fun x => rank x.ad) (hi := rank p.ad + 16) (by rw [List.pairwise_map]; exact g.asc) fun y hy => by
  obtain ⟨x, hx, rfl⟩ := List.mem_map.1 hy
  obtain ⟨s1, s2, s3⟩ := (holds_span hp cp (g.ins x hx).1).1 (g.held x hx)
  have e : free p = freeBits p := rfl
  rw [e] at s3
  unfold rank
  rw [s1]
  omega
 rw [List.length_map] at h
 omega
theorem Good.ok {p : Pf} {l : List Ls} (g : Good p l) {kp : List Ad} (hp : p.In) (hc : chkPool p kp = 0) {now : Int} (ht : betw now 0 9999 = true) : chkOf p kp l now = 0 := by
 obtain ⟨cp, hn, _⟩ := chkPool_ok hc
 have hlen := g.len hp cp hn
 have ha : allC l now = 0 := by
  unfold allC
  rw [if_neg (by omega), chkLsF_of g.chk, if_neg (fun h => h rfl), (asc_pair g.ins).2 g.asc, if_neg (by simp), ht, if_neg (by simp)]
 unfold chkOf
 rw [hc, if_neg (fun h => h rfl), ha, if_neg (fun h => h rfl)]
 exact (ofF_iff p l []).2 ⟨g.held, fun y hy => absurd hy (by simp), g.whos⟩
theorem mem_setQ {b : List Ls} {k : Nat} {v x : Ls} (h : x ∈ b.set k v) : x ∈ b ∨ x = v := (List.mem_or_eq_of_mem_set h)
theorem map_set_same {α : Type} (f : Ls → α) {b : List Ls} {k : Nat} {e v : Ls} (he : b[k]? = some e) (h : f v = f e) : (b.set k v).map f = b.map f := by
 rw [List.map_set, h]
 have hk := (List.getElem?_eq_some_iff.1 he).1
 have : f e = (b.map f)[k]'(by simpa using hk) := by
  rw [List.getElem_map, (List.getElem?_eq_some_iff.1 he).2]
 rw [this, List.set_getElem_self]
theorem chkLs_new {a : Ad} {who : ByteArray} {u : Int} (ca : chkA a = 0) (hw : whoOk who = true) (hu : betw u 0 10499 = true) : chkLs ⟨a, who, u⟩ = 0 := by
 unfold chkLs
 simp only [ca, hw, hu]
 simp
theorem Good.set {p : Pf} {b : List Ls} (g : Good p b) {k : Nat} {e : Ls} (he : b[k]? = some e) {u : Int} (hu : betw u 0 10499 = true) : Good p (b.set k ⟨e.ad, e.who, u⟩) := by
 have hm := List.mem_of_getElem? he
 obtain ⟨u1, u2⟩ := betw_iff.1 hu
 obtain ⟨e1, e2, e3⟩ := chkLs_ad (g.chk e hm)
 obtain ⟨i1, i2, i3⟩ := g.ins e hm
 refine ⟨fun x hx => ?_, fun x hx => ?_, fun x hx => ?_, ?_, ?_⟩
 ·rcases mem_setQ hx with hx | rfl
  ·exact g.ins x hx
  ·exact ⟨i1, i2, ⟨by show (-9223372036854775808 : Int) ≤ u; omega, by show u < 9223372036854775808; omega⟩⟩
 ·rcases mem_setQ hx with hx | rfl
  ·exact g.chk x hx
  ·exact chkLs_new e1 e2 hu
 ·rcases mem_setQ hx with hx | rfl
  ·exact g.held x hx
  ·exact g.held e hm
 ·have := g.asc
  rw [← List.pairwise_map (f := fun x : Ls => rank x.ad) (R := (· < ·))] at this ⊢
  rwa [map_set_same (fun x : Ls => rank x.ad) (v := ⟨e.ad, e.who, u⟩) he rfl]
 ·have := g.whos
  rw [← List.pairwise_map (f := fun x : Ls => x.who) (R := (· ≠ ·))] at this ⊢
  rwa [map_set_same (fun x : Ls => x.who) (v := ⟨e.ad, e.who, u⟩) he rfl]
theorem mem_ins {b : List Ls} {x y : Ls} : y ∈ insAt b x ↔ y ∈ b ∨ y = x := by
 unfold insAt
 have h := List.take_append_drop (posF x.ad b) b
 rw [List.mem_append, List.mem_cons]
 constructor
 ·rintro (h1 | rfl | h1)
  ·exact .inl (List.mem_of_mem_take h1)
  ·exact .inr rfl
  ·exact .inl (List.mem_of_mem_drop h1)
 ·rintro (h1 | rfl)
  ·rw [← h] at h1
   rcases List.mem_append.1 h1 with h2 | h2
   ·exact .inl h2
   ·exact .inr (.inr h2)
  ·exact .inr (.inl rfl)
theorem Good.put {p : Pf} {b : List Ls} (g : Good p b) {a : Ad} (ha : a.In) (ca : chkA a = 0) (hh : holds p a = true) (hfree : ∀ x ∈ b, x.ad ≠ a) {who : ByteArray} (hs : strIn who) (hw : whoOk who = true) (hno : ∀ x ∈ b, x.who ≠ who) {u : Int} (hu : betw u 0 10499 = true) :
  Good p (insAt b ⟨a, who, u⟩) := by
 obtain ⟨u1, u2⟩ := betw_iff.1 hu
 have hsplit := List.take_append_drop (posF a b) b
 have hasc := g.asc
 have hwhos := g.whos
 rw [← hsplit, List.pairwise_append] at hasc hwhos
 have hpos := fun (h : Nat) (x : Ls) (hx : b[h]? = some x) => pos_iff ha g.ins ((asc_pair g.ins).2 g.asc) hx
 have hlo : ∀ y ∈ b.take (posF a b), rank y.ad < rank a := fun y hy => by
  obtain ⟨i, hi⟩ := List.getElem?_of_mem hy
  have hi2 : i < posF a b := by
   have := (List.getElem?_eq_some_iff.1 hi).1
   simp at this
   omega
  rw [List.getElem?_take_of_lt hi2] at hi
  exact (ord_rank (g.ins y (List.mem_of_getElem? hi)).1 ha).1.1 ((hpos i y hi).2 hi2)
 have hhi : ∀ y ∈ b.drop (posF a b), rank a < rank y.ad := fun y hy => by
  obtain ⟨i, hi⟩ := List.getElem?_of_mem hy
  rw [List.getElem?_drop] at hi
  have hm := List.mem_of_getElem? hi
  have h1 : ¬ rank y.ad < rank a := fun h => by
   have := (hpos _ y hi).1 ((ord_rank (g.ins y hm).1 ha).1.2 h)
   omega
  have h2 : rank y.ad ≠ rank a := fun h => hfree y hm (rank_inj (g.ins y hm).1 ha h)
  omega
 refine ⟨fun x hx => ?_, fun x hx => ?_, fun x hx => ?_, ?_, ?_⟩
 ·rcases mem_ins.1 hx with hx | rfl
  ·exact g.ins x hx
  ·exact ⟨ha, hs, ⟨by show (-9223372036854775808 : Int) ≤ u; omega, by show u < 9223372036854775808; omega⟩⟩
 ·rcases mem_ins.1 hx with hx | rfl
  ·exact g.chk x hx
  ·exact chkLs_new ca hw hu
 ·rcases mem_ins.1 hx with hx | rfl
  ·exact g.held x hx
  ·exact hh
 ·unfold insAt
  rw [List.pairwise_append, List.pairwise_cons]
  refine ⟨hasc.1, ⟨hhi, hasc.2.1⟩, fun y hy z hz => ?_⟩
  rcases List.mem_cons.1 hz with rfl | hz
  ·exact hlo y hy
  ·exact hasc.2.2 y hy z hz
 ·unfold insAt
  rw [List.pairwise_append, List.pairwise_cons]
  refine ⟨hwhos.1, ⟨fun z hz he => hno z (List.mem_of_mem_drop hz) he.symm, hwhos.2.1⟩, fun y hy z hz => ?_⟩
  rcases List.mem_cons.1 hz with rfl | hz
  ·exact hno y (List.mem_of_mem_take hy)
  ·exact hwhos.2.2 y hy z hz
theorem who_at {m : List Ls} (h : m.Pairwise fun x y => x.who ≠ y.who) {x : Ls} (hx : x ∈ m) : ∃ k, firstF (whoP x.who) m = some k ∧ m[k]? = some x := by
 cases hf : firstF (whoP x.who) m with
 | none =>
  have := firstF_none hf x hx
  simp [whoP] at this
 | some k =>
  obtain ⟨y, hy, hq, _⟩ := firstF_some hf
  refine ⟨k, rfl, ?_⟩
  have hyx : y.who = x.who := by simpa [whoP] using hq
  obtain ⟨i, hi⟩ := List.getElem?_of_mem hx
  obtain ⟨k1, k2⟩ := List.getElem?_eq_some_iff.1 hy
  obtain ⟨i1, i2⟩ := List.getElem?_eq_some_iff.1 hi
  have hp := List.pairwise_iff_getElem.1 h
  rcases Nat.lt_trichotomy k i with h1 | h1 | h1
  ·exact absurd (by rw [k2, i2]; exact hyx) (hp k i k1 i1 h1)
  ·subst h1; exact hi
  ·exact absurd (by rw [k2, i2]; exact hyx.symm) (hp i k i1 k1 h1)
structure Given (p : Pf) (kp : List Ad) (l : List Ls) (who : ByteArray) (now u : Int) (m : List Ls) (a : Ad) : Prop where
 good : Good p m
 alive : ∀ x ∈ m, now ≤ x.upto
 mine : (⟨a, who, u⟩ : Ls) ∈ m
 others : ∀ x ∈ l, now ≤ x.upto → x.who ≠ who → x ∈ m
 fresh : (∀ x ∈ l, now ≤ x.upto → x.who ≠ who) → ∀ x ∈ kp, x ≠ a
theorem given_of {p : Pf} (hp : p.In) {kp : List Ad} {l : List Ls} (hl : lsIn l) {who : ByteArray} (hw : strIn who) {now ttl : Int} {m : List Ls} {a : Ad} (h : grantOf p kp l who now ttl = (m, a, 0, ())) :
  chkOf p kp l now = 0 ∧ whoOk who = true ∧ Given p kp l who now (now + ttl) m a := by
 unfold grantOf at h
 split at h
 ·rename_i hc
  exact absurd (congrArg (fun y => y.2.2.1) h) hc
 rename_i hc
 have hc : chkOf p kp l now = 0 := Decidable.not_not.1 hc
 split at h
 ·exact absurd (show (1 : Int) = 0 from congrArg (fun y => y.2.2.1) h) (by decide)
 rename_i hwo
 have hwo : whoOk who = true := by simpa using hwo
 split at h
 ·exact absurd (show (3 : Int) = 0 from congrArg (fun y => y.2.2.1) h) (by decide)
 rename_i ht
 have ht : betw ttl 1 500 = true := by simpa using ht
 split at h
 ·exact absurd (show (8 : Int) = 0 from congrArg (fun y => y.2.2.1) h) (by decide)
 rename_i hr
 obtain ⟨c1, c2, c3⟩ := chkOf_ok hc
 obtain ⟨cp, hn, _⟩ := chkPool_ok c1
 obtain ⟨t1, t2⟩ := betw_iff.1 ht
 obtain ⟨v1, v2⟩ := betw_iff.1 (allC_ok c2).2.2.2
 have hu : betw (now + ttl) 0 10499 = true := betw_iff.2 ⟨by omega, by omega⟩
 have g := (good_of hl hc).live now
 have hlm : ∀ x ∈ l, now ≤ x.upto → x ∈ live l now := fun x hx h => List.mem_filter.2 ⟨hx, by simp [liveP, h]⟩
 have hm : (rawOf p kp (live l now) who (now + ttl)).1 = m := congrArg (fun y => y.1) h
 have ha : (rawOf p kp (live l now) who (now + ttl)).2.1 = a := congrArg (fun y => y.2.1) h
 clear h
 refine ⟨hc, hwo, ?_⟩
 unfold rawOf at hm ha hr
 cases hf : firstF (whoP who) (live l now) with
 | some k =>
  rw [hf] at hm ha hr
  obtain ⟨e, he, hq, _⟩ := firstF_some hf
  have hew : e.who = who := by simpa [whoP] using hq
  simp only [keepOn, he] at hm ha
  subst hm ha
  have hk := (List.getElem?_eq_some_iff.1 he).1
  refine ⟨g.set he hu, fun x hx => ?_, ?_, fun x hx hx2 hx3 => ?_, fun hno => ?_⟩
  ·rcases mem_setQ hx with hx | rfl
   ·exact (live_mem hx).2
   ·show now ≤ now + ttl
    omega
  ·rw [← hew]
   exact List.mem_of_getElem? (List.getElem?_set_self (by exact hk))
  ·obtain ⟨i, hi⟩ := List.getElem?_of_mem (hlm x hx hx2)
   have hik : k ≠ i := fun h => by
    subst h
    rw [he] at hi
    injection hi with hi
    exact hx3 (by rw [← hi, hew])
   exact List.mem_of_getElem? ((List.getElem?_set_ne hik).trans hi)
  ·have hm := live_mem (List.mem_of_getElem? he)
   exact absurd hew (hno e hm.1 hm.2)
 | none =>
  rw [hf] at hm ha hr
  cases hfr : freeOf p kp (live l now) with
  | none =>
   rw [hfr] at hr
   exact absurd rfl hr
  | some b =>
   rw [hfr] at hm ha
   simp only [putNew] at hm ha
   subst hm ha
   obtain ⟨⟨i, hi, hbi⟩, htk⟩ := freeOf_some hfr
   obtain ⟨n1, n2, n3, n4⟩ := narrow hp cp hn
   obtain ⟨b1, b2⟩ := addrI_in n4 hi
   unfold takenB at htk
   simp only [Bool.or_eq_false_iff, List.any_eq_false, decide_eq_true_eq] at htk
   have hno : ∀ x ∈ live l now, x.who ≠ who := fun x hx he => by
    have := firstF_none hf x hx
    simp [whoP, he] at this
   refine ⟨g.put (by rw [hbi]; exact b1) (by rw [hbi]; exact b2) (by rw [hbi, holds_at hp cp hn]; exact decide_eq_true hi) htk.2 hw hwo hno hu, fun x hx => ?_, mem_ins.2 (.inr rfl), fun x hx hx2 hx3 => mem_ins.2 (.inl (hlm x hx hx2)), fun _ x hx he => htk.1 x hx he.symm⟩
   rcases mem_ins.1 hx with hx | rfl
   ·exact (live_mem hx).2
   ·show now ≤ now + ttl
    omega
end Go.Ma
namespace Go.Ma
open Go
theorem eqEn_eq (a b : En) : eqEn a b = decide (a = b) := by
 have e : (a = b) ↔ (a.num = b.num ∧ a.epoch = b.epoch ∧ a.op.kind = b.op.kind ∧ a.op.pf.ad.v6 = b.op.pf.ad.v6 ∧ a.op.pf.ad.hi = b.op.pf.ad.hi ∧ a.op.pf.ad.lo = b.op.pf.ad.lo ∧ a.op.pf.bits = b.op.pf.bits ∧
   a.op.ad.v6 = b.op.ad.v6 ∧ a.op.ad.hi = b.op.ad.hi ∧ a.op.ad.lo = b.op.ad.lo ∧ a.op.who = b.op.who ∧ a.op.of_ = b.op.of_ ∧ a.op.n = b.op.n) := by
  cases a with | mk n1 e1 o1 => cases b with | mk n2 e2 o2 =>
  cases o1 with | mk k1 p1 a1 w1 f1 m1 => cases o2 with | mk k2 p2 a2 w2 f2 m2 =>
  cases p1 with | mk pa1 pb1 => cases p2 with | mk pa2 pb2 =>
  cases pa1; cases pa2; cases a1; cases a2
  simp only [En.mk.injEq, Oq.mk.injEq, Pf.mk.injEq, Ad.mk.injEq, and_assoc]
 rw [Bool.eq_iff_iff, decide_eq_true_iff, e]
 unfold eqEn eqOq
 simp [beqB, acmp, strcmp_eql]
theorem state_within_eq (x a b : Int) : state_within_t x a b = some (betw x a b, ()) := by
 unfold state_within_t
 rw [br_ss, bind_s, betw_bif]
def extraO (o : Oq) : Bool :=
 bif (bif (bif (bif (bif !decide (o.kind = 1) then !(eqPf o.pf ⟨⟨false, 0, 0⟩, 0⟩) else false) then true else (bif !decide (o.kind = 2) then !(eqAd o.ad ⟨false, 0, 0⟩) else false))
  then true else (bif !decide (o.kind = 3) then (bif !decide (o.kind = 4) then strcmp .neq o.who ByteArray.empty else false) else false))
  then true else (bif !decide (o.kind = 3) then !decide (o.of_ = 0) else false))
  then true else (bif !decide (o.kind = 3) then (bif !decide (o.kind = 5) then !decide (o.n = 0) else false) else false)
def formO (o : Oq) : Int :=
 if betw o.kind 1 5 = false then 7 else if extraO o = true then 1
 else if o.kind = 1 then (if chkP o.pf ≠ 0 then chkP o.pf else if ((wid o.pf.ad.v6 : Nat) : Int) - o.pf.bits ≤ 4 then 0 else 2)
 else if o.kind = 2 then chkA o.ad
 else if o.kind < 5 ∧ whoOk o.who = false then 1
 else if o.kind = 3 ∧ (betw o.of_ 0 2 = false ∨ betw o.n 1 500 = false) then 3
 else if o.kind = 5 ∧ betw o.n 0 9999 = false then 3 else 0
theorem state_extra_eq (o : Oq) : state_extra_t o = some (extraO o, ()) := by
 unfold state_extra_t
 simp only [br_ss, bind_s]
 rfl
theorem state_Form_eq {o : Oq} (h : o.In) : state_Form_t o = some (formO o, ()) := by
 obtain ⟨_, hp, ha, hw, _, _⟩ := h
 unfold state_Form_t formO
 rw [state_within_eq, bind_s]
 cases hk : betw o.kind 1 5
 ·rfl
 obtain ⟨hk1, hk2⟩ := betw_iff.1 hk
 simp only [Bool.not_true, br_false, Bool.true_eq_false, if_false]
 rw [state_extra_eq, bind_s]
 cases extraO o
 rotate_left
 ·rfl
 simp only [br_false, Bool.false_eq_true, if_false]
 by_cases k1 : o.kind = 1
 ·rw [decide_eq_true k1, br_true, if_pos k1, prefix_Check_eq hp, bind_s]
  by_cases hc : chkP o.pf = 0
  ·simp only [hc, decide_true, Bool.not_true, br_false, ne_eq, not_true, if_false]
   rw [lease_Narrow_eq hc, bind_s]
   by_cases hn : ((wid o.pf.ad.v6 : Nat) : Int) - o.pf.bits ≤ 4 <;> simp [hn, br_true, br_false]
  ·simp [hc, br_true]
 rw [decide_eq_false k1, br_false, if_neg k1]
 by_cases k2 : o.kind = 2
 ·rw [decide_eq_true k2, br_true, if_pos k2, addr_Check_eq, bind_s]
 rw [decide_eq_false k2, br_false, if_neg k2]
 have who : ∀ (X : Bool → Option (Int × Unit)), ((lease_Who_t o.who).bind fun y => X y.1) = X (whoOk o.who) := fun X => by rw [lease_Who_eq hw, bind_s]
 by_cases k3 : o.kind = 3
 ·simp only [k3, decide_true, br_true, lease_Who_eq hw, bind_s, state_within_eq, br_ss]
  cases whoOk o.who <;> cases betw o.of_ 0 2 <;> cases betw o.n 1 500 <;> simp [br_true, br_false]
 ·simp only [k3, decide_false, br_false]
  by_cases k4 : o.kind = 4
  ·simp only [k4, lease_Who_eq hw, bind_s, state_within_eq, br_ss]
   cases whoOk o.who <;> simp [br_true, br_false]
  ·have k5 : o.kind = 5 := by omega
   simp only [k5, state_within_eq, bind_s]
   cases betw o.n 0 9999 <;> simp [br_true, br_false]
theorem log_epoch_eq (x : Int) : log_epoch_t x = some (betw x 1 999, ()) := by
 unfold log_epoch_t
 rw [br_ss, bind_s, betw_bif]
def chkLogF : List En → Int → Int → Int
 | [], _, _ => 0
 | e :: r, i, p => if e.num ≠ i + 1 then 4 else if betw e.epoch 1 999 = false then 3 else if e.epoch < p then 4 else if formO e.op ≠ 0 then formO e.op else chkLogF r (i + 1) e.epoch
def chkLog (l : List En) : Int := if l.length > 30 then 2 else chkLogF l 0 0
def prevE (l : List En) : Nat → Int
 | 0 => 0
 | i + 1 => match l[i]? with | some e => e.epoch | none => 0
def logIn (l : List En) : Prop := ∀ e ∈ l, e.In
def logOut (l : List En) (r : Int) : (((Int × Unit) × Unit) × (List En × Unit)) ⊕ ((Unit) × (List En × Unit)) := if r = 0 then Sum.inr ((), l, ()) else Sum.inl (((r, ()), ()), l, ())
theorem logOut_ne {l : List En} {r : Int} (h : r ≠ 0) : some (logOut l r) = some (Sum.inl (((r, ()), ()), l, ())) := by rw [logOut, if_neg h]
theorem log_Check_eq {l : List En} (h : logIn l) : log_Check_t l = some (chkLog l, ()) := by
 unfold log_Check_t chkLog
 by_cases hlen : l.length > 30
 ·rw [if_pos hlen, decide_eq_true (show lenL l > 30 by unfold lenL; omega), br_true]
 rw [if_neg hlen, decide_eq_false (show ¬ lenL l > 30 by unfold lenL; omega), br_false]
 have hl : loopN log_Check_L4 FUEL (((), (), (lenL l, ()), ((((0 : Nat) : Int)), ()), ()), l, ()) = some (logOut l (chkLogF (l.drop 0) 0 (prevE l 0))) := by
  refine loop_up (fun i => (((((), (), (lenL l, ()), ((i : Int), ()), ()), l, ()) : (((Unit) × (Unit) × (Int × Unit) × (Int × Unit) × Unit) × (List En × Unit))))) l.length (fun i => some (logOut l (chkLogF (l.drop i) (i : Int) (prevE l i)))) (fun rec i hi hr => ?_) (fun rec => ?_) FUEL 0 (Nat.zero_le _) (fuel_gt (by omega))
  ·obtain ⟨e, he⟩ : ∃ e, l[i]? = some e := ⟨_, List.getElem?_eq_getElem hi⟩
   simp only [log_Check_L4]
   rw [decide_eq_true (show (i : Int) < lenL l by unfold lenL; omega), br_true, req_of (zq17 (by omega) (by unfold lenL; omega)), geti_at he, bind_s]
   rw [req_of (i64ok_of (by omega) (by omega)), drop_cons he, chkLogF]
   by_cases hn : e.num = (i : Int) + 1
   rotate_left
   ·rw [if_pos hn, decide_eq_false hn, Bool.not_false, br_true]
    rfl
   rw [if_neg (fun h0 => h0 hn), decide_eq_true hn, Bool.not_true, br_false, log_epoch_eq, bind_s]
   cases hb : betw e.epoch 1 999
   ·rfl
   simp only [Bool.not_true, br_false, Bool.true_eq_false, if_false]
   have hc : (br (decide ((i : Int) > 0)) (req (i64ok ((i : Int) - 1)) (req (inRange ((i : Int) - 1) (lenL l)) (req (inRange ((i : Int) - 1) (lenL l)) ((geti l ((i : Int) - 1)).bind fun p3 => some (decide (e.epoch < p3.epoch)))))) (some false)) = some (decide (e.epoch < prevE l i)) := by
    cases i with
    | zero =>
     have := betw_iff.1 hb
     rw [decide_eq_false (by omega), br_false, decide_eq_false (show ¬ e.epoch < prevE l 0 by simp only [prevE]; omega)]
    | succ k =>
     obtain ⟨e', he'⟩ : ∃ e, l[k]? = some e := ⟨_, List.getElem?_eq_getElem (by omega)⟩
     rw [decide_eq_true (by omega), br_true, show (((k + 1 : Nat) : Int) - 1) = (k : Int) by omega, req_of (i64ok_of (by omega) (by omega)), req_of (zq17 (by omega) (by unfold lenL; omega)), req_of (zq17 (by omega) (by unfold lenL; omega)), geti_at he', bind_s]
     simp only [prevE, he']
   rw [hc, bind_s]
   by_cases hp : e.epoch < prevE l i
   ·rw [if_pos hp, decide_eq_true hp, br_true]
    rfl
   rw [if_neg hp, decide_eq_false hp, br_false, state_Form_eq (h e (List.mem_of_getElem? he)).2.2, bind_s]
   by_cases hf : formO e.op = 0
   rotate_left
   ·rw [if_pos hf, decide_eq_false hf, Bool.not_false, br_true, logOut_ne hf]
   rw [if_neg (fun h0 => h0 hf), decide_eq_true hf, Bool.not_true, br_false, show ((i : Int) + 1) = ((i + 1 : Nat) : Int) by omega, req_of (i64ok_of (by omega) (by omega)), hr]
   rw [show prevE l (i + 1) = e.epoch by simp only [prevE, he]]
  ·simp only [log_Check_L4]
   rw [decide_eq_false (show ¬ (l.length : Int) < lenL l by unfold lenL; omega), br_false, List.drop_of_length_le (Nat.le_refl _)]
   rfl
 rw [show (((0 : Nat) : Int)) = 0 from rfl, List.drop_zero] at hl
 rw [hl, bind_s]
 show sumC (logOut l (chkLogF l 0 0)) _ _ = _
 unfold logOut
 by_cases h0 : chkLogF l 0 0 = 0
 ·rw [if_pos h0, h0]; rfl
 ·rw [if_neg h0]; rfl
end Go.Ma
namespace Go.Ma
open Go
theorem clone_eq {l : List En} (h : l.length ≤ 274877906944) : zq54 l = some (l, ()) := by
 unfold zq54
 rw [req_of (room_of (by simp [lenL]) (zq39 l) (by unfold lenL; simp; omega)), List.nil_append]
 cases l with
 | nil => exact both_self _
 | cons a r => rfl
theorem chkLog_len {l : List En} (h : chkLog l = 0) : l.length ≤ 30 := by
 unfold chkLog at h
 split at h
 ·cases h
 ·omega
def moreOf (l : List En) (ep : Int) (o : Oq) : (List En) × Int × Unit :=
 if betw ep 1 999 = false then ([], 3, ()) else if ep < prevE l l.length then ([], 4, ()) else if formO o ≠ 0 then ([], formO o, ()) else if l.length = 30 then ([], 2, ()) else (l ++ [⟨lenL l + 1, ep, o⟩], 0, ())
theorem last_br {l : List En} {ep : Int} (hl : l.length ≤ 30) (he : 0 ≤ ep) : (br (decide (lenL l > 0)) (req (i64ok ((lenL l) - 1)) <| req (inRange ((lenL l) - 1) (lenL l)) <| req (inRange ((lenL l) - 1) (lenL l)) <| (geti l ((lenL l) - 1)).bind fun p2 => some (decide (ep < p2.epoch))) (some false)) = some (decide (ep < prevE l l.length)) := by
 cases hn : l.length with
 | zero =>
  rw [decide_eq_false (show ¬ lenL l > 0 by unfold lenL; omega), br_false, decide_eq_false (show ¬ ep < prevE l 0 by simp only [prevE]; omega)]
 | succ k =>
  obtain ⟨e, he⟩ : ∃ e, l[k]? = some e := ⟨_, List.getElem?_eq_getElem (by omega)⟩
  have e1 : lenL l - 1 = (k : Int) := by unfold lenL; omega
  rw [decide_eq_true (show lenL l > 0 by unfold lenL; omega), br_true, e1, req_of (i64ok_of (by omega) (by omega)), req_of (zq17 (by omega) (by unfold lenL; omega)), req_of (zq17 (by omega) (by unfold lenL; omega)), geti_at he, bind_s]
  simp only [prevE, he]
theorem log_More_eq {l : List En} (hl : l.length ≤ 30) (ep : Int) {o : Oq} (ho : o.In) : log_More_t l ep o = some (moreOf l ep o) := by
 unfold log_More_t moreOf
 rw [log_epoch_eq, bind_s]
 cases h1 : betw ep 1 999
 ·rfl
 obtain ⟨h2, h3⟩ := betw_iff.1 h1
 simp only [Bool.not_true, br_false, Bool.true_eq_false, if_false]
 rw [last_br hl (by omega), bind_s]
 by_cases h4 : ep < prevE l l.length
 ·rw [decide_eq_true h4, br_true, if_pos h4]
 rw [decide_eq_false h4, br_false, if_neg h4, state_Form_eq ho, bind_s]
 by_cases h5 : formO o = 0
 ·rw [decide_eq_true (show (formO o, ()).1 = 0 from h5), Bool.not_true, br_false, if_neg (fun h => h h5)]
  by_cases h6 : l.length = 30
  ·rw [decide_eq_true (show lenL l = 30 by unfold lenL; omega), br_true, if_pos h6]
  ·rw [decide_eq_false (show ¬ lenL l = 30 by unfold lenL; omega), br_false, if_neg h6, dup_eq, clone_eq (by omega), bind_s, req_of (i64ok_of (by unfold lenL; omega) (by unfold lenL; omega))]
   rw [req_of (room_of (zq39 _) (zq39 _) (by simp only [lenL, List.length_cons, List.length_nil]; omega))]
 ·rw [decide_eq_false (show ¬ (formO o, ()).1 = 0 from h5), Bool.not_false, br_true, if_pos h5]
def op1 : Oq := ⟨1, ⟨⟨false, 0, 8⟩, 30⟩, ⟨false, 0, 0⟩, ByteArray.empty, 0, 0⟩
def op2 : Oq := ⟨2, ⟨⟨false, 0, 0⟩, 0⟩, ⟨false, 0, 8⟩, ByteArray.empty, 0, 0⟩
def op3 : Oq := ⟨3, ⟨⟨false, 0, 0⟩, 0⟩, ⟨false, 0, 0⟩, ⟨#[120]⟩, 0, 10⟩
def ents : List En := [⟨1, 1, op1⟩, ⟨2, 1, op2⟩, ⟨3, 4, op3⟩]
theorem some_eq : law_some_t = some ([op1, op2, op3], ()) := rfl
theorem entries_eq : law_entries_t = some (ents, ()) := rfl
theorem z_in : (⟨false, 0, 0⟩ : Ad).In := by constructor <;> constructor <;> decide
theorem op_in : op1.In ∧ op2.In ∧ op3.In := by
 have a8 : (⟨false, 0, 8⟩ : Ad).In := by constructor <;> constructor <;> decide
 have e0 : strIn ByteArray.empty := by unfold strIn; exact Nat.zero_le _
 have e1 : strIn ⟨#[120]⟩ := by unfold strIn maxLen; decide
 have n : ∀ x : Int, 0 ≤ x → x < 100 → i64In x := fun x h h' => ⟨by omega, by omega⟩
 exact ⟨⟨n _ (by decide) (by decide), ⟨a8, n _ (by decide) (by decide)⟩, z_in, e0, n _ (by decide) (by decide), n _ (by decide) (by decide)⟩,
  ⟨n _ (by decide) (by decide), ⟨z_in, n _ (by decide) (by decide)⟩, a8, e0, n _ (by decide) (by decide), n _ (by decide) (by decide)⟩,
  ⟨n _ (by decide) (by decide), ⟨z_in, n _ (by decide) (by decide)⟩, z_in, e1, n _ (by decide) (by decide), n _ (by decide) (by decide)⟩⟩
theorem ents_in : logIn ents := by
 have n : ∀ x : Int, 0 ≤ x → x < 100 → i64In x := fun x h h' => ⟨by omega, by omega⟩
 intro e he
 simp only [ents, List.mem_cons, List.not_mem_nil, or_false] at he
 rcases he with rfl | rfl | rfl
 ·exact ⟨n _ (by decide) (by decide), n _ (by decide) (by decide), op_in.1⟩
 ·exact ⟨n _ (by decide) (by decide), n _ (by decide) (by decide), op_in.2.1⟩
 ·exact ⟨n _ (by decide) (by decide), n _ (by decide) (by decide), op_in.2.2⟩
def ents4 : List En := ents ++ [⟨4, 4, op3⟩]
theorem in2 : inRange 2 (lenL [op1, op2, op3]) = true := rfl
theorem get2 : geti [op1, op2, op3] 2 = some op3 := rfl
end Go.Ma
namespace Go.Ma
open Go
theorem R_SameLog_eq {l l' : List En} (hl : l.length < 9223372036854775808) : R_SameLog_t l l' = some (decide (l = l'), ()) := by
 unfold R_SameLog_t
 by_cases hn : l.length = l'.length
 rotate_left
 ·rw [decide_eq_false (show ¬ lenL l = lenL l' by unfold lenL; omega), Bool.not_false, br_true, decide_eq_false (fun h => hn (by rw [h]))]
 rw [decide_eq_true (show lenL l = lenL l' by unfold lenL; omega), Bool.not_true, br_false]
 have hlp : loopN R_SameLog_L4 FUEL (((), (), (0, ()), ()), (l, l', ())) = some (if l.drop 0 = l'.drop 0 then Sum.inr ((), (l, l', ())) else Sum.inl ((((false : Bool), ()), ()), (l, l', ()))) := by
  refine loop_up (step := R_SameLog_L4) (fun i => (((), (), ((i : Int), ()), ()), (l, l', ()))) l.length (fun i => some (if l.drop i = l'.drop i then Sum.inr ((), (l, l', ())) else Sum.inl ((((false : Bool), ()), ()), (l, l', ())))) (fun rec i hi hr => ?_) (fun rec => ?_) FUEL 0 (Nat.zero_le _) (fuel_gt (by omega))
  ·obtain ⟨e, he⟩ : ∃ e, l[i]? = some e := ⟨_, List.getElem?_eq_getElem hi⟩
   obtain ⟨e', he'⟩ : ∃ e, l'[i]? = some e := ⟨_, List.getElem?_eq_getElem (by omega)⟩
   simp only [R_SameLog_L4]
   rw [decide_eq_true (show (i : Int) < lenL l by unfold lenL; omega), br_true, req_of (zq17 (by omega) (by unfold lenL; omega)), geti_at he, bind_s, req_of (zq17 (by omega) (by unfold lenL; omega)), geti_at he', bind_s, eqEn_eq, drop_cons he, drop_cons he']
   by_cases hee : e = e'
   ·rw [decide_eq_true hee, Bool.not_true, br_false, show ((i : Int) + 1) = ((i + 1 : Nat) : Int) by omega, req_of (i64ok_of (by omega) (by omega)), hr]
    subst hee
    simp
   ·rw [decide_eq_false hee, Bool.not_false, br_true]
    simp [hee]
  ·simp only [R_SameLog_L4]
   rw [decide_eq_false (show ¬ (l.length : Int) < lenL l by unfold lenL; omega), br_false, List.drop_of_length_le (Nat.le_refl _), List.drop_of_length_le (show l'.length ≤ l.length by omega)]
   rfl
 rw [hlp, bind_s, List.drop_zero, List.drop_zero]
 by_cases h : l = l'
 ·rw [if_pos h, decide_eq_true h]; rfl
 ·rw [if_neg h, decide_eq_false h]; rfl
end Go.Ma
namespace Go.Ma
open Go
section
variable {α A R : Type}
theorem idx_loop {step : (A → Option R) → A → Option R} (b : List α) (q : α → Bool) (mk : Nat → A) (out : Option Nat → R) (hlen : b.length < 9223372036854775808)
  (h : ∀ (rec : A → Option R) (i : Nat) (x : α), b[i]? = some x → i < b.length → step rec (mk i) = if q x then some (out (some i)) else rec (mk (i + 1)))
  (hend : ∀ rec : A → Option R, step rec (mk b.length) = some (out none)) : loopN step FUEL (mk 0) = some (out (firstF q b)) := by
 have := loop_up (step := step) mk b.length (fun i => some (out ((firstF q (b.drop i)).map (· + i)))) (fun rec i hi hr => ?_) (fun rec => ?_) FUEL 0 (Nat.zero_le _) (fuel_gt (by omega))
 ·rw [List.drop_zero, show (fun x => x + 0) = (id : Nat → Nat) from rfl, Option.map_id] at this
  exact this
 ·obtain ⟨e, he⟩ : ∃ e, b[i]? = some e := ⟨_, List.getElem?_eq_getElem hi⟩
  rw [h rec i e he hi, firstF_at he]
  cases q e
  ·rw [if_neg (by simp), if_neg (by simp), hr]
  ·rw [if_pos rfl, if_pos rfl]
 ·rw [hend, List.drop_of_length_le (Nat.le_refl _)]
  rfl
theorem bin_loop {step : (A → Option R) → A → Option R} (n pos : Nat) (hp : pos ≤ n) (hn : n < 9223372036854775808) (mk : Nat → Nat → A) (out : R)
  (h : ∀ (rec : A → Option R) (i j : Nat), i < j → i ≤ pos → pos ≤ j → j ≤ n → step rec (mk i j) = if (i + j) / 2 < pos then rec (mk ((i + j) / 2 + 1) j) else rec (mk i ((i + j) / 2)))
  (hend : ∀ rec : A → Option R, step rec (mk pos pos) = some out) : loopN step FUEL (mk 0 n) = some out := by
 have key : ∀ (N i j : Nat), j - i < N → i ≤ pos → pos ≤ j → j ≤ n → loopN step N (mk i j) = some out := by
  intro N
  induction N with
  | zero => intro i j h; omega
  | succ N ih =>
   intro i j hN h1 h2 h3
   rw [loopN_succ]
   by_cases hij : i < j
   ·rw [h _ i j hij h1 h2 h3]
    by_cases hh : (i + j) / 2 < pos
    ·rw [if_pos hh]; exact ih _ _ (by omega) (by omega) h2 h3
    ·rw [if_neg hh]; exact ih _ _ (by omega) h1 (by omega) (by omega)
   ·have : i = pos := by omega
    have : j = pos := by omega
    subst i j
    exact hend _
 exact key FUEL 0 n (fuel_gt (by omega)) (Nat.zero_le _) hp (Nat.le_refl _)
end
theorem padL_id {α : Type} (ls : List (List α)) : padL ls.length ls = ls := by simp [padL]
theorem padL_of {α : Type} {ls : List (List α)} {n : Nat} (h : ls.length = n) : padL n ls = ls := by subst h; exact padL_id ls
theorem getL_nat {α : Type} (ls : List (List α)) (i : Nat) : getL ls (i : Int) = ls.getD i [] := by
 unfold getL
 rw [if_pos (by omega)]
 rfl
def pfIn (l : List Pf) : Prop := ∀ p ∈ l, p.In ∧ chkP p = 0
def poolIx (ps : List Pf) (a : Ad) : Option Nat := firstF (fun p => holds p a) ps
theorem prefix_Meet_eq {p q : Pf} (hp : p.In) (hq : q.In) (cp : chkP p = 0) (cq : chkP q = 0) : prefix_Meet_t p q = some (over p q || over q p, ()) := by
 unfold prefix_Meet_t
 rw [prefix_Over_eq cp hq, bind_s, prefix_Over_eq cq hp]
 cases over p q <;> rfl
theorem state_poolOf_eq {ps : List Pf} (hp : pfIn ps) (hlen : ps.length ≤ 1048576) (ks : List (List Ad)) (ls : List Ls) (now : Int) {a : Ad} (ha : a.In) : state_poolOf_t (ps, ks) ls now a = some (idxI (poolIx ps a), ()) := by
 unfold state_poolOf_t
 have := idx_loop (step := zq92) ps (fun p => holds p a) (fun i => (((), (), (lenL ps, ()), ((i : Int), ()), ()), (ks, ps, ls, (now, ()), (a, ()), ())))
  (fun o => match o with | some i => Sum.inl ((((i : Int), ()), ()), (ks, ps, ls, (now, ()), (a, ()), ())) | none => Sum.inr ((), (ks, ps, ls, (now, ()), (a, ()), ()))) (by omega) (fun rec i x hx hi => ?_) (fun rec => ?_)
 ·rw [show ((0 : Nat) : Int) = 0 from rfl] at this
  simp only
  rw [this, bind_s]
  unfold poolIx
  cases firstF (fun p => holds p a) ps <;> rfl
 ·obtain ⟨h1, h2⟩ := hp x (List.mem_of_getElem? hx)
  obtain ⟨b1, b2⟩ := chkP_bits h2
  simp only [zq92]
  rw [decide_eq_true (show (i : Int) < lenL ps by unfold lenL; omega), br_true, req_of (zq17 (by omega) (by unfold lenL; omega)), geti_at hx, bind_s, state_poolOf_1_t, prefix_Holds_eq b1 b2 ha, bind_s, bind_s]
  cases holds x a
  ·rw [show ((i : Int) + 1) = ((i + 1 : Nat) : Int) by omega, br_false, req_of (i64ok_of (by omega) (by omega)), if_neg (by simp)]
  ·rw [br_true, if_pos rfl]
 ·simp only [zq92]
  rw [decide_eq_false (show ¬ (ps.length : Int) < lenL ps by unfold lenL; omega), br_false]
def meets (p q : Pf) : Bool := over p q || over q p
def poolsF : List Pf → List (List Ad) → Int
 | [], _ => 0
 | p :: r, ks => if chkPool p (ks.headD []) ≠ 0 then chkPool p (ks.headD []) else poolsF r ks.tail
def adjOk : List Pf → Bool
 | p :: q :: r => decide (ordP p q < 0) && (!meets p q && adjOk (q :: r))
 | _ => true
def stF' (ps : List Pf) (now : Int) : List Ls → List Ls → Int
 | _, [] => 0
 | bf, x :: r => if (poolIx ps x.ad).isNone = true then 5 else if bf.any (whoP x.who) = true then 6 else if x.upto < now then 4 else stF' ps now (bf ++ [x]) r
def chkS (ps : List Pf) (ks : List (List Ad)) (ls : List Ls) (now : Int) : Int :=
 if ps.length > 3 then 2 else if poolsF ps ks ≠ 0 then poolsF ps ks else if adjOk ps = false then 4 else if betw now 0 9999 = false then 3
 else if allC ls now ≠ 0 then allC ls now else stF' ps now [] ls
theorem poolsF_all : ∀ {ps : List Pf} {ks : List (List Ad)}, poolsF ps ks = 0 → ∀ (i : Nat) (p : Pf), ps[i]? = some p → chkPool p (ks.getD i []) = 0
 | [], _, _, i, p, h => by simp at h
 | q :: r, ks, h, i, p, hp => by
  unfold poolsF at h
  by_cases hc : chkPool q (ks.headD []) = 0
  ·rw [if_neg (fun h => h hc)] at h
   match i with
   | 0 =>
    simp only [List.getElem?_cons_zero, Option.some.injEq] at hp
    subst hp
    cases ks <;> exact hc
   | i + 1 =>
    simp only [List.getElem?_cons_succ] at hp
    have := poolsF_all h i p hp
    cases ks <;> simpa using this
  ·rw [if_pos hc] at h; exact absurd h hc
end Go.Ma
namespace Go.Ma
open Go
def kV (v : Bool) : Int := if v then 1 else 0
theorem ordA_key (a b : Ad) : (ordA a b < 0 ↔ kV a.v6 < kV b.v6 ∨ (kV a.v6 = kV b.v6 ∧ (a.hi < b.hi ∨ (a.hi = b.hi ∧ a.lo < b.lo)))) ∧ (ordA a b = 0 ↔ kV a.v6 = kV b.v6 ∧ a.hi = b.hi ∧ a.lo = b.lo) := by
 unfold ordA ordI kV
 cases a.v6 <;> cases b.v6 <;> simp <;> (by_cases h1 : a.hi = b.hi <;> simp [h1] <;> constructor <;> (repeat' split) <;> omega)
theorem ordP_key (p q : Pf) : ordP p q < 0 ↔ kV p.ad.v6 < kV q.ad.v6 ∨ (kV p.ad.v6 = kV q.ad.v6 ∧ (p.ad.hi < q.ad.hi ∨ (p.ad.hi = q.ad.hi ∧ (p.ad.lo < q.ad.lo ∨ (p.ad.lo = q.ad.lo ∧ p.bits < q.bits))))) := by
 obtain ⟨h1, h2⟩ := ordA_key p.ad q.ad
 unfold ordP
 split <;> omega
theorem kV_inj {v w : Bool} (h : kV v = kV w) : v = w := by cases v <;> cases w <;> first | rfl | (exact absurd h (by decide))
theorem ordP_trans {p q r : Pf} (h1 : ordP p q < 0) (h2 : ordP q r < 0) : ordP p r < 0 := by
 rw [ordP_key] at h1 h2 ⊢
 omega
theorem ordP_self (p : Pf) : ordP p p = 0 := by
 have h := (ordA_key p.ad p.ad).2.2 ⟨rfl, rfl, rfl⟩
 unfold ordP
 rw [if_neg (fun h' => h' h)]
 omega
end Go.Ma
namespace Go.Ma
open Go
theorem ordP_rank {p q : Pf} (hp : p.In) (hq : q.In) (h : ordP p q < 0) : rank p.ad ≤ rank q.ad := by
 obtain ⟨h1, h2⟩ := ord_rank hp.1 hq.1
 unfold ordP at h
 split at h
 ·have := h1.1 h; omega
 ·rename_i h3
  have := h2.1 (Decidable.not_not.1 h3); omega
theorem rank_parts {a b : Ad} (ha : a.In) (hb : b.In) (h : rank a ≤ rank b) (hv : a.v6 = b.v6) : a.num ≤ b.num := by
 unfold rank at h
 rw [hv] at h
 omega
theorem rank_v6 {a b c : Ad} (ha : a.In) (hb : b.In) (hc : c.In) (h : rank a ≤ rank b) (h2 : rank b ≤ rank c) (hv : a.v6 = c.v6) : a.v6 = b.v6 ∧ b.v6 = c.v6 := by
 have h3 := num_lt ha
 have h4 := num_lt hb
 have h5 := num_lt hc
 unfold rank at h h2
 rw [← hv] at h2 ⊢
 cases hav : a.v6 <;> cases hbv : b.v6 <;> simp only [hav, hbv, if_true, Bool.false_eq_true, if_false] at h h2 <;> first | exact ⟨rfl, rfl⟩ | (exfalso; omega)
theorem meets_comm (p q : Pf) : meets p q = meets q p := by unfold meets; exact Bool.or_comm _ _
theorem meets_of {p q : Pf} (hp : p.In) (hq : q.In) (cp : chkP p = 0) (cq : chkP q = 0) (hv : p.ad.v6 = q.ad.v6) (h1 : q.ad.num ≤ p.ad.num + (2 ^ free p - 1)) (h2 : p.ad.num ≤ q.ad.num + (2 ^ free q - 1)) : meets p q = true := by
 unfold meets
 by_cases hb : p.bits ≤ q.bits
 ·rw [apart_one hp hq cp cq hv h1 h2 hb]; rfl
 ·rw [apart_one hq hp cq cp hv.symm h2 h1 (by omega)]; simp
theorem meets_iff {p q : Pf} (hp : p.In) (hq : q.In) (cp : chkP p = 0) (cq : chkP q = 0) : meets p q = true ↔ p.ad.v6 = q.ad.v6 ∧ q.ad.num ≤ p.ad.num + (2 ^ free p - 1) ∧ p.ad.num ≤ q.ad.num + (2 ^ free q - 1) := by
 constructor
 ·intro h
  unfold meets at h
  rw [Bool.or_eq_true] at h
  have e1 := Nat.two_pow_pos (free p)
  have e2 := Nat.two_pow_pos (free q)
  rcases h with h | h
  ·obtain ⟨h1, h2, h3⟩ := (holds_span hp cp hq.1).1 (over_iff.1 h).2
   exact ⟨h1, by omega, by omega⟩
  ·obtain ⟨h1, h2, h3⟩ := (holds_span hq cq hp.1).1 (over_iff.1 h).2
   exact ⟨h1.symm, by omega, by omega⟩
 ·rintro ⟨h1, h2, h3⟩
  exact meets_of hp hq cp cq h1 h2 h3
theorem meets_between {p q r : Pf} (hp : p.In) (hq : q.In) (hr : r.In) (cp : chkP p = 0) (cq : chkP q = 0) (cr : chkP r = 0) (h1 : ordP p q < 0) (h2 : ordP q r < 0) (h : meets p r = true) : meets p q = true := by
 obtain ⟨m1, m2, m3⟩ := (meets_iff hp hr cp cr).1 h
 have r1 := ordP_rank hp hq h1
 have r2 := ordP_rank hq hr h2
 obtain ⟨v1, v2⟩ := rank_v6 hp.1 hq.1 hr.1 r1 r2 m1
 have n1 := rank_parts hp.1 hq.1 r1 v1
 have n2 := rank_parts hq.1 hr.1 r2 v2
 exact meets_of hp hq cp cq v1 (by omega) (by omega)
def apartP (p q : Pf) : Prop := ordP p q < 0 ∧ meets p q = false
theorem adj_pair : ∀ {ps : List Pf}, pfIn ps → (adjOk ps = true ↔ ps.Pairwise apartP)
 | [], _ => by simp [adjOk]
 | [p], _ => by simp [adjOk]
 | p :: q :: r, h => by
  have h' : pfIn (q :: r) := fun x hx => h x (List.mem_cons_of_mem _ hx)
  have ih := adj_pair h'
  have hp := h p List.mem_cons_self
  have hq := h q (List.mem_cons_of_mem _ List.mem_cons_self)
  simp only [adjOk, Bool.and_eq_true, decide_eq_true_eq, Bool.not_eq_true']
  rw [ih]
  constructor
  ·rintro ⟨h1, h2, h3⟩
   refine List.pairwise_cons.2 ⟨fun x hx => ?_, h3⟩
   rcases List.mem_cons.1 hx with rfl | hx
   ·exact ⟨h1, h2⟩
   ·have hqx := (List.pairwise_cons.1 h3).1 x hx
    have hxi := h' x (List.mem_cons_of_mem _ hx)
    refine ⟨ordP_trans h1 hqx.1, ?_⟩
    cases hm : meets p x
    ·rfl
    ·rw [meets_between hp.1 hq.1 hxi.1 hp.2 hq.2 hxi.2 h1 hqx.1 hm] at h2
     cases h2
  ·intro hh
   obtain ⟨h1, h2⟩ := List.pairwise_cons.1 hh
   have := h1 q List.mem_cons_self
   exact ⟨this.1, this.2, h2⟩
def kpIn (ks : List (List Ad)) : Prop := ∀ k ∈ ks, adIn k
theorem kp_at {ks : List (List Ad)} (h : kpIn ks) (i : Nat) : adIn (ks.getD i []) := by
 rw [List.getD_eq_getElem?_getD]
 cases he : ks[i]? with
 | none => intro a ha; cases ha
 | some k => exact h k (List.mem_of_getElem? he)
end Go.Ma
namespace Go.Ma
open Go
theorem idxI_neg (o : Option Nat) : decide (idxI o < 0) = o.isNone := by
 cases o with
 | none => rfl
 | some k =>
  have : ¬ idxI (some k) < 0 := by show ¬ (k : Int) < 0; omega
  simp [this]
theorem pfIn_of {ps : List Pf} (hp : ∀ p ∈ ps, p.In) {ks : List (List Ad)} (h : poolsF ps ks = 0) : pfIn ps := fun p hm => by
 obtain ⟨i, hi⟩ := List.mem_iff_getElem?.1 hm
 exact ⟨hp p hm, (chkPool_ok (poolsF_all h i p hi)).1⟩
end Go.Ma
namespace Go.Ma
open Go
theorem poolsF_iff : ∀ (ps : List Pf) (ks : List (List Ad)), poolsF ps ks = 0 ↔ ∀ (i : Nat) (p : Pf), ps[i]? = some p → chkPool p (ks.getD i []) = 0 := fun ps ks => by
 refine ⟨poolsF_all, ?_⟩
 induction ps generalizing ks with
 | nil => intro _; rfl
 | cons q r ih =>
  intro h
  have h0 := h 0 q rfl
  have h0' : chkPool q (ks.headD []) = 0 := by cases ks <;> exact h0
  rw [poolsF, if_neg (fun hh => hh h0')]
  refine ih _ fun i p hp => ?_
  have := h (i + 1) p hp
  cases ks <;> simpa using this
theorem stF_iff (ps : List Pf) (now : Int) : ∀ (m bf : List Ls), stF' ps now bf m = 0 ↔ (∀ x ∈ m, (poolIx ps x.ad).isSome = true) ∧ (∀ x ∈ m, now ≤ x.upto) ∧ (∀ y ∈ bf, ∀ x ∈ m, y.who ≠ x.who) ∧ m.Pairwise fun x y => x.who ≠ y.who
 | [], bf => by simp [stF']
 | x :: r, bf => by
  unfold stF'
  by_cases h1 : (poolIx ps x.ad).isSome = true
  ·rw [if_neg (by cases hq : poolIx ps x.ad <;> simp_all)]
   by_cases h2 : bf.any (whoP x.who) = true
   ·rw [if_pos h2]
    constructor
    ·intro h; exact absurd h (by decide)
    ·rintro ⟨_, _, h3, _⟩
     obtain ⟨y, hy, hq⟩ := List.any_eq_true.1 h2
     exact absurd (by simpa [whoP] using hq) (h3 y hy x (by simp))
   ·rw [if_neg h2]
    have h2' : ∀ y ∈ bf, y.who ≠ x.who := fun y hy he => h2 (List.any_eq_true.2 ⟨y, hy, by simp [whoP, he]⟩)
    by_cases hu : x.upto < now
    ·rw [if_pos hu]
     constructor
     ·intro h; exact absurd h (by decide)
     ·rintro ⟨_, h3, _⟩
      have := h3 x (by simp)
      omega
    rw [if_neg hu, stF_iff ps now r (bf ++ [x])]
    constructor
    ·rintro ⟨a1, a0, a2, a3⟩
     refine ⟨fun z hz => ?_, fun z hz => ?_, fun y hy z hz => ?_, List.pairwise_cons.2 ⟨fun z hz => a2 x (by simp) z hz, a3⟩⟩
     ·rcases List.mem_cons.1 hz with rfl | hz
      ·exact h1
      ·exact a1 z hz
     ·rcases List.mem_cons.1 hz with rfl | hz
      ·omega
      ·exact a0 z hz
     ·rcases List.mem_cons.1 hz with rfl | hz
      ·exact h2' y hy
      ·exact a2 y (by simp [hy]) z hz
    ·rintro ⟨a1, a0, a2, a3⟩
     obtain ⟨b1, b2⟩ := List.pairwise_cons.1 a3
     refine ⟨fun z hz => a1 z (by simp [hz]), fun z hz => a0 z (by simp [hz]), fun y hy z hz => ?_, b2⟩
     rcases List.mem_append.1 hy with hy | hy
     ·exact a2 y hy z (by simp [hz])
     ·have : y = x := by simpa using hy
      subst this
      exact b1 z hz
  ·rw [if_pos (by simpa using h1)]
   constructor
   ·intro h; exact absurd h (by decide)
   ·rintro ⟨a1, _⟩; exact absurd (a1 x (by simp)) h1
theorem poolIx_some {ps : List Pf} {a : Ad} : (poolIx ps a).isSome = true ↔ ∃ p ∈ ps, holds p a = true := by
 unfold poolIx
 rw [firstF_any, List.any_eq_true]
structure StOk (ps : List Pf) (ks : List (List Ad)) (ls : List Ls) (now : Int) : Prop where
 pin : pfIn ps
 kin : kpIn ks
 lin : lsIn ls
 klen : ks.length = ps.length
 plen : ps.length ≤ 3
 pool : ∀ (i : Nat) (p : Pf), ps[i]? = some p → chkPool p (ks.getD i []) = 0
 pair : ps.Pairwise apartP
 time : betw now 0 9999 = true
 all : allC ls now = 0
 has : ∀ x ∈ ls, ∃ p ∈ ps, holds p x.ad = true
 upto : ∀ x ∈ ls, now ≤ x.upto
 who : ls.Pairwise fun x y => x.who ≠ y.who
theorem stOk_of {ps : List Pf} (hp : ∀ p ∈ ps, p.In) {ks : List (List Ad)} (hk : kpIn ks) {ls : List Ls} (hl : lsIn ls) (hlen : ks.length = ps.length) {now : Int} (h : chkS ps ks ls now = 0) : StOk ps ks ls now := by
 unfold chkS at h
 split at h
 ·cases h
 rename_i h3
 split at h
 ·rename_i h4; exact absurd h h4
 rename_i h4
 have h4 := Decidable.not_not.1 h4
 split at h
 ·cases h
 rename_i ha
 split at h
 ·cases h
 rename_i hb
 split at h
 ·rename_i hc; exact absurd h hc
 rename_i hc
 have hpf := pfIn_of hp h4
 obtain ⟨s1, s2, _, s3⟩ := (stF_iff ps now ls []).1 h
 exact ⟨hpf, hk, hl, hlen, by omega, (poolsF_iff ps ks).1 h4, (adj_pair hpf).1 (by simpa using ha), by simpa using hb, Decidable.not_not.1 hc, fun x hx => poolIx_some.1 (s1 x hx), s2, s3⟩
abbrev StV := (List Pf × List (List Ad)) × List Ls × Int × Unit
abbrev DoV := StV × Ad × Int × Unit
def noSt : StV := ((([] : List Pf), ([] : List (List Ad))), ([] : List Ls), 0, ())
def noAd : Ad := ⟨false, 0, 0⟩
def errS (e : Int) : DoV := (noSt, noAd, e, ())
def okS (ps : List Pf) (ks : List (List Ad)) (ls : List Ls) (now : Int) (a : Ad) : DoV := (((ps, ks), ls, now, ()), a, 0, ())
def posP (p : Pf) (ps : List Pf) : Nat := (ps.takeWhile fun y => decide (ordP y p < 0)).length
def posA (a : Ad) (kp : List Ad) : Nat := (kp.takeWhile fun y => decide (ordA y a < 0)).length
def putAt {α : Type} (l : List α) (n : Nat) (x : α) : List α := l.take n ++ x :: l.drop n
def doPool (ps : List Pf) (ks : List (List Ad)) (ls : List Ls) (now : Int) (p : Pf) : DoV :=
 if ps.any (fun q => meets q p) = true then errS 6 else if ps.length = 3 then errS 2 else okS (putAt ps (posP p ps) p) (putAt ks (posP p ps) []) ls now noAd
def doKeep (ps : List Pf) (ks : List (List Ad)) (ls : List Ls) (now : Int) (a : Ad) : DoV :=
 match poolIx ps a with
 | none => errS 5
 | some i => if (ks.getD i []).any (fun x => decide (a = x)) = true then errS 6 else if (ks.getD i []).length = 6 then errS 2 else okS ps (ks.set i (putAt (ks.getD i []) (posA a (ks.getD i [])) a)) ls now noAd
def ownL (p : Pf) (ls : List Ls) : List Ls := ls.filter fun x => holds p x.ad
def othL (p : Pf) (ls : List Ls) : List Ls := ls.filter fun x => !holds p x.ad
def awayB (p : Pf) (ls : List Ls) (who : ByteArray) : Bool := match firstF (whoP who) ls with | some i => (match ls[i]? with | some x => !holds p x.ad | none => false) | none => false
def grantR (p : Pf) (kp : List Ad) (ls : List Ls) (who : ByteArray) (now ttl : Int) : List Ls × Ad × Bool × Unit := rawOf p kp (live (ownL p ls) now) who (now + ttl)
def doGrant (ps : List Pf) (ks : List (List Ad)) (ls : List Ls) (now : Int) (who : ByteArray) (k : Int) (ttl : Int) : DoV :=
 match ps[k.toNat]? with
 | none => errS 5
 | some p => if awayB p ls who = true then errS 6 else if (grantR p (ks.getD k.toNat []) ls who now ttl).2.2.1 = false then errS 8
  else if (grantR p (ks.getD k.toNat []) ls who now ttl).1.length + (othL p ls).length > 20 then errS 2
  else okS ps ks (sortL ((grantR p (ks.getD k.toNat []) ls who now ttl).1 ++ othL p ls)) now (grantR p (ks.getD k.toNat []) ls who now ttl).2.1
def doFree (ps : List Pf) (ks : List (List Ad)) (ls : List Ls) (now : Int) (who : ByteArray) : DoV :=
 match firstF (whoP who) ls with
 | none => errS 5
 | some i => (match ls[i]? with | some x => okS ps ks (ls.take i ++ ls.drop (i + 1)) now x.ad | none => errS 5)
def doTick (ps : List Pf) (ks : List (List Ad)) (ls : List Ls) (now n : Int) : DoV := if n < now then errS 4 else okS ps ks (live ls n) n noAd
def doOf (ps : List Pf) (ks : List (List Ad)) (ls : List Ls) (now : Int) (o : Oq) : DoV :=
 if formO o ≠ 0 then errS (formO o)
 else if o.kind = 1 then doPool ps ks ls now o.pf
 else if o.kind = 2 then doKeep ps ks ls now o.ad
 else if o.kind = 3 then doGrant ps ks ls now o.who o.of_ o.n
 else if o.kind = 4 then doFree ps ks ls now o.who
 else doTick ps ks ls now o.n
theorem form_pool {o : Oq} (h : formO o = 0) (hk : o.kind = 1) : chkP o.pf = 0 ∧ ((wid o.pf.ad.v6 : Nat) : Int) - o.pf.bits ≤ 4 := by
 unfold formO at h
 split at h
 ·cases h
 split at h
 ·cases h
 split at h
 ·rename_i h1; exact absurd h h1
 rename_i h1
 split at h
 ·rename_i h2; exact ⟨Decidable.not_not.1 h1, h2⟩
 ·cases h
theorem form_keep {o : Oq} (h : formO o = 0) (hk : o.kind = 2) : chkA o.ad = 0 := by
 unfold formO at h
 split at h
 ·cases h
 split at h
 ·cases h
 rwa [if_neg (by omega)] at h
theorem form_kind {o : Oq} (h : formO o = 0) : 1 ≤ o.kind ∧ o.kind ≤ 5 := by
 unfold formO at h
 split at h
 ·cases h
 rename_i hk
 exact betw_iff.1 (by simpa using hk)
theorem form_who {o : Oq} (h : formO o = 0) (hk : o.kind = 3 ∨ o.kind = 4) : whoOk o.who = true := by
 unfold formO at h
 split at h
 ·cases h
 split at h
 ·cases h
 rw [if_neg (by omega), if_neg (by omega)] at h
 split at h
 ·cases h
 rename_i h1
 have : o.kind < 5 := by omega
 cases hw : whoOk o.who
 ·exact absurd ⟨this, hw⟩ h1
 ·rfl
theorem form_grant {o : Oq} (h : formO o = 0) (hk : o.kind = 3) : betw o.of_ 0 2 = true ∧ betw o.n 1 500 = true := by
 unfold formO at h
 split at h
 ·cases h
 split at h
 ·cases h
 rw [if_neg (by omega), if_neg (by omega)] at h
 split at h
 ·cases h
 split at h
 ·cases h
 rename_i h2
 cases h1 : betw o.of_ 0 2
 ·exact absurd ⟨hk, .inl h1⟩ h2
 ·cases h3 : betw o.n 1 500
  ·exact absurd ⟨hk, .inr h3⟩ h2
  ·exact ⟨rfl, rfl⟩
theorem form_tick {o : Oq} (h : formO o = 0) (hk : o.kind = 5) : betw o.n 0 9999 = true := by
 unfold formO at h
 split at h
 ·cases h
 split at h
 ·cases h
 rw [if_neg (by omega), if_neg (by omega)] at h
 split at h
 ·cases h
 split at h
 ·cases h
 split at h
 ·cases h
 rename_i h2
 cases h1 : betw o.n 0 9999
 ·exact absurd ⟨hk, h1⟩ h2
 ·rfl
theorem tw_iff {α : Type} {q : α → Bool} : ∀ {l : List α}, (l.Pairwise fun x y => q y = true → q x = true) → ∀ {i : Nat} {x : α}, l[i]? = some x → (q x = true ↔ i < (l.takeWhile q).length)
 | [], _, i, x, h => by simp at h
 | y :: r, hp, i, x, h => by
  obtain ⟨h1, h2⟩ := List.pairwise_cons.1 hp
  rw [List.takeWhile_cons]
  cases hq : q y
  ·simp only [Bool.false_eq_true, if_false, List.length_nil, Nat.not_lt_zero, iff_false, Bool.not_eq_true]
   match i with
   | 0 =>
    simp only [List.getElem?_cons_zero, Option.some.injEq] at h
    rw [← h]; exact hq
   | i + 1 =>
    rw [List.getElem?_cons_succ] at h
    cases hx : q x
    ·rfl
    ·rw [h1 x (List.mem_of_getElem? h) hx] at hq; cases hq
  ·simp only [if_true, List.length_cons]
   match i with
   | 0 =>
    simp only [List.getElem?_cons_zero, Option.some.injEq] at h
    rw [← h, hq]; simp
   | i + 1 =>
    rw [List.getElem?_cons_succ] at h
    rw [tw_iff h2 h]; omega
theorem tw_le {α : Type} (q : α → Bool) (l : List α) : (l.takeWhile q).length ≤ l.length := (List.takeWhile_sublist q).length_le
theorem posP_iff {ps : List Pf} (h : ps.Pairwise apartP) (p : Pf) {i : Nat} {x : Pf} (hx : ps[i]? = some x) : ordP x p < 0 ↔ i < posP p ps := by
 have := tw_iff (q := fun y => decide (ordP y p < 0)) (l := ps) (h.imp fun {a b} hab hb => by
  simp only [decide_eq_true_eq] at hb ⊢
  exact ordP_trans hab.1 hb) hx
 simpa [posP] using this
theorem posP_le (p : Pf) (ps : List Pf) : posP p ps ≤ ps.length := tw_le _ _
theorem ordA_trans {a b c : Ad} (h1 : ordA a b < 0) (h2 : ordA b c < 0) : ordA a c < 0 := by
 have := (ordA_key a b).1.1 h1
 have := (ordA_key b c).1.1 h2
 exact (ordA_key a c).1.2 (by omega)
theorem posA_iff {kp : List Ad} (h : kp.Pairwise fun a b => ordA a b < 0) (p : Ad) {i : Nat} {x : Ad} (hx : kp[i]? = some x) : ordA x p < 0 ↔ i < posA p kp := by
 have := tw_iff (q := fun y => decide (ordA y p < 0)) (l := kp) (h.imp fun {a b} hab hb => by
  simp only [decide_eq_true_eq] at hb ⊢
  exact ordA_trans hab hb) hx
 simpa [posA] using this
theorem posA_le (p : Ad) (kp : List Ad) : posA p kp ≤ kp.length := tw_le _ _
theorem kept_iff {p : Pf} : ∀ (kp : List Ad) (o : Option Ad), keptF p o kp = 0 ↔ (∀ a ∈ kp, chkA a = 0 ∧ holds p a = true) ∧ (kp.Pairwise fun a b => ordA a b < 0) ∧ ∀ b, o = some b → ∀ a ∈ kp, ordA b a < 0
 | [], o => by simp [keptF]
 | x :: r, o => by
  rw [keptF]
  by_cases h1 : chkA x = 0
  rotate_left
  ·rw [if_pos h1]
   exact ⟨fun h => absurd h h1, fun h => absurd (h.1 x (by simp)).1 h1⟩
  rw [if_neg (fun h => h h1)]
  cases h2 : holds p x
  ·rw [if_pos rfl]
   refine ⟨fun h => (by cases h), fun h => ?_⟩
   rw [(h.1 x (by simp)).2] at h2; cases h2
  rw [if_neg (by simp)]
  by_cases h3 : backB o x = true
  ·rw [if_pos h3]
   refine ⟨fun h => (by cases h), fun h => ?_⟩
   cases o with
   | none => cases h3
   | some b =>
    have := h.2.2 b rfl x (by simp)
    simp only [backB, decide_eq_true_eq] at h3
    omega
  ·rw [if_neg h3, kept_iff r (some x)]
   have h4 : ∀ b, o = some b → ordA b x < 0 := fun b hb => by
    subst hb
    simp only [backB, decide_eq_true_eq] at h3
    omega
   constructor
   ·rintro ⟨g1, g2, g3⟩
    refine ⟨fun a ha => ?_, List.pairwise_cons.2 ⟨fun a ha => g3 x rfl a ha, g2⟩, fun b hb a ha => ?_⟩
    ·rcases List.mem_cons.1 ha with rfl | ha
     ·exact ⟨h1, h2⟩
     ·exact g1 a ha
    ·rcases List.mem_cons.1 ha with rfl | ha
     ·exact h4 b hb
     ·exact ordA_trans (h4 b hb) (g3 x rfl a ha)
   ·rintro ⟨g1, g2, g3⟩
    obtain ⟨k1, k2⟩ := List.pairwise_cons.1 g2
    exact ⟨fun a ha => g1 a (List.mem_cons_of_mem _ ha), k2, fun b hb a ha => by injection hb with hb; subst hb; exact k1 a ha⟩
theorem chkPool_iff {p : Pf} {kp : List Ad} : chkPool p kp = 0 ↔ chkP p = 0 ∧ ((wid p.ad.v6 : Nat) : Int) - p.bits ≤ 4 ∧ kp.length ≤ 6 ∧ (∀ a ∈ kp, chkA a = 0 ∧ holds p a = true) ∧ kp.Pairwise fun a b => ordA a b < 0 := by
 unfold chkPool
 by_cases h1 : chkP p = 0
 rotate_left
 ·rw [if_pos h1]
  exact ⟨fun h => absurd h h1, fun h => absurd h.1 h1⟩
 rw [if_neg (fun h => h h1)]
 by_cases h2 : ((wid p.ad.v6 : Nat) : Int) - p.bits ≤ 4 ∧ kp.length ≤ 6
 ·rw [if_neg (by omega), kept_iff]
  constructor
  ·rintro ⟨g1, g2, _⟩; exact ⟨h1, h2.1, h2.2, g1, g2⟩
  ·rintro ⟨_, _, _, g1, g2⟩; exact ⟨g1, g2, fun b hb => by cases hb⟩
 ·rw [if_pos (by omega)]
  exact ⟨fun h => (by cases h), fun h => absurd ⟨h.2.1, h.2.2.1⟩ h2⟩
end Go.Ma
