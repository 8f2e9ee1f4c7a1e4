/-
  Parts: MaT Pl Pc Pw Pf Po La Pv Lb He Pm Lc Ld Le.
-/
import Derived.Test.YtjncjiegmnicbabGreatVc2
set_option linter.unusedVariables false
set_option linter.unusedSimpArgs false
namespace Go.Ma
open Go Go.RowKit
def takeA (args : List SV) (m : Mem) : Option (Bool × List SV × Mem) :=
 match args with
 | .inn jb i :: r => (takeM m jb i).map fun m' => (decide (0 ≤ i), .row (m.length + 1) :: r, m')
 | _ => none
def takeCon (g : Con) : Con :=
 {tr := fun X args m k => match takeA args m with
   | some (c, args', m') => req c (g.tr X args' m' k)
   | none => g.tr X args m k
  q := false, law := false, det := g.det }
theorem takeCon_ok {P : Program} {f : FuncId} {g : Con} (h : TrOk P f g) : TrOk P f (takeCon g) := by
 refine ⟨fun W hG X args m k x hk hany => ⟨fun hlt ρ w hm => ?_⟩, (fun hq => by cases hq), fun hd X args m k x hk => ?_⟩
 ·simp only [takeCon] at hk
  cases ht : takeA args m with
  | none =>
   rw [ht] at hk
   exact (h.1 W hG X args m k x hk hany).call hlt ρ w hm
  | some z =>
   obtain ⟨c, args', m'⟩ := z
   rw [ht] at hk
   simp only at hk
   obtain ⟨hc, hk2⟩ := req_some hk
   clear hk
   unfold takeA at ht
   split at ht
   ·rename_i jb i r
    obtain ⟨m2, hm2, he⟩ := Option.map_eq_some_iff.1 ht
    simp only [Prod.mk.injEq] at he
    obtain ⟨rfl, rfl, rfl⟩ := he
    obtain ⟨ρ1, h1, h2, h3, h4⟩ := take_ok hm (by simpa using hc) hm2
    simp only [ltL, Bool.and_eq_true] at hlt
    have hcall := (h.1 W hG X _ m2 k x hk2 (by simpa [SV.isAny] using hany)).call (by
     simp only [ltL, Bool.and_eq_true, SV.lt, decide_eq_true_eq]
     exact ⟨by omega, ltL_mono (by omega) r hlt.2⟩) ρ1 w h1
    have hden : denL ρ1 (.row (m.length + 1) :: r) = denL ρ (.inn jb i :: r) := by
     simp only [denL]
     rw [h4, denL_agree h2 r hlt.2]
    rw [hden] at hcall
    refine hcall.mono ?_
    rintro e w' ⟨ρ', r', m', rfl, hm', hag, hle, hrl, hk'⟩
    exact ⟨ρ', r', m', rfl, hm', h2.trans hag (by omega), by omega, hrl, hk'⟩
   ·cases ht
 ·simp only [takeCon] at hk ⊢
  cases ht : takeA args m with
  | none =>
   rw [ht] at hk
   obtain ⟨r, m', h1, h2, _⟩ := h.2.2 hd X args m k x hk
   exact ⟨r, m', h1, h2, fun hl => by cases hl⟩
  | some z =>
   obtain ⟨c, args', m'⟩ := z
   rw [ht] at hk
   simp only at hk ⊢
   obtain ⟨hc, hk⟩ := req_some hk
   obtain ⟨r, m2, h1, h2, _⟩ := h.2.2 hd X args' m' k x hk
   exact ⟨r, m2, by rw [hc]; exact h1, h2, fun hl => by cases hl⟩
def delL {α : Type} (l : List α) (a b : Int) : List α := l.take a.toNat ++ l.drop b.toNat
def delArgs (k : K) (e : TypeId) (args : List SV) (m : Mem) : Option (Nat × List k.T × Int × Int) :=
 match args with
 | [.row j, .i .i64 a, .i .i64 b] => (match m[j]? with | some (.row (.ty k1 l) bt true) => if h : k1 = k then (if bt == e then some (j, castL h l, a, b) else none) else none | _ => none)
 | _ => none
def delCon (k : K) (e : TypeId) : Con :=
 {tr := fun _ args m kk => match delArgs k e args m with
   | some (j, l, a, b) => req (decide (0 ≤ a) && decide (a ≤ b) && decide (b ≤ lenL l)) (kk (.row m.length) (m.set j (.dead none) ++ [.row (.ty k (delL l a b)) e true]))
   | none => none
  q := false, law := false, det := true }
theorem delArgs_ok {k : K} {e : TypeId} {args : List SV} {m : Mem} {j : Nat} {l : List k.T} {a b : Int} (h : delArgs k e args m = some (j, l, a, b)) : args = [.row j, .i .i64 a, .i .i64 b] ∧ m[j]? = some (.row (.ty k l) e true) := by
 unfold delArgs at h
 split at h
 ·split at h
  ·rename_i hj
   split at h
   ·rename_i hk
    subst hk
    split at h
    ·rename_i hb
     simp only [beq_iff_eq] at hb
     subst hb
     simp only [Option.some.injEq, Prod.mk.injEq] at h
     obtain ⟨rfl, rfl, rfl, rfl⟩ := h
     exact ⟨rfl, hj⟩
    ·cases h
   ·cases h
  ·cases h
 ·cases h
theorem del_ok {P : Program} {f : FuncId} (k : K) (e : TypeId)
  (h : ∀ (base : Nat) (w : World) (v : Value) (n i j : Nat) (cs : List Value), w.ownsRow base e k.sz v n cs → (∀ x ∈ cs, oneC x = true) → base ≤ w.heap.size → i ≤ j → j ≤ n →
   Calls P f #[v, .int .i64 (i : Int), .int .i64 (j : Int)] w fun r w' => ∃ v', r = .returned v' ∧ w'.ownsRow base e k.sz v' (n - (j - i)) (cs.take (i * k.sz) ++ cs.drop (j * k.sz)) ∧ w.grownBy w' v.ownBlock ∧ (∀ b, v'.ownBlock = some b → v.ownBlock = some b ∨ w.heap.size ≤ b)) : TrOk P f (delCon k e) := by
 have inv : ∀ {X : Type} {args : List SV} {m : Mem} {kk : SV → Mem → Option X} {x : X}, (delCon k e).tr X args m kk = some x → ∃ (j : Nat) (l : List k.T) (a b : Int), delArgs k e args m = some (j, l, a, b) ∧ 0 ≤ a ∧ a ≤ b ∧ b ≤ lenL l ∧ kk (.row m.length) (m.set j (.dead none) ++ [.row (.ty k (delL l a b)) e true]) = some x := by
  intro X args m kk x hk
  simp only [delCon] at hk
  split at hk
  ·rename_i j l a b ha
   obtain ⟨h1, h2⟩ := req_some hk
   simp only [Bool.and_eq_true, decide_eq_true_eq] at h1
   exact ⟨j, l, a, b, ha, h1.1.1, h1.1.2, h1.2, h2⟩
  ·cases hk
 refine ⟨fun W _ X args m kk x hk _ => ⟨fun _ ρ w hm => ?_⟩, (fun hq => by cases hq), fun _ X args m kk x hk => ?_⟩
 ·obtain ⟨j, l, a, b, ha, h0, hab, hbl, hk2⟩ := inv hk
  clear hk
  obtain ⟨rfl, hj⟩ := delArgs_ok ha
  obtain ⟨_, hc1, ho1⟩ := hm.obj j _ hj
  rw [if_pos rfl] at ho1
  have hd1 : den ρ (.row j) = ρ j := row_val hm hj
  have e1 : ((a.toNat : Nat) : Int) = a := Int.toNat_of_nonneg h0
  have e2 : ((b.toNat : Nat) : Int) = b := Int.toNat_of_nonneg (by omega)
  have hbn : b.toNat ≤ l.length := by unfold lenL at hbl; omega
  have := h W.heap.size w (ρ j) l.length a.toNat b.toNat _ ho1 hc1 hm.below.size (by omega) hbn
  rw [e1, e2] at this
  have ed : (denL ρ [.row j, .i .i64 a, .i .i64 b]).toArray = #[ρ j, .int .i64 a, .int .i64 b] := by
   show #[den ρ (.row j), .int .i64 a, .int .i64 b] = _
   rw [hd1]
  rw [ed]
  refine this.mono ?_
  rintro r w' ⟨v', rfl, hown, hgb, hblk⟩
  have hcells : (C.ty k l).den ρ = l.flatMap fun a => denL ρ (k.enc a) := rfl
  rw [hcells] at hown
  have hfl : (l.flatMap fun a => denL ρ (k.enc a)).take (a.toNat * k.sz) ++ (l.flatMap fun a => denL ρ (k.enc a)).drop (b.toNat * k.sz) = (delL l a b).flatMap fun a => denL ρ (k.enc a) := by
   unfold delL
   rw [← flat_take, ← flat_drop, List.flatMap_append]
  rw [hfl] at hown
  have hlen : (delL l a b).length = l.length - (b.toNat - a.toNat) := by unfold delL; simp; omega
  rw [← hlen] at hown
  obtain ⟨hm', hv⟩ := hm.replaced hj (l := delL l a b) hown hgb hblk
  exact ⟨upd ρ m.length v', .row m.length, _, congrArg Ending.returned hv, hm', upd_agree _ _ _, by simp, fun _ => by simp [SV.lt], hk2⟩
 ·obtain ⟨j, l, a, b, ha, h0, hab, hbl, hk⟩ := inv hk
  refine ⟨.row m.length, _, ?_, hk, fun hl => by cases hl⟩
  simp only [delCon, ha]
  rw [show (decide (0 ≤ a) && decide (a ≤ b) && decide (b ≤ lenL l)) = true by simp [h0, hab, hbl]]
  rfl
def ownNst (m : Mem) (hk ik : K) (e ity : TypeId) (j : Nat) : Option (List hk.T × List (List ik.T) × Nat) :=
 match m[j]? with
 | some (.row (.nest hk' l jb) ty true) =>
  (match m[jb]? with
  | some (.bag ik' ls ity' true _) => if h : hk' = hk ∧ ik' = ik then (if ty == e && ity' == ity then some (castL h.1 l, castLL h.2 ls, jb) else none) else none
  | _ => none)
 | _ => none
theorem ownNst_ok {m : Mem} {hk ik : K} {e ity : TypeId} {j : Nat} {l : List hk.T} {ls : List (List ik.T)} {jb : Nat} (h : ownNst m hk ik e ity j = some (l, ls, jb)) : ∃ fr, m[j]? = some (.row (.nest hk l jb) e true) ∧ m[jb]? = some (.bag ik ls ity true fr) := by
 unfold ownNst at h
 split at h
 ·rename_i hj
  split at h
  ·rename_i hjb
   split at h
   ·rename_i hh
    obtain ⟨h1, h2⟩ := hh
    subst h1 h2
    split at h
    ·rename_i hc
     simp only [Bool.and_eq_true, beq_iff_eq] at hc
     obtain ⟨rfl, rfl⟩ := hc
     simp only [Option.some.injEq, Prod.mk.injEq] at h
     obtain ⟨rfl, rfl, rfl⟩ := h
     exact ⟨_, hj, hjb⟩
    ·cases h
   ·cases h
  ·cases h
 ·cases h
def insNArgs (hk ik : K) (e ity : TypeId) (args : List SV) (m : Mem) : Option (Nat × List hk.T × List (List ik.T) × Nat × Int × hk.T × List ik.T × Nat) :=
 match args with
 | [.row j, .i .i64 n, .row jv] =>
  (match ownNst m hk ik e ity j, ownNst m hk ik e ity jv with
  | some (l, ls, ja), some ([x], [y], jb) => if j != jv && ja != jb then some (j, l, ls, ja, n, x, y, jb) else none
  | _, _ => none)
 | _ => none
def insNMem (hk ik : K) (e ity : TypeId) (m : Mem) (j : Nat) (l : List hk.T) (ls : List (List ik.T)) (ja : Nat) (n : Int) (x : hk.T) (y : List ik.T) (jb : Nat) : Mem :=
 killO (goneL true [ja, jb] m ++ [.bag ik (insL (padL l.length ls) n y) ity true true]) (some j) ++ [.row (.nest hk (insL l n x) m.length) e true]
def insNCon (hk ik : K) (e ity : TypeId) : Con :=
 {tr := fun _ args m kk => match insNArgs hk ik e ity args m with
   | some (j, l, ls, ja, n, x, y, jb) => req (decide (0 ≤ n) && decide (n ≤ lenL l) && room (lenL l) 1) (kk (.row (m.length + 1)) (insNMem hk ik e ity m j l ls ja n x y jb))
   | none => none
  q := false, law := false, det := true }
theorem ins_get {α : Type} {l : List α} {n : Nat} (hn : n ≤ l.length) (x : α) (i : Nat) : (l.take n ++ x :: l.drop n)[i]? = if i < n then l[i]? else if i = n then some x else l[i - 1]? := by
 by_cases h1 : i < n
 ·rw [if_pos h1, List.getElem?_append_left (by simp; omega), List.getElem?_take, if_pos h1]
 ·rw [if_neg h1, List.getElem?_append_right (by simp; omega), List.length_take, Nat.min_eq_left hn]
  by_cases h2 : i = n
  ·rw [if_pos h2, h2]; simp
  ·rw [if_neg h2, show i - n = (i - n - 1) + 1 by omega, List.getElem?_cons_succ, List.getElem?_drop]
   congr 1
   omega
theorem insN_ok {P : Program} {f : FuncId} (hk ik : K) (e ity : TypeId)
  (h : ∀ (base : Nat) (w : World) (v u : Value) (n i : Nat) (cs xs : List Value), w.ownsRow base e (hk.sz + 1) v n cs → w.ownsRow base e (hk.sz + 1) u 1 xs → (∀ b, v.ownBlock = some b → u.ownBlock ≠ some b) → (∀ x ∈ cs, oneC x = true) → (∀ x ∈ xs, oneC x = true) → base ≤ w.heap.size → i ≤ n → n + 1 ≤ 274877906944 →
   Calls P f #[v, .int .i64 (i : Int), u] w fun r w' => ∃ v', r = .returned v' ∧ w'.ownsRow base e (hk.sz + 1) v' (n + 1) (cs.take (i * (hk.sz + 1)) ++ xs ++ cs.drop (i * (hk.sz + 1))) ∧ w.grownBy w' v.ownBlock ∧ (∀ b, v'.ownBlock = some b → v.ownBlock = some b ∨ w.heap.size ≤ b)) : TrOk P f (insNCon hk ik e ity) := by
 have inv : ∀ {X : Type} {args : List SV} {m : Mem} {kk : SV → Mem → Option X} {z : X}, (insNCon hk ik e ity).tr X args m kk = some z → ∃ (j jv : Nat) (l : List hk.T) (ls : List (List ik.T)) (ja : Nat) (n : Int) (x : hk.T) (y : List ik.T) (jb : Nat), args = [.row j, .i .i64 n, .row jv] ∧ ownNst m hk ik e ity j = some (l, ls, ja) ∧ ownNst m hk ik e ity jv = some ([x], [y], jb) ∧ j ≠ jv ∧ ja ≠ jb ∧ 0 ≤ n ∧ n ≤ lenL l ∧ room (lenL l) 1 = true ∧
   insNArgs hk ik e ity args m = some (j, l, ls, ja, n, x, y, jb) ∧ kk (.row (m.length + 1)) (insNMem hk ik e ity m j l ls ja n x y jb) = some z := by
  intro X args m kk z hz
  simp only [insNCon] at hz
  split at hz
  ·rename_i j l ls ja n x y jb ha
   obtain ⟨h1, h2⟩ := req_some hz
   simp only [Bool.and_eq_true, decide_eq_true_eq] at h1
   have ha0 := ha
   unfold insNArgs at ha
   split at ha
   ·rename_i j1 n1 jv1
    split at ha
    ·rename_i q1 q2
     split at ha
     ·rename_i hne
      simp only [Bool.and_eq_true, bne_iff_ne, ne_eq] at hne
      simp only [Option.some.injEq, Prod.mk.injEq] at ha
      obtain ⟨rfl, rfl, rfl, rfl, rfl, rfl, rfl, rfl⟩ := ha
      exact ⟨_, _, _, _, _, _, _, _, _, rfl, q1, q2, hne.1, hne.2, h1.1.1, h1.1.2, h1.2, ha0, h2⟩
     ·cases ha
    ·cases ha
   ·cases ha
  ·cases hz
 refine ⟨fun W _ X args m kk z hz _ => ⟨fun _ ρ w hm => ?_⟩, (fun hq => by cases hq), fun _ X args m kk z hz => ?_⟩
 ·obtain ⟨j, jv, l, ls, ja, n, x, y, jb, rfl, hA, hB, hne, hjb, h0, h1, hroom, _, hk2⟩ := inv hz
  clear hz
  obtain ⟨fa, a3, a4⟩ := ownNst_ok hA
  obtain ⟨fb, b3, b4⟩ := ownNst_ok hB
  obtain ⟨va, va1, va2, va3, va4, va5, _, va7⟩ := bag_pad hm a4
  obtain ⟨vb, vb1, vb2, _, _, _, vb6, vb7⟩ := bag_pad hm b4
  obtain ⟨u0, rfl⟩ : ∃ u0, vb = [u0] := by
   match vb, vb2 with
   | [u], _ => exact ⟨u, rfl⟩
  have hu0 := vb6 0 u0 y rfl rfl
  have hlp : (padV l.length va).length = l.length := padV_len _ _
  have hln : (padL l.length ls).length = l.length := pad_len _ _
  have hnl : n.toNat ≤ l.length := by unfold lenL at h1; omega
  have hub : ∀ b, valBlock u0 = some b → b ∈ valBlocks (ρ jb) := fun b hb => by rw [vb1]; simp [valBlocks, hb]
  have hcross : ∀ (z : Value) (b : Nat), z ∈ padV l.length va → valBlock z = some b → valBlock u0 ≠ some b := fun z b hz hb hb2 => by
   exact hm.sep ja jb _ _ hjb a4 b4 rfl rfl b ((va4 l.length z hz b).1 hb) (by rw [blocks_mut rfl]; exact hub b hb2)
  have hget : ∀ (p : Nat) (z : Value), (insL (padV l.length va) n u0)[p]? = some z → (p < n.toNat ∧ (padV l.length va)[p]? = some z) ∨ (p = n.toNat ∧ z = u0) ∨ (n.toNat < p ∧ (padV l.length va)[p - 1]? = some z) := fun p z hz => by
   unfold insL at hz
   rw [ins_get (by omega)] at hz
   split at hz
   ·exact .inl ⟨by assumption, hz⟩
   ·split at hz
    ·injection hz with hz; exact .inr (.inl ⟨by assumption, hz.symm⟩)
    ·exact .inr (.inr ⟨by omega, hz⟩)
  have hmem : ∀ z, z ∈ insL (padV l.length va) n u0 → z ∈ padV l.length va ∨ z = u0 := fun z hz => by
   obtain ⟨p, hp⟩ := List.mem_iff_getElem?.1 hz
   rcases hget p z hp with ⟨_, h⟩ | ⟨_, h⟩ | ⟨_, h⟩
   ·exact .inl (List.mem_of_getElem? h)
   ·exact .inr h
   ·exact .inl (List.mem_of_getElem? h)
  obtain ⟨g1, g2⟩ := hm.bagPush (k := ik) (ls := insL (padL l.length ls) n y) (ity := ity) (own := true) (fr := true) (vs := insL (padV l.length va) n u0) [ja, jb]
   (by simp [insL, hlp, hln]) (fun p z lz hp hl => by
    unfold insL at hl
    rw [ins_get (by omega)] at hl
    rcases hget p z hp with ⟨h, hp⟩ | ⟨rfl, rfl⟩ | ⟨h, hp⟩
    ·rw [if_pos h] at hl
     obtain ⟨r1, r2⟩ := va3 l.length p z lz hp hl
     exact ⟨r1, fun _ => r2 rfl⟩
    ·rw [if_neg (by omega), if_pos rfl] at hl
     injection hl with hl
     subst hl
     exact ⟨hu0.1, fun _ => hu0.2 rfl⟩
    ·rw [if_neg (by omega), if_neg (by omega)] at hl
     obtain ⟨r1, r2⟩ := va3 l.length (p - 1) z lz hp hl
     exact ⟨r1, fun _ => r2 rfl⟩) (fun z hz b hb => by
    rcases hmem z hz with hz | rfl
    ·exact ⟨ja, by simp, _, a4, rfl, rd_blocks ((va4 l.length z hz b).2 hb)⟩
    ·exact ⟨jb, by simp, _, b4, rfl, by rw [blocks_mut rfl]; exact hub b (rd_val hb)⟩) (fun _ z hz b hb => by
    rcases hmem z hz with hz | rfl
    ·exact ⟨ja, by simp, _, a4, (va4 l.length z hz b).1 hb, rfl⟩
    ·exact ⟨jb, by simp, _, b4, hub b hb, rfl⟩) (fun _ p q z z' b hpq hp hq hb => by
    rcases hget p z hp with ⟨h, hp2⟩ | ⟨rfl, rfl⟩ | ⟨h, hp2⟩ <;> rcases hget q z' hq with ⟨h', hq2⟩ | ⟨rfl, rfl⟩ | ⟨h', hq2⟩
    ·exact va5 rfl l.length p q z z' b hpq hp2 hq2 hb
    ·exact hcross z b (List.mem_of_getElem? hp2) hb
    ·exact va5 rfl l.length p (q - 1) z z' b (by omega) hp2 hq2 hb
    ·exact fun hb2 => hcross z' b (List.mem_of_getElem? hq2) hb2 hb
    ·exact absurd rfl hpq
    ·exact fun hb2 => hcross z' b (List.mem_of_getElem? hq2) hb2 hb
    ·exact va5 rfl l.length (p - 1) q z z' b (by omega) hp2 hq2 hb
    ·exact hcross z b (List.mem_of_getElem? hp2) hb
    ·exact va5 rfl l.length (p - 1) (q - 1) z z' b (by omega) hp2 hq2 hb) (fun _ z hz b hb => by
    rcases hmem z hz with hz | rfl
    ·exact (va7 rfl).2 l.length z hz b hb
    ·exact (vb7 rfl).1 _ (by simp) b hb)
  obtain ⟨_, hgl, _, _, _, hkeep⟩ := goneL_spec true [ja, jb] hm
  have hag := upd_agree ρ m.length (.tuple (insL (padV l.length va) n u0).toArray)
  -- the call
  obtain ⟨_, hc1, ho1⟩ := hm.obj j _ a3
  obtain ⟨_, hc2, ho2⟩ := hm.obj jv _ b3
  rw [if_pos rfl] at ho1 ho2
  have hd1 : den ρ (.row j) = ρ j := row_val hm a3
  have hd2 : den ρ (.row jv) = ρ jv := row_val hm b3
  have e1 : ((n.toNat : Nat) : Int) = n := Int.toNat_of_nonneg h0
  have hro : l.length + 1 ≤ 274877906944 := by
   have := Nat.le_of_ble_eq_true hroom
   simpa [lenL] using this
  have hjow : ∀ (q : Nat) (b : Nat), (ρ q).ownBlock = some b → b ∈ valBlocks (ρ q) := by
   intro q b hb
   refine mem_blocks ?_
   revert hb
   cases ρ q <;> simp [Value.ownBlock, valBlock]
   rename_i A1 _ _
   cases A1 <;> simp
  have := h W.heap.size w (ρ j) (ρ jv) l.length n.toNat _ _ ho1 ho2 (fun b hb hb' => hm.sep j jv _ _ hne a3 b3 rfl rfl b (hjow j b hb) (by rw [blocks_mut rfl]; exact hjow jv b hb')) hc1 hc2 hm.below.size hnl hro
  rw [e1] at this
  have ed : (denL ρ [.row j, .i .i64 n, .row jv]).toArray = #[ρ j, .int .i64 n, ρ jv] := by
   show #[den ρ (.row j), .int .i64 n, den ρ (.row jv)] = _
   rw [hd1, hd2]
  rw [ed]
  refine this.mono ?_
  rintro r w' ⟨v', rfl, hown, hgb, hblk⟩
  have hjl : j < m.length := (List.getElem?_eq_some_iff.1 a3).1
  have hjn : j ∉ [ja, jb] := by
   simp only [List.mem_cons, List.not_mem_nil, or_false, not_or]
   exact ⟨(fun e => by rw [e, a4] at a3; cases a3), (fun e => by rw [e, b4] at a3; cases a3)⟩
  have hm1j : (goneL true [ja, jb] m ++ [Obj.bag ik (insL (padL l.length ls) n y) ity true true])[j]? = some (.row (.nest hk l ja) e true) := by
   rw [List.getElem?_append_left (by rw [hgl]; exact hjl), hkeep j hjn, a3]
  have hIl : (insL l n x).length = l.length + 1 := by unfold insL; simp; omega
  have hden : nestDen (upd ρ m.length (.tuple (insL (padV l.length va) n u0).toArray)) hk (.tuple (insL (padV l.length va) n u0).toArray) (insL l n x) 0 = ((C.nest hk l ja).den ρ).take (n.toNat * (hk.sz + 1)) ++ (C.nest hk [x] jb).den ρ ++ ((C.nest hk l ja).den ρ).drop (n.toNat * (hk.sz + 1)) := by
   have hsplit : (C.nest hk l ja).den ρ = nestDen ρ hk (ρ ja) (l.take n.toNat) 0 ++ nestDen ρ hk (ρ ja) (l.drop n.toNat) n.toNat := by
    simp only [C.den]
    conv => lhs; rw [← List.take_append_drop n.toNat l]
    rw [nestDen_app, Nat.zero_add, List.length_take, Nat.min_eq_left hnl]
   have hlt : (nestDen ρ hk (ρ ja) (l.take n.toNat) 0).length = n.toNat * (hk.sz + 1) := by rw [nest_len, List.length_take, Nat.min_eq_left hnl]
   rw [hsplit, List.take_left' hlt, List.drop_left' hlt, nestDen_enc ρ]
   unfold insL
   rw [nestDen_app, Nat.zero_add, List.length_take, Nat.min_eq_left hnl, nestDen, List.append_assoc]
   have hin : ∀ p : Nat, innV (.tuple ((padV l.length va).take n.toNat ++ u0 :: (padV l.length va).drop n.toNat).toArray) (p : Int) = sliceVal ((if p < n.toNat then (padV l.length va)[p]? else if p = n.toNat then some u0 else (padV l.length va)[p - 1]?).getD (.slice none 0 0)) := fun p => by
    rw [innV_tup, List.getD_eq_getElem?_getD, ins_get (by omega)]
   have hia : ∀ p : Nat, p < l.length → innV (ρ ja) (p : Int) = sliceVal (((padV l.length va)[p]?).getD (.slice none 0 0)) := fun p hp => by
    rw [va1, innV_tup, padV_get, if_pos hp]; rfl
   congr 1
   ·refine nestDen_congr _ _ _ _ _ _ _ fun p hp => ?_
    have hp : p < n.toNat := by simp at hp; omega
    rw [Nat.zero_add, hin, if_pos hp, hia p (by omega)]
   ·simp only [C.den, nestDen]
    rw [hin, if_neg (by omega), if_pos rfl, vb1, show ((0 : Nat) : Int) = ((0 : Nat) : Int) from rfl, innV_tup]
    simp only [Option.getD_some, List.getD_cons_zero, List.append_assoc, List.cons_append, List.nil_append]
    congr 2
    refine nestDen_congr _ _ _ _ _ _ _ fun p hp => ?_
    have hp : n.toNat + p < l.length := by simp at hp; omega
    rw [hin, if_neg (by omega), if_neg (by omega), hia _ hp, show n.toNat + 1 + p - 1 = n.toNat + p by omega]
  obtain ⟨hrel, A', c', hv'⟩ := g1.grow (j := some j) (xv := ρ j) (d := .nest hk (insL l n x) m.length) (e := e) (.inr ⟨j, _, rfl, by rw [hag j hjl], hm1j⟩) ho1 hgb hblk (by simp [C.sz]) (by simp [C.lt, g2])
   (fun u hu => by simp only [C.den, upd_same] at hu; exact nest_one _ _ _ _ _ u hu) (by
    simp only [C.den, upd_same, hden, C.n, C.sz, hIl]
    exact hown)
  have hlen : (killO (goneL true [ja, jb] m ++ [Obj.bag ik (insL (padL l.length ls) n y) ity true true]) (some j)).length = m.length + 1 := by simp [killO, g2]
  refine ⟨_, .row (m.length + 1), _, ?_, hrel, hag.trans (upd_agree _ _ _) (by rw [g2]; omega), by simp [killO, g2]; omega, fun _ => by simp [SV.lt, killO, g2], hk2⟩
  congr 1
  rw [show (goneL true [ja, jb] m ++ [Obj.bag ik (insL (padL l.length ls) n y) ity true true]).length = m.length + 1 from g2]
  simp only [den, upd_same, hv', sliceVal]
 ·obtain ⟨j, jv, l, ls, ja, n, x, y, jb, rfl, hA, hB, hne, hjb, h0, h1, hroom, ha, hk2⟩ := inv hz
  refine ⟨.row (m.length + 1), _, ?_, hk2, fun hl => by cases hl⟩
  simp only [insNCon, ha]
  rw [show (decide (0 ≤ n) && decide (n ≤ lenL l) && room (lenL l) 1) = true by simp [h0, h1, hroom]]
  rfl
def adLt (a b : Ad) : Bool := (!a.v6 && b.v6) || (a.v6 == b.v6 && (decide (a.hi < b.hi) || (decide (a.hi = b.hi) && decide (a.lo < b.lo))))
def insS (x : Ls) : List Ls → List Ls
 | [] => [x]
 | y :: r => if adLt y.ad x.ad then y :: insS x r else x :: y :: r
def sortL : List Ls → List Ls
 | [] => []
 | x :: r => insS x (sortL r)
def apartL : List Ls → Bool
 | [] => true
 | x :: r => r.all (fun y => decide (y.ad ≠ x.ad)) && apartL r
theorem RelM.rewritten {W : World} {ρ : Nat → Value} {m : Mem} {w w' : World} (hm : RelM W ρ m w) {j : Nat} {c : C} {bt : TypeId} (hj : m[j]? = some (.row c bt true)) {k : K} {l : List k.T} {e : TypeId}
  (hown' : w'.ownsRow W.heap.size e k.sz (ρ j) l.length (l.flatMap fun a => denL ρ (k.enc a))) (hgb : w.grownBy w' (ρ j).ownBlock) : RelM W ρ (m.set j (.row (.ty k l) e true)) w' := by
 have hjl : j < m.length := (List.getElem?_eq_some_iff.1 hj).1
 have hset : ∀ (i : Nat) (x : Obj), (m.set j (.row (.ty k l) e true))[i]? = some x → (i = j ∧ x = .row (.ty k l) e true) ∨ (i ≠ j ∧ m[i]? = some x) := by
  intro i x hi
  by_cases hij : i = j
  ·subst hij
   rw [List.getElem?_set_self hjl] at hi
   injection hi with hi
   exact .inl ⟨rfl, hi.symm⟩
  ·rw [List.getElem?_set_ne (by omega)] at hi
   exact .inr ⟨hij, hi⟩
 have hjow : ∀ b, (ρ j).ownBlock = some b → b ∈ valBlocks (ρ j) := by
  intro b hb
  refine mem_blocks ?_
  revert hb
  cases ρ j <;> simp [Value.ownBlock, valBlock]
  rename_i A1 _ _
  cases A1 <;> simp
 have hbase : ∀ b, (ρ j).ownBlock = some b → W.heap.size ≤ b := by
  intro b hb
  obtain ⟨_, _, hown⟩ := hm.obj j _ hj
  rw [if_pos rfl] at hown
  rcases hown.2 with ⟨h, _⟩ | ⟨g, cp, cur, h, h2, _⟩
  ·rw [h] at hb; cases hb
  ·rw [h] at hb
   simp only [Value.ownBlock, Option.some.injEq] at hb
   omega
 refine ⟨hm.below.grown hgb hm.below.size hbase, fun i o hi => ?_, fun i q o1 o2 hiq hi hq hmu hd => ?_, fun i o hi => ?_⟩
 ·rcases hset i o hi with ⟨rfl, rfl⟩ | ⟨hne, hi⟩
  ·refine ⟨(sz_pos k : 0 < k.sz), fun u hu => flat_one' hu, ?_⟩
   rw [if_pos rfl]
   exact hown'
  ·cases hdd : o.deadB
   ·exact (hm.obj i o hi).keep (fun b hb hlt => hgb.block b hlt (fun e => hm.sep j i _ o (by omega) hj hi rfl (deadB_iff.2 hdd) b (hjow b e.symm) hb)) hgb.size
   ·exact (hm.obj i o hi).still hdd
 ·have hi' : ∃ o1', m[i]? = some o1' ∧ o1'.mutB = true := by
   rcases hset i o1 hi with ⟨rfl, rfl⟩ | ⟨hne, hi⟩
   ·exact ⟨_, hj, rfl⟩
   ·exact ⟨_, hi, hmu⟩
  have hq' : ∃ o2', m[q]? = some o2' ∧ (o2' matches .dead _) = false ∧ o2.blocks = o2'.blocks := by
   rcases hset q o2 hq with ⟨rfl, rfl⟩ | ⟨hne, hq⟩
   ·exact ⟨_, hj, rfl, rfl⟩
   ·exact ⟨_, hq, hd, rfl⟩
  obtain ⟨o1', hi', hm'⟩ := hi'
  obtain ⟨o2', hq', hd', hbl⟩ := hq'
  rw [hbl]
  exact hm.sep i q o1' o2' hiq hi' hq' hm' hd'
 ·rw [List.length_set]
  rcases hset i o hi with ⟨rfl, rfl⟩ | ⟨_, hi⟩
  ·rfl
  ·exact hm.lt i o hi
def sortArgs (k : K) (e : TypeId) (g : FuncId) (args : List SV) (m : Mem) : Option (Nat × List k.T) :=
 match args with
 | [.row j, .fn g' []] => (match m[j]? with | some (.row (.ty k1 l) bt true) => if h : k1 = k then (if bt == e && g' == g then some (j, castL h l) else none) else none | _ => none)
 | _ => none
def sortCon (k : K) (ok : List k.T → Bool) (srt : List k.T → List k.T) (e : TypeId) (g : FuncId) : Con :=
 {tr := fun _ args m kk => match sortArgs k e g args m with
   | some (j, l) => req (ok l) (kk (.tup []) (m.set j (.row (.ty k (srt l)) e true)))
   | none => none
  q := false, law := false, det := true }
theorem sortArgs_ok {k : K} {e : TypeId} {g : FuncId} {args : List SV} {m : Mem} {j : Nat} {l : List k.T} (h : sortArgs k e g args m = some (j, l)) : args = [.row j, .fn g []] ∧ m[j]? = some (.row (.ty k l) e true) := by
 unfold sortArgs at h
 split at h
 ·split at h
  ·rename_i hj
   split at h
   ·rename_i hk
    subst hk
    split at h
    ·rename_i hc
     simp only [Bool.and_eq_true, beq_iff_eq] at hc
     obtain ⟨rfl, rfl⟩ := hc
     simp only [Option.some.injEq, Prod.mk.injEq] at h
     obtain ⟨rfl, rfl⟩ := h
     exact ⟨rfl, hj⟩
    ·cases h
   ·cases h
  ·cases h
 ·cases h
theorem sort_ok {P : Program} {f : FuncId} (k : K) (ok : List k.T → Bool) (srt : List k.T → List k.T) (e : TypeId) (g : FuncId)
  (h : ∀ (W : World), Glob P W → ∀ (base : Nat) (w : World) (v : Value) (l : List k.T) (ρ : Nat → Value), Below W.heap.size W w → w.ownsRow base e k.sz v l.length (l.flatMap fun a => denL ρ (k.enc a)) → base ≤ w.heap.size → ok l = true →
   Calls P f #[v, .func (.func g) #[] #[]] w fun r w' => r = .returned (.tuple #[]) ∧ w'.ownsRow base e k.sz v (srt l).length ((srt l).flatMap fun a => denL ρ (k.enc a)) ∧ w.grownBy w' v.ownBlock) : TrOk P f (sortCon k ok srt e g) := by
 have inv : ∀ {X : Type} {args : List SV} {m : Mem} {kk : SV → Mem → Option X} {x : X}, (sortCon k ok srt e g).tr X args m kk = some x → ∃ (j : Nat) (l : List k.T), sortArgs k e g args m = some (j, l) ∧ ok l = true ∧ kk (.tup []) (m.set j (.row (.ty k (srt l)) e true)) = some x := by
  intro X args m kk x hk
  simp only [sortCon] at hk
  split at hk
  ·rename_i j l ha
   obtain ⟨h1, h2⟩ := req_some hk
   exact ⟨j, l, ha, h1, h2⟩
  ·cases hk
 refine ⟨fun W hG X args m kk x hk _ => ⟨fun _ ρ w hm => ?_⟩, (fun hq => by cases hq), fun _ X args m kk x hk => ?_⟩
 ·obtain ⟨j, l, ha, hap, hk2⟩ := inv hk
  clear hk
  obtain ⟨rfl, hj⟩ := sortArgs_ok ha
  obtain ⟨_, hc1, ho1⟩ := hm.obj j _ hj
  rw [if_pos rfl] at ho1
  have hd1 : den ρ (.row j) = ρ j := row_val hm hj
  have ed : (denL ρ [.row j, .fn g []]).toArray = #[ρ j, .func (.func g) #[] #[]] := by
   show #[den ρ (.row j), den ρ (.fn g [])] = _
   rw [hd1]
   rfl
  rw [ed]
  refine (h W hG W.heap.size w (ρ j) l ρ hm.below ho1 hm.below.size hap).mono ?_
  rintro r w' ⟨rfl, hown, hgb⟩
  exact ⟨ρ, .tup [], _, rfl, hm.rewritten (k := k) hj hown hgb, Agree.refl _ _, by simp, fun _ => rfl, hk2⟩
 ·obtain ⟨j, l, ha, hap, hk2⟩ := inv hk
  refine ⟨.tup [], _, ?_, hk2, fun hl => by cases hl⟩
  simp only [sortCon, ha]
  rw [hap]
  rfl
def sortOkL (l : List Ls) : Bool := !l.isEmpty && (room (lenL l) 0 && apartL l)
theorem adLt_iff (a b : Ad) : adLt a b = true ↔ (a.v6 = false ∧ b.v6 = true) ∨ (a.v6 = b.v6 ∧ (a.hi < b.hi ∨ (a.hi = b.hi ∧ a.lo < b.lo))) := by
 unfold adLt
 cases a.v6 <;> cases b.v6 <;> simp
theorem adLt_not {a b : Ad} : adLt a b = false ↔ ¬ adLt a b = true := by cases adLt a b <;> simp
theorem adLt_irrefl (a : Ad) : adLt a a = false := by
 rw [adLt_not, adLt_iff]
 rintro (⟨h1, h2⟩ | ⟨_, h | ⟨_, h⟩⟩)
 ·rw [h1] at h2; cases h2
 ·omega
 ·omega
theorem adLt_trans {a b c : Ad} (h1 : adLt a b = true) (h2 : adLt b c = true) : adLt a c = true := by
 rw [adLt_iff] at *
 rcases h1 with ⟨p1, p2⟩ | ⟨p1, p2⟩ <;> rcases h2 with ⟨q1, q2⟩ | ⟨q1, q2⟩
 ·rw [p2] at q1; cases q1
 ·exact .inl ⟨p1, by rw [← q1]; exact p2⟩
 ·exact .inl ⟨by rw [p1]; exact q1, q2⟩
 ·exact .inr ⟨p1.trans q1, by omega⟩
theorem adLt_tri (a b : Ad) (h1 : adLt a b = false) (h2 : adLt b a = false) : a = b := by
 rw [adLt_not, adLt_iff] at h1 h2
 obtain ⟨av, ah, al⟩ := a
 obtain ⟨bv, bh, bl⟩ := b
 simp only at h1 h2
 have hv : av = bv := by cases av <;> cases bv <;> simp_all
 subst hv
 have e1 : ah = bh := by
  rcases Int.lt_trichotomy ah bh with h | h | h
  ·exact absurd (.inr ⟨rfl, .inl h⟩) h1
  ·exact h
  ·exact absurd (.inr ⟨rfl, .inl h⟩) h2
 subst e1
 have e2 : al = bl := by
  rcases Int.lt_trichotomy al bl with h | h | h
  ·exact absurd (.inr ⟨rfl, .inr ⟨rfl, h⟩⟩) h1
  ·exact h
  ·exact absurd (.inr ⟨rfl, .inr ⟨rfl, h⟩⟩) h2
 subst e2
 rfl
theorem adLt_ntrans {a b c : Ad} (h1 : adLt a b = false) (h2 : adLt b c = false) : adLt a c = false := by
 cases h : adLt a c
 ·rfl
 ·exfalso
  cases hb : adLt b a
  ·have := adLt_tri a b h1 hb
   subst this
   rw [h2] at h; cases h
  ·have := adLt_trans hb h
   rw [h2] at this; cases this
theorem adLt_asymm {a b : Ad} (h : adLt a b = true) : adLt b a = false := by
 cases hb : adLt b a
 ·rfl
 ·have := adLt_trans h hb
  rw [adLt_irrefl] at this; cases this
theorem insS_perm (x : Ls) : ∀ l : List Ls, (insS x l).Perm (x :: l)
 | [] => .refl _
 | y :: r => by
  unfold insS
  split
  ·exact ((insS_perm x r).cons y).trans (.swap x y r)
  ·exact .refl _
theorem sortL_perm : ∀ l : List Ls, (sortL l).Perm l
 | [] => .refl _
 | x :: r => (insS_perm x (sortL r)).trans ((sortL_perm r).cons x)
def leL (a b : Ls) : Prop := adLt b.ad a.ad = false
theorem insS_pw (x : Ls) : ∀ l : List Ls, l.Pairwise leL → (insS x l).Pairwise leL
 | [], _ => by simp [insS]
 | y :: r, h => by
  have h' := List.pairwise_cons.1 h
  unfold insS
  split
  ·rename_i hlt
   refine List.pairwise_cons.2 ⟨fun z hz => ?_, insS_pw x r h'.2⟩
   rcases List.mem_cons.1 ((insS_perm x r).mem_iff.1 hz) with rfl | hz
   ·exact adLt_asymm hlt
   ·exact h'.1 z hz
  ·rename_i hlt
   have hyx : adLt y.ad x.ad = false := by simpa using hlt
   refine List.pairwise_cons.2 ⟨fun z hz => ?_, h⟩
   rcases List.mem_cons.1 hz with rfl | hz
   ·exact hyx
   ·exact adLt_ntrans (h'.1 z hz) hyx
theorem sortL_pw : ∀ l : List Ls, (sortL l).Pairwise leL
 | [] => .nil
 | x :: r => insS_pw x _ (sortL_pw r)
theorem apart_eq : ∀ {l : List Ls}, apartL l = true → ∀ {a b : Ls}, a ∈ l → b ∈ l → a.ad = b.ad → a = b
 | [], _, _, _, h, _, _ => by cases h
 | x :: r, hap, a, b, ha, hb, he => by
  simp only [apartL, Bool.and_eq_true, List.all_eq_true, decide_eq_true_eq] at hap
  rcases List.mem_cons.1 ha with ea | ha' <;> rcases List.mem_cons.1 hb with eb | hb'
  ·rw [ea, eb]
  ·exact absurd (by rw [← he, ea]) (hap.1 b hb')
  ·exact absurd (by rw [he, eb]) (hap.1 a ha')
  ·exact apart_eq hap.2 ha' hb' he
theorem sort_uniq {l l' : List Ls} (hp : l'.Perm l) (hs : l'.Pairwise leL) (hap : apartL l = true) : l' = sortL l :=
 List.Perm.eq_of_pairwise (le := leL) (fun _ _ ha hb h1 h2 => apart_eq hap (hp.mem_iff.1 ha) ((sortL_perm l).mem_iff.1 hb) (adLt_tri _ _ h2 h1)) hs (sortL_pw l) (hp.trans (sortL_perm l).symm)
end Go.Ma
namespace Go.Ma
open Go
noncomputable def zq22 (a0 : Int) (a1 : Int) (a2 : Int) : Option (Bool × Unit) :=
 (br (decide (a0 ≥ a1))
   (some (decide (a0 ≤ a2)))
   (some false)).bind fun c1 =>
 some (c1, ())
noncomputable def fence_within_t (a0 : Int) (a1 : Int) (a2 : Int) : Option (Bool × Unit) :=
 (br (decide (a0 ≥ a1))
   (some (decide (a0 ≤ a2)))
   (some false)).bind fun c1 =>
 some (c1, ())
noncomputable def log_epoch_t (a0 : Int) : Option (Bool × Unit) :=
 (br (decide (a0 ≥ 1))
   (some (decide (a0 ≤ 999)))
   (some false)).bind fun c1 =>
 some (c1, ())
noncomputable def state_within_t (a0 : Int) (a1 : Int) (a2 : Int) : Option (Bool × Unit) :=
 (br (decide (a0 ≥ a1))
   (some (decide (a0 ≤ a2)))
   (some false)).bind fun c1 =>
 some (c1, ())
noncomputable def state_extra_t (a0 : Oq) : Option (Bool × Unit) :=
 (br (!decide (a0.kind = 1))
   (some (!(eqPf a0.pf (⟨(⟨false, 0, 0⟩ : Ad), 0⟩ : Pf))))
   (some false)).bind fun c1 =>
 (br c1
   (some true)
   (br (!decide (a0.kind = 2))
    (some (!(eqAd a0.ad (⟨false, 0, 0⟩ : Ad))))
    (some false))).bind fun c2 =>
 (br c2
   (some true)
   (br (!decide (a0.kind = 3))
    (br (!decide (a0.kind = 4))
     (some (strcmp .neq a0.who (ByteArray.empty)))
     (some false))
    (some false))).bind fun c3 =>
 (br c3
   (some true)
   (br (!decide (a0.kind = 3))
    (some (!decide (a0.of_ = 0)))
    (some false))).bind fun c4 =>
 (br c4
   (some true)
   (br (!decide (a0.kind = 3))
    (br (!decide (a0.kind = 5))
     (some (!decide (a0.n = 0)))
     (some false))
    (some false))).bind fun c5 =>
 some (c5, ())
noncomputable def addr_Check_t (a0 : Ad) : Option (Int × Unit) :=
 (br (!a0.v6)
   (br (!decide (a0.hi = 0))
    (some true)
    (some (decide (a0.lo ≥ 4294967296))))
   (some false)).bind fun c1 =>
 br c1
  (some (3, ()))
  (some (0, ()))
noncomputable def prefix_Wide_t (a0 : Ad) : Option (Int × Unit) :=
 br a0.v6
  (some (128, ()))
  (some (32, ()))
noncomputable def prefix_mask_t (a0 : Ad) (a1 : Int) : Option (Ad × Unit) :=
 (prefix_Wide_t a0).bind fun y1 =>
 req (i64ok (y1.1 - a1)) <|
 br (decide (y1.1 - a1 < 64))
  (req (decide (0 ≤ y1.1 - a1)) <|
  br (decide (y1.1 - a1 > 64))
   (br (decide (y1.1 - a1 < 128))
    (req (i64ok ((y1.1 - a1) - 64)) <|
    req (decide (0 ≤ (y1.1 - a1) - 64)) <|
    some ((⟨a0.v6, aop .sub .u64 (aop .shl .u64 1 ((y1.1 - a1) - 64)) 1, aop .sub .u64 (aop .shl .u64 1 (y1.1 - a1)) 1⟩ : Ad), ()))
    (some ((⟨a0.v6, 18446744073709551615, aop .sub .u64 (aop .shl .u64 1 (y1.1 - a1)) 1⟩ : Ad), ())))
   (some ((⟨a0.v6, 0, aop .sub .u64 (aop .shl .u64 1 (y1.1 - a1)) 1⟩ : Ad), ())))
  (br (decide (y1.1 - a1 > 64))
   (br (decide (y1.1 - a1 < 128))
    (req (i64ok ((y1.1 - a1) - 64)) <|
    req (decide (0 ≤ (y1.1 - a1) - 64)) <|
    some ((⟨a0.v6, aop .sub .u64 (aop .shl .u64 1 ((y1.1 - a1) - 64)) 1, 18446744073709551615⟩ : Ad), ()))
    (some ((⟨a0.v6, 18446744073709551615, 18446744073709551615⟩ : Ad), ())))
   (some ((⟨a0.v6, 0, 18446744073709551615⟩ : Ad), ())))
noncomputable def prefix_Cut_t (a0 : Ad) (a1 : Int) : Option (Ad × Unit) :=
 (prefix_mask_t a0 a1).bind fun y1 =>
 some ((⟨a0.v6, aop .andNot .u64 a0.hi y1.1.hi, aop .andNot .u64 a0.lo y1.1.lo⟩ : Ad), ())
noncomputable def prefix_Check_t (a0 : Pf) : Option (Int × Unit) :=
 (addr_Check_t a0.ad).bind fun y1 =>
 br (!decide (y1.1 = 0))
  (some (y1.1, ()))
  ((br (decide (a0.bits < 0))
    (some true)
    ((prefix_Wide_t a0.ad).bind fun y2 =>
    some (decide (a0.bits > y2.1)))).bind fun c2 =>
  br c2
   (some (3, ()))
   ((prefix_Cut_t a0.ad a0.bits).bind fun y3 =>
   br (!(eqAd y3.1 a0.ad))
    (some (4, ()))
    (some (0, ()))))
noncomputable def lease_Narrow_t (a0 : Pf) : Option (Bool × Unit) :=
 (prefix_Wide_t a0.ad).bind fun y1 =>
 req (i64ok (y1.1 - a0.bits)) <|
 some (decide (y1.1 - a0.bits ≤ 4), ())
noncomputable def lease_within_t (a0 : Int) (a1 : Int) (a2 : Int) : Option (Bool × Unit) :=
 (br (decide (a0 ≥ a1))
   (some (decide (a0 ≤ a2)))
   (some false)).bind fun c1 =>
 some (c1, ())
noncomputable def lease_Who_L2 (rec : (((ByteArray × Unit) × (Int × Unit) × (Int × Unit) × Unit) × (Unit)) → Option ((((Bool × Unit) × Unit) × (Unit)) ⊕ (((ByteArray × Unit) × Unit) × (Unit)))) (x : (((ByteArray × Unit) × (Int × Unit) × (Int × Unit) × Unit) × (Unit))) : Option ((((Bool × Unit) × Unit) × (Unit)) ⊕ (((ByteArray × Unit) × Unit) × (Unit))) :=
 let v0 := x.1.1.1
 let v1 := x.1.2.1.1
 let v2 := x.1.2.2.1.1
 br (decide (v2 < v1))
  (req (inRange v2 (lenS v0)) <|
  (br (decide (byteAt v0 v2 ≥ 97))
    (some (decide (byteAt v0 v2 ≤ 122)))
    (some false)).bind fun c1 =>
  (br (!c1)
    (br (decide (byteAt v0 v2 ≥ 48))
     (some (!(decide (byteAt v0 v2 ≤ 57))))
     (some true))
    (some false)).bind fun c2 =>
  br c2
   (some (Sum.inl (((false, ()), ()), (()))))
   (req (i64ok (v2 + 1)) <|
   rec (((v0, ()), (v1, ()), (v2 + 1, ()), ()), (()))))
  (some (Sum.inr ((((v0, ()), ()), (())))))
noncomputable def lease_Who_t (a0 : ByteArray) : Option (Bool × Unit) :=
 (loopN lease_Who_L2 FUEL (((a0, ()), (lenS a0, ()), (0, ()), ()), (()))).bind fun y1 =>
 sumC y1 (fun y2 =>
  some (y2.1.1.1, ())) (fun y3 =>
  (lease_within_t (lenS y3.1.1.1) 1 8).bind fun y4 =>
  some (y4.1, ()))
noncomputable def state_Form_t (a0 : Oq) : Option (Int × Unit) :=
 (state_within_t a0.kind 1 5).bind fun y1 =>
 br (!y1.1)
  (some (7, ()))
  ((state_extra_t a0).bind fun y2 =>
  br y2.1
   (some (1, ()))
   (br (decide (a0.kind = 1))
    ((prefix_Check_t a0.pf).bind fun y3 =>
    br (!decide (y3.1 = 0))
     (some (y3.1, ()))
     ((lease_Narrow_t a0.pf).bind fun y4 =>
     br (!y4.1)
      (some (2, ()))
      (some (0, ()))))
    (br (decide (a0.kind = 2))
     ((addr_Check_t a0.ad).bind fun y3 =>
     some (y3.1, ()))
     (br (decide (a0.kind = 3))
      (br (decide (a0.kind = 3))
       ((lease_Who_t a0.who).bind fun y3 =>
       br (!y3.1)
        (some (1, ()))
        ((br (decide (a0.kind = 3))
          ((state_within_t a0.of_ 0 2).bind fun y4 =>
          br (!y4.1)
           (some true)
           ((state_within_t a0.n 1 500).bind fun y5 =>
           some (!y5.1)))
          (some false)).bind fun c4 =>
        br c4
         (some (3, ()))
         (some (0, ()))))
       (br (decide (a0.kind = 5))
        ((state_within_t a0.n 0 9999).bind fun y3 =>
        br (!y3.1)
         (some (3, ()))
         (some (0, ())))
        (some (0, ()))))
      (br (decide (a0.kind = 4))
       ((lease_Who_t a0.who).bind fun y3 =>
       br (!y3.1)
        (some (1, ()))
        ((br (decide (a0.kind = 3))
          ((state_within_t a0.of_ 0 2).bind fun y4 =>
          br (!y4.1)
           (some true)
           ((state_within_t a0.n 1 500).bind fun y5 =>
           some (!y5.1)))
          (some false)).bind fun c4 =>
        br c4
         (some (3, ()))
         (some (0, ()))))
       (br (decide (a0.kind = 5))
        ((state_within_t a0.n 0 9999).bind fun y3 =>
        br (!y3.1)
         (some (3, ()))
         (some (0, ())))
        (some (0, ()))))))))
noncomputable def log_Check_L4 (rec : (((Unit) × (Unit) × (Int × Unit) × (Int × Unit) × Unit) × (List En × Unit)) → Option ((((Int × Unit) × Unit) × (List En × Unit)) ⊕ ((Unit) × (List En × Unit)))) (x : (((Unit) × (Unit) × (Int × Unit) × (Int × Unit) × Unit) × (List En × Unit))) : Option ((((Int × Unit) × Unit) × (List En × Unit)) ⊕ ((Unit) × (List En × Unit))) :=
 let v0 := x.1.2.2.1.1
 let v1 := x.1.2.2.2.1.1
 let v2 := x.2.1
 br (decide (v1 < v0))
  (req (inRange v1 (lenL v2)) <|
  (geti v2 v1).bind fun p1 =>
  req (i64ok (v1 + 1)) <|
  br (!decide (p1.num = v1 + 1))
   (some (Sum.inl (((4, ()), ()), (v2, ()))))
   ((log_epoch_t p1.epoch).bind fun y2 =>
   br (!y2.1)
    (some (Sum.inl (((3, ()), ()), (v2, ()))))
    ((br (decide (v1 > 0))
      (req (i64ok (v1 - 1)) <|
      req (inRange (v1 - 1) (lenL v2)) <|
      req (inRange (v1 - 1) (lenL v2)) <|
      (geti v2 (v1 - 1)).bind fun p3 =>
      some (decide (p1.epoch < p3.epoch)))
      (some false)).bind fun c3 =>
    br c3
     (some (Sum.inl (((4, ()), ()), (v2, ()))))
     ((state_Form_t p1.op).bind fun y4 =>
     br (!decide (y4.1 = 0))
      (some (Sum.inl (((y4.1, ()), ()), (v2, ()))))
      (req (i64ok (v1 + 1)) <|
      rec (((()), (()), (v0, ()), (v1 + 1, ()), ()), (v2, ())))))))
  (some (Sum.inr (((()), (v2, ())))))
noncomputable def log_Check_t (a0 : List En) : Option (Int × Unit) :=
 br (decide (lenL a0 > 30))
  (some (2, ()))
  ((loopN log_Check_L4 FUEL (((()), (()), (lenL a0, ()), (0, ()), ()), (a0, ()))).bind fun y1 =>
  sumC y1 (fun y2 =>
   some (y2.1.1.1, ())) (fun y3 =>
   some (0, ())))
noncomputable def fence_Check_1_t (a0 : En) (a1 : Int) (a2 : Int) (a3 : Int) (a4 : List En) : Option (Bool × Unit) :=
 some (decide (a0.epoch > a1), ())
noncomputable def zq26 (rec : (((Unit) × (Unit) × (Int × Unit) × (Int × Unit) × Unit) × (List En × (Int × Int × Int × Unit) × Unit)) → Option ((((Int × Unit) × Unit) × (List En × (Int × Int × Int × Unit) × Unit)) ⊕ ((Unit) × (List En × (Int × Int × Int × Unit) × Unit)))) (x : (((Unit) × (Unit) × (Int × Unit) × (Int × Unit) × Unit) × (List En × (Int × Int × Int × Unit) × Unit))) : Option ((((Int × Unit) × Unit) × (List En × (Int × Int × Int × Unit) × Unit)) ⊕ ((Unit) × (List En × (Int × Int × Int × Unit) × Unit))) :=
 let v0 := x.1.2.2.1.1
 let v1 := x.1.2.2.2.1.1
 let v2 := x.2.1
 let v3 := x.2.2.1.1
 let v4 := x.2.2.1.2.1
 let v5 := x.2.2.1.2.2.1
 br (decide (v1 < v0))
  (req (inRange v1 (lenL v2)) <|
  (geti v2 v1).bind fun p1 =>
  (fence_Check_1_t p1 v3 v4 v5 v2).bind fun y2 =>
  br y2.1
   (some (Sum.inl (((v1, ()), ()), (v2, (v3, v4, v5, ()), ()))))
   (req (i64ok (v1 + 1)) <|
   rec (((()), (()), (v0, ()), (v1 + 1, ()), ()), (v2, (v3, v4, v5, ()), ()))))
  (some (Sum.inr (((()), (v2, (v3, v4, v5, ()), ())))))
noncomputable def zq24 (rec : (((Unit) × (Unit) × (Int × Unit) × (Int × Unit) × Unit) × (List En × (Int × Int × Int × Unit) × Unit)) → Option ((((Int × Unit) × Unit) × (List En × (Int × Int × Int × Unit) × Unit)) ⊕ ((Unit) × (List En × (Int × Int × Int × Unit) × Unit)))) (x : (((Unit) × (Unit) × (Int × Unit) × (Int × Unit) × Unit) × (List En × (Int × Int × Int × Unit) × Unit))) : Option ((((Int × Unit) × Unit) × (List En × (Int × Int × Int × Unit) × Unit)) ⊕ ((Unit) × (List En × (Int × Int × Int × Unit) × Unit))) :=
 let v0 := x.1.2.2.1.1
 let v1 := x.1.2.2.2.1.1
 let v2 := x.2.1
 let v3 := x.2.2.1.1
 let v4 := x.2.2.1.2.1
 let v5 := x.2.2.1.2.2.1
 br (decide (v1 < v0))
  (req (inRange v1 (lenL v2)) <|
  (geti v2 v1).bind fun p1 =>
  (fence_Check_1_t p1 v3 v4 v5 v2).bind fun y2 =>
  br y2.1
   (some (Sum.inl (((v1, ()), ()), (v2, (v3, v4, v5, ()), ()))))
   (req (i64ok (v1 + 1)) <|
   rec (((()), (()), (v0, ()), (v1 + 1, ()), ()), (v2, (v3, v4, v5, ()), ()))))
  (some (Sum.inr (((()), (v2, (v3, v4, v5, ()), ())))))
noncomputable def fence_Check_t (a0 : Int) (a1 : Int) (a2 : Int) (a3 : List En) : Option (Int × Unit) :=
 (fence_within_t a0 0 999).bind fun y1 =>
 (br (!y1.1)
   (some true)
   ((fence_within_t a1 0 2).bind fun y2 =>
   some (!y2.1))).bind fun c2 =>
 (br c2
   (some true)
   ((fence_within_t a2 0 10009).bind fun y3 =>
   some (!y3.1))).bind fun c3 =>
 br c3
  (some (3, ()))
  ((br (decide (a1 = 0))
    (br (!decide (a0 = 0))
     (some true)
     (some (!decide (a2 = 0))))
    (some false)).bind fun c4 =>
  br c4
   (br c4
    (some (4, ()))
    ((log_Check_t a3).bind fun y5 =>
    br (!decide (y5.1 = 0))
     (some (y5.1, ()))
     ((loopN zq26 FUEL (((()), (()), (lenL a3, ()), (0, ()), ()), (a3, (a0, a1, a2, ()), ()))).bind fun y6 =>
     sumC y6 (fun y7 =>
      br (decide (y7.1.1.1 ≥ 0))
       (some (4, ()))
       (some (0, ()))) (fun y8 =>
      some (0, ())))))
   ((br (!decide (a1 = 0))
     (some (decide (a0 = 0)))
     (some false)).bind fun c5 =>
   br c5
    (some (4, ()))
    ((log_Check_t a3).bind fun y6 =>
    br (!decide (y6.1 = 0))
     (some (y6.1, ()))
     ((loopN zq24 FUEL (((()), (()), (lenL a3, ()), (0, ()), ()), (a3, (a0, a1, a2, ()), ()))).bind fun y7 =>
     sumC y7 (fun y8 =>
      br (decide (y8.1.1.1 ≥ 0))
       (some (4, ()))
       (some (0, ()))) (fun y9 =>
      some (0, ()))))))
noncomputable def log_Is_1_t (a0 : En) (a1 : En) : Option (Bool × Unit) :=
 some (eqEn a0 a1, ())
noncomputable def zq56 (rec : (((Unit) × (Unit) × (Unit) × (Int × Unit) × (Int × Unit) × Unit) × (List En × List En × List En × Unit)) → Option ((((Bool × Unit) × Unit) × (List En × List En × List En × Unit)) ⊕ ((Unit) × (List En × List En × List En × Unit)))) (x : (((Unit) × (Unit) × (Unit) × (Int × Unit) × (Int × Unit) × Unit) × (List En × List En × List En × Unit))) : Option ((((Bool × Unit) × Unit) × (List En × List En × List En × Unit)) ⊕ ((Unit) × (List En × List En × List En × Unit))) :=
 let v0 := x.1.2.2.2.1.1
 let v1 := x.1.2.2.2.2.1.1
 let v2 := x.2.1
 let v3 := x.2.2.1
 let v4 := x.2.2.2.1
 br (decide (v1 < v0))
  (req (inRange v1 (lenL v2)) <|
  (geti v2 v1).bind fun p1 =>
  req (inRange v1 (lenL v4)) <|
  (geti v4 v1).bind fun p2 =>
  (log_Is_1_t p1 p2).bind fun y3 =>
  br (!y3.1)
   (some (Sum.inl (((false, ()), ()), (v2, v3, v4, ()))))
   (req (i64ok (v1 + 1)) <|
   rec (((()), (()), (()), (v0, ()), (v1 + 1, ()), ()), (v2, v3, v4, ()))))
  (some (Sum.inr (((()), (v2, v3, v4, ())))))
noncomputable def log_Is_t (a0 : List En) (a1 : List En) : Option (Bool × Unit) :=
 br (decide (lenL a0 ≤ lenL a1))
  (req ((decide (0 ≤ lenL a0)) && (decide (lenL a0 ≤ lenL a1))) <|
  br (!decide (lenL a0 = lenL (subL a1 0 (lenL a0))))
   (some (false, ()))
   ((loopN zq56 FUEL (((()), (()), (()), (lenL a0, ()), (0, ()), ()), (a0, a1, subL a1 0 (lenL a0), ()))).bind fun y1 =>
   sumC y1 (fun y2 =>
    some (y2.1.1.1, ())) (fun y3 =>
    some (true, ()))))
  (some (false, ()))
noncomputable def cluster_node_t (a0 : Int) (a1 : Int) (a2 : Int) (a3 : Int) (a4 : List En) (a5 : List Int × List (List En)) (a6 : Int) (a7 : List En) : Option (Int × Unit) :=
 (zq22 a6 0 a1).bind fun y1 =>
 br (!y1.1)
  (some (3, ()))
  ((log_Check_t a7).bind fun y2 =>
  br (!decide (y2.1 = 0))
   (some (y2.1, ()))
   ((log_Is_t a7 a4).bind fun y3 =>
   br (!y3.1)
    (some (4, ()))
    (some (0, ()))))
noncomputable def cluster_Check_L9 (rec : (((Unit) × (Unit) × (Int × Unit) × (Int × Unit) × Unit) × (List En × List (List En) × List Int × (Int × Int × Int × Int × Unit) × Unit)) → Option ((((Int × Unit) × Unit) × (List En × List (List En) × List Int × Unit)) ⊕ (((Unit) × Unit) × (List En × List (List En) × List Int × (Int × Int × Int × Int × Unit) × Unit)))) (x : (((Unit) × (Unit) × (Int × Unit) × (Int × Unit) × Unit) × (List En × List (List En) × List Int × (Int × Int × Int × Int × Unit) × Unit))) : Option ((((Int × Unit) × Unit) × (List En × List (List En) × List Int × Unit)) ⊕ (((Unit) × Unit) × (List En × List (List En) × List Int × (Int × Int × Int × Int × Unit) × Unit))) :=
 let v0 := x.1.2.2.1.1
 let v1 := x.1.2.2.2.1.1
 let v2 := x.2.1
 let v3 := x.2.2.1
 let v4 := x.2.2.2.1
 let v5 := x.2.2.2.2.1.1
 let v6 := x.2.2.2.2.1.2.1
 let v7 := x.2.2.2.2.1.2.2.1
 let v8 := x.2.2.2.2.1.2.2.2.1
 br (decide (v1 < v0))
  (req (inRange v1 (lenL v4)) <|
  (geti v4 v1).bind fun p1 =>
  (cluster_node_t v5 v6 v7 v8 v2 (v4, v3) p1 (getL v3 v1)).bind fun y2 =>
  br (!decide (y2.1 = 0))
   (some (Sum.inl (((y2.1, ()), ()), (v2, v3, v4, ()))))
   (req (i64ok (v1 + 1)) <|
   rec (((()), (()), (v0, ()), (v1 + 1, ()), ()), (v2, v3, v4, (v5, v6, v7, v8, ()), ()))))
  (some (Sum.inr ((((()), ()), (v2, v3, v4, (v5, v6, v7, v8, ()), ())))))
noncomputable def zq16 (rec : (((Unit) × (Unit) × (Int × Unit) × (Int × Unit) × Unit) × (List En × List (List En) × List Int × (Int × Int × Int × Int × Unit) × Unit)) → Option ((((Int × Unit) × Unit) × (List En × List (List En) × List Int × Unit)) ⊕ ((Unit) × (List En × List (List En) × List Int × Unit)))) (x : (((Unit) × (Unit) × (Int × Unit) × (Int × Unit) × Unit) × (List En × List (List En) × List Int × (Int × Int × Int × Int × Unit) × Unit))) : Option ((((Int × Unit) × Unit) × (List En × List (List En) × List Int × Unit)) ⊕ ((Unit) × (List En × List (List En) × List Int × Unit))) :=
 let v0 := x.1.2.2.1.1
 let v1 := x.1.2.2.2.1.1
 let v2 := x.2.1
 let v3 := x.2.2.1
 let v4 := x.2.2.2.1
 let v5 := x.2.2.2.2.1.1
 let v6 := x.2.2.2.2.1.2.1
 let v7 := x.2.2.2.2.1.2.2.1
 let v8 := x.2.2.2.2.1.2.2.2.1
 br (decide (v1 < v0))
  (req (inRange v1 (lenL v4)) <|
  (geti v4 v1).bind fun p1 =>
  (br (!decide (p1 = 0))
    (some (decide (p1 = v6)))
    (some false)).bind fun c2 =>
  (br c2
    (req (i64ok (v1 + 1)) <|
    some (!decide (v7 = v1 + 1)))
    (some false)).bind fun c3 =>
  br c3
   (some (Sum.inl (((4, ()), ()), (v2, v3, v4, ()))))
   (req (i64ok (v1 + 1)) <|
   rec (((()), (()), (v0, ()), (v1 + 1, ()), ()), (v2, v3, v4, (v5, v6, v7, v8, ()), ()))))
  (some (Sum.inr (((()), (v2, v3, v4, ())))))
noncomputable def zq17 (a0 : Int) (a1 : Int) (a2 : Int) (a3 : Int) (a4 : List En) (a5 : List Int × List (List En)) : Option (Int × Unit) :=
 (zq22 a0 0 9999).bind fun y1 =>
 br (!y1.1)
  (some (3, ()))
  ((fence_Check_t a1 a2 a3 a4).bind fun y2 =>
  br (!decide (y2.1 = 0))
   (some (y2.1, ()))
   (br (!decide (lenL a5.1 = 2))
    (some (1, ()))
    ((loopN cluster_Check_L9 FUEL (((()), (()), (lenL a5.1, ()), (0, ()), ()), (a4, a5.2, a5.1, (a0, a1, a2, a3, ()), ()))).bind fun y3 =>
    sumC y3 (fun y4 =>
     some (y4.1.1.1, ())) (fun y5 =>
     req (inRange 0 (lenL y5.2.2.2.1)) <|
     req (inRange 0 (lenL y5.2.2.2.1)) <|
     (geti y5.2.2.2.1 0).bind fun p6 =>
     req (inRange 1 (lenL y5.2.2.2.1)) <|
     req (inRange 1 (lenL y5.2.2.2.1)) <|
     (geti y5.2.2.2.1 1).bind fun p7 =>
     (br (!decide (p6 = 0))
       (some (decide (p6 = p7)))
       (some false)).bind fun c8 =>
     br c8
      (some (4, ()))
      ((loopN zq16 FUEL (((()), (()), (lenL y5.2.2.2.1, ()), (0, ()), ()), (y5.2.1, y5.2.2.1, y5.2.2.2.1, (y5.2.2.2.2.1.1, y5.2.2.2.2.1.2.1, y5.2.2.2.2.1.2.2.1, y5.2.2.2.2.1.2.2.2.1, ()), ()))).bind fun y9 =>
      sumC y9 (fun y10 =>
       some (y10.1.1.1, ())) (fun y11 =>
       some (0, ())))))))
noncomputable def cluster_form_t (a0 : Int) (a1 : Ev) : Option (Int × Unit) :=
 (zq22 a1.kind 1 5).bind fun y1 =>
 br (!y1.1)
  (some (7, ()))
  ((br (decide (a1.kind = 1))
    (some (!decide (a1.who = 0)))
    (some false)).bind fun c2 =>
  br c2
   (br c2
    (some (1, ()))
    ((br (!decide (a1.kind = 1))
      ((zq22 a1.who 1 2).bind fun y3 =>
      some (!y3.1))
      (some false)).bind fun c3 =>
    br c3
     (br c3
      (some (3, ()))
      (some (0, ())))
     ((br (decide (a1.kind = 4))
       ((zq22 a1.n 0 30).bind fun y4 =>
       some (!y4.1))
       (some false)).bind fun c4 =>
     br c4
      (br c4
       (some (3, ()))
       (some (0, ())))
      ((br (decide (a1.kind = 1))
        (req (i64ok (9999 - a0)) <|
        (zq22 a1.n 0 (9999 - a0)).bind fun y5 =>
        some (!y5.1))
        (some false)).bind fun c5 =>
      br c5
       (some (3, ()))
       (some (0, ()))))))
   ((br (!decide (a1.kind = 1))
     (some (!decide (a1.kind = 4)))
     (some false)).bind fun c3 =>
   (br c3
     (some (!decide (a1.n = 0)))
     (some false)).bind fun c4 =>
   br c4
    (br c4
     (some (1, ()))
     ((br (!decide (a1.kind = 1))
       ((zq22 a1.who 1 2).bind fun y5 =>
       some (!y5.1))
       (some false)).bind fun c5 =>
     br c5
      (br c5
       (some (3, ()))
       (some (0, ())))
      ((br (decide (a1.kind = 4))
        ((zq22 a1.n 0 30).bind fun y6 =>
        some (!y6.1))
        (some false)).bind fun c6 =>
      br c6
       (br c6
        (some (3, ()))
        (some (0, ())))
       ((br (decide (a1.kind = 1))
         (req (i64ok (9999 - a0)) <|
         (zq22 a1.n 0 (9999 - a0)).bind fun y7 =>
         some (!y7.1))
         (some false)).bind fun c7 =>
       br c7
        (some (3, ()))
        (some (0, ()))))))
    ((br (!decide (a1.kind = 3))
      (some (!(eqOq a1.op (⟨0, (⟨(⟨false, 0, 0⟩ : Ad), 0⟩ : Pf), (⟨false, 0, 0⟩ : Ad), (ByteArray.empty), 0, 0⟩ : Oq))))
      (some false)).bind fun c5 =>
    br c5
     (some (1, ()))
     ((br (!decide (a1.kind = 1))
       ((zq22 a1.who 1 2).bind fun y6 =>
       some (!y6.1))
       (some false)).bind fun c6 =>
     br c6
      (br c6
       (some (3, ()))
       (some (0, ())))
      ((br (decide (a1.kind = 4))
        ((zq22 a1.n 0 30).bind fun y7 =>
        some (!y7.1))
        (some false)).bind fun c7 =>
      br c7
       (br c7
        (some (3, ()))
        (some (0, ())))
       ((br (decide (a1.kind = 1))
         (req (i64ok (9999 - a0)) <|
         (zq22 a1.n 0 (9999 - a0)).bind fun y8 =>
         some (!y8.1))
         (some false)).bind fun c8 =>
       br c8
        (some (3, ()))
        (some (0, ()))))))))
noncomputable def zq68 (a0 : List En) : Option ((List En) × Unit) :=
 nilB a0.length
  (some (([] : List En), ()))
  (req (room (lenL ([] : List En)) (lenL a0)) <|
  some (([] : List En) ++ a0, ()))
noncomputable def fence_Own_t (a0 : Int) (a1 : Int) (a2 : Int) (a3 : List En) : Option ((Int × Int × Int × (List En) × Unit) × Unit) :=
 (zq68 a3).bind fun y1 =>
 some ((a0, a1, a2, y1.1, ()), ())
noncomputable def fence_Get_t (a0 : Int) (a1 : Int) (a2 : Int) (a3 : List En) (a4 : Int) (a5 : Int) : Option ((Int × Int × Int × (List En) × Unit) × Int × Unit) :=
 (fence_Own_t a0 a1 a2 a3).bind fun y1 =>
 (br (decide (y1.1.2.1 = 0))
   (some true)
   (some (decide (y1.1.2.2.1 < a5)))).bind fun c2 =>
 (br (!c2)
   (some (!decide (y1.1.2.1 = a4)))
   (some false)).bind fun c3 =>
 br c3
  (some ((0, 0, 0, ([] : List En), ()), 4, ()))
  ((br c2
    (some (decide (y1.1.1 = 999)))
    (some false)).bind fun c4 =>
  br c4
   (some ((0, 0, 0, ([] : List En), ()), 2, ()))
   (br c2
    (req (i64ok (y1.1.1 + 1)) <|
    req (i64ok (a5 + 10)) <|
    some ((y1.1.1 + 1, a4, a5 + 10, y1.1.2.2.2.1, ()), 0, ()))
    (req (i64ok (a5 + 10)) <|
    some ((y1.1.1, a4, a5 + 10, y1.1.2.2.2.1, ()), 0, ()))))
noncomputable def log_More_t (a0 : List En) (a1 : Int) (a2 : Oq) : Option ((List En) × Int × Unit) :=
 (log_epoch_t a1).bind fun y1 =>
 br (!y1.1)
  (some (([] : List En), 3, ()))
  ((br (decide (lenL a0 > 0))
    (req (i64ok ((lenL a0) - 1)) <|
    req (inRange ((lenL a0) - 1) (lenL a0)) <|
    req (inRange ((lenL a0) - 1) (lenL a0)) <|
    (geti a0 ((lenL a0) - 1)).bind fun p2 =>
    some (decide (a1 < p2.epoch)))
    (some false)).bind fun c2 =>
  br c2
   (some (([] : List En), 4, ()))
   ((state_Form_t a2).bind fun y3 =>
   br (!decide (y3.1 = 0))
    (some (([] : List En), y3.1, ()))
    (br (decide (lenL a0 = 30))
     (some (([] : List En), 2, ()))
     (req (i64ok ((lenL a0) + 1)) <|
     dup 1 <|
     (zq68 a0).bind fun y4 =>
     req (room (lenL y4.1) (lenL ([(⟨(lenL a0) + 1, a1, a2⟩ : En)] : List En))) <|
     some (y4.1 ++ ([(⟨(lenL a0) + 1, a1, a2⟩ : En)] : List En), 0, ())))))
noncomputable def fence_Put_t (a0 : Int) (a1 : Int) (a2 : Int) (a3 : List En) (a4 : Int) (a5 : Oq) : Option ((Int × Int × Int × (List En) × Unit) × Int × Unit) :=
 (br (decide (a4 = 0))
   (some true)
   (some (!decide (a4 = a0)))).bind fun c1 =>
 br c1
  (some ((0, 0, 0, ([] : List En), ()), 4, ()))
  ((log_More_t a3 a4 a5).bind fun y2 =>
  br (!decide (y2.2.1 = 0))
   (some ((0, 0, 0, ([] : List En), ()), y2.2.1, ()))
   (some ((a0, a1, a2, y2.1, ()), 0, ())))
noncomputable def ship_Behind_t (a0 : List En) (a1 : List En) (a2 : Int) : Option ((List En) × Unit) :=
 req (i64ok ((lenL a0) + a2)) <|
 req (((decide (0 ≤ lenL a0)) && (decide (lenL a0 ≤ minI (lenL a1) ((lenL a0) + a2)))) && (decide (minI (lenL a1) ((lenL a0) + a2) ≤ lenL a1))) <|
 (zq68 (subL a1 (lenL a0) (minI (lenL a1) ((lenL a0) + a2)))).bind fun y1 =>
 some (y1.1, ())
noncomputable def zq19 (rec : (((Unit) × (Unit) × (Int × Unit) × (Int × Unit) × Unit) × (List En × List (List En) × List Int × (Int × Int × Int × Int × Unit) × (Ev × Unit) × (Int × Int × Int × Int × Unit) × List En × List (List En) × List Int × (Int × Int × Int × Int × Unit) × List En × List Int × List (List En) × Unit)) → Option (((Unit) × Unit) × (List En × List (List En) × List Int × (Int × Int × Int × Int × Unit) × (Ev × Unit) × (Int × Int × Int × Int × Unit) × List En × List (List En) × List Int × (Int × Int × Int × Int × Unit) × List En × List Int × List (List En) × Unit))) (x : (((Unit) × (Unit) × (Int × Unit) × (Int × Unit) × Unit) × (List En × List (List En) × List Int × (Int × Int × Int × Int × Unit) × (Ev × Unit) × (Int × Int × Int × Int × Unit) × List En × List (List En) × List Int × (Int × Int × Int × Int × Unit) × List En × List Int × List (List En) × Unit))) : Option (((Unit) × Unit) × (List En × List (List En) × List Int × (Int × Int × Int × Int × Unit) × (Ev × Unit) × (Int × Int × Int × Int × Unit) × List En × List (List En) × List Int × (Int × Int × Int × Int × Unit) × List En × List Int × List (List En) × Unit)) :=
 let v0 := x.1.2.2.1.1
 let v1 := x.1.2.2.2.1.1
 let v2 := x.2.1
 let v3 := x.2.2.1
 let v4 := x.2.2.2.1
 let v5 := x.2.2.2.2.1.1
 let v6 := x.2.2.2.2.1.2.1
 let v7 := x.2.2.2.2.1.2.2.1
 let v8 := x.2.2.2.2.1.2.2.2.1
 let v9 := x.2.2.2.2.2.1.1
 let v10 := x.2.2.2.2.2.2.1.1
 let v11 := x.2.2.2.2.2.2.1.2.1
 let v12 := x.2.2.2.2.2.2.1.2.2.1
 let v13 := x.2.2.2.2.2.2.1.2.2.2.1
 let v14 := x.2.2.2.2.2.2.2.1
 let v15 := x.2.2.2.2.2.2.2.2.1
 let v16 := x.2.2.2.2.2.2.2.2.2.1
 let v17 := x.2.2.2.2.2.2.2.2.2.2.1.1
 let v18 := x.2.2.2.2.2.2.2.2.2.2.1.2.1
 let v19 := x.2.2.2.2.2.2.2.2.2.2.1.2.2.1
 let v20 := x.2.2.2.2.2.2.2.2.2.2.1.2.2.2.1
 let v21 := x.2.2.2.2.2.2.2.2.2.2.2.1
 let v22 := x.2.2.2.2.2.2.2.2.2.2.2.2.1
 let v23 := x.2.2.2.2.2.2.2.2.2.2.2.2.2.1
 br (decide (v1 < v0))
  (req (inRange v1 (lenL v4)) <|
  (geti v4 v1).bind fun p1 =>
  both
   (both
    (both
     (both
      ((zq68 (getL v3 v1)).bind fun y2 =>
      req (room (lenL v22) (lenL ([p1] : List Int))) <|
      req (i64ok (v1 + 1)) <|
      rec (((()), (()), (v0, ()), (v1 + 1, ()), ()), (v2, v3, v4, (v5, v6, v7, v8, ()), (v9, ()), (v10, v11, v12, v13, ()), v14, v15, v16, (v17, v18, v19, v20, ()), v21, v22 ++ ([p1] : List Int), padL v22.length v23 ++ ([y2.1] : List (List En)), ())))
      ((zq68 (getL v3 v1)).bind fun y2 =>
      dup 1 <|
      req (room (lenL v22) (lenL ([p1] : List Int))) <|
      req (i64ok (v1 + 1)) <|
      rec (((()), (()), (v0, ()), (v1 + 1, ()), ()), (v2, v3, v4, (v5, v6, v7, v8, ()), (v9, ()), (v10, v11, v12, v13, ()), v14, v15, v16, (v17, v18, v19, v20, ()), v21, v22 ++ ([p1] : List Int), padL v22.length v23 ++ ([y2.1] : List (List En)), ()))))
     ((zq68 (getL v3 v1)).bind fun y2 =>
     both
      (dup 1 <|
      req (room (lenL v22) (lenL ([p1] : List Int))) <|
      req (i64ok (v1 + 1)) <|
      rec (((()), (()), (v0, ()), (v1 + 1, ()), ()), (v2, v3, v4, (v5, v6, v7, v8, ()), (v9, ()), (v10, v11, v12, v13, ()), v14, v15, v16, (v17, v18, v19, v20, ()), v21, v22 ++ ([p1] : List Int), padL v22.length v23 ++ ([y2.1] : List (List En)), ())))
      (req (room (lenL v22) (lenL ([p1] : List Int))) <|
      req (i64ok (v1 + 1)) <|
      rec (((()), (()), (v0, ()), (v1 + 1, ()), ()), (v2, v3, v4, (v5, v6, v7, v8, ()), (v9, ()), (v10, v11, v12, v13, ()), v14, v15, v16, (v17, v18, v19, v20, ()), v21, v22 ++ ([p1] : List Int), padL v22.length v23 ++ ([y2.1] : List (List En)), ())))))
    ((zq68 (getL v3 v1)).bind fun y2 =>
    both
     (both
      (dup 1 <|
      req (room (lenL v22) (lenL ([p1] : List Int))) <|
      req (i64ok (v1 + 1)) <|
      rec (((()), (()), (v0, ()), (v1 + 1, ()), ()), (v2, v3, v4, (v5, v6, v7, v8, ()), (v9, ()), (v10, v11, v12, v13, ()), v14, v15, v16, (v17, v18, v19, v20, ()), v21, v22 ++ ([p1] : List Int), padL v22.length v23 ++ ([y2.1] : List (List En)), ())))
      (req (room (lenL v22) (lenL ([p1] : List Int))) <|
      req (i64ok (v1 + 1)) <|
      rec (((()), (()), (v0, ()), (v1 + 1, ()), ()), (v2, v3, v4, (v5, v6, v7, v8, ()), (v9, ()), (v10, v11, v12, v13, ()), v14, v15, v16, (v17, v18, v19, v20, ()), v21, v22 ++ ([p1] : List Int), padL v22.length v23 ++ ([y2.1] : List (List En)), ()))))
     (req (room (lenL v22) (lenL ([p1] : List Int))) <|
     req (i64ok (v1 + 1)) <|
     rec (((()), (()), (v0, ()), (v1 + 1, ()), ()), (v2, v3, v4, (v5, v6, v7, v8, ()), (v9, ()), (v10, v11, v12, v13, ()), v14, v15, v16, (v17, v18, v19, v20, ()), v21, v22 ++ ([p1] : List Int), padL v22.length v23 ++ ([y2.1] : List (List En)), ())))))
   ((zq68 (getL v3 v1)).bind fun y2 =>
   both
    (both
     (both
      (dup 1 <|
      req (room (lenL v22) (lenL ([p1] : List Int))) <|
      req (i64ok (v1 + 1)) <|
      rec (((()), (()), (v0, ()), (v1 + 1, ()), ()), (v2, v3, v4, (v5, v6, v7, v8, ()), (v9, ()), (v10, v11, v12, v13, ()), v14, v15, v16, (v17, v18, v19, v20, ()), v21, v22 ++ ([p1] : List Int), padL v22.length v23 ++ ([y2.1] : List (List En)), ())))
      (req (room (lenL v22) (lenL ([p1] : List Int))) <|
      req (i64ok (v1 + 1)) <|
      rec (((()), (()), (v0, ()), (v1 + 1, ()), ()), (v2, v3, v4, (v5, v6, v7, v8, ()), (v9, ()), (v10, v11, v12, v13, ()), v14, v15, v16, (v17, v18, v19, v20, ()), v21, v22 ++ ([p1] : List Int), padL v22.length v23 ++ ([y2.1] : List (List En)), ()))))
     (req (room (lenL v22) (lenL ([p1] : List Int))) <|
     req (i64ok (v1 + 1)) <|
     rec (((()), (()), (v0, ()), (v1 + 1, ()), ()), (v2, v3, v4, (v5, v6, v7, v8, ()), (v9, ()), (v10, v11, v12, v13, ()), v14, v15, v16, (v17, v18, v19, v20, ()), v21, v22 ++ ([p1] : List Int), padL v22.length v23 ++ ([y2.1] : List (List En)), ()))))
    (req (room (lenL v22) (lenL ([p1] : List Int))) <|
    req (i64ok (v1 + 1)) <|
    rec (((()), (()), (v0, ()), (v1 + 1, ()), ()), (v2, v3, v4, (v5, v6, v7, v8, ()), (v9, ()), (v10, v11, v12, v13, ()), v14, v15, v16, (v17, v18, v19, v20, ()), v21, v22 ++ ([p1] : List Int), padL v22.length v23 ++ ([y2.1] : List (List En)), ())))))
  (some (((()), ()), (v2, v3, v4, (v5, v6, v7, v8, ()), (v9, ()), (v10, v11, v12, v13, ()), v14, v15, v16, (v17, v18, v19, v20, ()), v21, v22, v23, ())))
noncomputable def cluster_Do_cluster_own_6_L3 (rec : (((Unit) × (Unit) × (Int × Unit) × (Int × Unit) × Unit) × (List En × List (List En) × List Int × (Int × Int × Int × Int × Unit) × (Ev × Unit) × (Int × Int × Int × Int × Unit) × List En × List (List En) × List Int × (Int × Int × Int × Int × Unit) × List En × List Int × List (List En) × Unit)) → Option (((Unit) × Unit) × (List En × List (List En) × List Int × (Int × Int × Int × Int × Unit) × (Ev × Unit) × (Int × Int × Int × Int × Unit) × List En × List (List En) × List Int × (Int × Int × Int × Int × Unit) × List En × List Int × List (List En) × Unit))) (x : (((Unit) × (Unit) × (Int × Unit) × (Int × Unit) × Unit) × (List En × List (List En) × List Int × (Int × Int × Int × Int × Unit) × (Ev × Unit) × (Int × Int × Int × Int × Unit) × List En × List (List En) × List Int × (Int × Int × Int × Int × Unit) × List En × List Int × List (List En) × Unit))) : Option (((Unit) × Unit) × (List En × List (List En) × List Int × (Int × Int × Int × Int × Unit) × (Ev × Unit) × (Int × Int × Int × Int × Unit) × List En × List (List En) × List Int × (Int × Int × Int × Int × Unit) × List En × List Int × List (List En) × Unit)) :=
 let v0 := x.1.2.2.1.1
 let v1 := x.1.2.2.2.1.1
 let v2 := x.2.1
 let v3 := x.2.2.1
 let v4 := x.2.2.2.1
 let v5 := x.2.2.2.2.1.1
 let v6 := x.2.2.2.2.1.2.1
 let v7 := x.2.2.2.2.1.2.2.1
 let v8 := x.2.2.2.2.1.2.2.2.1
 let v9 := x.2.2.2.2.2.1.1
 let v10 := x.2.2.2.2.2.2.1.1
 let v11 := x.2.2.2.2.2.2.1.2.1
 let v12 := x.2.2.2.2.2.2.1.2.2.1
 let v13 := x.2.2.2.2.2.2.1.2.2.2.1
 let v14 := x.2.2.2.2.2.2.2.1
 let v15 := x.2.2.2.2.2.2.2.2.1
 let v16 := x.2.2.2.2.2.2.2.2.2.1
 let v17 := x.2.2.2.2.2.2.2.2.2.2.1.1
 let v18 := x.2.2.2.2.2.2.2.2.2.2.1.2.1
 let v19 := x.2.2.2.2.2.2.2.2.2.2.1.2.2.1
 let v20 := x.2.2.2.2.2.2.2.2.2.2.1.2.2.2.1
 let v21 := x.2.2.2.2.2.2.2.2.2.2.2.1
 let v22 := x.2.2.2.2.2.2.2.2.2.2.2.2.1
 let v23 := x.2.2.2.2.2.2.2.2.2.2.2.2.2.1
 br (decide (v1 < v0))
  (req (inRange v1 (lenL v4)) <|
  (geti v4 v1).bind fun p1 =>
  both
   (both
    (both
     (both
      ((zq68 (getL v3 v1)).bind fun y2 =>
      req (room (lenL v22) (lenL ([p1] : List Int))) <|
      req (i64ok (v1 + 1)) <|
      rec (((()), (()), (v0, ()), (v1 + 1, ()), ()), (v2, v3, v4, (v5, v6, v7, v8, ()), (v9, ()), (v10, v11, v12, v13, ()), v14, v15, v16, (v17, v18, v19, v20, ()), v21, v22 ++ ([p1] : List Int), padL v22.length v23 ++ ([y2.1] : List (List En)), ())))
      ((zq68 (getL v3 v1)).bind fun y2 =>
      dup 1 <|
      req (room (lenL v22) (lenL ([p1] : List Int))) <|
      req (i64ok (v1 + 1)) <|
      rec (((()), (()), (v0, ()), (v1 + 1, ()), ()), (v2, v3, v4, (v5, v6, v7, v8, ()), (v9, ()), (v10, v11, v12, v13, ()), v14, v15, v16, (v17, v18, v19, v20, ()), v21, v22 ++ ([p1] : List Int), padL v22.length v23 ++ ([y2.1] : List (List En)), ()))))
     ((zq68 (getL v3 v1)).bind fun y2 =>
     both
      (dup 1 <|
      req (room (lenL v22) (lenL ([p1] : List Int))) <|
      req (i64ok (v1 + 1)) <|
      rec (((()), (()), (v0, ()), (v1 + 1, ()), ()), (v2, v3, v4, (v5, v6, v7, v8, ()), (v9, ()), (v10, v11, v12, v13, ()), v14, v15, v16, (v17, v18, v19, v20, ()), v21, v22 ++ ([p1] : List Int), padL v22.length v23 ++ ([y2.1] : List (List En)), ())))
      (req (room (lenL v22) (lenL ([p1] : List Int))) <|
      req (i64ok (v1 + 1)) <|
      rec (((()), (()), (v0, ()), (v1 + 1, ()), ()), (v2, v3, v4, (v5, v6, v7, v8, ()), (v9, ()), (v10, v11, v12, v13, ()), v14, v15, v16, (v17, v18, v19, v20, ()), v21, v22 ++ ([p1] : List Int), padL v22.length v23 ++ ([y2.1] : List (List En)), ())))))
    ((zq68 (getL v3 v1)).bind fun y2 =>
    both
     (both
      (dup 1 <|
      req (room (lenL v22) (lenL ([p1] : List Int))) <|
      req (i64ok (v1 + 1)) <|
      rec (((()), (()), (v0, ()), (v1 + 1, ()), ()), (v2, v3, v4, (v5, v6, v7, v8, ()), (v9, ()), (v10, v11, v12, v13, ()), v14, v15, v16, (v17, v18, v19, v20, ()), v21, v22 ++ ([p1] : List Int), padL v22.length v23 ++ ([y2.1] : List (List En)), ())))
      (req (room (lenL v22) (lenL ([p1] : List Int))) <|
      req (i64ok (v1 + 1)) <|
      rec (((()), (()), (v0, ()), (v1 + 1, ()), ()), (v2, v3, v4, (v5, v6, v7, v8, ()), (v9, ()), (v10, v11, v12, v13, ()), v14, v15, v16, (v17, v18, v19, v20, ()), v21, v22 ++ ([p1] : List Int), padL v22.length v23 ++ ([y2.1] : List (List En)), ()))))
     (req (room (lenL v22) (lenL ([p1] : List Int))) <|
     req (i64ok (v1 + 1)) <|
     rec (((()), (()), (v0, ()), (v1 + 1, ()), ()), (v2, v3, v4, (v5, v6, v7, v8, ()), (v9, ()), (v10, v11, v12, v13, ()), v14, v15, v16, (v17, v18, v19, v20, ()), v21, v22 ++ ([p1] : List Int), padL v22.length v23 ++ ([y2.1] : List (List En)), ())))))
   ((zq68 (getL v3 v1)).bind fun y2 =>
   both
    (both
     (both
      (dup 1 <|
      req (room (lenL v22) (lenL ([p1] : List Int))) <|
      req (i64ok (v1 + 1)) <|
      rec (((()), (()), (v0, ()), (v1 + 1, ()), ()), (v2, v3, v4, (v5, v6, v7, v8, ()), (v9, ()), (v10, v11, v12, v13, ()), v14, v15, v16, (v17, v18, v19, v20, ()), v21, v22 ++ ([p1] : List Int), padL v22.length v23 ++ ([y2.1] : List (List En)), ())))
      (req (room (lenL v22) (lenL ([p1] : List Int))) <|
      req (i64ok (v1 + 1)) <|
      rec (((()), (()), (v0, ()), (v1 + 1, ()), ()), (v2, v3, v4, (v5, v6, v7, v8, ()), (v9, ()), (v10, v11, v12, v13, ()), v14, v15, v16, (v17, v18, v19, v20, ()), v21, v22 ++ ([p1] : List Int), padL v22.length v23 ++ ([y2.1] : List (List En)), ()))))
     (req (room (lenL v22) (lenL ([p1] : List Int))) <|
     req (i64ok (v1 + 1)) <|
     rec (((()), (()), (v0, ()), (v1 + 1, ()), ()), (v2, v3, v4, (v5, v6, v7, v8, ()), (v9, ()), (v10, v11, v12, v13, ()), v14, v15, v16, (v17, v18, v19, v20, ()), v21, v22 ++ ([p1] : List Int), padL v22.length v23 ++ ([y2.1] : List (List En)), ()))))
    (req (room (lenL v22) (lenL ([p1] : List Int))) <|
    req (i64ok (v1 + 1)) <|
    rec (((()), (()), (v0, ()), (v1 + 1, ()), ()), (v2, v3, v4, (v5, v6, v7, v8, ()), (v9, ()), (v10, v11, v12, v13, ()), v14, v15, v16, (v17, v18, v19, v20, ()), v21, v22 ++ ([p1] : List Int), padL v22.length v23 ++ ([y2.1] : List (List En)), ())))))
  (some (((()), ()), (v2, v3, v4, (v5, v6, v7, v8, ()), (v9, ()), (v10, v11, v12, v13, ()), v14, v15, v16, (v17, v18, v19, v20, ()), v21, v22, v23, ())))
noncomputable def zq20 (a0 : Int) (a1 : Int) (a2 : Int) (a3 : Int) (a4 : List En) (a5 : List Int × List (List En)) (a6 : Ev) : Option ((Int × Int × Int × Int × (List En) × (List Int × List (List En)) × Unit) × Bool × Int × Unit) :=
 (zq17 a0 a1 a2 a3 a4 a5).bind fun y1 =>
 br (decide (y1.1 = 0))
  ((cluster_form_t a0 a6).bind fun y2 =>
  br (!decide (y2.1 = 0))
   (some ((0, 0, 0, 0, ([] : List En), (([] : List Int), ([] : List (List En))), ()), false, y2.1, ()))
   ((fence_Own_t a1 a2 a3 a4).bind fun y3 =>
   (loopN zq19 FUEL (((()), (()), (lenL a5.1, ()), (0, ()), ()), (a4, a5.2, a5.1, (a0, a1, a2, a3, ()), (a6, ()), (0, 0, 0, 0, ()), ([] : List En), ([] : List (List En)), ([] : List Int), (a0, y3.1.1, y3.1.2.1, y3.1.2.2.1, ()), y3.1.2.2.2.1, ([] : List Int), ([] : List (List En)), ()))).bind fun y4 =>
   br (decide (y4.2.2.2.2.2.1.1.kind = 1))
    (req (i64ok (y4.2.2.2.2.2.2.2.2.2.2.1.1 + y4.2.2.2.2.2.1.1.n)) <|
    some ((y4.2.2.2.2.2.2.2.2.2.2.1.1 + y4.2.2.2.2.2.1.1.n, y4.2.2.2.2.2.2.2.2.2.2.1.2.1, y4.2.2.2.2.2.2.2.2.2.2.1.2.2.1, y4.2.2.2.2.2.2.2.2.2.2.1.2.2.2.1, y4.2.2.2.2.2.2.2.2.2.2.2.1, (y4.2.2.2.2.2.2.2.2.2.2.2.2.1, y4.2.2.2.2.2.2.2.2.2.2.2.2.2.1), ()), true, 0, ()))
    (req (i64ok (y4.2.2.2.2.2.1.1.who - 1)) <|
    req (inRange (y4.2.2.2.2.2.1.1.who - 1) (lenL y4.2.2.2.2.2.2.2.2.2.2.2.2.1)) <|
    br (decide (y4.2.2.2.2.2.1.1.kind = 2))
     (dup 1 <|
     (fence_Get_t y4.2.2.2.2.2.2.2.2.2.2.1.2.1 y4.2.2.2.2.2.2.2.2.2.2.1.2.2.1 y4.2.2.2.2.2.2.2.2.2.2.1.2.2.2.1 y4.2.2.2.2.2.2.2.2.2.2.2.1 y4.2.2.2.2.2.1.1.who y4.2.2.2.2.2.2.2.2.2.2.1.1).bind fun y5 =>
     br (decide (y5.2.1 = 0))
      (br (decide (y5.2.1 = 0))
       (req (inRange (y4.2.2.2.2.2.1.1.who - 1) (lenL y4.2.2.2.2.2.2.2.2.2.2.2.2.1)) <|
       req (inRange (y4.2.2.2.2.2.1.1.who - 1) (lenL y4.2.2.2.2.2.2.2.2.2.2.2.2.1)) <|
       (geti y4.2.2.2.2.2.2.2.2.2.2.2.2.1 (y4.2.2.2.2.2.1.1.who - 1)).bind fun p6 =>
       some ((y4.2.2.2.2.2.2.2.2.2.2.1.1, y5.1.1, y5.1.2.1, y5.1.2.2.1, y5.1.2.2.2.1, (seti y4.2.2.2.2.2.2.2.2.2.2.2.2.1 (y4.2.2.2.2.2.1.1.who - 1) y5.1.1, y4.2.2.2.2.2.2.2.2.2.2.2.2.2.1), ()), true, 0, ()))
       (some ((y4.2.2.2.2.2.2.2.2.2.2.1.1, y5.1.1, y5.1.2.1, y5.1.2.2.1, y5.1.2.2.2.1, (y4.2.2.2.2.2.2.2.2.2.2.2.2.1, y4.2.2.2.2.2.2.2.2.2.2.2.2.2.1), ()), false, 0, ())))
      (br (decide (y5.2.1 = 0))
       (req (inRange (y4.2.2.2.2.2.1.1.who - 1) (lenL y4.2.2.2.2.2.2.2.2.2.2.2.2.1)) <|
       req (inRange (y4.2.2.2.2.2.1.1.who - 1) (lenL y4.2.2.2.2.2.2.2.2.2.2.2.2.1)) <|
       (geti y4.2.2.2.2.2.2.2.2.2.2.2.2.1 (y4.2.2.2.2.2.1.1.who - 1)).bind fun p6 =>
       some ((y4.2.2.2.2.2.2.2.2.2.2.1.1, y4.2.2.2.2.2.2.2.2.2.2.1.2.1, y4.2.2.2.2.2.2.2.2.2.2.1.2.2.1, y4.2.2.2.2.2.2.2.2.2.2.1.2.2.2.1, y4.2.2.2.2.2.2.2.2.2.2.2.1, (seti y4.2.2.2.2.2.2.2.2.2.2.2.2.1 (y4.2.2.2.2.2.1.1.who - 1) y5.1.1, y4.2.2.2.2.2.2.2.2.2.2.2.2.2.1), ()), true, 0, ()))
       (some ((y4.2.2.2.2.2.2.2.2.2.2.1.1, y4.2.2.2.2.2.2.2.2.2.2.1.2.1, y4.2.2.2.2.2.2.2.2.2.2.1.2.2.1, y4.2.2.2.2.2.2.2.2.2.2.1.2.2.2.1, y4.2.2.2.2.2.2.2.2.2.2.2.1, (y4.2.2.2.2.2.2.2.2.2.2.2.2.1, y4.2.2.2.2.2.2.2.2.2.2.2.2.2.1), ()), false, 0, ()))))
     (br (decide (y4.2.2.2.2.2.1.1.kind = 3))
      (req (inRange (y4.2.2.2.2.2.1.1.who - 1) (lenL y4.2.2.2.2.2.2.2.2.2.2.2.2.1)) <|
      req (inRange (y4.2.2.2.2.2.1.1.who - 1) (lenL y4.2.2.2.2.2.2.2.2.2.2.2.2.1)) <|
      (geti y4.2.2.2.2.2.2.2.2.2.2.2.2.1 (y4.2.2.2.2.2.1.1.who - 1)).bind fun p5 =>
      dup 1 <|
      (fence_Put_t y4.2.2.2.2.2.2.2.2.2.2.1.2.1 y4.2.2.2.2.2.2.2.2.2.2.1.2.2.1 y4.2.2.2.2.2.2.2.2.2.2.1.2.2.2.1 y4.2.2.2.2.2.2.2.2.2.2.2.1 p5 y4.2.2.2.2.2.1.1.op).bind fun y6 =>
      br (decide (y6.2.1 = 0))
       (some ((y4.2.2.2.2.2.2.2.2.2.2.1.1, y6.1.1, y6.1.2.1, y6.1.2.2.1, y6.1.2.2.2.1, (y4.2.2.2.2.2.2.2.2.2.2.2.2.1, y4.2.2.2.2.2.2.2.2.2.2.2.2.2.1), ()), decide (y6.2.1 = 0), 0, ()))
       (some ((y4.2.2.2.2.2.2.2.2.2.2.1.1, y4.2.2.2.2.2.2.2.2.2.2.1.2.1, y4.2.2.2.2.2.2.2.2.2.2.1.2.2.1, y4.2.2.2.2.2.2.2.2.2.2.1.2.2.2.1, y4.2.2.2.2.2.2.2.2.2.2.2.1, (y4.2.2.2.2.2.2.2.2.2.2.2.2.1, y4.2.2.2.2.2.2.2.2.2.2.2.2.2.1), ()), decide (y6.2.1 = 0), 0, ())))
      (br (decide (y4.2.2.2.2.2.1.1.kind = 4))
       (req (inRange (y4.2.2.2.2.2.1.1.who - 1) (lenL y4.2.2.2.2.2.2.2.2.2.2.2.2.1)) <|
       req (inRange (y4.2.2.2.2.2.1.1.who - 1) (lenL y4.2.2.2.2.2.2.2.2.2.2.2.2.1)) <|
       (geti y4.2.2.2.2.2.2.2.2.2.2.2.2.1 (y4.2.2.2.2.2.1.1.who - 1)).bind fun p5 =>
       req (inRange (y4.2.2.2.2.2.1.1.who - 1) (lenL y4.2.2.2.2.2.2.2.2.2.2.2.2.1)) <|
       req (inRange (y4.2.2.2.2.2.1.1.who - 1) (lenL y4.2.2.2.2.2.2.2.2.2.2.2.2.1)) <|
       (geti y4.2.2.2.2.2.2.2.2.2.2.2.2.1 (y4.2.2.2.2.2.1.1.who - 1)).bind fun p6 =>
       (ship_Behind_t (getL y4.2.2.2.2.2.2.2.2.2.2.2.2.2.1 (y4.2.2.2.2.2.1.1.who - 1)) y4.2.2.2.2.2.2.2.2.2.2.2.1 y4.2.2.2.2.2.1.1.n).bind fun y7 =>
       req (decide (0 ≤ y4.2.2.2.2.2.1.1.who - 1)) <|
       req (room (lenL (getL y4.2.2.2.2.2.2.2.2.2.2.2.2.2.1 (y4.2.2.2.2.2.1.1.who - 1))) (lenL y7.1)) <|
       req (inRange (y4.2.2.2.2.2.1.1.who - 1) (lenL y4.2.2.2.2.2.2.2.2.2.2.2.2.1)) <|
       req (inRange (y4.2.2.2.2.2.1.1.who - 1) (lenL y4.2.2.2.2.2.2.2.2.2.2.2.2.1)) <|
       req (decide (y4.2.2.2.2.2.1.1.who - 1 = y4.2.2.2.2.2.1.1.who - 1)) <|
       (geti y4.2.2.2.2.2.2.2.2.2.2.2.2.1 (y4.2.2.2.2.2.1.1.who - 1)).bind fun p8 =>
       some ((y4.2.2.2.2.2.2.2.2.2.2.1.1, y4.2.2.2.2.2.2.2.2.2.2.1.2.1, y4.2.2.2.2.2.2.2.2.2.2.1.2.2.1, y4.2.2.2.2.2.2.2.2.2.2.1.2.2.2.1, y4.2.2.2.2.2.2.2.2.2.2.2.1, (seti y4.2.2.2.2.2.2.2.2.2.2.2.2.1 (y4.2.2.2.2.2.1.1.who - 1) p8, seti (padL y4.2.2.2.2.2.2.2.2.2.2.2.2.1.length (outL y4.2.2.2.2.2.2.2.2.2.2.2.2.2.1 (y4.2.2.2.2.2.1.1.who - 1))) (y4.2.2.2.2.2.1.1.who - 1) ((getL y4.2.2.2.2.2.2.2.2.2.2.2.2.2.1 (y4.2.2.2.2.2.1.1.who - 1)) ++ y7.1)), ()), true, 0, ()))
       (br (decide (y4.2.2.2.2.2.1.1.kind = 5))
        (req (inRange (y4.2.2.2.2.2.1.1.who - 1) (lenL y4.2.2.2.2.2.2.2.2.2.2.2.2.1)) <|
        (geti y4.2.2.2.2.2.2.2.2.2.2.2.2.1 (y4.2.2.2.2.2.1.1.who - 1)).bind fun p5 =>
        some ((y4.2.2.2.2.2.2.2.2.2.2.1.1, y4.2.2.2.2.2.2.2.2.2.2.1.2.1, y4.2.2.2.2.2.2.2.2.2.2.1.2.2.1, y4.2.2.2.2.2.2.2.2.2.2.1.2.2.2.1, y4.2.2.2.2.2.2.2.2.2.2.2.1, (seti y4.2.2.2.2.2.2.2.2.2.2.2.2.1 (y4.2.2.2.2.2.1.1.who - 1) 0, seti (padL y4.2.2.2.2.2.2.2.2.2.2.2.2.1.length y4.2.2.2.2.2.2.2.2.2.2.2.2.2.1) (y4.2.2.2.2.2.1.1.who - 1) ([] : List En)), ()), true, 0, ()))
        (some ((y4.2.2.2.2.2.2.2.2.2.2.1.1, y4.2.2.2.2.2.2.2.2.2.2.1.2.1, y4.2.2.2.2.2.2.2.2.2.2.1.2.2.1, y4.2.2.2.2.2.2.2.2.2.2.1.2.2.2.1, y4.2.2.2.2.2.2.2.2.2.2.2.1, (y4.2.2.2.2.2.2.2.2.2.2.2.2.1, y4.2.2.2.2.2.2.2.2.2.2.2.2.2.1), ()), true, 0, ()))))))))
  (br (!decide (y1.1 = 0))
   (some ((0, 0, 0, 0, ([] : List En), (([] : List Int), ([] : List (List En))), ()), false, y1.1, ()))
   ((fence_Own_t a1 a2 a3 a4).bind fun y2 =>
   (loopN cluster_Do_cluster_own_6_L3 FUEL (((()), (()), (lenL a5.1, ()), (0, ()), ()), (a4, a5.2, a5.1, (a0, a1, a2, a3, ()), (a6, ()), (0, 0, 0, 0, ()), ([] : List En), ([] : List (List En)), ([] : List Int), (a0, y2.1.1, y2.1.2.1, y2.1.2.2.1, ()), y2.1.2.2.2.1, ([] : List Int), ([] : List (List En)), ()))).bind fun y3 =>
   br (decide (y3.2.2.2.2.2.1.1.kind = 1))
    (req (i64ok (y3.2.2.2.2.2.2.2.2.2.2.1.1 + y3.2.2.2.2.2.1.1.n)) <|
    some ((y3.2.2.2.2.2.2.2.2.2.2.1.1 + y3.2.2.2.2.2.1.1.n, y3.2.2.2.2.2.2.2.2.2.2.1.2.1, y3.2.2.2.2.2.2.2.2.2.2.1.2.2.1, y3.2.2.2.2.2.2.2.2.2.2.1.2.2.2.1, y3.2.2.2.2.2.2.2.2.2.2.2.1, (y3.2.2.2.2.2.2.2.2.2.2.2.2.1, y3.2.2.2.2.2.2.2.2.2.2.2.2.2.1), ()), true, 0, ()))
    (req (i64ok (y3.2.2.2.2.2.1.1.who - 1)) <|
    req (inRange (y3.2.2.2.2.2.1.1.who - 1) (lenL y3.2.2.2.2.2.2.2.2.2.2.2.2.1)) <|
    br (decide (y3.2.2.2.2.2.1.1.kind = 2))
     (dup 1 <|
     (fence_Get_t y3.2.2.2.2.2.2.2.2.2.2.1.2.1 y3.2.2.2.2.2.2.2.2.2.2.1.2.2.1 y3.2.2.2.2.2.2.2.2.2.2.1.2.2.2.1 y3.2.2.2.2.2.2.2.2.2.2.2.1 y3.2.2.2.2.2.1.1.who y3.2.2.2.2.2.2.2.2.2.2.1.1).bind fun y4 =>
     br (decide (y4.2.1 = 0))
      (br (decide (y4.2.1 = 0))
       (req (inRange (y3.2.2.2.2.2.1.1.who - 1) (lenL y3.2.2.2.2.2.2.2.2.2.2.2.2.1)) <|
       req (inRange (y3.2.2.2.2.2.1.1.who - 1) (lenL y3.2.2.2.2.2.2.2.2.2.2.2.2.1)) <|
       (geti y3.2.2.2.2.2.2.2.2.2.2.2.2.1 (y3.2.2.2.2.2.1.1.who - 1)).bind fun p5 =>
       some ((y3.2.2.2.2.2.2.2.2.2.2.1.1, y4.1.1, y4.1.2.1, y4.1.2.2.1, y4.1.2.2.2.1, (seti y3.2.2.2.2.2.2.2.2.2.2.2.2.1 (y3.2.2.2.2.2.1.1.who - 1) y4.1.1, y3.2.2.2.2.2.2.2.2.2.2.2.2.2.1), ()), true, 0, ()))
       (some ((y3.2.2.2.2.2.2.2.2.2.2.1.1, y4.1.1, y4.1.2.1, y4.1.2.2.1, y4.1.2.2.2.1, (y3.2.2.2.2.2.2.2.2.2.2.2.2.1, y3.2.2.2.2.2.2.2.2.2.2.2.2.2.1), ()), false, 0, ())))
      (br (decide (y4.2.1 = 0))
       (req (inRange (y3.2.2.2.2.2.1.1.who - 1) (lenL y3.2.2.2.2.2.2.2.2.2.2.2.2.1)) <|
       req (inRange (y3.2.2.2.2.2.1.1.who - 1) (lenL y3.2.2.2.2.2.2.2.2.2.2.2.2.1)) <|
       (geti y3.2.2.2.2.2.2.2.2.2.2.2.2.1 (y3.2.2.2.2.2.1.1.who - 1)).bind fun p5 =>
       some ((y3.2.2.2.2.2.2.2.2.2.2.1.1, y3.2.2.2.2.2.2.2.2.2.2.1.2.1, y3.2.2.2.2.2.2.2.2.2.2.1.2.2.1, y3.2.2.2.2.2.2.2.2.2.2.1.2.2.2.1, y3.2.2.2.2.2.2.2.2.2.2.2.1, (seti y3.2.2.2.2.2.2.2.2.2.2.2.2.1 (y3.2.2.2.2.2.1.1.who - 1) y4.1.1, y3.2.2.2.2.2.2.2.2.2.2.2.2.2.1), ()), true, 0, ()))
       (some ((y3.2.2.2.2.2.2.2.2.2.2.1.1, y3.2.2.2.2.2.2.2.2.2.2.1.2.1, y3.2.2.2.2.2.2.2.2.2.2.1.2.2.1, y3.2.2.2.2.2.2.2.2.2.2.1.2.2.2.1, y3.2.2.2.2.2.2.2.2.2.2.2.1, (y3.2.2.2.2.2.2.2.2.2.2.2.2.1, y3.2.2.2.2.2.2.2.2.2.2.2.2.2.1), ()), false, 0, ()))))
     (br (decide (y3.2.2.2.2.2.1.1.kind = 3))
      (req (inRange (y3.2.2.2.2.2.1.1.who - 1) (lenL y3.2.2.2.2.2.2.2.2.2.2.2.2.1)) <|
      req (inRange (y3.2.2.2.2.2.1.1.who - 1) (lenL y3.2.2.2.2.2.2.2.2.2.2.2.2.1)) <|
      (geti y3.2.2.2.2.2.2.2.2.2.2.2.2.1 (y3.2.2.2.2.2.1.1.who - 1)).bind fun p4 =>
      dup 1 <|
      (fence_Put_t y3.2.2.2.2.2.2.2.2.2.2.1.2.1 y3.2.2.2.2.2.2.2.2.2.2.1.2.2.1 y3.2.2.2.2.2.2.2.2.2.2.1.2.2.2.1 y3.2.2.2.2.2.2.2.2.2.2.2.1 p4 y3.2.2.2.2.2.1.1.op).bind fun y5 =>
      br (decide (y5.2.1 = 0))
       (some ((y3.2.2.2.2.2.2.2.2.2.2.1.1, y5.1.1, y5.1.2.1, y5.1.2.2.1, y5.1.2.2.2.1, (y3.2.2.2.2.2.2.2.2.2.2.2.2.1, y3.2.2.2.2.2.2.2.2.2.2.2.2.2.1), ()), decide (y5.2.1 = 0), 0, ()))
       (some ((y3.2.2.2.2.2.2.2.2.2.2.1.1, y3.2.2.2.2.2.2.2.2.2.2.1.2.1, y3.2.2.2.2.2.2.2.2.2.2.1.2.2.1, y3.2.2.2.2.2.2.2.2.2.2.1.2.2.2.1, y3.2.2.2.2.2.2.2.2.2.2.2.1, (y3.2.2.2.2.2.2.2.2.2.2.2.2.1, y3.2.2.2.2.2.2.2.2.2.2.2.2.2.1), ()), decide (y5.2.1 = 0), 0, ())))
      (br (decide (y3.2.2.2.2.2.1.1.kind = 4))
       (req (inRange (y3.2.2.2.2.2.1.1.who - 1) (lenL y3.2.2.2.2.2.2.2.2.2.2.2.2.1)) <|
       req (inRange (y3.2.2.2.2.2.1.1.who - 1) (lenL y3.2.2.2.2.2.2.2.2.2.2.2.2.1)) <|
       (geti y3.2.2.2.2.2.2.2.2.2.2.2.2.1 (y3.2.2.2.2.2.1.1.who - 1)).bind fun p4 =>
       req (inRange (y3.2.2.2.2.2.1.1.who - 1) (lenL y3.2.2.2.2.2.2.2.2.2.2.2.2.1)) <|
       req (inRange (y3.2.2.2.2.2.1.1.who - 1) (lenL y3.2.2.2.2.2.2.2.2.2.2.2.2.1)) <|
       (geti y3.2.2.2.2.2.2.2.2.2.2.2.2.1 (y3.2.2.2.2.2.1.1.who - 1)).bind fun p5 =>
       (ship_Behind_t (getL y3.2.2.2.2.2.2.2.2.2.2.2.2.2.1 (y3.2.2.2.2.2.1.1.who - 1)) y3.2.2.2.2.2.2.2.2.2.2.2.1 y3.2.2.2.2.2.1.1.n).bind fun y6 =>
       req (decide (0 ≤ y3.2.2.2.2.2.1.1.who - 1)) <|
       req (room (lenL (getL y3.2.2.2.2.2.2.2.2.2.2.2.2.2.1 (y3.2.2.2.2.2.1.1.who - 1))) (lenL y6.1)) <|
       req (inRange (y3.2.2.2.2.2.1.1.who - 1) (lenL y3.2.2.2.2.2.2.2.2.2.2.2.2.1)) <|
       req (inRange (y3.2.2.2.2.2.1.1.who - 1) (lenL y3.2.2.2.2.2.2.2.2.2.2.2.2.1)) <|
       req (decide (y3.2.2.2.2.2.1.1.who - 1 = y3.2.2.2.2.2.1.1.who - 1)) <|
       (geti y3.2.2.2.2.2.2.2.2.2.2.2.2.1 (y3.2.2.2.2.2.1.1.who - 1)).bind fun p7 =>
       some ((y3.2.2.2.2.2.2.2.2.2.2.1.1, y3.2.2.2.2.2.2.2.2.2.2.1.2.1, y3.2.2.2.2.2.2.2.2.2.2.1.2.2.1, y3.2.2.2.2.2.2.2.2.2.2.1.2.2.2.1, y3.2.2.2.2.2.2.2.2.2.2.2.1, (seti y3.2.2.2.2.2.2.2.2.2.2.2.2.1 (y3.2.2.2.2.2.1.1.who - 1) p7, seti (padL y3.2.2.2.2.2.2.2.2.2.2.2.2.1.length (outL y3.2.2.2.2.2.2.2.2.2.2.2.2.2.1 (y3.2.2.2.2.2.1.1.who - 1))) (y3.2.2.2.2.2.1.1.who - 1) ((getL y3.2.2.2.2.2.2.2.2.2.2.2.2.2.1 (y3.2.2.2.2.2.1.1.who - 1)) ++ y6.1)), ()), true, 0, ()))
       (br (decide (y3.2.2.2.2.2.1.1.kind = 5))
        (req (inRange (y3.2.2.2.2.2.1.1.who - 1) (lenL y3.2.2.2.2.2.2.2.2.2.2.2.2.1)) <|
        (geti y3.2.2.2.2.2.2.2.2.2.2.2.2.1 (y3.2.2.2.2.2.1.1.who - 1)).bind fun p4 =>
        some ((y3.2.2.2.2.2.2.2.2.2.2.1.1, y3.2.2.2.2.2.2.2.2.2.2.1.2.1, y3.2.2.2.2.2.2.2.2.2.2.1.2.2.1, y3.2.2.2.2.2.2.2.2.2.2.1.2.2.2.1, y3.2.2.2.2.2.2.2.2.2.2.2.1, (seti y3.2.2.2.2.2.2.2.2.2.2.2.2.1 (y3.2.2.2.2.2.1.1.who - 1) 0, seti (padL y3.2.2.2.2.2.2.2.2.2.2.2.2.1.length y3.2.2.2.2.2.2.2.2.2.2.2.2.2.1) (y3.2.2.2.2.2.1.1.who - 1) ([] : List En)), ()), true, 0, ()))
        (some ((y3.2.2.2.2.2.2.2.2.2.2.1.1, y3.2.2.2.2.2.2.2.2.2.2.1.2.1, y3.2.2.2.2.2.2.2.2.2.2.1.2.2.1, y3.2.2.2.2.2.2.2.2.2.2.1.2.2.2.1, y3.2.2.2.2.2.2.2.2.2.2.2.1, (y3.2.2.2.2.2.2.2.2.2.2.2.2.1, y3.2.2.2.2.2.2.2.2.2.2.2.2.2.1), ()), true, 0, ()))))))))
noncomputable def zq70 (a0 : List Ls) : Option ((List Ls) × Unit) :=
 nilB a0.length
  (some (([] : List Ls), ()))
  (req (room (lenL ([] : List Ls)) (lenL a0)) <|
  some (([] : List Ls) ++ a0, ()))
noncomputable def zq65 (a0 : List Ad) : Option ((List Ad) × Unit) :=
 nilB a0.length
  (some (([] : List Ad), ()))
  (req (room (lenL ([] : List Ad)) (lenL a0)) <|
  some (([] : List Ad) ++ a0, ()))
noncomputable def state_Own_L3 (rec : (((Unit) × (Unit) × (Unit) × (Int × Unit) × (Int × Unit) × Unit) × (List (List Ad) × List Pf × List Ls × (Int × Unit) × (Int × Unit) × List Pf × List Ls × List Pf × List Ls × List (List Ad) × List (List Ad) × Unit)) → Option (((Unit) × (Unit) × Unit) × (List (List Ad) × List Pf × List Ls × (Int × Unit) × (Int × Unit) × List Pf × List Ls × List Pf × List Ls × List (List Ad) × List (List Ad) × Unit))) (x : (((Unit) × (Unit) × (Unit) × (Int × Unit) × (Int × Unit) × Unit) × (List (List Ad) × List Pf × List Ls × (Int × Unit) × (Int × Unit) × List Pf × List Ls × List Pf × List Ls × List (List Ad) × List (List Ad) × Unit))) : Option (((Unit) × (Unit) × Unit) × (List (List Ad) × List Pf × List Ls × (Int × Unit) × (Int × Unit) × List Pf × List Ls × List Pf × List Ls × List (List Ad) × List (List Ad) × Unit)) :=
 let v0 := x.1.2.2.2.1.1
 let v1 := x.1.2.2.2.2.1.1
 let v2 := x.2.1
 let v3 := x.2.2.1
 let v4 := x.2.2.2.1
 let v5 := x.2.2.2.2.1.1
 let v6 := x.2.2.2.2.2.1.1
 let v7 := x.2.2.2.2.2.2.1
 let v8 := x.2.2.2.2.2.2.2.1
 let v9 := x.2.2.2.2.2.2.2.2.1
 let v10 := x.2.2.2.2.2.2.2.2.2.1
 let v11 := x.2.2.2.2.2.2.2.2.2.2.1
 let v12 := x.2.2.2.2.2.2.2.2.2.2.2.1
 br (decide (v1 < v0))
  (req (inRange v1 (lenL v3)) <|
  (geti v3 v1).bind fun p1 =>
  both
   (both
    ((zq65 (getL v2 v1)).bind fun y2 =>
    req (room (lenL v9) (lenL ([p1] : List Pf))) <|
    req (i64ok (v1 + 1)) <|
    rec (((()), (()), (()), (v0, ()), (v1 + 1, ()), ()), (v2, v3, v4, (v5, ()), (v6, ()), v7, v8, v9 ++ ([p1] : List Pf), v10, v11, padL v9.length v12 ++ ([y2.1] : List (List Ad)), ())))
    ((zq65 (getL v2 v1)).bind fun y2 =>
    dup 1 <|
    req (room (lenL v9) (lenL ([p1] : List Pf))) <|
    req (i64ok (v1 + 1)) <|
    rec (((()), (()), (()), (v0, ()), (v1 + 1, ()), ()), (v2, v3, v4, (v5, ()), (v6, ()), v7, v8, v9 ++ ([p1] : List Pf), v10, v11, padL v9.length v12 ++ ([y2.1] : List (List Ad)), ()))))
   ((zq65 (getL v2 v1)).bind fun y2 =>
   both
    (dup 1 <|
    req (room (lenL v9) (lenL ([p1] : List Pf))) <|
    req (i64ok (v1 + 1)) <|
    rec (((()), (()), (()), (v0, ()), (v1 + 1, ()), ()), (v2, v3, v4, (v5, ()), (v6, ()), v7, v8, v9 ++ ([p1] : List Pf), v10, v11, padL v9.length v12 ++ ([y2.1] : List (List Ad)), ())))
    (req (room (lenL v9) (lenL ([p1] : List Pf))) <|
    req (i64ok (v1 + 1)) <|
    rec (((()), (()), (()), (v0, ()), (v1 + 1, ()), ()), (v2, v3, v4, (v5, ()), (v6, ()), v7, v8, v9 ++ ([p1] : List Pf), v10, v11, padL v9.length v12 ++ ([y2.1] : List (List Ad)), ())))))
  (some (((()), (()), ()), (v2, v3, v4, (v5, ()), (v6, ()), v7, v8, v9, v10, v11, v12, ())))
noncomputable def state_Own_t (a0 : List Pf × List (List Ad)) (a1 : List Ls) (a2 : Int) : Option (((List Pf × List (List Ad)) × (List Ls) × Int × Unit) × Unit) :=
 dup 1 <|
 (zq70 a1).bind fun y1 =>
 (loopN state_Own_L3 FUEL (((()), (()), (()), (lenL a0.1, ()), (0, ()), ()), (a0.2, a0.1, a1, (0, ()), (a2, ()), ([] : List Pf), ([] : List Ls), ([] : List Pf), y1.1, ([] : List (List Ad)), ([] : List (List Ad)), ()))).bind fun y2 =>
 some (((y2.2.2.2.2.2.2.2.2.1, y2.2.2.2.2.2.2.2.2.2.2.2.1), y2.2.2.2.2.2.2.2.2.2.1, y2.2.2.2.2.2.1.1, ()), ())
noncomputable def prefix_Holds_t (a0 : Pf) (a1 : Ad) : Option (Bool × Unit) :=
 (br (beqB a0.ad.v6 a1.v6)
   ((prefix_Cut_t a1 a0.bits).bind fun y1 =>
   some (eqAd y1.1 a0.ad))
   (some false)).bind fun c1 =>
 some (c1, ())
noncomputable def prefix_Over_t (a0 : Pf) (a1 : Pf) : Option (Bool × Unit) :=
 (br (decide (a0.bits ≤ a1.bits))
   ((prefix_Holds_t a0 a1.ad).bind fun y1 =>
   some y1.1)
   (some false)).bind fun c1 =>
 some (c1, ())
noncomputable def prefix_Meet_t (a0 : Pf) (a1 : Pf) : Option (Bool × Unit) :=
 (prefix_Over_t a0 a1).bind fun y1 =>
 (br y1.1
   (some true)
   ((prefix_Over_t a1 a0).bind fun y2 =>
   some y2.1)).bind fun c2 =>
 some (c2, ())
noncomputable def m_state_doer__pool_1_t (a0 : Pf) (a1 : List Ad) (a2 : Pf) : Option (Bool × Unit) :=
 (prefix_Meet_t a0 a2).bind fun y1 =>
 some (y1.1, ())
noncomputable def addr_Order_1_t (a0 : Int) (a1 : Int) : Option (Int × Unit) :=
 br (decide (a0 < a1))
  (some ((-1), ()))
  (br (decide (a0 > a1))
   (some (1, ()))
   (some (0, ())))
noncomputable def addr_Order_t (a0 : Ad) (a1 : Ad) : Option (Int × Unit) :=
 (br (!(beqB a0.v6 a1.v6))
   (some a1.v6)
   (some false)).bind fun c1 =>
 br c1
  (some ((-1), ()))
  (br (!(beqB a0.v6 a1.v6))
   (some (1, ()))
   (br (!decide (a0.hi = a1.hi))
    ((addr_Order_1_t a0.hi a1.hi).bind fun y2 =>
    some (y2.1, ()))
    ((addr_Order_1_t a0.lo a1.lo).bind fun y2 =>
    some (y2.1, ()))))
noncomputable def prefix_Order_t (a0 : Pf) (a1 : Pf) : Option (Int × Unit) :=
 (addr_Order_t a0.ad a1.ad).bind fun y1 =>
 br (!decide (y1.1 = 0))
  (some (y1.1, ()))
  (req (i64ok (a0.bits - a1.bits)) <|
  some (a0.bits - a1.bits, ()))
noncomputable def zq14 (a0 : Pf) (a1 : List Ad) (a2 : Pf) : Option (Int × Unit) :=
 (prefix_Order_t a0 a2).bind fun y1 =>
 some (y1.1, ())
noncomputable def state_poolOf_1_t (a0 : Pf) (a1 : List Ad) (a2 : Ad) : Option (Bool × Unit) :=
 (prefix_Holds_t a0 a2).bind fun y1 =>
 some (y1.1, ())
noncomputable def zq104 (rec : (((Unit) × (Unit) × (Int × Unit) × (Int × Unit) × Unit) × (List (List Ad) × List Pf × List Ls × (Int × Unit) × (Ad × Unit) × Unit)) → Option ((((Int × Unit) × Unit) × (List (List Ad) × List Pf × List Ls × (Int × Unit) × (Ad × Unit) × Unit)) ⊕ ((Unit) × (List (List Ad) × List Pf × List Ls × (Int × Unit) × (Ad × Unit) × Unit)))) (x : (((Unit) × (Unit) × (Int × Unit) × (Int × Unit) × Unit) × (List (List Ad) × List Pf × List Ls × (Int × Unit) × (Ad × Unit) × Unit))) : Option ((((Int × Unit) × Unit) × (List (List Ad) × List Pf × List Ls × (Int × Unit) × (Ad × Unit) × Unit)) ⊕ ((Unit) × (List (List Ad) × List Pf × List Ls × (Int × Unit) × (Ad × Unit) × Unit))) :=
 let v0 := x.1.2.2.1.1
 let v1 := x.1.2.2.2.1.1
 let v2 := x.2.1
 let v3 := x.2.2.1
 let v4 := x.2.2.2.1
 let v5 := x.2.2.2.2.1.1
 let v6 := x.2.2.2.2.2.1.1
 br (decide (v1 < v0))
  (req (inRange v1 (lenL v3)) <|
  (geti v3 v1).bind fun p1 =>
  (state_poolOf_1_t p1 (getL v2 v1) v6).bind fun y2 =>
  br y2.1
   (some (Sum.inl (((v1, ()), ()), (v2, v3, v4, (v5, ()), (v6, ()), ()))))
   (req (i64ok (v1 + 1)) <|
   rec (((()), (()), (v0, ()), (v1 + 1, ()), ()), (v2, v3, v4, (v5, ()), (v6, ()), ()))))
  (some (Sum.inr (((()), (v2, v3, v4, (v5, ()), (v6, ()), ())))))
noncomputable def state_poolOf_t (a0 : List Pf × List (List Ad)) (a1 : List Ls) (a2 : Int) (a3 : Ad) : Option (Int × Unit) :=
 (loopN zq104 FUEL (((()), (()), (lenL a0.1, ()), (0, ()), ()), (a0.2, a0.1, a1, (a2, ()), (a3, ()), ()))).bind fun y1 =>
 sumC y1 (fun y2 =>
  some (y2.1.1.1, ())) (fun y3 =>
  some ((-1), ()))
noncomputable def m_state_doer__find_1_t (a0 : Ls) (a1 : ByteArray) : Option (Bool × Unit) :=
 some (strcmp .eql a0.who a1, ())
noncomputable def zq10 (rec : (((Unit) × (Unit) × (Int × Unit) × (Int × Unit) × Unit) × ((Int × Unit) × List (List Ad) × List Pf × List Ls × (ByteArray × Unit) × Unit)) → Option ((((Int × Unit) × Unit) × ((Int × Unit) × List (List Ad) × List Pf × List Ls × (ByteArray × Unit) × Unit)) ⊕ ((Unit) × ((Int × Unit) × List (List Ad) × List Pf × List Ls × (ByteArray × Unit) × Unit)))) (x : (((Unit) × (Unit) × (Int × Unit) × (Int × Unit) × Unit) × ((Int × Unit) × List (List Ad) × List Pf × List Ls × (ByteArray × Unit) × Unit))) : Option ((((Int × Unit) × Unit) × ((Int × Unit) × List (List Ad) × List Pf × List Ls × (ByteArray × Unit) × Unit)) ⊕ ((Unit) × ((Int × Unit) × List (List Ad) × List Pf × List Ls × (ByteArray × Unit) × Unit))) :=
 let v0 := x.1.2.2.1.1
 let v1 := x.1.2.2.2.1.1
 let v2 := x.2.1.1
 let v3 := x.2.2.1
 let v4 := x.2.2.2.1
 let v5 := x.2.2.2.2.1
 let v6 := x.2.2.2.2.2.1.1
 br (decide (v1 < v0))
  (req (inRange v1 (lenL v5)) <|
  (geti v5 v1).bind fun p1 =>
  (m_state_doer__find_1_t p1 v6).bind fun y2 =>
  br y2.1
   (some (Sum.inl (((v1, ()), ()), ((v2, ()), v3, v4, v5, (v6, ()), ()))))
   (req (i64ok (v1 + 1)) <|
   rec (((()), (()), (v0, ()), (v1 + 1, ()), ()), ((v2, ()), v3, v4, v5, (v6, ()), ()))))
  (some (Sum.inr (((()), ((v2, ()), v3, v4, v5, (v6, ()), ())))))
noncomputable def m_state_doer__find_t (a0 : List Pf × List (List Ad)) (a1 : List Ls) (a2 : Int) (a3 : ByteArray) : Option (Int × Unit) :=
 (loopN zq10 FUEL (((()), (()), (lenL a1, ()), (0, ()), ()), ((a2, ()), a0.2, a0.1, a1, (a3, ()), ()))).bind fun y1 =>
 sumC y1 (fun y2 =>
  some (y2.1.1.1, ())) (fun y3 =>
  some ((-1), ()))
noncomputable def lease_Live_1_t (a0 : Ls) (a1 : Int) : Option (Bool × Unit) :=
 some (decide (a0.upto < a1), ())
noncomputable def zq38 (rec : (((Unit) × (Unit) × (Int × Unit) × (Int × Unit) × Unit) × (List Ls × (Int × Unit) × List Ls × List Ls × List Ls × Unit)) → Option ((((Int × Unit) × Unit) × (List Ls × (Int × Unit) × List Ls × List Ls × List Ls × Unit)) ⊕ ((Unit) × (List Ls × (Int × Unit) × List Ls × List Ls × List Ls × Unit)))) (x : (((Unit) × (Unit) × (Int × Unit) × (Int × Unit) × Unit) × (List Ls × (Int × Unit) × List Ls × List Ls × List Ls × Unit))) : Option ((((Int × Unit) × Unit) × (List Ls × (Int × Unit) × List Ls × List Ls × List Ls × Unit)) ⊕ ((Unit) × (List Ls × (Int × Unit) × List Ls × List Ls × List Ls × Unit))) :=
 let v0 := x.1.2.2.1.1
 let v1 := x.1.2.2.2.1.1
 let v2 := x.2.1
 let v3 := x.2.2.1.1
 let v4 := x.2.2.2.1
 let v5 := x.2.2.2.2.1
 let v6 := x.2.2.2.2.2.1
 br (decide (v1 < v0))
  (req (inRange v1 (lenL v5)) <|
  (geti v5 v1).bind fun p1 =>
  (lease_Live_1_t p1 v3).bind fun y2 =>
  br y2.1
   (some (Sum.inl (((v1, ()), ()), (v2, (v3, ()), v4, v5, v6, ()))))
   (req (i64ok (v1 + 1)) <|
   rec (((()), (()), (v0, ()), (v1 + 1, ()), ()), (v2, (v3, ()), v4, v5, v6, ()))))
  (some (Sum.inr (((()), (v2, (v3, ()), v4, v5, v6, ())))))
noncomputable def zq34 (rec : (((Unit) × (Unit) × (Int × Unit) × (Int × Unit) × Unit) × (List Ls × (Int × Unit) × List Ls × List Ls × Unit)) → Option (((Unit) × (Int × Unit) × Unit) × (List Ls × (Int × Unit) × List Ls × List Ls × Unit))) (x : (((Unit) × (Unit) × (Int × Unit) × (Int × Unit) × Unit) × (List Ls × (Int × Unit) × List Ls × List Ls × Unit))) : Option (((Unit) × (Int × Unit) × Unit) × (List Ls × (Int × Unit) × List Ls × List Ls × Unit)) :=
 let v0 := x.1.2.2.1.1
 let v1 := x.1.2.2.2.1.1
 let v2 := x.2.1
 let v3 := x.2.2.1.1
 let v4 := x.2.2.2.1
 let v5 := x.2.2.2.2.1
 br (decide (v1 < lenL v5))
  (req (inRange v1 (lenL v5)) <|
  (geti v5 v1).bind fun p1 =>
  (lease_Live_1_t p1 v3).bind fun y2 =>
  br (!y2.1)
   (req (inRange v0 (lenL v5)) <|
   (geti v5 v0).bind fun p3 =>
   req (i64ok (v0 + 1)) <|
   req (i64ok (v1 + 1)) <|
   rec (((()), (()), (v0 + 1, ()), (v1 + 1, ()), ()), (v2, (v3, ()), v4, seti v5 v0 p1, ())))
   (req (i64ok (v1 + 1)) <|
   rec (((()), (()), (v0, ()), (v1 + 1, ()), ()), (v2, (v3, ()), v4, v5, ()))))
  (some (((()), (v0, ()), ()), (v2, (v3, ()), v4, v5, ())))
noncomputable def lease_Live_t (a0 : List Ls) (a1 : Int) : Option ((List Ls) × Unit) :=
 (zq70 a0).bind fun y1 =>
 (loopN zq38 FUEL (((()), (()), (lenL y1.1, ()), (0, ()), ()), (a0, (a1, ()), ([] : List Ls), y1.1, ([] : List Ls), ()))).bind fun y2 =>
 sumC y2 (fun y3 =>
  br (decide (y3.1.1.1 = (-1)))
   (some (y3.2.2.2.2.1, ()))
   (req (i64ok (y3.1.1.1 + 1)) <|
   (loopN zq34 FUEL (((()), (()), (y3.1.1.1, ()), (y3.1.1.1 + 1, ()), ()), (y3.2.1, (y3.2.2.1.1, ()), y3.2.2.2.1, y3.2.2.2.2.1, ()))).bind fun y4 =>
   req ((decide (0 ≤ y4.1.2.1.1)) && (decide (y4.1.2.1.1 ≤ lenL y4.2.2.2.2.1))) <|
   req ((decide (0 ≤ y4.1.2.1.1)) && (decide (y4.1.2.1.1 ≤ lenL (clrL y4.2.2.2.2.1 y4.1.2.1.1 (⟨(⟨false, 0, 0⟩ : Ad), (ByteArray.empty), 0⟩ : Ls))))) <|
   some (subL (clrL y4.2.2.2.2.1 y4.1.2.1.1 (⟨(⟨false, 0, 0⟩ : Ad), (ByteArray.empty), 0⟩ : Ls)) 0 y4.1.2.1.1, ()))) (fun y5 =>
  some (y5.2.2.2.2.1, ()))
noncomputable def lease_Raw_1_t (a0 : Ls) (a1 : ByteArray) : Option (Bool × Unit) :=
 some (strcmp .eql a0.who a1, ())
noncomputable def prefix_Last_t (a0 : Pf) : Option (Ad × Unit) :=
 (prefix_mask_t a0.ad a0.bits).bind fun y1 =>
 some ((⟨a0.ad.v6, aop .or .u64 a0.ad.hi y1.1.hi, aop .or .u64 a0.ad.lo y1.1.lo⟩ : Ad), ())
noncomputable def addr_After_t (a0 : Ad) : Option (Ad × Bool × Unit) :=
 (br a0.v6
   (some (decide (aop .add .u64 a0.lo 1 = 0)))
   (some false)).bind fun c1 =>
 br c1
  (some ((⟨a0.v6, aop .add .u64 a0.hi 1, aop .add .u64 a0.lo 1⟩ : Ad), !decide (aop .add .u64 a0.hi 1 = 0), ()))
  (br a0.v6
   (both
    (dup 1 <|
    some ((⟨a0.v6, a0.hi, aop .add .u64 a0.lo 1⟩ : Ad), true, ()))
    (some ((⟨a0.v6, a0.hi, aop .add .u64 a0.lo 1⟩ : Ad), true, ())))
   (some ((⟨a0.v6, a0.hi, aop .add .u64 a0.lo 1⟩ : Ad), decide (aop .add .u64 a0.lo 1 < 4294967296), ())))
noncomputable def zq72 (rec : (((Unit) × (Unit) × (Int × Unit) × (Int × Unit) × Unit) × (List Ad × (Ad × Unit) × Unit)) → Option ((((Int × Unit) × Unit) × (List Ad × Unit)) ⊕ ((Unit) × (List Ad × Unit)))) (x : (((Unit) × (Unit) × (Int × Unit) × (Int × Unit) × Unit) × (List Ad × (Ad × Unit) × Unit))) : Option ((((Int × Unit) × Unit) × (List Ad × Unit)) ⊕ ((Unit) × (List Ad × Unit))) :=
 let v0 := x.1.2.2.1.1
 let v1 := x.1.2.2.2.1.1
 let v2 := x.2.1
 let v3 := x.2.2.1.1
 br (decide (v1 < v0))
  (req (inRange v1 (lenL v2)) <|
  (geti v2 v1).bind fun p1 =>
  br (eqAd v3 p1)
   (some (Sum.inl (((v1, ()), ()), (v2, ()))))
   (req (i64ok (v1 + 1)) <|
   rec (((()), (()), (v0, ()), (v1 + 1, ()), ()), (v2, (v3, ()), ()))))
  (some (Sum.inr (((()), (v2, ())))))
noncomputable def zq74 (a0 : List Ad) (a1 : Ad) : Option (Int × Unit) :=
 (loopN zq72 FUEL (((()), (()), (lenL a0, ()), (0, ()), ()), (a0, (a1, ()), ()))).bind fun y1 =>
 sumC y1 (fun y2 =>
  some (y2.1.1.1, ())) (fun y3 =>
  some ((-1), ()))
noncomputable def zq71 (a0 : List Ad) (a1 : Ad) : Option (Bool × Unit) :=
 (zq74 a0 a1).bind fun y1 =>
 some (decide (y1.1 ≥ 0), ())
noncomputable def m_lease_book__taken_1_t (a0 : Ls) (a1 : Ad) : Option (Bool × Unit) :=
 some (eqAd a0.ad a1, ())
noncomputable def zq4 (rec : (((Unit) × (Unit) × (Int × Unit) × (Int × Unit) × Unit) × ((Bool × Int × Int × Int × Unit) × List Ad × List Ls × (Ad × Unit) × Unit)) → Option ((((Int × Unit) × Unit) × ((Bool × Int × Int × Int × Unit) × List Ad × List Ls × (Ad × Unit) × Unit)) ⊕ ((Unit) × ((Bool × Int × Int × Int × Unit) × List Ad × List Ls × (Ad × Unit) × Unit)))) (x : (((Unit) × (Unit) × (Int × Unit) × (Int × Unit) × Unit) × ((Bool × Int × Int × Int × Unit) × List Ad × List Ls × (Ad × Unit) × Unit))) : Option ((((Int × Unit) × Unit) × ((Bool × Int × Int × Int × Unit) × List Ad × List Ls × (Ad × Unit) × Unit)) ⊕ ((Unit) × ((Bool × Int × Int × Int × Unit) × List Ad × List Ls × (Ad × Unit) × Unit))) :=
 let v0 := x.1.2.2.1.1
 let v1 := x.1.2.2.2.1.1
 let v2 := x.2.1.1
 let v3 := x.2.1.2.1
 let v4 := x.2.1.2.2.1
 let v5 := x.2.1.2.2.2.1
 let v6 := x.2.2.1
 let v7 := x.2.2.2.1
 let v8 := x.2.2.2.2.1.1
 br (decide (v1 < v0))
  (req (inRange v1 (lenL v7)) <|
  (geti v7 v1).bind fun p1 =>
  (m_lease_book__taken_1_t p1 v8).bind fun y2 =>
  br y2.1
   (some (Sum.inl (((v1, ()), ()), ((v2, v3, v4, v5, ()), v6, v7, (v8, ()), ()))))
   (req (i64ok (v1 + 1)) <|
   rec (((()), (()), (v0, ()), (v1 + 1, ()), ()), ((v2, v3, v4, v5, ()), v6, v7, (v8, ()), ()))))
  (some (Sum.inr (((()), ((v2, v3, v4, v5, ()), v6, v7, (v8, ()), ())))))
noncomputable def m_lease_book__taken_t (a0 : Pf) (a1 : List Ad) (a2 : List Ls) (a3 : Ad) : Option (Bool × Unit) :=
 (zq71 a1 a3).bind fun y1 =>
 (br y1.1
   (some true)
   (((loopN zq4 FUEL (((()), (()), (lenL a2, ()), (0, ()), ()), ((a0.ad.v6, a0.ad.hi, a0.ad.lo, a0.bits, ()), a1, a2, (a3, ()), ()))).bind fun y2 =>
    sumC y2 (fun y3 =>
     some (decide (y3.1.1.1 ≥ 0), ())) (fun y4 =>
     some (false, ()))).bind fun y5 =>
   some y5.1)).bind fun c2 =>
 some (c2, ())
noncomputable def lease_Raw_2_t (a0 : Ls) (a1 : Ls) : Option (Int × Unit) :=
 (addr_Order_t a0.ad a1.ad).bind fun y1 =>
 some (y1.1, ())
noncomputable def R_between_t (a0 : Int) (a1 : Int) (a2 : Int) : Option (Bool × Unit) :=
 (br (decide (a0 ≥ a1))
   (some (decide (a0 ≤ a2)))
   (some false)).bind fun c1 =>
 some (c1, ())
noncomputable def R_CheckAddr_t (a0 : Ad) : Option (Int × Unit) :=
 (br (!a0.v6)
   (br (decide (a0.hi > 0))
    (some true)
    (some (decide (a0.lo > 4294967295))))
   (some false)).bind fun c1 =>
 br c1
  (some (3, ()))
  (some (0, ()))
noncomputable def R_wide_t (a0 : Ad) : Option (Int × Unit) :=
 br a0.v6
  (some (128, ()))
  (some (32, ()))
noncomputable def R_Bits_L3 (rec : (((Unit) × (Unit) × (Int × Unit) × Unit) × ((Ad × Unit) × List Int × Unit)) → Option (((Unit) × (Unit) × Unit) × ((Ad × Unit) × List Int × Unit))) (x : (((Unit) × (Unit) × (Int × Unit) × Unit) × ((Ad × Unit) × List Int × Unit))) : Option (((Unit) × (Unit) × Unit) × ((Ad × Unit) × List Int × Unit)) :=
 let v0 := x.1.2.2.1.1
 let v1 := x.2.1.1
 let v2 := x.2.2.1
 br (decide (v0 ≥ 0))
  (req (decide (0 ≤ v0)) <|
  req (room (lenL v2) (lenL ([convI .u8 (aop .add .u64 48 (aop .rem .u64 (aop .shr .u64 v1.hi v0) 2))] : List Int))) <|
  req (i64ok (v0 - 1)) <|
  rec (((()), (()), (v0 - 1, ()), ()), ((v1, ()), v2 ++ ([convI .u8 (aop .add .u64 48 (aop .rem .u64 (aop .shr .u64 v1.hi v0) 2))] : List Int), ())))
  (some (((()), (()), ()), ((v1, ()), v2, ())))
noncomputable def R_Bits_L7 (rec : (((Unit) × (Unit) × (Int × Unit) × Unit) × ((Ad × Unit) × List Int × Unit)) → Option (((Unit) × (Unit) × Unit) × ((Ad × Unit) × List Int × Unit))) (x : (((Unit) × (Unit) × (Int × Unit) × Unit) × ((Ad × Unit) × List Int × Unit))) : Option (((Unit) × (Unit) × Unit) × ((Ad × Unit) × List Int × Unit)) :=
 let v0 := x.1.2.2.1.1
 let v1 := x.2.1.1
 let v2 := x.2.2.1
 br (decide (v0 ≥ 0))
  (req (decide (0 ≤ v0)) <|
  req (room (lenL v2) (lenL ([convI .u8 (aop .add .u64 48 (aop .rem .u64 (aop .shr .u64 v1.lo v0) 2))] : List Int))) <|
  req (i64ok (v0 - 1)) <|
  rec (((()), (()), (v0 - 1, ()), ()), ((v1, ()), v2 ++ ([convI .u8 (aop .add .u64 48 (aop .rem .u64 (aop .shr .u64 v1.lo v0) 2))] : List Int), ())))
  (some (((()), (()), ()), ((v1, ()), v2, ())))
noncomputable def R_Bits_t (a0 : Ad) : Option (ByteArray × Unit) :=
 (loopN R_Bits_L3 FUEL (((()), (()), (63, ()), ()), ((a0, ()), ([] : List Int), ()))).bind fun y1 =>
 (loopN R_Bits_L7 FUEL (((()), (()), (63, ()), ()), ((y1.2.1.1, ()), y1.2.2.1, ()))).bind fun y2 =>
 br (!y2.2.1.1.v6)
  (req ((decide (96 ≤ lenL y2.2.2.1)) && (decide (lenL y2.2.2.1 ≤ lenL y2.2.2.1))) <|
  some (bytesOf (subL y2.2.2.1 96 (lenL y2.2.2.1)), ()))
  (some (bytesOf y2.2.2.1, ()))
noncomputable def R_CheckPrefix_L8 (rec : (((ByteArray × Unit) × (Int × Unit) × Unit) × (Unit)) → Option ((((Int × Unit) × Unit) × (Unit)) ⊕ ((Unit) × (Unit)))) (x : (((ByteArray × Unit) × (Int × Unit) × Unit) × (Unit))) : Option ((((Int × Unit) × Unit) × (Unit)) ⊕ ((Unit) × (Unit))) :=
 let v0 := x.1.1.1
 let v1 := x.1.2.1.1
 br (decide (v1 < lenS v0))
  (req (inRange v1 (lenS v0)) <|
  br (!decide (byteAt v0 v1 = 48))
   (some (Sum.inl (((4, ()), ()), (()))))
   (req (i64ok (v1 + 1)) <|
   rec (((v0, ()), (v1 + 1, ()), ()), (()))))
  (some (Sum.inr (((()), (())))))
noncomputable def R_CheckPrefix_t (a0 : Pf) : Option (Int × Unit) :=
 (R_CheckAddr_t a0.ad).bind fun y1 =>
 br (!decide (y1.1 = 0))
  (some (y1.1, ()))
  ((R_wide_t a0.ad).bind fun y2 =>
  (R_between_t a0.bits 0 y2.1).bind fun y3 =>
  br (!y3.1)
   (some (3, ()))
   ((R_Bits_t a0.ad).bind fun y4 =>
   (loopN R_CheckPrefix_L8 FUEL (((y4.1, ()), (a0.bits, ()), ()), (()))).bind fun y5 =>
   sumC y5 (fun y6 =>
    some (y6.1.1.1, ())) (fun y7 =>
    some (0, ()))))
noncomputable def R_IsNarrow_t (a0 : Pf) : Option (Bool × Unit) :=
 (R_wide_t a0.ad).bind fun y1 =>
 req (i64ok (y1.1 - a0.bits)) <|
 some (decide (y1.1 - a0.bits ≤ 4), ())
noncomputable def R_IsWho_L2 (rec : (((ByteArray × Unit) × (Int × Unit) × Unit) × (Unit)) → Option ((((Bool × Unit) × Unit) × (Unit)) ⊕ (((ByteArray × Unit) × Unit) × (Unit)))) (x : (((ByteArray × Unit) × (Int × Unit) × Unit) × (Unit))) : Option ((((Bool × Unit) × Unit) × (Unit)) ⊕ (((ByteArray × Unit) × Unit) × (Unit))) :=
 let v0 := x.1.1.1
 let v1 := x.1.2.1.1
 br (decide (v1 < lenS v0))
  (req (inRange v1 (lenS v0)) <|
  (R_between_t (convI .i64 (byteAt v0 v1)) 97 122).bind fun y1 =>
  (br (!y1.1)
    (req (inRange v1 (lenS v0)) <|
    (R_between_t (convI .i64 (byteAt v0 v1)) 48 57).bind fun y2 =>
    some (!y2.1))
    (some false)).bind fun c2 =>
  br c2
   (some (Sum.inl (((false, ()), ()), (()))))
   (req (i64ok (v1 + 1)) <|
   rec (((v0, ()), (v1 + 1, ()), ()), (()))))
  (some (Sum.inr ((((v0, ()), ()), (())))))
noncomputable def R_IsWho_t (a0 : ByteArray) : Option (Bool × Unit) :=
 (loopN R_IsWho_L2 FUEL (((a0, ()), (0, ()), ()), (()))).bind fun y1 =>
 sumC y1 (fun y2 =>
  some (y2.1.1.1, ())) (fun y3 =>
  (R_between_t (lenS y3.1.1.1) 1 8).bind fun y4 =>
  some (y4.1, ()))
noncomputable def R_CheckOp_t (a0 : Oq) : Option (Int × Unit) :=
 (R_between_t a0.kind 1 5).bind fun y1 =>
 br (!y1.1)
  (some (7, ()))
  ((br (!decide (a0.kind = 1))
    (some (!(eqPf a0.pf (⟨(⟨false, 0, 0⟩ : Ad), 0⟩ : Pf))))
    (some false)).bind fun c2 =>
  (br c2
    (some true)
    (br (!decide (a0.kind = 2))
     (some (!(eqAd a0.ad (⟨false, 0, 0⟩ : Ad))))
     (some false))).bind fun c3 =>
  (br c3
    (some true)
    (br (!decide (a0.kind = 3))
     (br (!decide (a0.kind = 4))
      (some (strcmp .neq a0.who (ByteArray.empty)))
      (some false))
     (some false))).bind fun c4 =>
  (br c4
    (some true)
    (br (!decide (a0.kind = 3))
     (some (!decide (a0.of_ = 0)))
     (some false))).bind fun c5 =>
  (br c5
    (some true)
    (br (!decide (a0.kind = 3))
     (br (!decide (a0.kind = 5))
      (some (!decide (a0.n = 0)))
      (some false))
     (some false))).bind fun c6 =>
  br c6
   (some (1, ()))
   (br (decide (a0.kind = 1))
    ((R_CheckPrefix_t a0.pf).bind fun y7 =>
    (br (decide (y7.1 = 0))
      ((R_IsNarrow_t a0.pf).bind fun y8 =>
      some (!y8.1))
      (some false)).bind fun c8 =>
    br c8
     (some (2, ()))
     (some (y7.1, ())))
    (br (decide (a0.kind = 2))
     ((R_CheckAddr_t a0.ad).bind fun y7 =>
     some (y7.1, ()))
     ((br (decide (a0.kind < 5))
       ((R_IsWho_t a0.who).bind fun y7 =>
       some (!y7.1))
       (some false)).bind fun c7 =>
     br c7
      (some (1, ()))
      ((br (decide (a0.kind = 3))
        ((R_between_t a0.of_ 0 2).bind fun y8 =>
        br (!y8.1)
         (some true)
         ((R_between_t a0.n 1 500).bind fun y9 =>
         some (!y9.1)))
        (some false)).bind fun c8 =>
      br c8
       (some (3, ()))
       ((br (decide (a0.kind = 5))
         ((R_between_t a0.n 0 9999).bind fun y9 =>
         some (!y9.1))
         (some false)).bind fun c9 =>
       br c9
        (some (3, ()))
        (some (0, ()))))))))
noncomputable def law_v4_t (a0 : Int) : Option (Ad × Unit) :=
 some ((⟨false, 0, a0⟩ : Ad), ())
noncomputable def law_net_t (a0 : Int) (a1 : Int) : Option (Pf × Unit) :=
 (law_v4_t a0).bind fun y1 =>
 some ((⟨y1.1, a1⟩ : Pf), ())
noncomputable def law_some_t : Option ((List Oq) × Unit) :=
 (law_net_t 8 30).bind fun y1 =>
 (law_v4_t 8).bind fun y2 =>
 some (([(⟨1, y1.1, (⟨false, 0, 0⟩ : Ad), (ByteArray.empty), 0, 0⟩ : Oq), (⟨2, (⟨(⟨false, 0, 0⟩ : Ad), 0⟩ : Pf), y2.1, (ByteArray.empty), 0, 0⟩ : Oq), (⟨3, (⟨(⟨false, 0, 0⟩ : Ad), 0⟩ : Pf), (⟨false, 0, 0⟩ : Ad), (⟨#[120]⟩ : ByteArray), 0, 10⟩ : Oq)] : List Oq), ())
noncomputable def law_events_t : Option ((List Ev) × Unit) :=
 law_some_t.bind fun y1 =>
 req (inRange 0 (lenL y1.1)) <|
 (geti y1.1 0).bind fun p2 =>
 law_some_t.bind fun y3 =>
 req (inRange 1 (lenL y3.1)) <|
 (geti y3.1 1).bind fun p4 =>
 law_some_t.bind fun y5 =>
 req (inRange 2 (lenL y5.1)) <|
 (geti y5.1 2).bind fun p6 =>
 some (([(⟨2, 1, 0, (⟨0, (⟨(⟨false, 0, 0⟩ : Ad), 0⟩ : Pf), (⟨false, 0, 0⟩ : Ad), (ByteArray.empty), 0, 0⟩ : Oq)⟩ : Ev), (⟨3, 1, 0, p2⟩ : Ev), (⟨1, 0, 11, (⟨0, (⟨(⟨false, 0, 0⟩ : Ad), 0⟩ : Pf), (⟨false, 0, 0⟩ : Ad), (ByteArray.empty), 0, 0⟩ : Oq)⟩ : Ev), (⟨2, 2, 0, (⟨0, (⟨(⟨false, 0, 0⟩ : Ad), 0⟩ : Pf), (⟨false, 0, 0⟩ : Ad), (ByteArray.empty), 0, 0⟩ : Oq)⟩ : Ev), (⟨3, 1, 0, p4⟩ : Ev), (⟨4, 2, 5, (⟨0, (⟨(⟨false, 0, 0⟩ : Ad), 0⟩ : Pf), (⟨false, 0, 0⟩ : Ad), (ByteArray.empty), 0, 0⟩ : Oq)⟩ : Ev), (⟨3, 2, 0, p6⟩ : Ev)] : List Ev), ())
noncomputable def cluster_New_t : Option ((Int × Int × Int × Int × (List En) × (List Int × List (List En)) × Unit) × Unit) :=
 some ((0, 0, 0, 0, ([] : List En), (([0, 0] : List Int), ([([] : List En), ([] : List En)] : List (List En))), ()), ())
noncomputable def cluster_Run_L6 (rec : (((Unit) × (Unit) × (Unit) × (Unit) × (Int × Unit) × (Int × Unit) × Unit) × (List Ev × (Int × Int × Int × Int × Unit) × (Int × Int × Int × Int × Unit) × List Bool × List En × List Int × List En × List Int × List (List En) × List (List En) × Unit)) → Option ((((Unit) × (Unit) × (Int × Unit) × Unit) × (List Ev × (Int × Int × Int × Int × Unit) × List Bool × List En × List Int × List (List En) × Unit)) ⊕ (((Unit) × (Unit) × (Unit) × Unit) × (List Ev × (Int × Int × Int × Int × Unit) × (Int × Int × Int × Int × Unit) × List Bool × List En × List Int × List En × List Int × List (List En) × List (List En) × Unit)))) (x : (((Unit) × (Unit) × (Unit) × (Unit) × (Int × Unit) × (Int × Unit) × Unit) × (List Ev × (Int × Int × Int × Int × Unit) × (Int × Int × Int × Int × Unit) × List Bool × List En × List Int × List En × List Int × List (List En) × List (List En) × Unit))) : Option ((((Unit) × (Unit) × (Int × Unit) × Unit) × (List Ev × (Int × Int × Int × Int × Unit) × List Bool × List En × List Int × List (List En) × Unit)) ⊕ (((Unit) × (Unit) × (Unit) × Unit) × (List Ev × (Int × Int × Int × Int × Unit) × (Int × Int × Int × Int × Unit) × List Bool × List En × List Int × List En × List Int × List (List En) × List (List En) × Unit))) :=
 let v0 := x.1.2.2.2.2.1.1
 let v1 := x.1.2.2.2.2.2.1.1
 let v2 := x.2.1
 let v3 := x.2.2.1.1
 let v4 := x.2.2.1.2.1
 let v5 := x.2.2.1.2.2.1
 let v6 := x.2.2.1.2.2.2.1
 let v7 := x.2.2.2.1.1
 let v8 := x.2.2.2.1.2.1
 let v9 := x.2.2.2.1.2.2.1
 let v10 := x.2.2.2.1.2.2.2.1
 let v11 := x.2.2.2.2.1
 let v12 := x.2.2.2.2.2.1
 let v13 := x.2.2.2.2.2.2.1
 let v14 := x.2.2.2.2.2.2.2.1
 let v15 := x.2.2.2.2.2.2.2.2.1
 let v16 := x.2.2.2.2.2.2.2.2.2.1
 let v17 := x.2.2.2.2.2.2.2.2.2.2.1
 br (decide (v1 < v0))
  (req (inRange v1 (lenL v2)) <|
  (geti v2 v1).bind fun p1 =>
  (zq20 v7 v8 v9 v10 v14 (v15, v17) p1).bind fun y2 =>
  br (!decide (y2.2.2.1 = 0))
   (some (Sum.inl (((()), (()), (y2.2.2.1, ()), ()), (v2, (0, 0, 0, 0, ()), ([] : List Bool), ([] : List En), ([] : List Int), ([] : List (List En)), ()))))
   (req (room (lenL v11) (lenL ([y2.2.1] : List Bool))) <|
   req (i64ok (v1 + 1)) <|
   rec (((()), (()), (()), (()), (v0, ()), (v1 + 1, ()), ()), (v2, (v3, v4, v5, v6, ()), (y2.1.1, y2.1.2.1, y2.1.2.2.1, y2.1.2.2.2.1, ()), v11 ++ ([y2.2.1] : List Bool), v12, v13, y2.1.2.2.2.2.1, y2.1.2.2.2.2.2.1.1, v16, y2.1.2.2.2.2.2.1.2, ()))))
  (some (Sum.inr ((((()), (()), (()), ()), (v2, (v3, v4, v5, v6, ()), (v7, v8, v9, v10, ()), v11, v12, v13, v14, v15, v16, v17, ())))))
noncomputable def cluster_Run_t (a0 : List Ev) : Option ((Int × Int × Int × Int × (List En) × (List Int × List (List En)) × Unit) × (List Bool) × Int × Unit) :=
 br (decide (lenL a0 > 40))
  (some ((0, 0, 0, 0, ([] : List En), (([] : List Int), ([] : List (List En))), ()), ([] : List Bool), 2, ()))
  (cluster_New_t.bind fun y1 =>
  (loopN cluster_Run_L6 FUEL (((()), (()), (()), (()), (lenL a0, ()), (0, ()), ()), (a0, (0, 0, 0, 0, ()), (y1.1.1, y1.1.2.1, y1.1.2.2.1, y1.1.2.2.2.1, ()), ([] : List Bool), ([] : List En), ([] : List Int), y1.1.2.2.2.2.1, y1.1.2.2.2.2.2.1.1, ([] : List (List En)), y1.1.2.2.2.2.2.1.2, ()))).bind fun y2 =>
  sumC y2 (fun y3 =>
   some ((y3.2.2.1.1, y3.2.2.1.2.1, y3.2.2.1.2.2.1, y3.2.2.1.2.2.2.1, y3.2.2.2.2.1, (y3.2.2.2.2.2.1, y3.2.2.2.2.2.2.1), ()), y3.2.2.2.1, y3.1.2.2.1.1, ())) (fun y4 =>
   some ((y4.2.2.2.1.1, y4.2.2.2.1.2.1, y4.2.2.2.1.2.2.1, y4.2.2.2.1.2.2.2.1, y4.2.2.2.2.2.2.2.1, (y4.2.2.2.2.2.2.2.2.1, y4.2.2.2.2.2.2.2.2.2.2.1), ()), y4.2.2.2.2.1, 0, ())))
noncomputable def R_SameLeases_L4 (rec : (((Unit) × (Unit) × (Int × Unit) × Unit) × (List Ls × List Ls × Unit)) → Option ((((Bool × Unit) × Unit) × (List Ls × List Ls × Unit)) ⊕ ((Unit) × (List Ls × List Ls × Unit)))) (x : (((Unit) × (Unit) × (Int × Unit) × Unit) × (List Ls × List Ls × Unit))) : Option ((((Bool × Unit) × Unit) × (List Ls × List Ls × Unit)) ⊕ ((Unit) × (List Ls × List Ls × Unit))) :=
 let v0 := x.1.2.2.1.1
 let v1 := x.2.1
 let v2 := x.2.2.1
 br (decide (v0 < lenL v1))
  (req (inRange v0 (lenL v1)) <|
  (geti v1 v0).bind fun p1 =>
  req (inRange v0 (lenL v2)) <|
  (geti v2 v0).bind fun p2 =>
  br (!(eqLs p1 p2))
   (some (Sum.inl (((false, ()), ()), (v1, v2, ()))))
   (req (i64ok (v0 + 1)) <|
   rec (((()), (()), (v0 + 1, ()), ()), (v1, v2, ()))))
  (some (Sum.inr (((()), (v1, v2, ())))))
noncomputable def R_SameLeases_t (a0 : List Ls) (a1 : List Ls) : Option (Bool × Unit) :=
 br (!decide (lenL a0 = lenL a1))
  (some (false, ()))
  ((loopN R_SameLeases_L4 FUEL (((()), (()), (0, ()), ()), (a0, a1, ()))).bind fun y1 =>
  sumC y1 (fun y2 =>
   some (y2.1.1.1, ())) (fun y3 =>
   some (true, ())))
noncomputable def R_SameAddrs_L4 (rec : (((Unit) × (Unit) × (Int × Unit) × Unit) × (List Ad × List Ad × Unit)) → Option ((((Bool × Unit) × Unit) × (List Ad × List Ad × Unit)) ⊕ ((Unit) × (List Ad × List Ad × Unit)))) (x : (((Unit) × (Unit) × (Int × Unit) × Unit) × (List Ad × List Ad × Unit))) : Option ((((Bool × Unit) × Unit) × (List Ad × List Ad × Unit)) ⊕ ((Unit) × (List Ad × List Ad × Unit))) :=
 let v0 := x.1.2.2.1.1
 let v1 := x.2.1
 let v2 := x.2.2.1
 br (decide (v0 < lenL v1))
  (req (inRange v0 (lenL v1)) <|
  (geti v1 v0).bind fun p1 =>
  req (inRange v0 (lenL v2)) <|
  (geti v2 v0).bind fun p2 =>
  br (!(eqAd p1 p2))
   (some (Sum.inl (((false, ()), ()), (v1, v2, ()))))
   (req (i64ok (v0 + 1)) <|
   rec (((()), (()), (v0 + 1, ()), ()), (v1, v2, ()))))
  (some (Sum.inr (((()), (v1, v2, ())))))
noncomputable def R_SameAddrs_t (a0 : List Ad) (a1 : List Ad) : Option (Bool × Unit) :=
 br (!decide (lenL a0 = lenL a1))
  (some (false, ()))
  ((loopN R_SameAddrs_L4 FUEL (((()), (()), (0, ()), ()), (a0, a1, ()))).bind fun y1 =>
  sumC y1 (fun y2 =>
   some (y2.1.1.1, ())) (fun y3 =>
   some (true, ())))
noncomputable def R_SameState_L4 (rec : (((Unit) × (Unit) × (Int × Unit) × Unit) × (List (List Ad) × List Pf × List Ls × List (List Ad) × List Pf × List Ls × (Int × Unit) × (Int × Unit) × Unit)) → Option ((((Bool × Unit) × Unit) × (List (List Ad) × List Pf × List Ls × List (List Ad) × List Pf × List Ls × Unit)) ⊕ ((Unit) × (List (List Ad) × List Pf × List Ls × List (List Ad) × List Pf × List Ls × Unit)))) (x : (((Unit) × (Unit) × (Int × Unit) × Unit) × (List (List Ad) × List Pf × List Ls × List (List Ad) × List Pf × List Ls × (Int × Unit) × (Int × Unit) × Unit))) : Option ((((Bool × Unit) × Unit) × (List (List Ad) × List Pf × List Ls × List (List Ad) × List Pf × List Ls × Unit)) ⊕ ((Unit) × (List (List Ad) × List Pf × List Ls × List (List Ad) × List Pf × List Ls × Unit))) :=
 let v0 := x.1.2.2.1.1
 let v1 := x.2.1
 let v2 := x.2.2.1
 let v3 := x.2.2.2.1
 let v4 := x.2.2.2.2.1
 let v5 := x.2.2.2.2.2.1
 let v6 := x.2.2.2.2.2.2.1
 let v7 := x.2.2.2.2.2.2.2.1.1
 let v8 := x.2.2.2.2.2.2.2.2.1.1
 br (decide (v0 < lenL v2))
  (req (inRange v0 (lenL v2)) <|
  req (inRange v0 (lenL v2)) <|
  (geti v2 v0).bind fun p1 =>
  req (inRange v0 (lenL v5)) <|
  req (inRange v0 (lenL v5)) <|
  (geti v5 v0).bind fun p2 =>
  (br (!(eqPf p1 p2))
    (some true)
    (req (inRange v0 (lenL v2)) <|
    req (inRange v0 (lenL v2)) <|
    (geti v2 v0).bind fun p3 =>
    req (inRange v0 (lenL v5)) <|
    req (inRange v0 (lenL v5)) <|
    (geti v5 v0).bind fun p4 =>
    (R_SameAddrs_t (getL v1 v0) (getL v4 v0)).bind fun y5 =>
    some (!y5.1))).bind fun c3 =>
  br c3
   (some (Sum.inl (((false, ()), ()), (v1, v2, v3, v4, v5, v6, ()))))
   (req (i64ok (v0 + 1)) <|
   rec (((()), (()), (v0 + 1, ()), ()), (v1, v2, v3, v4, v5, v6, (v7, ()), (v8, ()), ()))))
  (some (Sum.inr (((()), (v1, v2, v3, v4, v5, v6, ())))))
noncomputable def R_SameState_t (a0 : List Pf × List (List Ad)) (a1 : List Ls) (a2 : Int) (a3 : List Pf × List (List Ad)) (a4 : List Ls) (a5 : Int) : Option (Bool × Unit) :=
 (br (!decide (a2 = a5))
   (some true)
   (some (!decide (lenL a0.1 = lenL a3.1)))).bind fun c1 =>
 (br c1
   (some true)
   ((R_SameLeases_t a1 a4).bind fun y2 =>
   some (!y2.1))).bind fun c2 =>
 br c2
  (some (false, ()))
  ((loopN R_SameState_L4 FUEL (((()), (()), (0, ()), ()), (a0.2, a0.1, a1, a3.2, a3.1, a4, (a2, ()), (a5, ()), ()))).bind fun y3 =>
  sumC y3 (fun y4 =>
   some (y4.1.1.1, ())) (fun y5 =>
   some (true, ())))
noncomputable def law_entries_t : Option ((List En) × Unit) :=
 law_some_t.bind fun y1 =>
 req (inRange 0 (lenL y1.1)) <|
 (geti y1.1 0).bind fun p2 =>
 law_some_t.bind fun y3 =>
 req (inRange 1 (lenL y3.1)) <|
 (geti y3.1 1).bind fun p4 =>
 law_some_t.bind fun y5 =>
 req (inRange 2 (lenL y5.1)) <|
 (geti y5.1 2).bind fun p6 =>
 some (([(⟨1, 1, p2⟩ : En), (⟨2, 1, p4⟩ : En), (⟨3, 4, p6⟩ : En)] : List En), ())
noncomputable def log_Add_t (a0 : List En) (a1 : Int) (a2 : Oq) : Option ((List En) × Int × Unit) :=
 (log_Check_t a0).bind fun y1 =>
 br (!decide (y1.1 = 0))
  (some (([] : List En), y1.1, ()))
  ((log_More_t a0 a1 a2).bind fun y2 =>
  some (y2.1, y2.2.1, ()))
noncomputable def log_Begins_t (a0 : List En) (a1 : List En) : Option (Bool × Int × Unit) :=
 (log_Check_t a0).bind fun y1 =>
 br (!decide (y1.1 = 0))
  (some (false, y1.1, ()))
  ((log_Check_t a1).bind fun y2 =>
  br (!decide (y2.1 = 0))
   (some (false, y2.1, ()))
   ((log_Is_t a0 a1).bind fun y3 =>
   some (y3.1, 0, ())))
end Go.Ma
namespace Go.Ma
open Go
theorem addr_Check_eq (a : Ad) : addr_Check_t a = some (chkA a, ()) := by
 unfold addr_Check_t chkA
 cases hv : a.v6 <;> by_cases h1 : a.hi = 0 <;> by_cases h2 : a.lo ≥ 4294967296 <;> simp [br_true, br_false, h1, h2]
theorem R_CheckAddr_eq {a : Ad} (h : a.In) : R_CheckAddr_t a = some (chkA a, ()) := by
 have h0 := h.1.1
 unfold R_CheckAddr_t chkA
 cases hv : a.v6 <;> by_cases h1 : a.hi > 0 <;> by_cases h2 : a.lo > 4294967295
 all_goals (simp [br_true, br_false, h1, h2]; try omega)
theorem wid_le (v : Bool) : wid v ≤ 128 := by cases v <;> decide
theorem prefix_Wide_eq (a : Ad) : prefix_Wide_t a = some (((wid a.v6 : Nat) : Int), ()) := by
 unfold prefix_Wide_t
 cases a.v6 <;> rfl
theorem R_wide_eq (a : Ad) : R_wide_t a = some (((wid a.v6 : Nat) : Int), ()) := by
 unfold R_wide_t
 cases a.v6 <;> rfl
theorem R_between_eq (x a b : Int) : R_between_t x a b = some (betw x a b, ()) := by
 unfold R_between_t
 rw [br_ss, bind_s, betw_bif]
theorem prefix_mask_eq (a : Ad) (bits : Int) (hb : 0 ≤ bits) (hb' : bits ≤ (wid a.v6 : Nat)) : prefix_mask_t a bits = some (maskA a.v6 bits, ()) := by
 unfold prefix_mask_t
 rw [prefix_Wide_eq, bind_s, maskA_parts]
 have hw := wid_le a.v6
 obtain ⟨r, hr⟩ : ∃ r : Nat, ((wid a.v6 : Nat) : Int) - bits = (r : Int) := ⟨(((wid a.v6 : Nat) : Int) - bits).toNat, by omega⟩
 have hrn : wid a.v6 - bits.toNat = r := by omega
 rw [hrn, hr]
 rw [req_of (i64ok_of (by omega) (by omega))]
 by_cases h1 : r < 64
 ·rw [decide_eq_true (show (r : Int) < 64 by omega), br_true, req_of (by simp), decide_eq_false (show ¬ (r : Int) > 64 by omega), br_false, shl_one h1]
  rw [show r - 64 = 0 by omega, Nat.min_eq_left (by omega)]
  rfl
 ·rw [decide_eq_false (show ¬ (r : Int) < 64 by omega), br_false]
  by_cases h2 : r > 64
  ·rw [decide_eq_true (show (r : Int) > 64 by omega), br_true]
   by_cases h3 : r < 128
   ·rw [decide_eq_true (show (r : Int) < 128 by omega), br_true, req_of (i64ok_of (by omega) (by omega)), req_of (by simp; omega)]
    rw [show (r : Int) - 64 = ((r - 64 : Nat) : Int) by omega, shl_one (by omega), Nat.min_eq_right (by omega)]
    rfl
   ·rw [decide_eq_false (show ¬ (r : Int) < 128 by omega), br_false]
    have : r = 128 := by omega
    subst this
    rfl
  ·have : r = 64 := by omega
   subst this
   rfl
theorem prefix_Cut_eq (a : Ad) (h : a.wf) (bits : Int) (hb : 0 ≤ bits) (hb' : bits ≤ (wid a.v6 : Nat)) : prefix_Cut_t a bits = some (cutA a bits, ()) := by
 unfold prefix_Cut_t
 rw [prefix_mask_eq a bits hb hb', bind_s, maskA_parts, cutA_parts a h]
 obtain ⟨h1, h2, h3, h4⟩ := h
 have hw := wid_le a.v6
 have e1 := andNot_mask a.hi.toNat (wid a.v6 - bits.toNat - 64) (by omega) (by omega)
 have e2 := andNot_mask a.lo.toNat (min (wid a.v6 - bits.toNat) 64) (by omega) (by omega)
 rw [Int.toNat_of_nonneg h1] at e1
 rw [Int.toNat_of_nonneg h3] at e2
 simp only
 rw [e1, e2]
theorem eqAd_eq (a b : Ad) : eqAd a b = decide (a = b) := by
 have e : (a = b) ↔ (a.v6 = b.v6 ∧ a.hi = b.hi ∧ a.lo = b.lo) := by
  cases a; cases b
  simp only [Ad.mk.injEq]
 rw [Bool.eq_iff_iff, decide_eq_true_iff, e]
 unfold eqAd
 simp [beqB, acmp]
theorem eqPf_eq (a b : Pf) : eqPf a b = decide (a = b) := by
 have e : (a = b) ↔ (a.ad.v6 = b.ad.v6 ∧ a.ad.hi = b.ad.hi ∧ a.ad.lo = b.ad.lo ∧ a.bits = b.bits) := by
  cases a with | mk a n => cases b with | mk b k =>
  cases a; cases b
  simp only [Pf.mk.injEq, Ad.mk.injEq, and_assoc]
 rw [Bool.eq_iff_iff, decide_eq_true_iff, e]
 unfold eqPf
 simp [beqB, acmp]
theorem prefix_Check_eq {p : Pf} (h : p.In) : prefix_Check_t p = some (chkP p, ()) := by
 unfold prefix_Check_t chkP
 rw [addr_Check_eq, bind_s]
 by_cases h1 : chkA p.ad = 0
 ·simp only [h1, decide_true, Bool.not_true, br_false, ne_eq, not_true, if_false]
  rw [prefix_Wide_eq, bind_s, br_ss, bind_s]
  by_cases h2 : p.bits < 0 ∨ p.bits > wid p.ad.v6
  ·rw [if_pos h2]
   have : (bif decide (p.bits < 0) then true else decide (p.bits > ((wid p.ad.v6 : Nat) : Int))) = true := by
    rcases h2 with h2 | h2 <;> simp [h2]
   rw [this, br_true]
  ·rw [if_neg h2]
   have : (bif decide (p.bits < 0) then true else decide (p.bits > ((wid p.ad.v6 : Nat) : Int))) = false := by
    simp only [not_or] at h2
    simp [h2.1]; omega
   rw [this, br_false, prefix_Cut_eq p.ad h.1.wf p.bits (by omega) (by omega), bind_s, eqAd_eq]
   by_cases h3 : cutA p.ad p.bits = p.ad <;> simp [h3, br_true, br_false]
 ·simp [h1, br_true]
end Go.Ma
namespace Go.Ma
open Go
def lowB (b : UInt8) : Bool := betw (b.toNat : Int) 97 122 || betw (b.toNat : Int) 48 57
def whoOk (s : ByteArray) : Bool := s.data.toList.all lowB && betw (lenS s) 1 8
theorem lease_within_eq (x a b : Int) : lease_within_t x a b = some (betw x a b, ()) := by
 unfold lease_within_t
 rw [br_ss, bind_s, betw_bif]
theorem lease_Who_eq {s : ByteArray} (h : strIn s) : lease_Who_t s = some (whoOk s, ()) := by
 have hs : s.size < 9223372036854775808 := lt_of_max h
 have hl : ∀ i, i ≤ s.size → loopN lease_Who_L2 FUEL (((s, ()), (lenS s, ()), ((i : Int), ()), ()), ()) = some (if (s.data.toList.drop i).all lowB then Sum.inr (((s, ()), ()), ()) else Sum.inl ((((false : Bool), ()), ()), ())) := by
  intro i hi
  refine loop_up (fun i => ((((s, ()), (lenS s, ()), ((i : Int), ()), ()), ()) : (((ByteArray × Unit) × (Int × Unit) × (Int × Unit) × Unit) × (Unit)))) s.size (fun i => some (if (s.data.toList.drop i).all lowB then Sum.inr (((s, ()), ()), ()) else Sum.inl ((((false : Bool), ()), ()), ()))) (fun rec i hi hr => ?_) (fun rec => ?_) FUEL i hi (fuel_gt (by omega))
  ·obtain ⟨b, hb⟩ : ∃ b, s.data.toList[i]? = some b := ⟨_, List.getElem?_eq_getElem (by rw [data_len]; exact hi)⟩
   simp only [lease_Who_L2]
   rw [decide_eq_true (show (i : Int) < lenS s by unfold lenS; omega), br_true, req_of (zq33 (by omega) (by unfold lenS; omega)), byteAt_eq hb]
   rw [br_ss, bind_s]
   simp only [br_ss, bind_s]
   rw [show ((i : Int) + 1) = ((i + 1 : Nat) : Int) by omega] 
   rw [req_of (i64ok_of (by omega) (by omega)), hr, drop_all lowB hb]
   have : (bif !(bif decide ((b.toNat : Int) ≥ 97) then decide ((b.toNat : Int) ≤ 122) else false) then (bif decide ((b.toNat : Int) ≥ 48) then !decide ((b.toNat : Int) ≤ 57) else true) else false) = !lowB b := by
    rw [betw_bif]
    unfold lowB
    cases betw (b.toNat : Int) 97 122
    ·unfold betw
     by_cases h1 : (48 : Int) ≤ b.toNat <;> simp [h1]
    ·rfl
   rw [this]
   cases lowB b <;> simp [br_true, br_false]
  ·simp only [lease_Who_L2]
   rw [decide_eq_false (show ¬ (s.size : Int) < lenS s by unfold lenS; omega), br_false, List.drop_of_length_le (by rw [data_len]; exact Nat.le_refl _)]
   rfl
 unfold lease_Who_t whoOk
 have := hl 0 (Nat.zero_le _)
 rw [List.drop_zero] at this
 rw [show ((0 : Nat) : Int) = 0 from rfl] at this
 rw [this, bind_s]
 cases s.data.toList.all lowB
 ·rfl
 ·simp only [if_true, sumC, lease_within_eq, bind_s, Bool.true_and]
theorem lease_Narrow_eq {p : Pf} (h : chkP p = 0) : lease_Narrow_t p = some (decide (((wid p.ad.v6 : Nat) : Int) - p.bits ≤ 4), ()) := by
 obtain ⟨h1, h2⟩ := chkP_bits h
 have := wid_le p.ad.v6
 unfold lease_Narrow_t
 rw [prefix_Wide_eq, bind_s, req_of (i64ok_of (by simp only; omega) (by simp only; omega))]
end Go.Ma
namespace Go.Ma
open Go
theorem bitsTo_get (n t c i : Nat) : (bitsTo n t c)[i]? = if i < c then some (bitV n (t - i)) else none := by
 unfold bitsTo
 rw [List.getElem?_map]
 by_cases h : i < c
 ·rw [List.getElem?_range h, if_pos h]; rfl
 ·rw [if_neg h, List.getElem?_eq_none (by simpa using h)]; rfl
theorem num_testBit (hi lo i : Nat) (hlo : lo < 18446744073709551616) : (hi * 18446744073709551616 + lo).testBit i = if i < 64 then lo.testBit i else hi.testBit (i - 64) := by
 have := Nat.testBit_two_pow_mul_add (i := 64) hi (b := lo) (by simpa using hlo) i
 rw [Nat.mul_comm, show (18446744073709551616 : Nat) = 2 ^ 64 by decide]
 exact this
theorem bitV_congr {n i m j : Nat} (h : n.testBit i = m.testBit j) : bitV n i = bitV m j := by unfold bitV; rw [h]
theorem bitsA_eq {a : Ad} (h : a.wf) (hc : chkA a = 0) : bitsA a = bitsTo a.num (wid a.v6 - 1) (wid a.v6) := by
 obtain ⟨h1, h2, h3, h4⟩ := h
 have hlo : a.lo.toNat < 18446744073709551616 := by omega
 unfold bitsA Ad.num
 apply List.ext_getElem?
 intro i
 cases hv : a.v6
 ·unfold chkA at hc
  rw [hv] at hc
  have hz : a.hi = 0 ∧ ¬ (4294967296 : Int) ≤ a.lo := by
   split at hc
   ·cases hc
   ·rename_i hn
    simp only [true_and, not_or, Decidable.not_not] at hn
    exact hn
  simp only [Bool.false_eq_true, if_false, wid]
  rw [List.getElem?_drop, List.getElem?_append_right (by rw [bitsTo_length]; omega), bitsTo_length, bitsTo_get, bitsTo_get, hz.1]
  by_cases hi : i < 32
  ·rw [if_pos (by omega), if_pos hi]
   have e : 63 - (96 + i - 64) = 32 - 1 - i := by omega
   rw [e]
   simp
  ·rw [if_neg (by omega), if_neg hi]
 ·simp only [if_true, wid]
  rw [bitsTo_get]
  by_cases hi : i < 64
  ·rw [List.getElem?_append_left (by rw [bitsTo_length]; exact hi), bitsTo_get, if_pos hi, if_pos (by omega)]
   refine congrArg some (bitV_congr ?_)
   rw [num_testBit _ _ _ hlo, if_neg (by omega), show 128 - 1 - i - 64 = 63 - i by omega]
  ·rw [List.getElem?_append_right (by rw [bitsTo_length]; omega), bitsTo_length, bitsTo_get]
   by_cases hi2 : i < 128
   ·rw [if_pos (by omega), if_pos hi2]
    refine congrArg some (bitV_congr ?_)
    rw [num_testBit _ _ _ hlo, if_pos (by omega), show 63 - (i - 64) = 128 - 1 - i by omega]
   ·rw [if_neg (by omega), if_neg hi2]
theorem bitV_z (n i : Nat) : (bitV n i == 48) = !n.testBit i := by unfold bitV; cases n.testBit i <;> rfl
theorem mod_zero_iff (n k : Nat) : n % 2 ^ k = 0 ↔ ∀ i, i < k → n.testBit i = false := by
 constructor
 ·intro h i hi
  have := Nat.testBit_mod_two_pow n k i
  rw [h] at this
  simpa [hi] using this.symm
 ·intro h
  apply Nat.eq_of_testBit_eq
  intro i
  rw [Nat.testBit_mod_two_pow]
  by_cases hi : i < k <;> simp [hi, h]
theorem cutN_iff (n k : Nat) : cutN n k = n ↔ n % 2 ^ k = 0 := by
 unfold cutN
 have := Nat.div_add_mod n (2 ^ k)
 rw [Nat.mul_comm] at this
 omega
theorem tail_zero (n w b : Nat) (hb : b ≤ w) : ((bitsTo n (w - 1) w).drop b).all (· == 48) = decide (cutN n (w - b) = n) := by
 rw [Bool.eq_iff_iff, decide_eq_true_iff, cutN_iff, mod_zero_iff, List.all_eq_true]
 constructor
 ·intro h i hi
  have hm : bitV n i ∈ (bitsTo n (w - 1) w).drop b := by
   refine List.mem_iff_getElem?.2 ⟨w - 1 - i - b, ?_⟩
   rw [List.getElem?_drop, bitsTo_get, if_pos (by omega), show w - 1 - (b + (w - 1 - i - b)) = i by omega]
  have := h _ hm
  rw [bitV_z] at this
  simpa using this
 ·intro h x hx
  obtain ⟨j, hj⟩ := List.mem_iff_getElem?.1 hx
  rw [List.getElem?_drop, bitsTo_get] at hj
  split at hj
  ·injection hj with hj
   subst hj
   rw [bitV_z, h _ (by omega)]
   rfl
  ·cases hj
theorem cutA_iff {a : Ad} (h : a.wf) (bits : Int) : cutA a bits = a ↔ cutN a.num (wid a.v6 - bits.toNat) = a.num := by
 unfold cutA
 constructor
 ·intro he
  have := congrArg Ad.num he
  rwa [num_ofNum] at this
 ·intro he
  rw [he, ofNum_num a h]
def toI (l : List UInt8) : List Int := l.map fun b => (b.toNat : Int)
theorem toI_len (l : List UInt8) : (toI l).length = l.length := by simp [toI]
theorem bytesOf_toI (l : List UInt8) : bytesOf (toI l) = ofBytes l := by
 unfold bytesOf toI ofBytes
 congr 1
 rw [List.map_map]
 congr 1
 conv => rhs; rw [← List.map_id l]
 apply List.map_congr_left
 intro b _
 simp
theorem bit_conv (x i : Int) (hx : 0 ≤ x) (hx' : x < 18446744073709551616) (hi : 0 ≤ i) (hi' : i ≤ 63) :
  convI .u8 (aop .add .u64 48 (aop .rem .u64 (aop .shr .u64 x i) 2)) = ((bitV x.toNat i.toNat).toNat : Int) := bit_step x i hx hx' hi hi'
theorem bits_loop3 {a : Ad} (h : a.In) : loopN R_Bits_L3 FUEL (((), (), (63, ()), ()), ((a, ()), ([] : List Int), ())) = some (((), (), ()), ((a, ()), toI (bitsTo a.hi.toNat 63 64), ())) := by
 have := loop_up (step := R_Bits_L3) (fun j => (((), (), (63 - (j : Int), ()), ()), ((a, ()), toI (bitsTo a.hi.toNat 63 j), ()))) 64 (fun _ => some (((), (), ()), ((a, ()), toI (bitsTo a.hi.toNat 63 64), ()))) (fun rec j hj hr => ?_) (fun rec => ?_) FUEL 0 (by omega) (fuel_gt (by omega))
 ·exact this
 ·simp only [R_Bits_L3]
  rw [decide_eq_true (by omega), br_true, req_true, bit_conv _ _ h.1.1 h.1.2 (by omega) (by omega)]
  rw [req_of (room_of (zq55 _) (zq55 _) (by simp only [lenL, toI_len, bitsTo_length, List.length_cons, List.length_nil]; omega)), req_of (i64ok_of (by omega) (by omega))]
  rw [← hr]
  have e1 : (63 - (j : Int)).toNat = 63 - j := by omega
  have e2 : 63 - (j : Int) - 1 = 63 - ((j + 1 : Nat) : Int) := by omega
  rw [e1, e2, bitsTo_succ]
  simp [toI]
 ·simp only [R_Bits_L3]
  rw [decide_eq_false (by omega), br_false]
theorem bits_loop7 {a : Ad} (h : a.In) : loopN R_Bits_L7 FUEL (((), (), (63, ()), ()), ((a, ()), toI (bitsTo a.hi.toNat 63 64), ())) = some (((), (), ()), ((a, ()), toI (bitsTo a.hi.toNat 63 64) ++ toI (bitsTo a.lo.toNat 63 64), ())) := by
 have := loop_up (step := R_Bits_L7) (fun j => (((), (), (63 - (j : Int), ()), ()), ((a, ()), toI (bitsTo a.hi.toNat 63 64) ++ toI (bitsTo a.lo.toNat 63 j), ()))) 64 (fun _ => some (((), (), ()), ((a, ()), toI (bitsTo a.hi.toNat 63 64) ++ toI (bitsTo a.lo.toNat 63 64), ()))) (fun rec j hj hr => ?_) (fun rec => ?_) FUEL 0 (by omega) (fuel_gt (by omega))
 ·rw [← this]
  simp [toI, bitsTo]
 ·simp only [R_Bits_L7]
  rw [decide_eq_true (by omega), br_true, req_true, bit_conv _ _ h.2.1 h.2.2 (by omega) (by omega)]
  rw [req_of (room_of (zq55 _) (zq55 _) (by simp only [lenL, List.length_append, toI_len, bitsTo_length, List.length_cons, List.length_nil]; omega)), req_of (i64ok_of (by omega) (by omega))]
  rw [← hr]
  have e1 : (63 - (j : Int)).toNat = 63 - j := by omega
  have e2 : 63 - (j : Int) - 1 = 63 - ((j + 1 : Nat) : Int) := by omega
  rw [e1, e2, bitsTo_succ a.lo.toNat 63 j]
  simp [toI]
 ·simp only [R_Bits_L7]
  rw [decide_eq_false (by omega), br_false]
theorem R_Bits_eq {a : Ad} (h : a.In) : R_Bits_t a = some (ofBytes (bitsA a), ()) := by
 unfold R_Bits_t bitsA
 rw [bits_loop3 h, bind_s, bits_loop7 h, bind_s]
 have e : toI (bitsTo a.hi.toNat 63 64) ++ toI (bitsTo a.lo.toNat 63 64) = toI (bitsTo a.hi.toNat 63 64 ++ bitsTo a.lo.toNat 63 64) := by simp [toI]
 simp only [e]
 cases a.v6
 ·have hl : lenL (toI (bitsTo a.hi.toNat 63 64 ++ bitsTo a.lo.toNat 63 64)) = 128 := by simp only [lenL, toI_len, List.length_append, bitsTo_length]; rfl
  rw [hl, Bool.not_false, br_true, req_of (by decide)]
  have : subL (toI (bitsTo a.hi.toNat 63 64 ++ bitsTo a.lo.toNat 63 64)) 96 128 = toI ((bitsTo a.hi.toNat 63 64 ++ bitsTo a.lo.toNat 63 64).drop 96) := by
   unfold subL
   rw [show (128 : Int).toNat = 128 from rfl, show (96 : Int).toNat = 96 from rfl, List.take_of_length_le (by rw [toI_len]; simp [bitsTo_length])]
   simp [toI, List.map_drop]
  rw [this, bytesOf_toI]
  rfl
 ·rw [Bool.not_true, br_false, bytesOf_toI]
  rfl
theorem bitsA_len (a : Ad) : (bitsA a).length = wid a.v6 := by
 unfold bitsA wid
 cases a.v6 <;> simp [bitsTo_length]
theorem ofBytes_list (l : List UInt8) : (ofBytes l).data.toList = l := by simp [ofBytes]
theorem ofBytes_size (l : List UInt8) : (ofBytes l).size = l.length := by simp [ofBytes, ByteArray.size]
theorem toNat48 (b : UInt8) : ((b.toNat : Int) = 48) ↔ b = 48 := by
 constructor
 ·intro h
  apply UInt8.toNat_inj.1
  have : b.toNat = 48 := by omega
  rw [this]
  rfl
 ·rintro rfl; rfl
theorem chkp_loop (s : ByteArray) (k : Nat) (hs : s.size < 9223372036854775808) (hk : k ≤ s.size) : loopN R_CheckPrefix_L8 FUEL (((s, ()), ((k : Int), ()), ()), ()) = some (if (s.data.toList.drop k).all (· == 48) then Sum.inr ((), ()) else Sum.inl (((4, ()), ()), ())) := by
 refine loop_up (step := R_CheckPrefix_L8) (fun i => (((s, ()), ((i : Int), ()), ()), ())) s.size (fun i => some (if (s.data.toList.drop i).all (· == 48) then Sum.inr ((), ()) else Sum.inl (((4, ()), ()), ()))) (fun rec i hi hr => ?_) (fun rec => ?_) FUEL k hk (fuel_gt (by omega))
 ·obtain ⟨b, hb⟩ : ∃ b, s.data.toList[i]? = some b := ⟨_, List.getElem?_eq_getElem (by rw [data_len]; exact hi)⟩
  simp only [R_CheckPrefix_L8]
  rw [decide_eq_true (show (i : Int) < lenS s by unfold lenS; omega), br_true, req_of (zq33 (by omega) (by unfold lenS; omega)), byteAt_eq hb, drop_all _ hb]
  by_cases h48 : b = 48
  ·rw [decide_eq_true ((toNat48 b).2 h48), Bool.not_true, br_false, show ((i : Int) + 1) = ((i + 1 : Nat) : Int) by omega, req_of (i64ok_of (by omega) (by omega)), hr]
   simp [h48]
  ·rw [decide_eq_false (fun h => h48 ((toNat48 b).1 h)), Bool.not_false, br_true]
   simp [h48]
 ·simp only [R_CheckPrefix_L8]
  rw [decide_eq_false (show ¬ (s.size : Int) < lenS s by unfold lenS; omega), br_false, List.drop_of_length_le (by rw [data_len]; exact Nat.le_refl _)]
  rfl
theorem R_CheckPrefix_eq {p : Pf} (h : p.In) : R_CheckPrefix_t p = some (chkP p, ()) := by
 unfold R_CheckPrefix_t chkP
 rw [R_CheckAddr_eq h.1, bind_s]
 by_cases h1 : chkA p.ad = 0
 rotate_left
 ·simp [h1, br_true]
 simp only [h1, decide_true, Bool.not_true, br_false, ne_eq, not_true, if_false]
 rw [R_wide_eq, bind_s, R_between_eq, bind_s]
 by_cases h2 : p.bits < 0 ∨ p.bits > wid p.ad.v6
 ·rw [if_pos h2]
  have : betw p.bits 0 ((wid p.ad.v6 : Nat) : Int) = false := by
   rw [Bool.eq_false_iff]
   intro hb
   have := betw_iff.1 hb
   omega
  rw [this]
  rfl
 rw [if_neg h2]
 simp only [not_or] at h2
 have : betw p.bits 0 ((wid p.ad.v6 : Nat) : Int) = true := betw_iff.2 ⟨by omega, by omega⟩
 rw [this]
 simp only [Bool.not_true, br_false]
 obtain ⟨k, hk⟩ : ∃ k : Nat, p.bits = (k : Int) := ⟨p.bits.toNat, by omega⟩
 have hw := wid_le p.ad.v6
 rw [R_Bits_eq h.1, bind_s, hk, chkp_loop _ _ (by rw [ofBytes_size, bitsA_len]; omega) (by rw [ofBytes_size, bitsA_len]; omega), bind_s, ofBytes_list, bitsA_eq h.1.wf h1, tail_zero _ _ _ (by omega)]
 have e := cutA_iff h.1.wf (k : Int)
 rw [Int.toNat_natCast] at e
 by_cases h3 : cutN p.ad.num (wid p.ad.v6 - k) = p.ad.num
 ·have h4 := e.2 h3
  simp only [h3, h4, decide_true, if_true, not_true, if_false]
  rfl
 ·have h4 : ¬ cutA p.ad (k : Int) = p.ad := fun h => h3 (e.1 h)
  simp only [h3, h4, decide_false, Bool.false_eq_true, not_false_eq_true, if_true, if_false]
  rfl
end Go.Ma
namespace Go.Ma
open Go
theorem addr_Order_eq (a b : Ad) : addr_Order_t a b = some (ordA a b, ()) := by
 unfold addr_Order_t addr_Order_1_t ordA ordI
 by_cases hv : a.v6 = b.v6
 ·have : beqB a.v6 b.v6 = true := by simp [beqB, hv]
  rw [this]
  simp only [Bool.not_true, br_false, bind_s, hv, ne_eq, not_true, false_and, if_false]
  by_cases h1 : a.hi = b.hi
  ·simp only [h1, decide_true, Bool.not_true, br_false, not_true, if_false]
   by_cases h2 : a.lo < b.lo
   ·simp only [h2, decide_true, br_true, bind_s, if_true]
   ·by_cases h3 : a.lo > b.lo
    ·simp only [h2, h3, decide_true, decide_false, br_true, br_false, bind_s, if_true, if_false]
    ·simp only [h2, h3, decide_false, br_false, bind_s, if_false]
  ·simp only [h1, decide_false, Bool.not_false, br_true, not_false_eq_true, if_true]
   by_cases h2 : a.hi < b.hi
   ·simp only [h2, decide_true, br_true, bind_s, if_true]
   ·by_cases h3 : a.hi > b.hi
    ·simp only [h2, h3, decide_true, decide_false, br_true, br_false, bind_s, if_true, if_false]
    ·simp only [h2, h3, decide_false, br_false, bind_s, if_false]
 ·have : beqB a.v6 b.v6 = false := by simp [beqB, hv]
  rw [this]
  cases hb : b.v6 <;> simp_all [br_true, br_false]
theorem chkP_ad {p : Pf} (h : chkP p = 0) : chkA p.ad = 0 := by
 unfold chkP at h
 split at h
 ·rename_i h1; exact absurd h h1
 ·rename_i h1; exact Decidable.not_not.1 h1
theorem chkP_cut {p : Pf} (h : chkP p = 0) : cutA p.ad p.bits = p.ad := by
 unfold chkP at h
 split at h
 ·rename_i h1; exact absurd h h1
 split at h
 ·cases h
 split at h
 ·cases h
 ·rename_i h1; exact Decidable.not_not.1 h1
theorem prefix_Holds_eq {p : Pf} {a : Ad} (h1 : 0 ≤ p.bits) (h2 : p.bits ≤ (wid p.ad.v6 : Nat)) (ha : a.In) : prefix_Holds_t p a = some (holds p a, ()) := by
 unfold prefix_Holds_t holds
 by_cases hv : p.ad.v6 = a.v6
 ·rw [show beqB p.ad.v6 a.v6 = true by simp [beqB, hv], br_true, prefix_Cut_eq a ha.wf p.bits h1 (by rw [← hv]; exact h2), bind_s, bind_s, eqAd_eq]
  simp [hv]
 ·rw [show beqB p.ad.v6 a.v6 = false by simp [beqB, hv], br_false, bind_s]
  simp [hv]
end Go.Ma
namespace Go.Ma
open Go
def rank (a : Ad) : Nat := (if a.v6 then 340282366920938463463374607431768211456 else 0) + a.num
theorem num_lt {a : Ad} (h : a.In) : a.num < 340282366920938463463374607431768211456 := by
 obtain ⟨⟨h1, h2⟩, h3, h4⟩ := h
 unfold Ad.num
 omega
theorem ord_rank {a b : Ad} (ha : a.In) (hb : b.In) : (ordA a b < 0 ↔ rank a < rank b) ∧ (ordA a b = 0 ↔ rank a = rank b) := by
 have h1 := num_lt ha
 have h2 := num_lt hb
 obtain ⟨⟨a1, a2⟩, a3, a4⟩ := ha
 obtain ⟨⟨b1, b2⟩, b3, b4⟩ := hb
 unfold ordA ordI rank
 unfold Ad.num at *
 cases hv : a.v6 <;> cases hw : b.v6 <;> simp
 ·by_cases h : a.hi = b.hi
  ·simp only [h, if_true]
   by_cases h3 : a.lo < b.lo
   ·simp only [h3, if_true]; omega
   ·by_cases h4 : b.lo < a.lo
    ·simp only [h3, h4, if_true, if_false]; omega
    ·have h5 : a.lo = b.lo := by omega
     simp [h5]
  ·simp only [h, if_false]
   by_cases h3 : a.hi < b.hi
   ·simp only [h3, if_true]; omega
   ·by_cases h4 : b.hi < a.hi
    ·simp only [h3, h4, if_true, if_false]; omega
    ·simp only [h3, h4, if_false]; omega
 ·omega
 ·omega
 ·by_cases h : a.hi = b.hi
  ·simp only [h, if_true]
   by_cases h3 : a.lo < b.lo
   ·simp only [h3, if_true]; omega
   ·by_cases h4 : b.lo < a.lo
    ·simp only [h3, h4, if_true, if_false]; omega
    ·have h5 : a.lo = b.lo := by omega
     simp [h5]
  ·simp only [h, if_false]
   by_cases h3 : a.hi < b.hi
   ·simp only [h3, if_true]; omega
   ·by_cases h4 : b.hi < a.hi
    ·simp only [h3, h4, if_true, if_false]; omega
    ·simp only [h3, h4, if_false]; omega
theorem rank_inj {a b : Ad} (ha : a.In) (hb : b.In) (h : rank a = rank b) : a = b := by
 have h1 := num_lt ha
 have h2 := num_lt hb
 unfold rank at h
 have hv : a.v6 = b.v6 := by
  cases hv : a.v6 <;> cases hw : b.v6 <;> first | rfl | (exfalso; rw [hv, hw] at h; simp at h; omega)
 refine num_inj ha.wf hb.wf hv ?_
 rw [hv] at h
 omega
def lsIn (l : List Ls) : Prop := ∀ x ∈ l, x.In
def chkLs (x : Ls) : Int := if chkA x.ad ≠ 0 then chkA x.ad else if whoOk x.who = false then 1 else if betw x.upto 0 10499 = false then 3 else 0
def chkLsF : List Ls → Int
 | [] => 0
 | x :: r => if chkLs x ≠ 0 then chkLs x else chkLsF r
def ascF : Ad → List Ls → Bool
 | _, [] => true
 | a, x :: r => decide (ordA a x.ad < 0) && ascF x.ad r
def ascL : List Ls → Bool
 | [] => true
 | x :: r => ascF x.ad r
def allC (l : List Ls) (now : Int) : Int := if l.length > 20 then 2 else if chkLsF l ≠ 0 then chkLsF l else if ascL l = false then 4 else if betw now 0 9999 = false then 3 else 0
end Go.Ma
namespace Go.Ma
open Go
theorem convI_byte (b : UInt8) : convI .i64 (b.toNat : Int) = (b.toNat : Int) := by
 have := b.toNat_lt
 exact wrap_i64 (by omega) (by omega)
theorem R_IsWho_eq {s : ByteArray} (h : strIn s) : R_IsWho_t s = some (whoOk s, ()) := by
 have hs : s.size < 9223372036854775808 := lt_of_max h
 have hl : loopN R_IsWho_L2 FUEL (((s, ()), (0, ()), ()), ()) = some (if (s.data.toList.drop 0).all lowB then Sum.inr (((s, ()), ()), ()) else Sum.inl ((((false : Bool), ()), ()), ())) := by
  refine loop_up (step := R_IsWho_L2) (fun i => (((s, ()), ((i : Int), ()), ()), ())) s.size (fun i => some (if (s.data.toList.drop i).all lowB then Sum.inr (((s, ()), ()), ()) else Sum.inl ((((false : Bool), ()), ()), ()))) (fun rec i hi hr => ?_) (fun rec => ?_) FUEL 0 (Nat.zero_le _) (fuel_gt (by omega))
  ·obtain ⟨b, hb⟩ : ∃ b, s.data.toList[i]? = some b := ⟨_, List.getElem?_eq_getElem (by rw [data_len]; exact hi)⟩
   simp only [R_IsWho_L2]
   have hr1 : inRange (i : Int) (lenS s) = true := zq33 (by omega) (by unfold lenS; omega)
   rw [decide_eq_true (show (i : Int) < lenS s by unfold lenS; omega), br_true]
   simp only [hr1, req_true, byteAt_eq hb, convI_byte, R_between_eq, bind_s, br_sb]
   rw [show ((i : Int) + 1) = ((i + 1 : Nat) : Int) by omega, req_of (i64ok_of (by omega) (by omega)), hr, drop_all lowB hb]
   have : (bif !betw (b.toNat : Int) 97 122 then !betw (b.toNat : Int) 48 57 else false) = !lowB b := by
    unfold lowB
    cases betw (b.toNat : Int) 97 122 <;> cases betw (b.toNat : Int) 48 57 <;> rfl
   rw [this]
   cases lowB b <;> simp [br_true, br_false]
  ·simp only [R_IsWho_L2]
   rw [decide_eq_false (show ¬ (s.size : Int) < lenS s by unfold lenS; omega), br_false, List.drop_of_length_le (by rw [data_len]; exact Nat.le_refl _)]
   rfl
 unfold R_IsWho_t whoOk
 rw [hl, bind_s, List.drop_zero]
 cases s.data.toList.all lowB
 ·rfl
 ·simp only [if_true, sumC, R_between_eq, bind_s, Bool.true_and]
theorem R_IsNarrow_eq {p : Pf} (h : chkP p = 0) : R_IsNarrow_t p = some (decide (((wid p.ad.v6 : Nat) : Int) - p.bits ≤ 4), ()) := by
 obtain ⟨h1, h2⟩ := chkP_bits h
 have := wid_le p.ad.v6
 unfold R_IsNarrow_t
 rw [R_wide_eq, bind_s, req_of (i64ok_of (by simp only; omega) (by simp only; omega))]
end Go.Ma
namespace Go.Ma
open Go
theorem eqLs_eq (a b : Ls) : eqLs a b = decide (a = b) := by
 have e : (a = b) ↔ (a.ad.v6 = b.ad.v6 ∧ a.ad.hi = b.ad.hi ∧ a.ad.lo = b.ad.lo ∧ a.who = b.who ∧ a.upto = b.upto) := by
  cases a with | mk a1 w1 u1 => cases b with | mk a2 w2 u2 =>
  cases a1; cases a2
  simp only [Ls.mk.injEq, Ad.mk.injEq, and_assoc]
 rw [Bool.eq_iff_iff, decide_eq_true_iff, e]
 unfold eqLs
 simp [beqB, acmp, strcmp_eql]
def firstF {α : Type} (q : α → Bool) : List α → Option Nat
 | [] => none
 | x :: r => if q x then some 0 else (firstF q r).map (· + 1)
theorem firstF_at {α : Type} {q : α → Bool} {l : List α} {i : Nat} {x : α} (h : l[i]? = some x) : (firstF q (l.drop i)).map (· + i) = if q x then some i else (firstF q (l.drop (i + 1))).map (· + (i + 1)) := by
 rw [drop_cons h, firstF]
 cases q x
 ·simp only [Bool.false_eq_true, if_false, Option.map_map]
  congr 1
  funext k
  simp only [Function.comp]
  omega
 ·simp
theorem firstF_none {α : Type} {q : α → Bool} : ∀ {l : List α}, firstF q l = none → ∀ x ∈ l, q x = false
 | [], _, x, hx => by cases hx
 | y :: r, h, x, hx => by
  unfold firstF at h
  split at h
  ·cases h
  ·rename_i hq
   rw [Option.map_eq_none_iff] at h
   rcases List.mem_cons.1 hx with rfl | hx
   ·simpa using hq
   ·exact firstF_none h x hx
theorem firstF_some {α : Type} {q : α → Bool} : ∀ {l : List α} {k : Nat}, firstF q l = some k → ∃ x, l[k]? = some x ∧ q x = true ∧ ∀ y ∈ l.take k, q y = false
 | [], _, h => by cases h
 | y :: r, k, h => by
  unfold firstF at h
  split at h
  ·rename_i hq
   cases h
   exact ⟨y, rfl, hq, fun z hz => by simp at hz⟩
  ·rename_i hq
   obtain ⟨k', hk, rfl⟩ := Option.map_eq_some_iff.1 h
   obtain ⟨x, h1, h2, h3⟩ := firstF_some hk
   refine ⟨x, by simpa using h1, h2, fun z hz => ?_⟩
   rw [List.take_succ_cons] at hz
   rcases List.mem_cons.1 hz with rfl | hz
   ·simpa using hq
   ·exact h3 z hz
theorem firstF_lt {α : Type} {q : α → Bool} {l : List α} {k : Nat} (h : firstF q l = some k) : k < l.length := by
 obtain ⟨x, h1, _⟩ := firstF_some h
 exact (List.getElem?_eq_some_iff.1 h1).1
theorem firstF_any {α : Type} {q : α → Bool} : ∀ l : List α, (firstF q l).isSome = l.any q
 | [] => rfl
 | x :: r => by
  unfold firstF
  cases h : q x
  ·simp [h, firstF_any r]
  ·simp [h]
def idxI : Option Nat → Int
 | some k => (k : Int)
 | none => -1
def liveP (now : Int) (x : Ls) : Bool := decide (now ≤ x.upto)
def live (l : List Ls) (now : Int) : List Ls := l.filter (liveP now)
def overP (now : Int) (x : Ls) : Bool := decide (x.upto < now)
theorem over_not (now : Int) (x : Ls) : overP now x = !liveP now x := by
 unfold overP liveP
 by_cases h : x.upto < now
 ·have : ¬ now ≤ x.upto := by omega
  simp [h, this]
 ·have : now ≤ x.upto := by omega
  simp [h, this]
abbrev DL := List Ls × (Int × Unit) × List Ls × List Ls × List Ls × Unit
def overOut (l : List Ls) (now : Int) : Option Nat → (((Int × Unit) × Unit) × DL) ⊕ ((Unit) × DL)
 | some k => Sum.inl ((((k : Int), ()), ()), (l, (now, ()), [], l, [], ()))
 | none => Sum.inr ((), (l, (now, ()), [], l, [], ()))
theorem live_loop1 {l : List Ls} (hlen : l.length ≤ 1048576) (now : Int) : loopN zq38 FUEL (((), (), (lenL l, ()), (0, ()), ()), (l, (now, ()), [], l, [], ())) = some (overOut l now (firstF (overP now) l)) := by
 have := loop_up (step := zq38) (fun i => (((), (), (lenL l, ()), ((i : Int), ()), ()), (l, (now, ()), [], l, [], ()))) l.length (fun i => some (overOut l now ((firstF (overP now) (l.drop i)).map (· + i)))) (fun rec i hi hr => ?_) (fun rec => ?_) FUEL 0 (Nat.zero_le _) (fuel_gt (by omega))
 ·simpa using this
 ·obtain ⟨e, he⟩ : ∃ e, l[i]? = some e := ⟨_, List.getElem?_eq_getElem hi⟩
  simp only [zq38]
  rw [decide_eq_true (show (i : Int) < lenL l by unfold lenL; omega), br_true, req_of (zq33 (by omega) (by unfold lenL; omega)), geti_at he, bind_s, lease_Live_1_t, bind_s, firstF_at he]
  unfold overP
  by_cases hc : e.upto < now
  ·simp only [hc, decide_true, br_true, if_true]
   rfl
  ·simp only [hc, decide_false, br_false]
   rw [show ((i : Int) + 1) = ((i + 1 : Nat) : Int) by omega, req_of (i64ok_of (by omega) (by omega)), hr]
   rfl
 ·simp only [zq38]
  rw [decide_eq_false (show ¬ (l.length : Int) < lenL l by unfold lenL; omega), br_false, List.drop_of_length_le (Nat.le_refl _)]
  rfl
theorem live_loop2 {l : List Ls} (hlen : l.length ≤ 1048576) (now : Int) : ∀ (N j w : Nat) (r : List Ls), l.length - j < N → j ≤ l.length → w < j → r.length = l.length → r.take w = live (l.take j) now → r.drop j = l.drop j →
  ∃ (w' : Nat) (r' : List Ls), loopN zq34 N (((), (), ((w : Int), ()), ((j : Int), ()), ()), (l, (now, ()), [], r, ())) = some (((), ((w' : Int), ()), ()), (l, (now, ()), [], r', ())) ∧ r'.take w' = live l now ∧ w' ≤ r'.length
 | 0, _, _, _, h, _, _, _, _, _ => by omega
 | N + 1, j, w, r, hN, hj, hw, hr, ht, hd => by
  rw [loopN_succ]
  simp only [zq34]
  by_cases hjl : j < l.length
  ·obtain ⟨e, he⟩ : ∃ e, l[j]? = some e := ⟨_, List.getElem?_eq_getElem hjl⟩
   have her : r[j]? = some e := by
    have := congrArg (fun x : List Ls => x[0]?) hd
    simp only [List.getElem?_drop, Nat.add_zero] at this
    rw [this, he]
   have hlt : live (l.take (j + 1)) now = live (l.take j) now ++ (if liveP now e then [e] else []) := by
    unfold live
    have hx := (List.getElem?_eq_some_iff.1 he).2
    rw [List.take_succ_eq_append_getElem hjl, List.filter_append, hx]
    congr 1
    simp only [List.filter_cons, List.filter_nil]
   have hd1 : r.drop (j + 1) = l.drop (j + 1) := by
    have := congrArg (List.drop 1) hd
    simpa using this
   rw [decide_eq_true (show (j : Int) < lenL r by unfold lenL; omega), br_true, req_of (zq33 (by omega) (by unfold lenL; omega)), geti_at her, bind_s, lease_Live_1_t, bind_s]
   have ho := over_not now e
   unfold overP at ho
   cases hp : liveP now e
   ·rw [hp] at ho hlt
    simp only [ho, Bool.not_false, Bool.not_true, br_false]
    rw [show ((j : Int) + 1) = ((j + 1 : Nat) : Int) by omega, req_of (i64ok_of (by omega) (by omega))]
    exact live_loop2 hlen now N (j + 1) w r (by omega) (by omega) (by omega) hr (by rw [ht, hlt]; simp) hd1
   ·rw [hp] at ho hlt
    obtain ⟨e2, he2⟩ : ∃ e, r[w]? = some e := ⟨_, List.getElem?_eq_getElem (by omega)⟩
    simp only [ho, Bool.not_false, Bool.not_true, br_true]
    rw [req_of (zq33 (by omega) (by unfold lenL; omega)), geti_at he2, bind_s, show ((j : Int) + 1) = ((j + 1 : Nat) : Int) by omega, show ((w : Int) + 1) = ((w + 1 : Nat) : Int) by omega, req_of (i64ok_of (by omega) (by omega)), req_of (i64ok_of (by omega) (by omega))]
    have hs : seti r (w : Int) e = r.set w e := by simp [seti]
    rw [hs]
    refine live_loop2 hlen now N (j + 1) (w + 1) (r.set w e) (by omega) (by omega) (by omega) (by simp [hr]) ?_ ?_
    ·rw [hlt, ← ht]
     have hwl : w < (r.set w e).length := by simp; omega
     rw [List.take_succ_eq_append_getElem hwl, List.take_set_of_le (Nat.le_refl _)]
     simp
    ·rw [List.drop_set_of_lt (by omega), hd1]
  ·have : j = l.length := by omega
   subst this
   rw [decide_eq_false (show ¬ (l.length : Int) < lenL r by unfold lenL; omega), br_false]
   rw [List.take_of_length_le (Nat.le_refl _)] at ht
   exact ⟨w, r, rfl, ht, by omega⟩
theorem clone_ls {l : List Ls} (h : l.length ≤ 1048576) : zq70 l = some (l, ()) := by
 unfold zq70
 rw [req_of (room_of (by simp [lenL]) (zq55 l) (by unfold lenL; simp; omega)), List.nil_append]
 cases l with
 | nil => exact both_self _
 | cons a r => rfl
theorem lease_Live_eq {l : List Ls} (h : l.length ≤ 1048576) (now : Int) : lease_Live_t l now = some (live l now, ()) := by
 unfold lease_Live_t
 rw [clone_ls h, bind_s, live_loop1 h now, bind_s]
 cases hf : firstF (overP now) l with
 | none =>
  simp only [overOut, sumC]
  have : live l now = l := by
   unfold live
   rw [List.filter_eq_self]
   intro x hx
   have := firstF_none hf x hx
   rw [over_not] at this
   simpa using this
  rw [this]
 | some k =>
  obtain ⟨x, hx, hq, hb⟩ := firstF_some hf
  have hk := firstF_lt hf
  simp only [overOut, sumC]
  rw [decide_eq_false (show ¬ (k : Int) = -1 by omega), br_false, req_of (i64ok_of (by omega) (by omega)), show ((k : Int) + 1) = ((k + 1 : Nat) : Int) by omega]
  have hlk : live (l.take (k + 1)) now = l.take k := by
   unfold live
   have hxe := (List.getElem?_eq_some_iff.1 hx).2
   rw [List.take_succ_eq_append_getElem hk, List.filter_append, hxe]
   have h1 : (l.take k).filter (liveP now) = l.take k := by
    rw [List.filter_eq_self]
    intro y hy
    have := hb y hy
    rw [over_not] at this
    simpa using this
   have h2 : liveP now x = false := by
    rw [over_not] at hq
    simpa using hq
   rw [h1, List.filter_cons, h2]
   simp
  obtain ⟨w', r', hl, ht, hw⟩ := live_loop2 h now FUEL (k + 1) k l (by have : FUEL = 18446744073709551616 := rfl; omega) (by omega) (by omega) rfl (by rw [hlk]) rfl
  rw [hl, bind_s]
  have hc : (clrL r' (w' : Int) (⟨(⟨false, 0, 0⟩ : Ad), (ByteArray.empty), 0⟩ : Ls)).length = r'.length := by simp [clrL]; omega
  have hz : (decide ((0 : Int) ≤ (w' : Int)) && decide ((w' : Int) ≤ lenL r')) = true := by simp [lenL]; omega
  have hz2 : (decide ((0 : Int) ≤ (w' : Int)) && decide ((w' : Int) ≤ lenL (clrL r' (w' : Int) (⟨(⟨false, 0, 0⟩ : Ad), (ByteArray.empty), 0⟩ : Ls)))) = true := by
   unfold lenL
   rw [hc]
   exact hz
  rw [req_of hz, req_of hz2]
  have : subL (clrL r' (w' : Int) (⟨(⟨false, 0, 0⟩ : Ad), (ByteArray.empty), 0⟩ : Ls)) 0 (w' : Int) = r'.take w' := by
   simp [subL, clrL, List.take_append_of_le_length, hw]
  rw [this, ht]
theorem live_len (l : List Ls) (now : Int) : (live l now).length ≤ l.length := List.length_filter_le _ _
theorem allC_len {l : List Ls} {now : Int} (h : allC l now = 0) : l.length ≤ 20 := by
 unfold allC at h
 split at h
 ·cases h
 ·omega
def whoP (who : ByteArray) (x : Ls) : Bool := decide (x.who = who)
theorem R_SameLeases_eq {l l' : List Ls} (hl : l.length < 9223372036854775808) : R_SameLeases_t l l' = some (decide (l = l'), ()) := by
 unfold R_SameLeases_t
 by_cases hn : l.length = l'.length
 rotate_left
 ·rw [decide_eq_false (show ¬ lenL l = lenL l' by unfold lenL; omega), Bool.not_false, br_true, decide_eq_false (fun h => hn (by rw [h]))]
 rw [decide_eq_true (show lenL l = lenL l' by unfold lenL; omega), Bool.not_true, br_false]
 have hlp : loopN R_SameLeases_L4 FUEL (((), (), (0, ()), ()), (l, l', ())) = some (if l.drop 0 = l'.drop 0 then Sum.inr ((), (l, l', ())) else Sum.inl ((((false : Bool), ()), ()), (l, l', ()))) := by
  refine loop_up (step := R_SameLeases_L4) (fun i => (((), (), ((i : Int), ()), ()), (l, l', ()))) l.length (fun i => some (if l.drop i = l'.drop i then Sum.inr ((), (l, l', ())) else Sum.inl ((((false : Bool), ()), ()), (l, l', ())))) (fun rec i hi hr => ?_) (fun rec => ?_) FUEL 0 (Nat.zero_le _) (fuel_gt (by omega))
  ·obtain ⟨e, he⟩ : ∃ e, l[i]? = some e := ⟨_, List.getElem?_eq_getElem hi⟩
   obtain ⟨e', he'⟩ : ∃ e, l'[i]? = some e := ⟨_, List.getElem?_eq_getElem (by omega)⟩
   simp only [R_SameLeases_L4]
   rw [decide_eq_true (show (i : Int) < lenL l by unfold lenL; omega), br_true, req_of (zq33 (by omega) (by unfold lenL; omega)), geti_at he, bind_s, req_of (zq33 (by omega) (by unfold lenL; omega)), geti_at he', bind_s, eqLs_eq, drop_cons he, drop_cons he']
   by_cases hee : e = e'
   ·rw [decide_eq_true hee, Bool.not_true, br_false, show ((i : Int) + 1) = ((i + 1 : Nat) : Int) by omega, req_of (i64ok_of (by omega) (by omega)), hr]
    simp [hee]
   ·rw [decide_eq_false hee, Bool.not_false, br_true]
    simp [hee]
  ·simp only [R_SameLeases_L4]
   rw [decide_eq_false (show ¬ (l.length : Int) < lenL l by unfold lenL; omega), br_false, List.drop_of_length_le (Nat.le_refl _), List.drop_of_length_le (by omega)]
   rfl
 rw [hlp, bind_s, List.drop_zero, List.drop_zero]
 by_cases h : l = l'
 ·rw [if_pos h, decide_eq_true h]; rfl
 ·rw [if_neg h, decide_eq_false h]; rfl
end Go.Ma
namespace Go.Ma
open Go
noncomputable def allA (last : Ad) : Nat → Ad → Option (List Ad)
 | 0, _ => none
 | k + 1, a => br (decide (a = last)) (some [a]) ((addr_After_t a).bind fun y => br y.2.1 ((allA last k y.1).map (a :: ·)) (some [a]))
noncomputable def firstIn (p : Pf) (as : List Ad) (ls : List Ls) : List Ad → Option (Ad × Bool × Unit)
 | [] => some (⟨false, 0, 0⟩, false, ())
 | a :: r => (m_lease_book__taken_t p as ls a).bind fun t => (firstIn p as ls r).bind fun y => some (bif t.1 then y else (a, true, ()))
noncomputable def zq0 (p : Pf) (as : List Ad) (ls : List Ls) : Option (Ad × Bool × Unit) :=
 (prefix_Last_t p).bind fun y => (allA y.1 64 p.ad).bind fun xs => firstIn p as ls xs
end Go.Ma
namespace Go.Ma
open Go
noncomputable def zq51 (rec : (((Unit) × (Unit) × (Int × Unit) × (Int × Unit) × Unit) × (List Ad × List Ls × (Bool × Int × Int × Int × Unit) × (ByteArray × Unit) × List Ls × (Ad × Unit) × List Ls × (Bool × Int × Int × Int × Unit) × Unit)) → Option ((((Int × Unit) × Unit) × (List Ad × List Ls × (Bool × Int × Int × Int × Unit) × (ByteArray × Unit) × List Ls × (Ad × Unit) × List Ls × (Bool × Int × Int × Int × Unit) × Unit)) ⊕ ((Unit) × (List Ad × List Ls × (Bool × Int × Int × Int × Unit) × (ByteArray × Unit) × List Ls × (Ad × Unit) × List Ls × (Bool × Int × Int × Int × Unit) × Unit)))) (x : (((Unit) × (Unit) × (Int × Unit) × (Int × Unit) × Unit) × (List Ad × List Ls × (Bool × Int × Int × Int × Unit) × (ByteArray × Unit) × List Ls × (Ad × Unit) × List Ls × (Bool × Int × Int × Int × Unit) × Unit))) : Option ((((Int × Unit) × Unit) × (List Ad × List Ls × (Bool × Int × Int × Int × Unit) × (ByteArray × Unit) × List Ls × (Ad × Unit) × List Ls × (Bool × Int × Int × Int × Unit) × Unit)) ⊕ ((Unit) × (List Ad × List Ls × (Bool × Int × Int × Int × Unit) × (ByteArray × Unit) × List Ls × (Ad × Unit) × List Ls × (Bool × Int × Int × Int × Unit) × Unit))) :=
 let v0 := x.1.2.2.1.1
 let v1 := x.1.2.2.2.1.1
 let v2 := x.2.1
 let v3 := x.2.2.1
 let v4 := x.2.2.2.1.1
 let v5 := x.2.2.2.1.2.1
 let v6 := x.2.2.2.1.2.2.1
 let v7 := x.2.2.2.1.2.2.2.1
 let v8 := x.2.2.2.2.1.1
 let v9 := x.2.2.2.2.2.1
 let v10 := x.2.2.2.2.2.2.1.1
 let v11 := x.2.2.2.2.2.2.2.1
 let v12 := x.2.2.2.2.2.2.2.2.1.1
 let v13 := x.2.2.2.2.2.2.2.2.1.2.1
 let v14 := x.2.2.2.2.2.2.2.2.1.2.2.1
 let v15 := x.2.2.2.2.2.2.2.2.1.2.2.2.1
 br (decide (v1 < v0))
  (req (inRange v1 (lenL v11)) <|
  (geti v11 v1).bind fun p1 =>
  (lease_Raw_1_t p1 v8).bind fun y2 =>
  br y2.1
   (some (Sum.inl (((v1, ()), ()), (v2, v3, (v4, v5, v6, v7, ()), (v8, ()), v9, (v10, ()), v11, (v12, v13, v14, v15, ()), ()))))
   (req (i64ok (v1 + 1)) <|
   rec (((()), (()), (v0, ()), (v1 + 1, ()), ()), (v2, v3, (v4, v5, v6, v7, ()), (v8, ()), v9, (v10, ()), v11, (v12, v13, v14, v15, ()), ()))))
  (some (Sum.inr (((()), (v2, v3, (v4, v5, v6, v7, ()), (v8, ()), v9, (v10, ()), v11, (v12, v13, v14, v15, ()), ())))))
noncomputable def zq45 (rec : (((Unit) × (Unit) × (Unit) × (Int × Unit) × (Int × Unit) × (Int × Unit) × Unit) × (List Ad × List Ls × (Bool × Int × Int × Int × Unit) × (ByteArray × Unit) × List Ls × (Ad × Unit) × List Ls × (Bool × Int × Int × Int × Unit) × (Ad × Unit) × (Ls × Unit) × (Ls × Unit) × Unit)) → Option (((Unit) × (Unit) × (Unit) × (Int × Unit) × (Int × Unit) × Unit) × (List Ad × List Ls × (Bool × Int × Int × Int × Unit) × (ByteArray × Unit) × List Ls × (Ad × Unit) × List Ls × (Bool × Int × Int × Int × Unit) × (Ad × Unit) × (Ls × Unit) × (Ls × Unit) × Unit))) (x : (((Unit) × (Unit) × (Unit) × (Int × Unit) × (Int × Unit) × (Int × Unit) × Unit) × (List Ad × List Ls × (Bool × Int × Int × Int × Unit) × (ByteArray × Unit) × List Ls × (Ad × Unit) × List Ls × (Bool × Int × Int × Int × Unit) × (Ad × Unit) × (Ls × Unit) × (Ls × Unit) × Unit))) : Option (((Unit) × (Unit) × (Unit) × (Int × Unit) × (Int × Unit) × Unit) × (List Ad × List Ls × (Bool × Int × Int × Int × Unit) × (ByteArray × Unit) × List Ls × (Ad × Unit) × List Ls × (Bool × Int × Int × Int × Unit) × (Ad × Unit) × (Ls × Unit) × (Ls × Unit) × Unit)) :=
 let v0 := x.1.2.2.2.1.1
 let v1 := x.1.2.2.2.2.1.1
 let v2 := x.1.2.2.2.2.2.1.1
 let v3 := x.2.1
 let v4 := x.2.2.1
 let v5 := x.2.2.2.1.1
 let v6 := x.2.2.2.1.2.1
 let v7 := x.2.2.2.1.2.2.1
 let v8 := x.2.2.2.1.2.2.2.1
 let v9 := x.2.2.2.2.1.1
 let v10 := x.2.2.2.2.2.1
 let v11 := x.2.2.2.2.2.2.1.1
 let v12 := x.2.2.2.2.2.2.2.1
 let v13 := x.2.2.2.2.2.2.2.2.1.1
 let v14 := x.2.2.2.2.2.2.2.2.1.2.1
 let v15 := x.2.2.2.2.2.2.2.2.1.2.2.1
 let v16 := x.2.2.2.2.2.2.2.2.1.2.2.2.1
 let v17 := x.2.2.2.2.2.2.2.2.2.1.1
 let v18 := x.2.2.2.2.2.2.2.2.2.2.1.1
 let v19 := x.2.2.2.2.2.2.2.2.2.2.2.1.1
 br (decide (v1 < v2))
  (req (i64ok (v1 + v2)) <|
  req (inRange (convI .i64 (aop .shr .u64 (convI .u64 (v1 + v2)) 1)) (lenL v12)) <|
  (geti v12 (convI .i64 (aop .shr .u64 (convI .u64 (v1 + v2)) 1))).bind fun p1 =>
  (lease_Raw_2_t p1 v19).bind fun y2 =>
  br (decide (y2.1 < 0))
   (req (i64ok ((convI .i64 (aop .shr .u64 (convI .u64 (v1 + v2)) 1)) + 1)) <|
   rec (((()), (()), (()), (v0, ()), ((convI .i64 (aop .shr .u64 (convI .u64 (v1 + v2)) 1)) + 1, ()), (v2, ()), ()), (v3, v4, (v5, v6, v7, v8, ()), (v9, ()), v10, (v11, ()), v12, (v13, v14, v15, v16, ()), (v17, ()), (v18, ()), (v19, ()), ())))
   (rec (((()), (()), (()), (v0, ()), (v1, ()), (convI .i64 (aop .shr .u64 (convI .u64 (v1 + v2)) 1), ()), ()), (v3, v4, (v5, v6, v7, v8, ()), (v9, ()), v10, (v11, ()), v12, (v13, v14, v15, v16, ()), (v17, ()), (v18, ()), (v19, ()), ()))))
  (some (((()), (()), (()), (v0, ()), (v1, ()), ()), (v3, v4, (v5, v6, v7, v8, ()), (v9, ()), v10, (v11, ()), v12, (v13, v14, v15, v16, ()), (v17, ()), (v18, ()), (v19, ()), ())))
noncomputable def zq44 (rec : (((Unit) × (Unit) × (Unit) × (Int × Unit) × (Int × Unit) × (Int × Unit) × Unit) × (List Ad × List Ls × (Bool × Int × Int × Int × Unit) × (ByteArray × Unit) × List Ls × (Ad × Unit) × List Ls × (Bool × Int × Int × Int × Unit) × (Ad × Unit) × (Ls × Unit) × (Ls × Unit) × Unit)) → Option (((Unit) × (Unit) × (Unit) × (Int × Unit) × (Int × Unit) × Unit) × (List Ad × List Ls × (Bool × Int × Int × Int × Unit) × (ByteArray × Unit) × List Ls × (Ad × Unit) × List Ls × (Bool × Int × Int × Int × Unit) × (Ad × Unit) × (Ls × Unit) × (Ls × Unit) × Unit))) (x : (((Unit) × (Unit) × (Unit) × (Int × Unit) × (Int × Unit) × (Int × Unit) × Unit) × (List Ad × List Ls × (Bool × Int × Int × Int × Unit) × (ByteArray × Unit) × List Ls × (Ad × Unit) × List Ls × (Bool × Int × Int × Int × Unit) × (Ad × Unit) × (Ls × Unit) × (Ls × Unit) × Unit))) : Option (((Unit) × (Unit) × (Unit) × (Int × Unit) × (Int × Unit) × Unit) × (List Ad × List Ls × (Bool × Int × Int × Int × Unit) × (ByteArray × Unit) × List Ls × (Ad × Unit) × List Ls × (Bool × Int × Int × Int × Unit) × (Ad × Unit) × (Ls × Unit) × (Ls × Unit) × Unit)) :=
 let v0 := x.1.2.2.2.1.1
 let v1 := x.1.2.2.2.2.1.1
 let v2 := x.1.2.2.2.2.2.1.1
 let v3 := x.2.1
 let v4 := x.2.2.1
 let v5 := x.2.2.2.1.1
 let v6 := x.2.2.2.1.2.1
 let v7 := x.2.2.2.1.2.2.1
 let v8 := x.2.2.2.1.2.2.2.1
 let v9 := x.2.2.2.2.1.1
 let v10 := x.2.2.2.2.2.1
 let v11 := x.2.2.2.2.2.2.1.1
 let v12 := x.2.2.2.2.2.2.2.1
 let v13 := x.2.2.2.2.2.2.2.2.1.1
 let v14 := x.2.2.2.2.2.2.2.2.1.2.1
 let v15 := x.2.2.2.2.2.2.2.2.1.2.2.1
 let v16 := x.2.2.2.2.2.2.2.2.1.2.2.2.1
 let v17 := x.2.2.2.2.2.2.2.2.2.1.1
 let v18 := x.2.2.2.2.2.2.2.2.2.2.1.1
 let v19 := x.2.2.2.2.2.2.2.2.2.2.2.1.1
 br (decide (v1 < v2))
  (req (i64ok (v1 + v2)) <|
  req (inRange (convI .i64 (aop .shr .u64 (convI .u64 (v1 + v2)) 1)) (lenL v12)) <|
  (geti v12 (convI .i64 (aop .shr .u64 (convI .u64 (v1 + v2)) 1))).bind fun p1 =>
  (lease_Raw_2_t p1 v19).bind fun y2 =>
  br (decide (y2.1 < 0))
   (req (i64ok ((convI .i64 (aop .shr .u64 (convI .u64 (v1 + v2)) 1)) + 1)) <|
   rec (((()), (()), (()), (v0, ()), ((convI .i64 (aop .shr .u64 (convI .u64 (v1 + v2)) 1)) + 1, ()), (v2, ()), ()), (v3, v4, (v5, v6, v7, v8, ()), (v9, ()), v10, (v11, ()), v12, (v13, v14, v15, v16, ()), (v17, ()), (v18, ()), (v19, ()), ())))
   (rec (((()), (()), (()), (v0, ()), (v1, ()), (convI .i64 (aop .shr .u64 (convI .u64 (v1 + v2)) 1), ()), ()), (v3, v4, (v5, v6, v7, v8, ()), (v9, ()), v10, (v11, ()), v12, (v13, v14, v15, v16, ()), (v17, ()), (v18, ()), (v19, ()), ()))))
  (some (((()), (()), (()), (v0, ()), (v1, ()), ()), (v3, v4, (v5, v6, v7, v8, ()), (v9, ()), v10, (v11, ()), v12, (v13, v14, v15, v16, ()), (v17, ()), (v18, ()), (v19, ()), ())))
noncomputable def lease_Raw_t (a0 : Pf) (a1 : List Ad) (a2 : List Ls) (a3 : ByteArray) (a4 : Int) (a5 : Int) : Option ((List Ls) × Ad × Bool × Unit) :=
 (lease_Live_t a2 a4).bind fun y1 =>
 (loopN zq51 FUEL (((()), (()), (lenL y1.1, ()), (0, ()), ()), (a1, a2, (a0.ad.v6, a0.ad.hi, a0.ad.lo, a0.bits, ()), (a3, ()), ([] : List Ls), ((⟨false, 0, 0⟩ : Ad), ()), y1.1, (a0.ad.v6, a0.ad.hi, a0.ad.lo, a0.bits, ()), ()))).bind fun y2 =>
 sumC y2 (fun y3 =>
  br (decide (y3.1.1.1 ≥ 0))
   (req (i64ok (a4 + a5)) <|
   req (inRange y3.1.1.1 (lenL y3.2.2.2.2.2.2.2.1)) <|
   req (inRange y3.1.1.1 (lenL y3.2.2.2.2.2.2.2.1)) <|
   (geti y3.2.2.2.2.2.2.2.1 y3.1.1.1).bind fun p4 =>
   req (inRange y3.1.1.1 (lenL (seti y3.2.2.2.2.2.2.2.1 y3.1.1.1 (⟨p4.ad, p4.who, a4 + a5⟩ : Ls)))) <|
   req (inRange y3.1.1.1 (lenL (seti y3.2.2.2.2.2.2.2.1 y3.1.1.1 (⟨p4.ad, p4.who, a4 + a5⟩ : Ls)))) <|
   (geti (seti y3.2.2.2.2.2.2.2.1 y3.1.1.1 (⟨p4.ad, p4.who, a4 + a5⟩ : Ls)) y3.1.1.1).bind fun p5 =>
   some (seti y3.2.2.2.2.2.2.2.1 y3.1.1.1 (⟨p4.ad, p4.who, a4 + a5⟩ : Ls), p5.ad, true, ()))
   ((zq0 (⟨(⟨y3.2.2.2.2.2.2.2.2.1.1, y3.2.2.2.2.2.2.2.2.1.2.1, y3.2.2.2.2.2.2.2.2.1.2.2.1⟩ : Ad), y3.2.2.2.2.2.2.2.2.1.2.2.2.1⟩ : Pf) y3.2.1 y3.2.2.2.2.2.2.2.1).bind fun y4 =>
   br (!y4.2.1)
    (some (([] : List Ls), y4.1, false, ()))
    (req (i64ok (a4 + a5)) <|
    ((loopN zq45 FUEL (((()), (()), (()), (lenL y3.2.2.2.2.2.2.2.1, ()), (0, ()), (lenL y3.2.2.2.2.2.2.2.1, ()), ()), (y3.2.1, y3.2.2.1, (y3.2.2.2.1.1, y3.2.2.2.1.2.1, y3.2.2.2.1.2.2.1, y3.2.2.2.1.2.2.2.1, ()), (y3.2.2.2.2.1.1, ()), y3.2.2.2.2.2.1, (y3.2.2.2.2.2.2.1.1, ()), y3.2.2.2.2.2.2.2.1, (y3.2.2.2.2.2.2.2.2.1.1, y3.2.2.2.2.2.2.2.2.1.2.1, y3.2.2.2.2.2.2.2.2.1.2.2.1, y3.2.2.2.2.2.2.2.2.1.2.2.2.1, ()), (y4.1, ()), ((⟨y4.1, y3.2.2.2.2.1.1, a4 + a5⟩ : Ls), ()), ((⟨y4.1, y3.2.2.2.2.1.1, a4 + a5⟩ : Ls), ()), ()))).bind fun y5 =>
     br (decide (y5.1.2.2.2.2.1.1 < y5.1.2.2.2.1.1))
      (req (inRange y5.1.2.2.2.2.1.1 (lenL y5.2.2.2.2.2.2.2.1)) <|
      (geti y5.2.2.2.2.2.2.2.1 y5.1.2.2.2.2.1.1).bind fun p6 =>
      (lease_Raw_2_t p6 y5.2.2.2.2.2.2.2.2.2.2.2.1.1).bind fun y7 =>
      some (y5.1.2.2.2.2.1.1, decide (y7.1 = 0), ()))
      (some (y5.1.2.2.2.2.1.1, false, ()))).bind fun y6 =>
    both
     (dup 1 <|
     req (decide (0 ≤ y6.1) && decide (y6.1 ≤ lenL y3.2.2.2.2.2.2.2.1) && room (lenL y3.2.2.2.2.2.2.2.1) 1) <|
     some (insL y3.2.2.2.2.2.2.2.1 y6.1 (⟨y4.1, y3.2.2.2.2.1.1, a4 + a5⟩ : Ls), y4.1, true, ()))
     (req (decide (0 ≤ y6.1) && decide (y6.1 ≤ lenL y3.2.2.2.2.2.2.2.1) && room (lenL y3.2.2.2.2.2.2.2.1) 1) <|
     some (insL y3.2.2.2.2.2.2.2.1 y6.1 (⟨y4.1, y3.2.2.2.2.1.1, a4 + a5⟩ : Ls), y4.1, true, ()))))) (fun y7 =>
  (zq0 (⟨(⟨y7.2.2.2.2.2.2.2.2.1.1, y7.2.2.2.2.2.2.2.2.1.2.1, y7.2.2.2.2.2.2.2.2.1.2.2.1⟩ : Ad), y7.2.2.2.2.2.2.2.2.1.2.2.2.1⟩ : Pf) y7.2.1 y7.2.2.2.2.2.2.2.1).bind fun y8 =>
  br (!y8.2.1)
   (some (([] : List Ls), y8.1, false, ()))
   (req (i64ok (a4 + a5)) <|
   ((loopN zq44 FUEL (((()), (()), (()), (lenL y7.2.2.2.2.2.2.2.1, ()), (0, ()), (lenL y7.2.2.2.2.2.2.2.1, ()), ()), (y7.2.1, y7.2.2.1, (y7.2.2.2.1.1, y7.2.2.2.1.2.1, y7.2.2.2.1.2.2.1, y7.2.2.2.1.2.2.2.1, ()), (y7.2.2.2.2.1.1, ()), y7.2.2.2.2.2.1, (y7.2.2.2.2.2.2.1.1, ()), y7.2.2.2.2.2.2.2.1, (y7.2.2.2.2.2.2.2.2.1.1, y7.2.2.2.2.2.2.2.2.1.2.1, y7.2.2.2.2.2.2.2.2.1.2.2.1, y7.2.2.2.2.2.2.2.2.1.2.2.2.1, ()), (y8.1, ()), ((⟨y8.1, y7.2.2.2.2.1.1, a4 + a5⟩ : Ls), ()), ((⟨y8.1, y7.2.2.2.2.1.1, a4 + a5⟩ : Ls), ()), ()))).bind fun y9 =>
    br (decide (y9.1.2.2.2.2.1.1 < y9.1.2.2.2.1.1))
     (req (inRange y9.1.2.2.2.2.1.1 (lenL y9.2.2.2.2.2.2.2.1)) <|
     (geti y9.2.2.2.2.2.2.2.1 y9.1.2.2.2.2.1.1).bind fun p10 =>
     (lease_Raw_2_t p10 y9.2.2.2.2.2.2.2.2.2.2.2.1.1).bind fun y11 =>
     some (y9.1.2.2.2.2.1.1, decide (y11.1 = 0), ()))
     (some (y9.1.2.2.2.2.1.1, false, ()))).bind fun y10 =>
   both
    (dup 1 <|
    req (decide (0 ≤ y10.1) && decide (y10.1 ≤ lenL y7.2.2.2.2.2.2.2.1) && room (lenL y7.2.2.2.2.2.2.2.1) 1) <|
    some (insL y7.2.2.2.2.2.2.2.1 y10.1 (⟨y8.1, y7.2.2.2.2.1.1, a4 + a5⟩ : Ls), y8.1, true, ()))
    (req (decide (0 ≤ y10.1) && decide (y10.1 ≤ lenL y7.2.2.2.2.2.2.2.1) && room (lenL y7.2.2.2.2.2.2.2.1) 1) <|
    some (insL y7.2.2.2.2.2.2.2.1 y10.1 (⟨y8.1, y7.2.2.2.2.1.1, a4 + a5⟩ : Ls), y8.1, true, ()))))
noncomputable def zq98 (rec : (((Unit) × (Unit) × (Int × Unit) × (Int × Unit) × Unit) × (List (List Ad) × List Pf × List Ls × (Int × Unit) × (Oq × Unit) × (Int × Unit) × List (List Ad) × List Pf × List Ls × (Ad × Unit) × List (List Ad) × List Pf × List Ls × (Int × Unit) × (Oq × Unit) × (Ad × Unit) × (Pf × Unit) × Unit)) → Option ((((Int × Unit) × Unit) × (List (List Ad) × List Pf × List Ls × (Int × Unit) × (Oq × Unit) × (Int × Unit) × List (List Ad) × List Pf × List Ls × (Ad × Unit) × List (List Ad) × List Pf × List Ls × (Int × Unit) × (Oq × Unit) × (Ad × Unit) × (Pf × Unit) × Unit)) ⊕ ((Unit) × (List (List Ad) × List Pf × List Ls × (Int × Unit) × (Oq × Unit) × (Int × Unit) × List (List Ad) × List Pf × List Ls × (Ad × Unit) × List (List Ad) × List Pf × List Ls × (Int × Unit) × (Oq × Unit) × (Ad × Unit) × (Pf × Unit) × Unit)))) (x : (((Unit) × (Unit) × (Int × Unit) × (Int × Unit) × Unit) × (List (List Ad) × List Pf × List Ls × (Int × Unit) × (Oq × Unit) × (Int × Unit) × List (List Ad) × List Pf × List Ls × (Ad × Unit) × List (List Ad) × List Pf × List Ls × (Int × Unit) × (Oq × Unit) × (Ad × Unit) × (Pf × Unit) × Unit))) : Option ((((Int × Unit) × Unit) × (List (List Ad) × List Pf × List Ls × (Int × Unit) × (Oq × Unit) × (Int × Unit) × List (List Ad) × List Pf × List Ls × (Ad × Unit) × List (List Ad) × List Pf × List Ls × (Int × Unit) × (Oq × Unit) × (Ad × Unit) × (Pf × Unit) × Unit)) ⊕ ((Unit) × (List (List Ad) × List Pf × List Ls × (Int × Unit) × (Oq × Unit) × (Int × Unit) × List (List Ad) × List Pf × List Ls × (Ad × Unit) × List (List Ad) × List Pf × List Ls × (Int × Unit) × (Oq × Unit) × (Ad × Unit) × (Pf × Unit) × Unit))) :=
 let v0 := x.1.2.2.1.1
 let v1 := x.1.2.2.2.1.1
 let v2 := x.2.1
 let v3 := x.2.2.1
 let v4 := x.2.2.2.1
 let v5 := x.2.2.2.2.1.1
 let v6 := x.2.2.2.2.2.1.1
 let v7 := x.2.2.2.2.2.2.1.1
 let v8 := x.2.2.2.2.2.2.2.1
 let v9 := x.2.2.2.2.2.2.2.2.1
 let v10 := x.2.2.2.2.2.2.2.2.2.1
 let v11 := x.2.2.2.2.2.2.2.2.2.2.1.1
 let v12 := x.2.2.2.2.2.2.2.2.2.2.2.1
 let v13 := x.2.2.2.2.2.2.2.2.2.2.2.2.1
 let v14 := x.2.2.2.2.2.2.2.2.2.2.2.2.2.1
 let v15 := x.2.2.2.2.2.2.2.2.2.2.2.2.2.2.1.1
 let v16 := x.2.2.2.2.2.2.2.2.2.2.2.2.2.2.2.1.1
 let v17 := x.2.2.2.2.2.2.2.2.2.2.2.2.2.2.2.2.1.1
 let v18 := x.2.2.2.2.2.2.2.2.2.2.2.2.2.2.2.2.2.1.1
 br (decide (v1 < v0))
  (req (inRange v1 (lenL v13)) <|
  (geti v13 v1).bind fun p1 =>
  (m_state_doer__pool_1_t p1 (getL v12 v1) v18).bind fun y2 =>
  br y2.1
   (some (Sum.inl (((v1, ()), ()), (v2, v3, v4, (v5, ()), (v6, ()), (v7, ()), v8, v9, v10, (v11, ()), v12, v13, v14, (v15, ()), (v16, ()), (v17, ()), (v18, ()), ()))))
   (req (i64ok (v1 + 1)) <|
   rec (((()), (()), (v0, ()), (v1 + 1, ()), ()), (v2, v3, v4, (v5, ()), (v6, ()), (v7, ()), v8, v9, v10, (v11, ()), v12, v13, v14, (v15, ()), (v16, ()), (v17, ()), (v18, ()), ()))))
  (some (Sum.inr (((()), (v2, v3, v4, (v5, ()), (v6, ()), (v7, ()), v8, v9, v10, (v11, ()), v12, v13, v14, (v15, ()), (v16, ()), (v17, ()), (v18, ()), ())))))
noncomputable def zq89 (rec : (((Unit) × (Unit) × (Unit) × (Int × Unit) × (Int × Unit) × (Int × Unit) × Unit) × (List (List Ad) × List Pf × List Ls × (Int × Unit) × (Oq × Unit) × (Int × Unit) × List (List Ad) × List Pf × List Ls × (Ad × Unit) × List (List Ad) × List Pf × List Ls × (Int × Unit) × (Oq × Unit) × (Ad × Unit) × (Pf × Unit) × (Pf × Unit) × Unit)) → Option (((Unit) × (Unit) × (Unit) × (Int × Unit) × (Int × Unit) × Unit) × (List (List Ad) × List Pf × List Ls × (Int × Unit) × (Oq × Unit) × (Int × Unit) × List (List Ad) × List Pf × List Ls × (Ad × Unit) × List (List Ad) × List Pf × List Ls × (Int × Unit) × (Oq × Unit) × (Ad × Unit) × (Pf × Unit) × (Pf × Unit) × Unit))) (x : (((Unit) × (Unit) × (Unit) × (Int × Unit) × (Int × Unit) × (Int × Unit) × Unit) × (List (List Ad) × List Pf × List Ls × (Int × Unit) × (Oq × Unit) × (Int × Unit) × List (List Ad) × List Pf × List Ls × (Ad × Unit) × List (List Ad) × List Pf × List Ls × (Int × Unit) × (Oq × Unit) × (Ad × Unit) × (Pf × Unit) × (Pf × Unit) × Unit))) : Option (((Unit) × (Unit) × (Unit) × (Int × Unit) × (Int × Unit) × Unit) × (List (List Ad) × List Pf × List Ls × (Int × Unit) × (Oq × Unit) × (Int × Unit) × List (List Ad) × List Pf × List Ls × (Ad × Unit) × List (List Ad) × List Pf × List Ls × (Int × Unit) × (Oq × Unit) × (Ad × Unit) × (Pf × Unit) × (Pf × Unit) × Unit)) :=
 let v0 := x.1.2.2.2.1.1
 let v1 := x.1.2.2.2.2.1.1
 let v2 := x.1.2.2.2.2.2.1.1
 let v3 := x.2.1
 let v4 := x.2.2.1
 let v5 := x.2.2.2.1
 let v6 := x.2.2.2.2.1.1
 let v7 := x.2.2.2.2.2.1.1
 let v8 := x.2.2.2.2.2.2.1.1
 let v9 := x.2.2.2.2.2.2.2.1
 let v10 := x.2.2.2.2.2.2.2.2.1
 let v11 := x.2.2.2.2.2.2.2.2.2.1
 let v12 := x.2.2.2.2.2.2.2.2.2.2.1.1
 let v13 := x.2.2.2.2.2.2.2.2.2.2.2.1
 let v14 := x.2.2.2.2.2.2.2.2.2.2.2.2.1
 let v15 := x.2.2.2.2.2.2.2.2.2.2.2.2.2.1
 let v16 := x.2.2.2.2.2.2.2.2.2.2.2.2.2.2.1.1
 let v17 := x.2.2.2.2.2.2.2.2.2.2.2.2.2.2.2.1.1
 let v18 := x.2.2.2.2.2.2.2.2.2.2.2.2.2.2.2.2.1.1
 let v19 := x.2.2.2.2.2.2.2.2.2.2.2.2.2.2.2.2.2.1.1
 let v20 := x.2.2.2.2.2.2.2.2.2.2.2.2.2.2.2.2.2.2.1.1
 br (decide (v1 < v2))
  (req (i64ok (v1 + v2)) <|
  req (inRange (convI .i64 (aop .shr .u64 (convI .u64 (v1 + v2)) 1)) (lenL v14)) <|
  (geti v14 (convI .i64 (aop .shr .u64 (convI .u64 (v1 + v2)) 1))).bind fun p1 =>
  (zq14 p1 (getL v13 (convI .i64 (aop .shr .u64 (convI .u64 (v1 + v2)) 1))) v20).bind fun y2 =>
  br (decide (y2.1 < 0))
   (req (i64ok ((convI .i64 (aop .shr .u64 (convI .u64 (v1 + v2)) 1)) + 1)) <|
   rec (((()), (()), (()), (v0, ()), ((convI .i64 (aop .shr .u64 (convI .u64 (v1 + v2)) 1)) + 1, ()), (v2, ()), ()), (v3, v4, v5, (v6, ()), (v7, ()), (v8, ()), v9, v10, v11, (v12, ()), v13, v14, v15, (v16, ()), (v17, ()), (v18, ()), (v19, ()), (v20, ()), ())))
   (rec (((()), (()), (()), (v0, ()), (v1, ()), (convI .i64 (aop .shr .u64 (convI .u64 (v1 + v2)) 1), ()), ()), (v3, v4, v5, (v6, ()), (v7, ()), (v8, ()), v9, v10, v11, (v12, ()), v13, v14, v15, (v16, ()), (v17, ()), (v18, ()), (v19, ()), (v20, ()), ()))))
  (some (((()), (()), (()), (v0, ()), (v1, ()), ()), (v3, v4, v5, (v6, ()), (v7, ()), (v8, ()), v9, v10, v11, (v12, ()), v13, v14, v15, (v16, ()), (v17, ()), (v18, ()), (v19, ()), (v20, ()), ())))
noncomputable def zq88 (rec : (((Unit) × (Unit) × (Unit) × (Int × Unit) × (Int × Unit) × (Int × Unit) × Unit) × (List (List Ad) × List Pf × List Ls × (Int × Unit) × (Oq × Unit) × (Int × Unit) × List (List Ad) × List Pf × List Ls × (Ad × Unit) × List (List Ad) × List Pf × List Ls × (Int × Unit) × (Oq × Unit) × (Ad × Unit) × (Pf × Unit) × (Pf × Unit) × Unit)) → Option (((Unit) × (Unit) × (Unit) × (Int × Unit) × (Int × Unit) × Unit) × (List (List Ad) × List Pf × List Ls × (Int × Unit) × (Oq × Unit) × (Int × Unit) × List (List Ad) × List Pf × List Ls × (Ad × Unit) × List (List Ad) × List Pf × List Ls × (Int × Unit) × (Oq × Unit) × (Ad × Unit) × (Pf × Unit) × (Pf × Unit) × Unit))) (x : (((Unit) × (Unit) × (Unit) × (Int × Unit) × (Int × Unit) × (Int × Unit) × Unit) × (List (List Ad) × List Pf × List Ls × (Int × Unit) × (Oq × Unit) × (Int × Unit) × List (List Ad) × List Pf × List Ls × (Ad × Unit) × List (List Ad) × List Pf × List Ls × (Int × Unit) × (Oq × Unit) × (Ad × Unit) × (Pf × Unit) × (Pf × Unit) × Unit))) : Option (((Unit) × (Unit) × (Unit) × (Int × Unit) × (Int × Unit) × Unit) × (List (List Ad) × List Pf × List Ls × (Int × Unit) × (Oq × Unit) × (Int × Unit) × List (List Ad) × List Pf × List Ls × (Ad × Unit) × List (List Ad) × List Pf × List Ls × (Int × Unit) × (Oq × Unit) × (Ad × Unit) × (Pf × Unit) × (Pf × Unit) × Unit)) :=
 let v0 := x.1.2.2.2.1.1
 let v1 := x.1.2.2.2.2.1.1
 let v2 := x.1.2.2.2.2.2.1.1
 let v3 := x.2.1
 let v4 := x.2.2.1
 let v5 := x.2.2.2.1
 let v6 := x.2.2.2.2.1.1
 let v7 := x.2.2.2.2.2.1.1
 let v8 := x.2.2.2.2.2.2.1.1
 let v9 := x.2.2.2.2.2.2.2.1
 let v10 := x.2.2.2.2.2.2.2.2.1
 let v11 := x.2.2.2.2.2.2.2.2.2.1
 let v12 := x.2.2.2.2.2.2.2.2.2.2.1.1
 let v13 := x.2.2.2.2.2.2.2.2.2.2.2.1
 let v14 := x.2.2.2.2.2.2.2.2.2.2.2.2.1
 let v15 := x.2.2.2.2.2.2.2.2.2.2.2.2.2.1
 let v16 := x.2.2.2.2.2.2.2.2.2.2.2.2.2.2.1.1
 let v17 := x.2.2.2.2.2.2.2.2.2.2.2.2.2.2.2.1.1
 let v18 := x.2.2.2.2.2.2.2.2.2.2.2.2.2.2.2.2.1.1
 let v19 := x.2.2.2.2.2.2.2.2.2.2.2.2.2.2.2.2.2.1.1
 let v20 := x.2.2.2.2.2.2.2.2.2.2.2.2.2.2.2.2.2.2.1.1
 br (decide (v1 < v2))
  (req (i64ok (v1 + v2)) <|
  req (inRange (convI .i64 (aop .shr .u64 (convI .u64 (v1 + v2)) 1)) (lenL v14)) <|
  (geti v14 (convI .i64 (aop .shr .u64 (convI .u64 (v1 + v2)) 1))).bind fun p1 =>
  (zq14 p1 (getL v13 (convI .i64 (aop .shr .u64 (convI .u64 (v1 + v2)) 1))) v20).bind fun y2 =>
  br (decide (y2.1 < 0))
   (req (i64ok ((convI .i64 (aop .shr .u64 (convI .u64 (v1 + v2)) 1)) + 1)) <|
   rec (((()), (()), (()), (v0, ()), ((convI .i64 (aop .shr .u64 (convI .u64 (v1 + v2)) 1)) + 1, ()), (v2, ()), ()), (v3, v4, v5, (v6, ()), (v7, ()), (v8, ()), v9, v10, v11, (v12, ()), v13, v14, v15, (v16, ()), (v17, ()), (v18, ()), (v19, ()), (v20, ()), ())))
   (rec (((()), (()), (()), (v0, ()), (v1, ()), (convI .i64 (aop .shr .u64 (convI .u64 (v1 + v2)) 1), ()), ()), (v3, v4, v5, (v6, ()), (v7, ()), (v8, ()), v9, v10, v11, (v12, ()), v13, v14, v15, (v16, ()), (v17, ()), (v18, ()), (v19, ()), (v20, ()), ()))))
  (some (((()), (()), (()), (v0, ()), (v1, ()), ()), (v3, v4, v5, (v6, ()), (v7, ()), (v8, ()), v9, v10, v11, (v12, ()), v13, v14, v15, (v16, ()), (v17, ()), (v18, ()), (v19, ()), (v20, ()), ())))
noncomputable def zq81 (rec : (((Int × Unit) × (Unit) × (Unit) × (Int × Unit) × (Int × Unit) × (Int × Unit) × Unit) × (List (List Ad) × List Pf × List Ls × (Int × Unit) × (Oq × Unit) × (Int × Unit) × List (List Ad) × List Pf × List Ls × (Ad × Unit) × List (List Ad) × List Pf × List Ls × (Int × Unit) × (Oq × Unit) × (Ad × Unit) × (Ad × Unit) × (Ad × Unit) × Unit)) → Option (((Int × Unit) × (Unit) × (Unit) × (Int × Unit) × (Int × Unit) × Unit) × (List (List Ad) × List Pf × List Ls × (Int × Unit) × (Oq × Unit) × (Int × Unit) × List (List Ad) × List Pf × List Ls × (Ad × Unit) × List (List Ad) × List Pf × List Ls × (Int × Unit) × (Oq × Unit) × (Ad × Unit) × (Ad × Unit) × (Ad × Unit) × Unit))) (x : (((Int × Unit) × (Unit) × (Unit) × (Int × Unit) × (Int × Unit) × (Int × Unit) × Unit) × (List (List Ad) × List Pf × List Ls × (Int × Unit) × (Oq × Unit) × (Int × Unit) × List (List Ad) × List Pf × List Ls × (Ad × Unit) × List (List Ad) × List Pf × List Ls × (Int × Unit) × (Oq × Unit) × (Ad × Unit) × (Ad × Unit) × (Ad × Unit) × Unit))) : Option (((Int × Unit) × (Unit) × (Unit) × (Int × Unit) × (Int × Unit) × Unit) × (List (List Ad) × List Pf × List Ls × (Int × Unit) × (Oq × Unit) × (Int × Unit) × List (List Ad) × List Pf × List Ls × (Ad × Unit) × List (List Ad) × List Pf × List Ls × (Int × Unit) × (Oq × Unit) × (Ad × Unit) × (Ad × Unit) × (Ad × Unit) × Unit)) :=
 let v0 := x.1.1.1
 let v1 := x.1.2.2.2.1.1
 let v2 := x.1.2.2.2.2.1.1
 let v3 := x.1.2.2.2.2.2.1.1
 let v4 := x.2.1
 let v5 := x.2.2.1
 let v6 := x.2.2.2.1
 let v7 := x.2.2.2.2.1.1
 let v8 := x.2.2.2.2.2.1.1
 let v9 := x.2.2.2.2.2.2.1.1
 let v10 := x.2.2.2.2.2.2.2.1
 let v11 := x.2.2.2.2.2.2.2.2.1
 let v12 := x.2.2.2.2.2.2.2.2.2.1
 let v13 := x.2.2.2.2.2.2.2.2.2.2.1.1
 let v14 := x.2.2.2.2.2.2.2.2.2.2.2.1
 let v15 := x.2.2.2.2.2.2.2.2.2.2.2.2.1
 let v16 := x.2.2.2.2.2.2.2.2.2.2.2.2.2.1
 let v17 := x.2.2.2.2.2.2.2.2.2.2.2.2.2.2.1.1
 let v18 := x.2.2.2.2.2.2.2.2.2.2.2.2.2.2.2.1.1
 let v19 := x.2.2.2.2.2.2.2.2.2.2.2.2.2.2.2.2.1.1
 let v20 := x.2.2.2.2.2.2.2.2.2.2.2.2.2.2.2.2.2.1.1
 let v21 := x.2.2.2.2.2.2.2.2.2.2.2.2.2.2.2.2.2.2.1.1
 br (decide (v2 < v3))
  (req (i64ok (v2 + v3)) <|
  req (inRange (convI .i64 (aop .shr .u64 (convI .u64 (v2 + v3)) 1)) (lenL (getL v14 v0))) <|
  (geti (getL v14 v0) (convI .i64 (aop .shr .u64 (convI .u64 (v2 + v3)) 1))).bind fun p1 =>
  (addr_Order_t p1 v21).bind fun y2 =>
  br (decide (y2.1 < 0))
   (req (i64ok ((convI .i64 (aop .shr .u64 (convI .u64 (v2 + v3)) 1)) + 1)) <|
   rec (((v0, ()), (()), (()), (v1, ()), ((convI .i64 (aop .shr .u64 (convI .u64 (v2 + v3)) 1)) + 1, ()), (v3, ()), ()), (v4, v5, v6, (v7, ()), (v8, ()), (v9, ()), v10, v11, v12, (v13, ()), v14, v15, v16, (v17, ()), (v18, ()), (v19, ()), (v20, ()), (v21, ()), ())))
   (rec (((v0, ()), (()), (()), (v1, ()), (v2, ()), (convI .i64 (aop .shr .u64 (convI .u64 (v2 + v3)) 1), ()), ()), (v4, v5, v6, (v7, ()), (v8, ()), (v9, ()), v10, v11, v12, (v13, ()), v14, v15, v16, (v17, ()), (v18, ()), (v19, ()), (v20, ()), (v21, ()), ()))))
  (some (((v0, ()), (()), (()), (v1, ()), (v2, ()), ()), (v4, v5, v6, (v7, ()), (v8, ()), (v9, ()), v10, v11, v12, (v13, ()), v14, v15, v16, (v17, ()), (v18, ()), (v19, ()), (v20, ()), (v21, ()), ())))
noncomputable def zq76 (rec : (((Unit) × (ByteArray × Unit) × (Int × Unit) × (Unit) × (Unit) × (Unit) × (Unit) × (Unit) × (Int × Unit) × (Int × Unit) × Unit) × (List (List Ad) × List Pf × List Ls × (Int × Unit) × (Oq × Unit) × (Int × Unit) × List (List Ad) × List Pf × List Ls × (Ad × Unit) × List (List Ad) × List Pf × List Ls × (Int × Unit) × (Oq × Unit) × (Ad × Unit) × (Ad × Unit) × (Bool × Int × Int × Int × Int × Unit) × List Ls × List Ls × Unit)) → Option (((Unit) × (ByteArray × Unit) × (Int × Unit) × (Unit) × (Unit) × (Unit) × (Unit) × Unit) × (List (List Ad) × List Pf × List Ls × (Int × Unit) × (Oq × Unit) × (Int × Unit) × List (List Ad) × List Pf × List Ls × (Ad × Unit) × List (List Ad) × List Pf × List Ls × (Int × Unit) × (Oq × Unit) × (Ad × Unit) × (Ad × Unit) × (Bool × Int × Int × Int × Int × Unit) × List Ls × List Ls × Unit))) (x : (((Unit) × (ByteArray × Unit) × (Int × Unit) × (Unit) × (Unit) × (Unit) × (Unit) × (Unit) × (Int × Unit) × (Int × Unit) × Unit) × (List (List Ad) × List Pf × List Ls × (Int × Unit) × (Oq × Unit) × (Int × Unit) × List (List Ad) × List Pf × List Ls × (Ad × Unit) × List (List Ad) × List Pf × List Ls × (Int × Unit) × (Oq × Unit) × (Ad × Unit) × (Ad × Unit) × (Bool × Int × Int × Int × Int × Unit) × List Ls × List Ls × Unit))) : Option (((Unit) × (ByteArray × Unit) × (Int × Unit) × (Unit) × (Unit) × (Unit) × (Unit) × Unit) × (List (List Ad) × List Pf × List Ls × (Int × Unit) × (Oq × Unit) × (Int × Unit) × List (List Ad) × List Pf × List Ls × (Ad × Unit) × List (List Ad) × List Pf × List Ls × (Int × Unit) × (Oq × Unit) × (Ad × Unit) × (Ad × Unit) × (Bool × Int × Int × Int × Int × Unit) × List Ls × List Ls × Unit)) :=
 let v0 := x.1.2.1.1
 let v1 := x.1.2.2.1.1
 let v2 := x.1.2.2.2.2.2.2.2.2.1.1
 let v3 := x.1.2.2.2.2.2.2.2.2.2.1.1
 let v4 := x.2.1
 let v5 := x.2.2.1
 let v6 := x.2.2.2.1
 let v7 := x.2.2.2.2.1.1
 let v8 := x.2.2.2.2.2.1.1
 let v9 := x.2.2.2.2.2.2.1.1
 let v10 := x.2.2.2.2.2.2.2.1
 let v11 := x.2.2.2.2.2.2.2.2.1
 let v12 := x.2.2.2.2.2.2.2.2.2.1
 let v13 := x.2.2.2.2.2.2.2.2.2.2.1.1
 let v14 := x.2.2.2.2.2.2.2.2.2.2.2.1
 let v15 := x.2.2.2.2.2.2.2.2.2.2.2.2.1
 let v16 := x.2.2.2.2.2.2.2.2.2.2.2.2.2.1
 let v17 := x.2.2.2.2.2.2.2.2.2.2.2.2.2.2.1.1
 let v18 := x.2.2.2.2.2.2.2.2.2.2.2.2.2.2.2.1.1
 let v19 := x.2.2.2.2.2.2.2.2.2.2.2.2.2.2.2.2.1.1
 let v20 := x.2.2.2.2.2.2.2.2.2.2.2.2.2.2.2.2.2.1.1
 let v21 := x.2.2.2.2.2.2.2.2.2.2.2.2.2.2.2.2.2.2.1.1
 let v22 := x.2.2.2.2.2.2.2.2.2.2.2.2.2.2.2.2.2.2.1.2.1
 let v23 := x.2.2.2.2.2.2.2.2.2.2.2.2.2.2.2.2.2.2.1.2.2.1
 let v24 := x.2.2.2.2.2.2.2.2.2.2.2.2.2.2.2.2.2.2.1.2.2.2.1
 let v25 := x.2.2.2.2.2.2.2.2.2.2.2.2.2.2.2.2.2.2.1.2.2.2.2.1
 let v26 := x.2.2.2.2.2.2.2.2.2.2.2.2.2.2.2.2.2.2.2.1
 let v27 := x.2.2.2.2.2.2.2.2.2.2.2.2.2.2.2.2.2.2.2.2.1
 br (decide (v3 < v2))
  (req (inRange v3 (lenL v16)) <|
  (geti v16 v3).bind fun p1 =>
  (prefix_Holds_t (⟨(⟨v21, v22, v23⟩ : Ad), v24⟩ : Pf) p1.ad).bind fun y2 =>
  br y2.1
   (req (room (lenL v26) (lenL ([p1] : List Ls))) <|
   req (i64ok (v3 + 1)) <|
   rec (((()), (v0, ()), (v1, ()), (()), (()), (()), (()), (()), (v2, ()), (v3 + 1, ()), ()), (v4, v5, v6, (v7, ()), (v8, ()), (v9, ()), v10, v11, v12, (v13, ()), v14, v15, v16, (v17, ()), (v18, ()), (v19, ()), (v20, ()), (v21, v22, v23, v24, v25, ()), v26 ++ ([p1] : List Ls), v27, ())))
   (req (room (lenL v27) (lenL ([p1] : List Ls))) <|
   req (i64ok (v3 + 1)) <|
   rec (((()), (v0, ()), (v1, ()), (()), (()), (()), (()), (()), (v2, ()), (v3 + 1, ()), ()), (v4, v5, v6, (v7, ()), (v8, ()), (v9, ()), v10, v11, v12, (v13, ()), v14, v15, v16, (v17, ()), (v18, ()), (v19, ()), (v20, ()), (v21, v22, v23, v24, v25, ()), v26, v27 ++ ([p1] : List Ls), ()))))
  (some (((()), (v0, ()), (v1, ()), (()), (()), (()), (()), ()), (v4, v5, v6, (v7, ()), (v8, ()), (v9, ()), v10, v11, v12, (v13, ()), v14, v15, v16, (v17, ()), (v18, ()), (v19, ()), (v20, ()), (v21, v22, v23, v24, v25, ()), v26, v27, ())))
noncomputable def state_Raw_t (a0 : List Pf × List (List Ad)) (a1 : List Ls) (a2 : Int) (a3 : Oq) : Option (((List Pf × List (List Ad)) × (List Ls) × Int × Unit) × Ad × Int × Unit) :=
 (state_Form_t a3).bind fun y1 =>
 br (!decide (y1.1 = 0))
  (some (((([] : List Pf), ([] : List (List Ad))), ([] : List Ls), 0, ()), (⟨false, 0, 0⟩ : Ad), y1.1, ()))
  ((state_Own_t a0 a1 a2).bind fun y2 =>
  br (decide (a3.kind = 1))
   ((loopN zq98 FUEL (((()), (()), (lenL y2.1.1.1, ()), (0, ()), ()), (a0.2, a0.1, a1, (a2, ()), (a3, ()), (0, ()), ([] : List (List Ad)), ([] : List Pf), ([] : List Ls), ((⟨false, 0, 0⟩ : Ad), ()), y2.1.1.2, y2.1.1.1, y2.1.2.1, (y2.1.2.2.1, ()), (a3, ()), ((⟨false, 0, 0⟩ : Ad), ()), (a3.pf, ()), ()))).bind fun y3 =>
   sumC y3 (fun y4 =>
    br (decide (y4.1.1.1 ≥ 0))
     (some (((([] : List Pf), ([] : List (List Ad))), ([] : List Ls), 0, ()), (⟨false, 0, 0⟩ : Ad), 6, ()))
     (br (decide (lenL y4.2.2.2.2.2.2.2.2.2.2.2.2.1 = 3))
      (some (((([] : List Pf), ([] : List (List Ad))), ([] : List Ls), 0, ()), (⟨false, 0, 0⟩ : Ad), 2, ()))
      (((loopN zq89 FUEL (((()), (()), (()), (lenL y4.2.2.2.2.2.2.2.2.2.2.2.2.1, ()), (0, ()), (lenL y4.2.2.2.2.2.2.2.2.2.2.2.2.1, ()), ()), (y4.2.1, y4.2.2.1, y4.2.2.2.1, (y4.2.2.2.2.1.1, ()), (y4.2.2.2.2.2.1.1, ()), (y4.2.2.2.2.2.2.1.1, ()), y4.2.2.2.2.2.2.2.1, y4.2.2.2.2.2.2.2.2.1, y4.2.2.2.2.2.2.2.2.2.1, (y4.2.2.2.2.2.2.2.2.2.2.1.1, ()), y4.2.2.2.2.2.2.2.2.2.2.2.1, y4.2.2.2.2.2.2.2.2.2.2.2.2.1, y4.2.2.2.2.2.2.2.2.2.2.2.2.2.1, (y4.2.2.2.2.2.2.2.2.2.2.2.2.2.2.1.1, ()), (y4.2.2.2.2.2.2.2.2.2.2.2.2.2.2.2.1.1, ()), (y4.2.2.2.2.2.2.2.2.2.2.2.2.2.2.2.2.1.1, ()), (y4.2.2.2.2.2.2.2.2.2.2.2.2.2.2.2.2.2.1.1, ()), (y4.2.2.2.2.2.2.2.2.2.2.2.2.2.2.2.2.2.1.1, ()), ()))).bind fun y5 =>
       br (decide (y5.1.2.2.2.2.1.1 < y5.1.2.2.2.1.1))
        (req (inRange y5.1.2.2.2.2.1.1 (lenL y5.2.2.2.2.2.2.2.2.2.2.2.2.1)) <|
        (geti y5.2.2.2.2.2.2.2.2.2.2.2.2.1 y5.1.2.2.2.2.1.1).bind fun p6 =>
        (zq14 p6 (getL y5.2.2.2.2.2.2.2.2.2.2.2.1 y5.1.2.2.2.2.1.1) y5.2.2.2.2.2.2.2.2.2.2.2.2.2.2.2.2.2.2.1.1).bind fun y7 =>
        some (y5.1.2.2.2.2.1.1, decide (y7.1 = 0), ()))
        (some (y5.1.2.2.2.2.1.1, false, ()))).bind fun y6 =>
      both
       (both
        (both
         (dup 1 <|
         req (decide (0 ≤ y6.1) && decide (y6.1 ≤ lenL y4.2.2.2.2.2.2.2.2.2.2.2.2.1) && room (lenL y4.2.2.2.2.2.2.2.2.2.2.2.2.1) 1) <|
         some (((insL y4.2.2.2.2.2.2.2.2.2.2.2.2.1 y6.1 y4.2.2.2.2.2.2.2.2.2.2.2.2.2.2.2.2.2.1.1, insL (padL y4.2.2.2.2.2.2.2.2.2.2.2.2.1.length y4.2.2.2.2.2.2.2.2.2.2.2.1) y6.1 ([] : List Ad)), y4.2.2.2.2.2.2.2.2.2.2.2.2.2.1, y4.2.2.2.2.2.2.2.2.2.2.2.2.2.2.1.1, ()), (⟨false, 0, 0⟩ : Ad), 0, ()))
         (req (decide (0 ≤ y6.1) && decide (y6.1 ≤ lenL y4.2.2.2.2.2.2.2.2.2.2.2.2.1) && room (lenL y4.2.2.2.2.2.2.2.2.2.2.2.2.1) 1) <|
         some (((insL y4.2.2.2.2.2.2.2.2.2.2.2.2.1 y6.1 y4.2.2.2.2.2.2.2.2.2.2.2.2.2.2.2.2.2.1.1, insL (padL y4.2.2.2.2.2.2.2.2.2.2.2.2.1.length y4.2.2.2.2.2.2.2.2.2.2.2.1) y6.1 ([] : List Ad)), y4.2.2.2.2.2.2.2.2.2.2.2.2.2.1, y4.2.2.2.2.2.2.2.2.2.2.2.2.2.2.1.1, ()), (⟨false, 0, 0⟩ : Ad), 0, ())))
        (req (decide (0 ≤ y6.1) && decide (y6.1 ≤ lenL y4.2.2.2.2.2.2.2.2.2.2.2.2.1) && room (lenL y4.2.2.2.2.2.2.2.2.2.2.2.2.1) 1) <|
        some (((insL y4.2.2.2.2.2.2.2.2.2.2.2.2.1 y6.1 y4.2.2.2.2.2.2.2.2.2.2.2.2.2.2.2.2.2.1.1, insL (padL y4.2.2.2.2.2.2.2.2.2.2.2.2.1.length y4.2.2.2.2.2.2.2.2.2.2.2.1) y6.1 ([] : List Ad)), y4.2.2.2.2.2.2.2.2.2.2.2.2.2.1, y4.2.2.2.2.2.2.2.2.2.2.2.2.2.2.1.1, ()), (⟨false, 0, 0⟩ : Ad), 0, ())))
       (req (decide (0 ≤ y6.1) && decide (y6.1 ≤ lenL y4.2.2.2.2.2.2.2.2.2.2.2.2.1) && room (lenL y4.2.2.2.2.2.2.2.2.2.2.2.2.1) 1) <|
       some (((insL y4.2.2.2.2.2.2.2.2.2.2.2.2.1 y6.1 y4.2.2.2.2.2.2.2.2.2.2.2.2.2.2.2.2.2.1.1, insL (padL y4.2.2.2.2.2.2.2.2.2.2.2.2.1.length y4.2.2.2.2.2.2.2.2.2.2.2.1) y6.1 ([] : List Ad)), y4.2.2.2.2.2.2.2.2.2.2.2.2.2.1, y4.2.2.2.2.2.2.2.2.2.2.2.2.2.2.1.1, ()), (⟨false, 0, 0⟩ : Ad), 0, ()))))) (fun y7 =>
    br (decide (lenL y7.2.2.2.2.2.2.2.2.2.2.2.2.1 = 3))
     (some (((([] : List Pf), ([] : List (List Ad))), ([] : List Ls), 0, ()), (⟨false, 0, 0⟩ : Ad), 2, ()))
     (((loopN zq88 FUEL (((()), (()), (()), (lenL y7.2.2.2.2.2.2.2.2.2.2.2.2.1, ()), (0, ()), (lenL y7.2.2.2.2.2.2.2.2.2.2.2.2.1, ()), ()), (y7.2.1, y7.2.2.1, y7.2.2.2.1, (y7.2.2.2.2.1.1, ()), (y7.2.2.2.2.2.1.1, ()), (y7.2.2.2.2.2.2.1.1, ()), y7.2.2.2.2.2.2.2.1, y7.2.2.2.2.2.2.2.2.1, y7.2.2.2.2.2.2.2.2.2.1, (y7.2.2.2.2.2.2.2.2.2.2.1.1, ()), y7.2.2.2.2.2.2.2.2.2.2.2.1, y7.2.2.2.2.2.2.2.2.2.2.2.2.1, y7.2.2.2.2.2.2.2.2.2.2.2.2.2.1, (y7.2.2.2.2.2.2.2.2.2.2.2.2.2.2.1.1, ()), (y7.2.2.2.2.2.2.2.2.2.2.2.2.2.2.2.1.1, ()), (y7.2.2.2.2.2.2.2.2.2.2.2.2.2.2.2.2.1.1, ()), (y7.2.2.2.2.2.2.2.2.2.2.2.2.2.2.2.2.2.1.1, ()), (y7.2.2.2.2.2.2.2.2.2.2.2.2.2.2.2.2.2.1.1, ()), ()))).bind fun y8 =>
      br (decide (y8.1.2.2.2.2.1.1 < y8.1.2.2.2.1.1))
       (req (inRange y8.1.2.2.2.2.1.1 (lenL y8.2.2.2.2.2.2.2.2.2.2.2.2.1)) <|
       (geti y8.2.2.2.2.2.2.2.2.2.2.2.2.1 y8.1.2.2.2.2.1.1).bind fun p9 =>
       (zq14 p9 (getL y8.2.2.2.2.2.2.2.2.2.2.2.1 y8.1.2.2.2.2.1.1) y8.2.2.2.2.2.2.2.2.2.2.2.2.2.2.2.2.2.2.1.1).bind fun y10 =>
       some (y8.1.2.2.2.2.1.1, decide (y10.1 = 0), ()))
       (some (y8.1.2.2.2.2.1.1, false, ()))).bind fun y9 =>
     both
      (both
       (both
        (dup 1 <|
        req (decide (0 ≤ y9.1) && decide (y9.1 ≤ lenL y7.2.2.2.2.2.2.2.2.2.2.2.2.1) && room (lenL y7.2.2.2.2.2.2.2.2.2.2.2.2.1) 1) <|
        some (((insL y7.2.2.2.2.2.2.2.2.2.2.2.2.1 y9.1 y7.2.2.2.2.2.2.2.2.2.2.2.2.2.2.2.2.2.1.1, insL (padL y7.2.2.2.2.2.2.2.2.2.2.2.2.1.length y7.2.2.2.2.2.2.2.2.2.2.2.1) y9.1 ([] : List Ad)), y7.2.2.2.2.2.2.2.2.2.2.2.2.2.1, y7.2.2.2.2.2.2.2.2.2.2.2.2.2.2.1.1, ()), (⟨false, 0, 0⟩ : Ad), 0, ()))
        (req (decide (0 ≤ y9.1) && decide (y9.1 ≤ lenL y7.2.2.2.2.2.2.2.2.2.2.2.2.1) && room (lenL y7.2.2.2.2.2.2.2.2.2.2.2.2.1) 1) <|
        some (((insL y7.2.2.2.2.2.2.2.2.2.2.2.2.1 y9.1 y7.2.2.2.2.2.2.2.2.2.2.2.2.2.2.2.2.2.1.1, insL (padL y7.2.2.2.2.2.2.2.2.2.2.2.2.1.length y7.2.2.2.2.2.2.2.2.2.2.2.1) y9.1 ([] : List Ad)), y7.2.2.2.2.2.2.2.2.2.2.2.2.2.1, y7.2.2.2.2.2.2.2.2.2.2.2.2.2.2.1.1, ()), (⟨false, 0, 0⟩ : Ad), 0, ())))
       (req (decide (0 ≤ y9.1) && decide (y9.1 ≤ lenL y7.2.2.2.2.2.2.2.2.2.2.2.2.1) && room (lenL y7.2.2.2.2.2.2.2.2.2.2.2.2.1) 1) <|
       some (((insL y7.2.2.2.2.2.2.2.2.2.2.2.2.1 y9.1 y7.2.2.2.2.2.2.2.2.2.2.2.2.2.2.2.2.2.1.1, insL (padL y7.2.2.2.2.2.2.2.2.2.2.2.2.1.length y7.2.2.2.2.2.2.2.2.2.2.2.1) y9.1 ([] : List Ad)), y7.2.2.2.2.2.2.2.2.2.2.2.2.2.1, y7.2.2.2.2.2.2.2.2.2.2.2.2.2.2.1.1, ()), (⟨false, 0, 0⟩ : Ad), 0, ())))
      (req (decide (0 ≤ y9.1) && decide (y9.1 ≤ lenL y7.2.2.2.2.2.2.2.2.2.2.2.2.1) && room (lenL y7.2.2.2.2.2.2.2.2.2.2.2.2.1) 1) <|
      some (((insL y7.2.2.2.2.2.2.2.2.2.2.2.2.1 y9.1 y7.2.2.2.2.2.2.2.2.2.2.2.2.2.2.2.2.2.1.1, insL (padL y7.2.2.2.2.2.2.2.2.2.2.2.2.1.length y7.2.2.2.2.2.2.2.2.2.2.2.1) y9.1 ([] : List Ad)), y7.2.2.2.2.2.2.2.2.2.2.2.2.2.1, y7.2.2.2.2.2.2.2.2.2.2.2.2.2.2.1.1, ()), (⟨false, 0, 0⟩ : Ad), 0, ())))))
   (br (decide (a3.kind = 2))
    ((state_poolOf_t y2.1.1 y2.1.2.1 y2.1.2.2.1 a3.ad).bind fun y3 =>
    br (decide (y3.1 < 0))
     (some (((([] : List Pf), ([] : List (List Ad))), ([] : List Ls), 0, ()), (⟨false, 0, 0⟩ : Ad), 5, ()))
     (req (inRange y3.1 (lenL y2.1.1.1)) <|
     req (inRange y3.1 (lenL y2.1.1.1)) <|
     req (inRange y3.1 (lenL y2.1.1.1)) <|
     (geti y2.1.1.1 y3.1).bind fun p4 =>
     ((loopN zq81 FUEL (((y3.1, ()), (()), (()), (lenL (getL y2.1.1.2 y3.1), ()), (0, ()), (lenL (getL y2.1.1.2 y3.1), ()), ()), (a0.2, a0.1, a1, (a2, ()), (a3, ()), (0, ()), ([] : List (List Ad)), ([] : List Pf), ([] : List Ls), ((⟨false, 0, 0⟩ : Ad), ()), y2.1.1.2, y2.1.1.1, y2.1.2.1, (y2.1.2.2.1, ()), (a3, ()), ((⟨false, 0, 0⟩ : Ad), ()), (a3.ad, ()), (a3.ad, ()), ()))).bind fun y5 =>
      br (decide (y5.1.2.2.2.2.1.1 < y5.1.2.2.2.1.1))
       (req (inRange y5.1.2.2.2.2.1.1 (lenL (getL y5.2.2.2.2.2.2.2.2.2.2.2.1 y5.1.1.1))) <|
       (geti (getL y5.2.2.2.2.2.2.2.2.2.2.2.1 y5.1.1.1) y5.1.2.2.2.2.1.1).bind fun p6 =>
       (addr_Order_t p6 y5.2.2.2.2.2.2.2.2.2.2.2.2.2.2.2.2.2.2.1.1).bind fun y7 =>
       some (y5.1.2.2.2.2.1.1, decide (y7.1 = 0), ()))
       (some (y5.1.2.2.2.2.1.1, false, ()))).bind fun y6 =>
     br y6.2.1
      (some (((([] : List Pf), ([] : List (List Ad))), ([] : List Ls), 0, ()), (⟨false, 0, 0⟩ : Ad), 6, ()))
      (req (inRange y3.1 (lenL y2.1.1.1)) <|
      req (inRange y3.1 (lenL y2.1.1.1)) <|
      (geti y2.1.1.1 y3.1).bind fun p7 =>
      br (decide (lenL (getL y2.1.1.2 y3.1) = 6))
       (some (((([] : List Pf), ([] : List (List Ad))), ([] : List Ls), 0, ()), (⟨false, 0, 0⟩ : Ad), 2, ()))
       (req (inRange y3.1 (lenL y2.1.1.1)) <|
       req (inRange y3.1 (lenL y2.1.1.1)) <|
       (geti y2.1.1.1 y3.1).bind fun p8 =>
       req (decide (0 ≤ y3.1)) <|
       req (decide (0 ≤ y6.1) && decide (y6.1 ≤ lenL (getL y2.1.1.2 y3.1)) && room (lenL (getL y2.1.1.2 y3.1)) 1) <|
       req (inRange y3.1 (lenL y2.1.1.1)) <|
       req (inRange y3.1 (lenL y2.1.1.1)) <|
       req (decide (y3.1 = y3.1)) <|
       (geti y2.1.1.1 y3.1).bind fun p9 =>
       some (((seti y2.1.1.1 y3.1 p9, seti (padL y2.1.1.1.length (outL y2.1.1.2 y3.1)) y3.1 (insL (getL y2.1.1.2 y3.1) y6.1 a3.ad)), y2.1.2.1, y2.1.2.2.1, ()), (⟨false, 0, 0⟩ : Ad), 0, ())))))
    (br (decide (a3.kind = 3))
     (br (decide (a3.of_ ≥ lenL y2.1.1.1))
      (some (((([] : List Pf), ([] : List (List Ad))), ([] : List Ls), 0, ()), (⟨false, 0, 0⟩ : Ad), 5, ()))
      (req (inRange a3.of_ (lenL y2.1.1.1)) <|
      (geti y2.1.1.1 a3.of_).bind fun p3 =>
      (m_state_doer__find_t y2.1.1 y2.1.2.1 y2.1.2.2.1 a3.who).bind fun y4 =>
      (br (decide (y4.1 ≥ 0))
        (req (inRange y4.1 (lenL y2.1.2.1)) <|
        req (inRange y4.1 (lenL y2.1.2.1)) <|
        (geti y2.1.2.1 y4.1).bind fun p5 =>
        (prefix_Holds_t p3 p5.ad).bind fun y6 =>
        some (!y6.1))
        (some false)).bind fun c5 =>
      br c5
       (some (((([] : List Pf), ([] : List (List Ad))), ([] : List Ls), 0, ()), (⟨false, 0, 0⟩ : Ad), 6, ()))
       ((loopN zq76 FUEL (((()), (a3.who, ()), (a3.n, ()), (()), (()), (()), (()), (()), (lenL y2.1.2.1, ()), (0, ()), ()), (a0.2, a0.1, a1, (a2, ()), (a3, ()), (0, ()), ([] : List (List Ad)), ([] : List Pf), ([] : List Ls), ((⟨false, 0, 0⟩ : Ad), ()), y2.1.1.2, y2.1.1.1, y2.1.2.1, (y2.1.2.2.1, ()), (a3, ()), ((⟨false, 0, 0⟩ : Ad), ()), ((⟨false, 0, 0⟩ : Ad), ()), (p3.ad.v6, p3.ad.hi, p3.ad.lo, p3.bits, a3.of_, ()), ([] : List Ls), ([] : List Ls), ()))).bind fun y6 =>
       dup 1 <|
       (lease_Raw_t (⟨(⟨y6.2.2.2.2.2.2.2.2.2.2.2.2.2.2.2.2.2.2.1.1, y6.2.2.2.2.2.2.2.2.2.2.2.2.2.2.2.2.2.2.1.2.1, y6.2.2.2.2.2.2.2.2.2.2.2.2.2.2.2.2.2.2.1.2.2.1⟩ : Ad), y6.2.2.2.2.2.2.2.2.2.2.2.2.2.2.2.2.2.2.1.2.2.2.1⟩ : Pf) (getL y6.2.2.2.2.2.2.2.2.2.2.2.1 y6.2.2.2.2.2.2.2.2.2.2.2.2.2.2.2.2.2.2.1.2.2.2.2.1) y6.2.2.2.2.2.2.2.2.2.2.2.2.2.2.2.2.2.2.2.1 y6.1.2.1.1 y6.2.2.2.2.2.2.2.2.2.2.2.2.2.2.1.1 y6.1.2.2.1.1).bind fun y7 =>
       br (!y7.2.2.1)
        (some (((([] : List Pf), ([] : List (List Ad))), ([] : List Ls), 0, ()), (⟨false, 0, 0⟩ : Ad), 8, ()))
        (req (i64ok ((lenL y7.1) + (lenL y6.2.2.2.2.2.2.2.2.2.2.2.2.2.2.2.2.2.2.2.2.1))) <|
        br (decide ((lenL y7.1) + (lenL y6.2.2.2.2.2.2.2.2.2.2.2.2.2.2.2.2.2.2.2.2.1) > 20))
         (some (((([] : List Pf), ([] : List (List Ad))), ([] : List Ls), 0, ()), (⟨false, 0, 0⟩ : Ad), 2, ()))
         (req (room (lenL y7.1) (lenL y6.2.2.2.2.2.2.2.2.2.2.2.2.2.2.2.2.2.2.2.2.1)) <|
         req (sortOkL (y7.1 ++ y6.2.2.2.2.2.2.2.2.2.2.2.2.2.2.2.2.2.2.2.2.1)) <|
         some (((y6.2.2.2.2.2.2.2.2.2.2.2.2.1, y6.2.2.2.2.2.2.2.2.2.2.2.1), sortL (y7.1 ++ y6.2.2.2.2.2.2.2.2.2.2.2.2.2.2.2.2.2.2.2.2.1), y6.2.2.2.2.2.2.2.2.2.2.2.2.2.2.1.1, ()), y7.2.1, 0, ()))))))
     (br (decide (a3.kind = 4))
      ((m_state_doer__find_t y2.1.1 y2.1.2.1 y2.1.2.2.1 a3.who).bind fun y3 =>
      br (decide (y3.1 < 0))
       (some (((([] : List Pf), ([] : List (List Ad))), ([] : List Ls), 0, ()), (⟨false, 0, 0⟩ : Ad), 5, ()))
       (req (inRange y3.1 (lenL y2.1.2.1)) <|
       req (inRange y3.1 (lenL y2.1.2.1)) <|
       (geti y2.1.2.1 y3.1).bind fun p4 =>
       req (i64ok (y3.1 + 1)) <|
       req (decide (0 ≤ y3.1) && decide (y3.1 ≤ y3.1 + 1) && decide (y3.1 + 1 ≤ lenL y2.1.2.1)) <|
       some ((y2.1.1, delL y2.1.2.1 y3.1 (y3.1 + 1), y2.1.2.2.1, ()), p4.ad, 0, ())))
      (br (decide (a3.n < y2.1.2.2.1))
       (some (((([] : List Pf), ([] : List (List Ad))), ([] : List Ls), 0, ()), (⟨false, 0, 0⟩ : Ad), 4, ()))
       ((lease_Live_t y2.1.2.1 a3.n).bind fun y3 =>
       some ((y2.1.1, y3.1, a3.n, ()), (⟨false, 0, 0⟩ : Ad), 0, ())))))))
noncomputable def log_All_L3 (rec : (((Unit) × (Unit) × (Unit) × (Int × Unit) × (Int × Unit) × Unit) × (List En × (Int × Unit) × (Int × Unit) × List Pf × List Ls × List Pf × List Ls × List Ad × List (List Ad) × List (List Ad) × Unit)) → Option (((Unit) × (Unit) × Unit) × (List En × (Int × Unit) × (Int × Unit) × List Pf × List Ls × List Pf × List Ls × List Ad × List (List Ad) × List (List Ad) × Unit))) (x : (((Unit) × (Unit) × (Unit) × (Int × Unit) × (Int × Unit) × Unit) × (List En × (Int × Unit) × (Int × Unit) × List Pf × List Ls × List Pf × List Ls × List Ad × List (List Ad) × List (List Ad) × Unit))) : Option (((Unit) × (Unit) × Unit) × (List En × (Int × Unit) × (Int × Unit) × List Pf × List Ls × List Pf × List Ls × List Ad × List (List Ad) × List (List Ad) × Unit)) :=
 let v0 := x.1.2.2.2.1.1
 let v1 := x.1.2.2.2.2.1.1
 let v2 := x.2.1
 let v3 := x.2.2.1.1
 let v4 := x.2.2.2.1.1
 let v5 := x.2.2.2.2.1
 let v6 := x.2.2.2.2.2.1
 let v7 := x.2.2.2.2.2.2.1
 let v8 := x.2.2.2.2.2.2.2.1
 let v9 := x.2.2.2.2.2.2.2.2.1
 let v10 := x.2.2.2.2.2.2.2.2.2.1
 let v11 := x.2.2.2.2.2.2.2.2.2.2.1
 br (decide (v1 < v0))
  (req (inRange v1 (lenL v2)) <|
  (geti v2 v1).bind fun p1 =>
  both
   ((state_Raw_t (v7, v11) v8 v4 p1.op).bind fun y2 =>
   dup 1 <|
   br (decide (y2.2.2.1 = 0))
    (req (room (lenL v9) (lenL ([y2.2.1] : List Ad))) <|
    req (i64ok (v1 + 1)) <|
    rec (((()), (()), (()), (v0, ()), (v1 + 1, ()), ()), (v2, (v3, ()), (y2.1.2.2.1, ()), v5, v6, y2.1.1.1, y2.1.2.1, v9 ++ ([y2.2.1] : List Ad), v10, y2.1.1.2, ())))
    (req (room (lenL v9) (lenL ([y2.2.1] : List Ad))) <|
    req (i64ok (v1 + 1)) <|
    rec (((()), (()), (()), (v0, ()), (v1 + 1, ()), ()), (v2, (v3, ()), (v4, ()), v5, v6, v7, v8, v9 ++ ([y2.2.1] : List Ad), v10, v11, ()))))
   (both
    (dup 1 <|
    (state_Raw_t (v7, v11) v8 v4 p1.op).bind fun y2 =>
    br (decide (y2.2.2.1 = 0))
     (req (room (lenL v9) (lenL ([y2.2.1] : List Ad))) <|
     req (i64ok (v1 + 1)) <|
     rec (((()), (()), (()), (v0, ()), (v1 + 1, ()), ()), (v2, (v3, ()), (y2.1.2.2.1, ()), v5, v6, y2.1.1.1, y2.1.2.1, v9 ++ ([y2.2.1] : List Ad), v10, y2.1.1.2, ())))
     (req (room (lenL v9) (lenL ([y2.2.1] : List Ad))) <|
     req (i64ok (v1 + 1)) <|
     rec (((()), (()), (()), (v0, ()), (v1 + 1, ()), ()), (v2, (v3, ()), (v4, ()), v5, v6, v7, v8, v9 ++ ([y2.2.1] : List Ad), v10, v11, ()))))
    (dup 1 <|
    (state_Raw_t (v7, v11) v8 v4 p1.op).bind fun y2 =>
    br (decide (y2.2.2.1 = 0))
     (req (room (lenL v9) (lenL ([y2.2.1] : List Ad))) <|
     req (i64ok (v1 + 1)) <|
     rec (((()), (()), (()), (v0, ()), (v1 + 1, ()), ()), (v2, (v3, ()), (y2.1.2.2.1, ()), v5, v6, y2.1.1.1, y2.1.2.1, v9 ++ ([y2.2.1] : List Ad), v10, y2.1.1.2, ())))
     (req (room (lenL v9) (lenL ([y2.2.1] : List Ad))) <|
     req (i64ok (v1 + 1)) <|
     rec (((()), (()), (()), (v0, ()), (v1 + 1, ()), ()), (v2, (v3, ()), (v4, ()), v5, v6, v7, v8, v9 ++ ([y2.2.1] : List Ad), v10, v11, ()))))))
  (some (((()), (()), ()), (v2, (v3, ()), (v4, ()), v5, v6, v7, v8, v9, v10, v11, ())))
noncomputable def log_All_t (a0 : List En) : Option (((List Pf × List (List Ad)) × (List Ls) × Int × Unit) × (List Ad) × Unit) :=
 (loopN log_All_L3 FUEL (((()), (()), (()), (lenL a0, ()), (0, ()), ()), (a0, (0, ()), (0, ()), ([] : List Pf), ([] : List Ls), ([] : List Pf), ([] : List Ls), ([] : List Ad), ([] : List (List Ad)), ([] : List (List Ad)), ()))).bind fun y1 =>
 some (((y1.2.2.2.2.2.2.1, y1.2.2.2.2.2.2.2.2.2.2.1), y1.2.2.2.2.2.2.2.1, y1.2.2.2.1.1, ()), y1.2.2.2.2.2.2.2.2.1, ())
noncomputable def zq21 (a0 : Int) (a1 : Int) (a2 : Int) (a3 : Int) (a4 : List En) (a5 : List Int × List (List En)) (a6 : Int) : Option (((List Pf × List (List Ad)) × (List Ls) × Int × Unit) × Int × Unit) :=
 (zq17 a0 a1 a2 a3 a4 a5).bind fun y1 =>
 (br (decide (y1.1 = 0))
   ((zq22 a6 1 2).bind fun y2 =>
   some (!y2.1))
   (some false)).bind fun c2 =>
 br c2
  (some (((([] : List Pf), ([] : List (List Ad))), ([] : List Ls), 0, ()), 3, ()))
  (br (!decide (y1.1 = 0))
   (some (((([] : List Pf), ([] : List (List Ad))), ([] : List Ls), 0, ()), y1.1, ()))
   (req (i64ok (a6 - 1)) <|
   req (inRange (a6 - 1) (lenL a5.1)) <|
   req (inRange (a6 - 1) (lenL a5.1)) <|
   (geti a5.1 (a6 - 1)).bind fun p3 =>
   (log_All_t (getL a5.2 (a6 - 1))).bind fun y4 =>
   some ((y4.1.1, y4.1.2.1, y4.1.2.2.1, ()), 0, ())))
noncomputable def law_clusterBegun_t : Option (Bool × Unit) :=
 law_events_t.bind fun y1 =>
 (cluster_Run_t y1.1).bind fun y2 =>
 (zq21 y2.1.1 y2.1.2.1 y2.1.2.2.1 y2.1.2.2.2.1 y2.1.2.2.2.2.1 y2.1.2.2.2.2.2.1 2).bind fun y3 =>
 (br (!decide (y2.2.2.1 = 0))
   (some true)
   (some (!decide (y3.2.1 = 0)))).bind fun c4 =>
 (br c4
   (some true)
   (some (!decide (lenL y2.2.1 = 7)))).bind fun c5 =>
 br c5
  (some (false, ()))
  (cluster_New_t.bind fun y6 =>
  (zq17 y6.1.1 y6.1.2.1 y6.1.2.2.1 y6.1.2.2.2.1 y6.1.2.2.2.2.1 y6.1.2.2.2.2.2.1).bind fun y7 =>
  br (!decide (y7.1 = 0))
   (some (false, ()))
   ((zq17 y2.1.1 y2.1.2.1 y2.1.2.2.1 y2.1.2.2.2.1 y2.1.2.2.2.2.1 y2.1.2.2.2.2.2.1).bind fun y8 =>
   br (!decide (y8.1 = 0))
    (some (false, ()))
    (req (inRange 3 (lenL y2.2.1)) <|
    (geti y2.2.1 3).bind fun p9 =>
    (br p9
      (req (inRange 4 (lenL y2.2.1)) <|
      (geti y2.2.1 4).bind fun p10 =>
      some (!p10))
      (some false)).bind fun c10 =>
    (br c10
      (req (inRange 6 (lenL y2.2.1)) <|
      (geti y2.2.1 6).bind fun p11 =>
      some p11)
      (some false)).bind fun c11 =>
    (br c11
      (some (decide (lenL y2.1.2.2.2.2.1 = 2)))
      (some false)).bind fun c12 =>
    (br c12
      (some (decide (y2.1.2.1 = 2)))
      (some false)).bind fun c13 =>
    (br c13
      (some (decide (lenL y3.1.1.1 = 1)))
      (some false)).bind fun c14 =>
    some (c14, ()))))
noncomputable def log_Replay_t (a0 : List En) : Option (((List Pf × List (List Ad)) × (List Ls) × Int × Unit) × (List Ad) × Int × Unit) :=
 (log_Check_t a0).bind fun y1 =>
 br (!decide (y1.1 = 0))
  (some (((([] : List Pf), ([] : List (List Ad))), ([] : List Ls), 0, ()), ([] : List Ad), y1.1, ()))
  ((log_All_t a0).bind fun y2 =>
  some ((y2.1.1, y2.1.2.1, y2.1.2.2.1, ()), y2.2.1, 0, ()))
noncomputable def law_logBegun_t : Option (Bool × Unit) :=
 law_entries_t.bind fun y1 =>
 law_some_t.bind fun y2 =>
 req (inRange 2 (lenL y2.1)) <|
 (geti y2.1 2).bind fun p3 =>
 (log_Add_t y1.1 4 p3).bind fun y4 =>
 (log_Replay_t y4.1).bind fun y5 =>
 law_entries_t.bind fun y6 =>
 (log_Begins_t y6.1 y4.1).bind fun y7 =>
 law_entries_t.bind fun y8 =>
 law_some_t.bind fun y9 =>
 req (inRange 2 (lenL y9.1)) <|
 (geti y9.1 2).bind fun p10 =>
 (log_Add_t y8.1 3 p10).bind fun y11 =>
 law_entries_t.bind fun y12 =>
 (log_Check_t y12.1).bind fun y13 =>
 br (decide (y13.1 = 0))
  (br (decide (y4.2.1 = 0))
   (br (decide (y5.2.2.1 = 0))
    (br (decide (y7.2.1 = 0))
     (br (decide (y11.2.1 = 4))
      (br y7.1
       (br (decide (lenL y4.1 = 4))
        (br (decide (lenL y5.1.2.1 = 1))
         (br (decide (lenL y5.2.1 = 4))
          (req (inRange 3 (lenL y5.2.1)) <|
          (geti y5.2.1 3).bind fun p14 =>
          (law_v4_t 9).bind fun y15 =>
          some (eqAd p14 y15.1, ()))
          (both
           (dup 1 <|
           some (false, ()))
           (some (false, ()))))
         (both
          (dup 1 <|
          some (false, ()))
          (some (false, ()))))
        (both
         (dup 1 <|
         some (false, ()))
         (some (false, ()))))
       (both
        (dup 1 <|
        some (false, ()))
        (some (false, ()))))
      (both
       (dup 1 <|
       some (false, ()))
       (some (false, ()))))
     (both
      (dup 1 <|
      some (false, ()))
      (some (false, ()))))
    (both
     (dup 1 <|
     some (false, ()))
     (some (false, ()))))
   (both
    (dup 1 <|
    some (false, ()))
    (some (false, ()))))
  (both
   (dup 1 <|
   some (false, ()))
   (some (false, ())))
noncomputable def law_ClusterTurns_t (a0 : Int) (a1 : Int) (a2 : Int) (a3 : Int) (a4 : List En) (a5 : List Int × List (List En)) (a6 : Int) (a7 : Oq) : Option (Bool × Unit) :=
 law_clusterBegun_t.bind fun y1 =>
 (br (!y1.1)
   (some true)
   (law_logBegun_t.bind fun y2 =>
   some (!y2.1))).bind fun c2 =>
 br c2
  (some (false, ()))
  ((zq17 a0 a1 a2 a3 a4 a5).bind fun y3 =>
  (br (!decide (y3.1 = 0))
    (some true)
    (some (decide (a6 < 1)))).bind fun c4 =>
  (br c4
    (some true)
    (some (decide (a6 > 2)))).bind fun c5 =>
  (br c5
    (some true)
    ((R_CheckOp_t a7).bind fun y6 =>
    some (!decide (y6.1 = 0)))).bind fun c6 =>
  br c6
   (some (true, ()))
   ((zq20 a0 a1 a2 a3 a4 a5 (⟨2, a6, 0, (⟨0, (⟨(⟨false, 0, 0⟩ : Ad), 0⟩ : Pf), (⟨false, 0, 0⟩ : Ad), (ByteArray.empty), 0, 0⟩ : Oq)⟩ : Ev)).bind fun y7 =>
   br (!decide (y7.2.2.1 = 0))
    (some (false, ()))
    (br y7.2.1
     ((zq20 y7.1.1 y7.1.2.1 y7.1.2.2.1 y7.1.2.2.2.1 y7.1.2.2.2.2.1 y7.1.2.2.2.2.2.1 (⟨3, a6, 0, a7⟩ : Ev)).bind fun y8 =>
     (br (!decide (y8.2.2.1 = 0))
       (some true)
       (some (!(beqB y8.2.1 (decide (lenL a4 < 30)))))).bind fun c9 =>
     (br c9
       (some true)
       (br y8.2.1
        (br (decide (lenL y8.1.2.2.2.2.1 = 0))
         (some true)
         (req (i64ok ((lenL y8.1.2.2.2.2.1) - 1)) <|
         req (inRange ((lenL y8.1.2.2.2.2.1) - 1) (lenL y8.1.2.2.2.2.1)) <|
         req (inRange ((lenL y8.1.2.2.2.2.1) - 1) (lenL y8.1.2.2.2.2.1)) <|
         (geti y8.1.2.2.2.2.1 ((lenL y8.1.2.2.2.2.1) - 1)).bind fun p10 =>
         some (!(eqOq p10.op a7))))
        (some false))).bind fun c10 =>
     br c10
      (some (false, ()))
      ((zq20 a0 a1 a2 a3 a4 a5 (⟨5, a6, 0, (⟨0, (⟨(⟨false, 0, 0⟩ : Ad), 0⟩ : Pf), (⟨false, 0, 0⟩ : Ad), (ByteArray.empty), 0, 0⟩ : Oq)⟩ : Ev)).bind fun y11 =>
      (zq21 y11.1.1 y11.1.2.1 y11.1.2.2.1 y11.1.2.2.2.1 y11.1.2.2.2.2.1 y11.1.2.2.2.2.2.1 a6).bind fun y12 =>
      (br (!decide (y11.2.2.1 = 0))
        (some true)
        (some (!y11.2.1))).bind fun c13 =>
      (br c13
        (some true)
        (some (!decide (y12.2.1 = 0)))).bind fun c14 =>
      (br c14
        (some true)
        (req (i64ok ((lenL y12.1.1.1) + (lenL y12.1.2.1))) <|
        some (decide ((lenL y12.1.1.1) + (lenL y12.1.2.1) > 0)))).bind fun c15 =>
      br c15
       (some (false, ()))
       ((zq20 y11.1.1 y11.1.2.1 y11.1.2.2.1 y11.1.2.2.2.1 y11.1.2.2.2.2.1 y11.1.2.2.2.2.2.1 (⟨4, a6, 30, (⟨0, (⟨(⟨false, 0, 0⟩ : Ad), 0⟩ : Pf), (⟨false, 0, 0⟩ : Ad), (ByteArray.empty), 0, 0⟩ : Oq)⟩ : Ev)).bind fun y16 =>
       (zq20 a0 a1 a2 a3 a4 a5 (⟨4, a6, 30, (⟨0, (⟨(⟨false, 0, 0⟩ : Ad), 0⟩ : Pf), (⟨false, 0, 0⟩ : Ad), (ByteArray.empty), 0, 0⟩ : Oq)⟩ : Ev)).bind fun y17 =>
       (zq21 y16.1.1 y16.1.2.1 y16.1.2.2.1 y16.1.2.2.2.1 y16.1.2.2.2.2.1 y16.1.2.2.2.2.2.1 a6).bind fun y18 =>
       (zq21 y17.1.1 y17.1.2.1 y17.1.2.2.1 y17.1.2.2.2.1 y17.1.2.2.2.2.1 y17.1.2.2.2.2.2.1 a6).bind fun y19 =>
       (br (decide (y16.2.2.1 = 0))
         (some (decide (y17.2.2.1 = 0)))
         (some false)).bind fun c20 =>
       (br c20
         (some (decide (y18.2.1 = 0)))
         (some false)).bind fun c21 =>
       (br c21
         (some (decide (y19.2.1 = 0)))
         (some false)).bind fun c22 =>
       (br c22
         (some y16.2.1)
         (some false)).bind fun c23 =>
       (br c23
         (some y17.2.1)
         (some false)).bind fun c24 =>
       (br c24
         ((R_SameState_t y18.1.1 y18.1.2.1 y18.1.2.2.1 y19.1.1 y19.1.2.1 y19.1.2.2.1).bind fun y25 =>
         some y25.1)
         (some false)).bind fun c25 =>
       some (c25, ()))))
     ((zq20 a0 a1 a2 a3 a4 a5 (⟨5, a6, 0, (⟨0, (⟨(⟨false, 0, 0⟩ : Ad), 0⟩ : Pf), (⟨false, 0, 0⟩ : Ad), (ByteArray.empty), 0, 0⟩ : Oq)⟩ : Ev)).bind fun y8 =>
     (zq21 y8.1.1 y8.1.2.1 y8.1.2.2.1 y8.1.2.2.2.1 y8.1.2.2.2.2.1 y8.1.2.2.2.2.2.1 a6).bind fun y9 =>
     (br (!decide (y8.2.2.1 = 0))
       (some true)
       (some (!y8.2.1))).bind fun c10 =>
     (br c10
       (some true)
       (some (!decide (y9.2.1 = 0)))).bind fun c11 =>
     (br c11
       (some true)
       (req (i64ok ((lenL y9.1.1.1) + (lenL y9.1.2.1))) <|
       some (decide ((lenL y9.1.1.1) + (lenL y9.1.2.1) > 0)))).bind fun c12 =>
     br c12
      (some (false, ()))
      ((zq20 y8.1.1 y8.1.2.1 y8.1.2.2.1 y8.1.2.2.2.1 y8.1.2.2.2.2.1 y8.1.2.2.2.2.2.1 (⟨4, a6, 30, (⟨0, (⟨(⟨false, 0, 0⟩ : Ad), 0⟩ : Pf), (⟨false, 0, 0⟩ : Ad), (ByteArray.empty), 0, 0⟩ : Oq)⟩ : Ev)).bind fun y13 =>
      (zq20 a0 a1 a2 a3 a4 a5 (⟨4, a6, 30, (⟨0, (⟨(⟨false, 0, 0⟩ : Ad), 0⟩ : Pf), (⟨false, 0, 0⟩ : Ad), (ByteArray.empty), 0, 0⟩ : Oq)⟩ : Ev)).bind fun y14 =>
      (zq21 y13.1.1 y13.1.2.1 y13.1.2.2.1 y13.1.2.2.2.1 y13.1.2.2.2.2.1 y13.1.2.2.2.2.2.1 a6).bind fun y15 =>
      (zq21 y14.1.1 y14.1.2.1 y14.1.2.2.1 y14.1.2.2.2.1 y14.1.2.2.2.2.1 y14.1.2.2.2.2.2.1 a6).bind fun y16 =>
      (br (decide (y13.2.2.1 = 0))
        (some (decide (y14.2.2.1 = 0)))
        (some false)).bind fun c17 =>
      (br c17
        (some (decide (y15.2.1 = 0)))
        (some false)).bind fun c18 =>
      (br c18
        (some (decide (y16.2.1 = 0)))
        (some false)).bind fun c19 =>
      (br c19
        (some y13.2.1)
        (some false)).bind fun c20 =>
      (br c20
        (some y14.2.1)
        (some false)).bind fun c21 =>
      (br c21
        ((R_SameState_t y15.1.1 y15.1.2.1 y15.1.2.2.1 y16.1.1 y16.1.2.1 y16.1.2.2.1).bind fun y22 =>
        some y22.1)
        (some false)).bind fun c22 =>
      some (c22, ()))))))
end Go.Ma
namespace Go.Ma
open Go
theorem chkLs_ad {x : Ls} (h : chkLs x = 0) : chkA x.ad = 0 ∧ whoOk x.who = true ∧ betw x.upto 0 10499 = true := by
 unfold chkLs at h
 split at h
 ·rename_i h1; exact absurd h h1
 split at h
 ·cases h
 split at h
 ·cases h
 ·rename_i h1 h2 h3
  exact ⟨Decidable.not_not.1 h1, by simpa using h2, by simpa using h3⟩
theorem chkLsF_all : ∀ {l : List Ls}, chkLsF l = 0 → ∀ x ∈ l, chkLs x = 0
 | [], _, x, hx => by cases hx
 | y :: r, h, x, hx => by
  unfold chkLsF at h
  split at h
  ·rename_i h1; exact absurd h h1
  ·rename_i h1
   rcases List.mem_cons.1 hx with rfl | hx
   ·exact Decidable.not_not.1 h1
   ·exact chkLsF_all h x hx
theorem allC_ok {l : List Ls} {now : Int} (h : allC l now = 0) : l.length ≤ 20 ∧ (∀ x ∈ l, chkLs x = 0) ∧ ascL l = true ∧ betw now 0 9999 = true := by
 have h0 := allC_len h
 unfold allC at h
 rw [if_neg (by omega)] at h
 split at h
 ·rename_i h1; exact absurd h h1
 split at h
 ·cases h
 split at h
 ·cases h
 ·rename_i h1 h2 h3
  exact ⟨h0, chkLsF_all (Decidable.not_not.1 h1), by simpa using h2, by simpa using h3⟩
def adIn (l : List Ad) : Prop := ∀ a ∈ l, a.In
def backB : Option Ad → Ad → Bool
 | some b, a => decide (ordA b a ≥ 0)
 | none, _ => false
def keptF (p : Pf) : Option Ad → List Ad → Int
 | _, [] => 0
 | prev, a :: r => if chkA a ≠ 0 then chkA a else if holds p a = false then 5 else if backB prev a = true then 4 else keptF p (some a) r
def chkPool (p : Pf) (kp : List Ad) : Int := if chkP p ≠ 0 then chkP p else if ¬ ((wid p.ad.v6 : Nat) : Int) - p.bits ≤ 4 ∨ kp.length > 6 then 2 else keptF p none kp
end Go.Ma
namespace Go.Ma
open Go
theorem idxI_nonneg (o : Option Nat) : decide (idxI o ≥ 0) = o.isSome := by
 cases o with
 | none => rfl
 | some k =>
  have : idxI (some k) ≥ 0 := by show (k : Int) ≥ 0; omega
  simp [this]
def ofF (p : Pf) : List Ls → List Ls → Int
 | _, [] => 0
 | bf, x :: r => if holds p x.ad = false then 5 else if bf.any (whoP x.who) = true then 6 else ofF p (bf ++ [x]) r
def chkOf (p : Pf) (kp : List Ad) (l : List Ls) (now : Int) : Int := if chkPool p kp ≠ 0 then chkPool p kp else if allC l now ≠ 0 then allC l now else ofF p [] l
theorem chkPool_ok {p : Pf} {kp : List Ad} (h : chkPool p kp = 0) : chkP p = 0 ∧ ((wid p.ad.v6 : Nat) : Int) - p.bits ≤ 4 ∧ kp.length ≤ 6 := by
 unfold chkPool at h
 split at h
 ·rename_i h1; exact absurd h h1
 split at h
 ·cases h
 ·rename_i h1 h2
  simp only [not_or, Decidable.not_not] at h2
  exact ⟨Decidable.not_not.1 h1, h2.1, by omega⟩
end Go.Ma
namespace Go.Ma
open Go
def freeBits (p : Pf) : Nat := wid p.ad.v6 - p.bits.toNat
def addrI (p : Pf) (i : Nat) : Ad := ofNum p.ad.v6 (p.ad.num + i)
theorem narrow {p : Pf} (hp : p.In) (cp : chkP p = 0) (hn : ((wid p.ad.v6 : Nat) : Int) - p.bits ≤ 4) : freeBits p ≤ 4 ∧ 2 ^ freeBits p ≤ 16 ∧ p.ad.num % 2 ^ freeBits p = 0 ∧ p.ad.num + 2 ^ freeBits p ≤ 2 ^ wid p.ad.v6 := by
 obtain ⟨b1, b2⟩ := chkP_bits cp
 have h1 : freeBits p ≤ 4 := by unfold freeBits; omega
 have h2 : 2 ^ freeBits p ≤ 2 ^ 4 := Nat.pow_le_pow_right (by omega) h1
 have h3 : p.ad.num % 2 ^ freeBits p = 0 := (cutN_iff _ _).1 ((cutA_iff hp.1.wf p.bits).1 (chkP_cut cp))
 have h4 := right_num p.ad ⟨hp.1.wf, chkP_ad cp⟩
 refine ⟨h1, h2, h3, ?_⟩
 have hk : freeBits p ≤ wid p.ad.v6 := by unfold freeBits; omega
 have h5 : 2 ^ wid p.ad.v6 = 2 ^ freeBits p * 2 ^ (wid p.ad.v6 - freeBits p) := by rw [← Nat.pow_add]; congr 1; omega
 obtain ⟨m, hm⟩ := Nat.dvd_of_mod_eq_zero h3
 rw [hm, h5] at h4 ⊢
 have := Nat.lt_of_mul_lt_mul_left h4
 calc 2 ^ freeBits p * m + 2 ^ freeBits p = 2 ^ freeBits p * (m + 1) := by rw [Nat.mul_add, Nat.mul_one]
  _ ≤ _ := Nat.mul_le_mul_left _ this
theorem wid_pow (v : Bool) : 2 ^ wid v ≤ 340282366920938463463374607431768211456 := by cases v <;> decide
theorem ofNum_in {v : Bool} {n : Nat} (h : n < 2 ^ wid v) : (ofNum v n).In := by
 have := wid_pow v
 unfold ofNum
 exact ⟨⟨by simp only; omega, by simp only; omega⟩, by simp only; omega, by simp only; omega⟩
theorem ofNum_chk {v : Bool} {n : Nat} (h : n < 2 ^ wid v) : chkA (ofNum v n) = 0 := by
 unfold chkA ofNum
 cases v
 ·rw [show wid false = 32 from rfl] at h
  rw [if_neg]
  simp only
  omega
 ·simp
theorem or_mask (x k : Nat) (hx : x < 18446744073709551616) (hk : k ≤ 64) (hm : x % 2 ^ k = 0) : aop .or .u64 (x : Int) ((2 ^ k - 1 : Nat) : Int) = ((x + (2 ^ k - 1) : Nat) : Int) := by
 have hp := Nat.two_pow_pos k
 have hle : 2 ^ k ≤ 2 ^ 64 := Nat.pow_le_pow_right (by omega) hk
 obtain ⟨m, rfl⟩ := Nat.dvd_of_mod_eq_zero hm
 have hlt : 2 ^ k * m + 2 ^ k ≤ 18446744073709551616 := by
  have h5 : (18446744073709551616 : Nat) = 2 ^ k * 2 ^ (64 - k) := by rw [← Nat.pow_add]; rw [show k + (64 - k) = 64 by omega]
  rw [h5] at hx ⊢
  have := Nat.lt_of_mul_lt_mul_left hx
  calc 2 ^ k * m + 2 ^ k = 2 ^ k * (m + 1) := by rw [Nat.mul_add, Nat.mul_one]
   _ ≤ _ := Nat.mul_le_mul_left _ this
 have e1 : ∀ n : Nat, n < 18446744073709551616 → (BitVec.ofInt 64 (n : Int)).toNat = n := fun n hn => by
  rw [BitVec.toNat_ofInt]
  have : ((n : Int) % ((2 ^ 64 : Nat) : Int)) = (n : Int) := Int.emod_eq_of_lt (by omega) (by omega)
  rw [this]; rfl
 show IntKind.u64.wrap (((BitVec.ofInt 64 ((2 ^ k * m : Nat) : Int) ||| BitVec.ofInt 64 ((2 ^ k - 1 : Nat) : Int)).toNat : Nat) : Int) = _
 rw [BitVec.toNat_or, e1 _ (by omega), e1 _ (by omega), ← Nat.two_pow_add_eq_or_of_lt (by omega), wrap_u64 (by omega) (by omega)]
theorem prefix_Last_eq {p : Pf} (hp : p.In) (cp : chkP p = 0) (hn : ((wid p.ad.v6 : Nat) : Int) - p.bits ≤ 4) : prefix_Last_t p = some (addrI p (2 ^ freeBits p - 1), ()) := by
 obtain ⟨b1, b2⟩ := chkP_bits cp
 obtain ⟨n1, n2, n3, n4⟩ := narrow hp cp hn
 have hpp := Nat.two_pow_pos (freeBits p)
 obtain ⟨⟨h1, h2⟩, h3, h4⟩ := hp.1
 unfold prefix_Last_t
 rw [prefix_mask_eq p.ad p.bits b1 b2, bind_s, maskA_parts]
 show some _ = some _
 have k1 : wid p.ad.v6 - p.bits.toNat - 64 = 0 := by unfold freeBits at n1; omega
 have k2 : min (wid p.ad.v6 - p.bits.toNat) 64 = freeBits p := by unfold freeBits at n1 ⊢; omega
 rw [k1, k2]
 obtain ⟨hi, hhi⟩ := Int.eq_ofNat_of_zero_le h1
 obtain ⟨lo, hlo⟩ := Int.eq_ofNat_of_zero_le h3
 have hnum : p.ad.num = hi * 18446744073709551616 + lo := by unfold Ad.num; rw [hhi, hlo]; rfl
 have hlo2 : lo % 2 ^ freeBits p = 0 := by
  rw [hnum] at n3
  have h5 : (18446744073709551616 : Nat) = 2 ^ freeBits p * 2 ^ (64 - freeBits p) := by rw [← Nat.pow_add]; rw [show freeBits p + (64 - freeBits p) = 64 by omega]
  rw [h5, Nat.mul_left_comm] at n3
  rwa [Nat.mul_add_mod] at n3
 have o1 : aop .or .u64 p.ad.hi ((2 ^ 0 - 1 : Nat) : Int) = p.ad.hi := by
  rw [hhi, or_mask hi 0 (by omega) (by omega) (Nat.mod_one _)]
  simp
 have o2 : aop .or .u64 p.ad.lo ((2 ^ freeBits p - 1 : Nat) : Int) = ((lo + (2 ^ freeBits p - 1) : Nat) : Int) := by
  rw [hlo, or_mask lo (freeBits p) (by omega) (by omega) hlo2]
 simp only [o1, o2]
 have hlt : lo + 2 ^ freeBits p ≤ 18446744073709551616 := by
  have h5 : (18446744073709551616 : Nat) = 2 ^ freeBits p * 2 ^ (64 - freeBits p) := by rw [← Nat.pow_add]; rw [show freeBits p + (64 - freeBits p) = 64 by omega]
  obtain ⟨m, rfl⟩ := Nat.dvd_of_mod_eq_zero hlo2
  have hx : 2 ^ freeBits p * m < 2 ^ freeBits p * 2 ^ (64 - freeBits p) := by omega
  have := Nat.lt_of_mul_lt_mul_left hx
  rw [h5]
  calc 2 ^ freeBits p * m + 2 ^ freeBits p = 2 ^ freeBits p * (m + 1) := by rw [Nat.mul_add, Nat.mul_one]
   _ ≤ _ := Nat.mul_le_mul_left _ this
 unfold addrI ofNum
 rw [hnum, hhi]
 have q1 : (hi * 18446744073709551616 + lo + (2 ^ freeBits p - 1)) / 18446744073709551616 = hi := by omega
 have q2 : (hi * 18446744073709551616 + lo + (2 ^ freeBits p - 1)) % 18446744073709551616 = lo + (2 ^ freeBits p - 1) := by omega
 rw [q1, q2]
theorem addr_After_eq {v : Bool} {n : Nat} (h : n + 1 < 2 ^ wid v) : addr_After_t (ofNum v n) = some (ofNum v (n + 1), true, ()) := by
 unfold addr_After_t
 simp only [both_self, dup_eq]
 have hadd : ∀ m : Nat, aop .add .u64 (m : Int) 1 = (((m + 1) % 18446744073709551616 : Nat) : Int) := fun m => by
  simp only [aop, wrap_u64_mod]
  omega
 have hw := wid_pow v
 cases v
 ·rw [show wid false = 32 from rfl] at h
  have q1 : (n + 1) / 18446744073709551616 = 0 := by omega
  have q2 : n / 18446744073709551616 = 0 := by omega
  have q3 : (n % 18446744073709551616 + 1) % 18446744073709551616 = n + 1 := by omega
  have q4 : (n + 1) % 18446744073709551616 = n + 1 := by omega
  simp only [ofNum, hadd, br_false, bind_s, q1, q2, q3, q4, both_self]
  rw [decide_eq_true (show (((n + 1 : Nat) : Int)) < 4294967296 by omega)]
 ·rw [show wid true = 128 from rfl] at h
  simp only [ofNum, hadd, br_true, bind_s]
  by_cases hc : n % 18446744073709551616 + 1 = 18446744073709551616
  ·have q1 : (n + 1) / 18446744073709551616 = n / 18446744073709551616 + 1 := by omega
   have q2 : (n + 1) % 18446744073709551616 = 0 := by omega
   have q3 : (n / 18446744073709551616 + 1) % 18446744073709551616 = n / 18446744073709551616 + 1 := by omega
   rw [hc, Nat.mod_self, decide_eq_true (show ((0 : Nat) : Int) = 0 from rfl), br_true, q1, q2, q3]
   rw [decide_eq_false (show ¬ (((n / 18446744073709551616 + 1 : Nat) : Int)) = 0 by omega)]
   rfl
  ·have q1 : (n + 1) / 18446744073709551616 = n / 18446744073709551616 := by omega
   have q2 : (n + 1) % 18446744073709551616 = n % 18446744073709551616 + 1 := by omega
   have q3 : (n % 18446744073709551616 + 1) % 18446744073709551616 = n % 18446744073709551616 + 1 := by omega
   rw [q3, decide_eq_false (show ¬ (((n % 18446744073709551616 + 1 : Nat) : Int)) = 0 by omega), br_false, q1, q2]
theorem ofNum_ne {v : Bool} {n m : Nat} (h : n ≠ m) : ofNum v n ≠ ofNum v m := fun e => h (by have := congrArg Ad.num e; rwa [num_ofNum, num_ofNum] at this)
theorem allA_eq (v : Bool) (base c : Nat) (h : base + c ≤ 2 ^ wid v) : ∀ (fuel d : Nat), d < fuel → d < c → allA (ofNum v (base + (c - 1))) fuel (ofNum v (base + (c - 1 - d))) = some ((List.range' (c - 1 - d) (d + 1)).map fun i => ofNum v (base + i))
 | 0, d, h, _ => by omega
 | fuel + 1, d, h1, h2 => by
  rw [allA]
  cases d with
  | zero =>
   rw [decide_eq_true (show ofNum v (base + (c - 1 - 0)) = ofNum v (base + (c - 1)) from rfl), br_true]
   rfl
  | succ d =>
   rw [decide_eq_false (ofNum_ne (by omega)), br_false, addr_After_eq (by omega), bind_s, br_true, show base + (c - 1 - (d + 1)) + 1 = base + (c - 1 - d) by omega, allA_eq v base c h fuel d (by omega) (by omega)]
   have hr : List.range' (c - 1 - (d + 1)) (d + 1 + 1) = (c - 1 - (d + 1)) :: List.range' (c - 1 - d) (d + 1) := by
    rw [List.range'_succ]
    congr 2
    omega
   rw [Option.map_some, hr, List.map_cons]
def takenB (kp : List Ad) (b : List Ls) (a : Ad) : Bool := kp.any (fun x => decide (a = x)) || b.any (fun x => decide (x.ad = a))
def ixOut (kp : List Ad) : Option Nat → (((Int × Unit) × Unit) × (List Ad × Unit)) ⊕ ((Unit) × (List Ad × Unit))
 | some k => Sum.inl ((((k : Int), ()), ()), (kp, ()))
 | none => Sum.inr ((), (kp, ()))
theorem slices_Contains_eq {kp : List Ad} (hlen : kp.length ≤ 1048576) (a : Ad) : zq71 kp a = some (kp.any (fun x => decide (a = x)), ()) := by
 unfold zq71 zq74
 have := loop_up (step := zq72) (fun i => (((), (), (lenL kp, ()), ((i : Int), ()), ()), (kp, (a, ()), ()))) kp.length (fun i => some (ixOut kp ((firstF (fun x => decide (a = x)) (kp.drop i)).map (· + i)))) (fun rec i hi hr => ?_) (fun rec => ?_) FUEL 0 (Nat.zero_le _) (fuel_gt (by omega))
 ·rw [List.drop_zero, show (fun x => x + 0) = (id : Nat → Nat) from rfl, Option.map_id] at this
  rw [show ((0 : Nat) : Int) = 0 from rfl] at this
  rw [this, bind_s, ← firstF_any]
  simp only [id]
  cases firstF (fun x => decide (a = x)) kp with
  | none => rfl
  | some k =>
   simp only [ixOut, sumC, bind_s]
   rw [decide_eq_true (show (k : Int) ≥ 0 by omega)]
   rfl
 ·obtain ⟨e, he⟩ : ∃ e, kp[i]? = some e := ⟨_, List.getElem?_eq_getElem hi⟩
  simp only [zq72]
  rw [decide_eq_true (show (i : Int) < lenL kp by unfold lenL; omega), br_true, req_of (zq33 (by omega) (by unfold lenL; omega)), geti_at he, bind_s, firstF_at he, eqAd_eq]
  by_cases hc : a = e
  ·simp only [hc, decide_true, br_true, if_true]
   rfl
  ·simp only [hc, decide_false, br_false]
   rw [show ((i : Int) + 1) = ((i + 1 : Nat) : Int) by omega, req_of (i64ok_of (by omega) (by omega)), hr]
   rfl
 ·simp only [zq72]
  rw [decide_eq_false (show ¬ (kp.length : Int) < lenL kp by unfold lenL; omega), br_false, List.drop_of_length_le (Nat.le_refl _)]
  rfl
abbrev DT := (Bool × Int × Int × Int × Unit) × List Ad × List Ls × (Ad × Unit) × Unit
def tkOut (d : DT) : Option Nat → (((Int × Unit) × Unit) × DT) ⊕ ((Unit) × DT)
 | some k => Sum.inl ((((k : Int), ()), ()), d)
 | none => Sum.inr ((), d)
theorem taken_eq (p : Pf) {kp : List Ad} (hk : kp.length ≤ 1048576) {b : List Ls} (hb : b.length ≤ 1048576) (a : Ad) : m_lease_book__taken_t p kp b a = some (takenB kp b a, ()) := by
 unfold m_lease_book__taken_t takenB
 rw [slices_Contains_eq hk, bind_s]
 have := loop_up (step := zq4) (fun i => (((), (), (lenL b, ()), ((i : Int), ()), ()), ((p.ad.v6, p.ad.hi, p.ad.lo, p.bits, ()), kp, b, (a, ()), ()))) b.length (fun i => some (tkOut ((p.ad.v6, p.ad.hi, p.ad.lo, p.bits, ()), kp, b, (a, ()), ()) ((firstF (fun x => decide (x.ad = a)) (b.drop i)).map (· + i)))) (fun rec i hi hr => ?_) (fun rec => ?_) FUEL 0 (Nat.zero_le _) (fuel_gt (by omega))
 ·rw [List.drop_zero, show (fun x => x + 0) = (id : Nat → Nat) from rfl, Option.map_id] at this
  rw [show ((0 : Nat) : Int) = 0 from rfl] at this
  rw [this, bind_s, ← firstF_any b]
  simp only [id]
  cases kp.any (fun x => decide (a = x))
  ·rw [br_false]
   cases firstF (fun x => decide (x.ad = a)) b with
   | none => rfl
   | some k =>
    simp only [tkOut, sumC, bind_s]
    rw [decide_eq_true (show (k : Int) ≥ 0 by omega)]
    rfl
  ·rfl
 ·obtain ⟨e, he⟩ : ∃ e, b[i]? = some e := ⟨_, List.getElem?_eq_getElem hi⟩
  simp only [zq4]
  rw [decide_eq_true (show (i : Int) < lenL b by unfold lenL; omega), br_true, req_of (zq33 (by omega) (by unfold lenL; omega)), geti_at he, bind_s, firstF_at he, m_lease_book__taken_1_t, bind_s, eqAd_eq]
  by_cases hc : e.ad = a
  ·simp only [hc, decide_true, br_true, if_true]
   rfl
  ·simp only [hc, decide_false, br_false]
   rw [show ((i : Int) + 1) = ((i + 1 : Nat) : Int) by omega, req_of (i64ok_of (by omega) (by omega)), hr]
   rfl
 ·simp only [zq4]
  rw [decide_eq_false (show ¬ (b.length : Int) < lenL b by unfold lenL; omega), br_false, List.drop_of_length_le (Nat.le_refl _)]
  rfl
def foundA : Option Ad → Ad × Bool × Unit
 | some a => (a, true, ())
 | none => (⟨false, 0, 0⟩, false, ())
def freeOf (p : Pf) (kp : List Ad) (b : List Ls) : Option Ad := ((List.range (2 ^ freeBits p)).map (addrI p)).find? fun a => !takenB kp b a
theorem firstIn_eq (p : Pf) {kp : List Ad} (hk : kp.length ≤ 1048576) {b : List Ls} (hb : b.length ≤ 1048576) : ∀ xs : List Ad, firstIn p kp b xs = some (foundA (xs.find? fun a => !takenB kp b a))
 | [] => rfl
 | a :: r => by
  rw [firstIn, taken_eq p hk hb, bind_s, firstIn_eq p hk hb r, bind_s, List.find?_cons]
  cases takenB kp b a <;> rfl
theorem first_eq {p : Pf} (hp : p.In) (cp : chkP p = 0) (hn : ((wid p.ad.v6 : Nat) : Int) - p.bits ≤ 4) {kp : List Ad} (hk : kp.length ≤ 1048576) {b : List Ls} (hb : b.length ≤ 1048576) :
  zq0 p kp b = some (foundA (freeOf p kp b)) := by
 obtain ⟨n1, n2, n3, n4⟩ := narrow hp cp hn
 have hpp := Nat.two_pow_pos (freeBits p)
 unfold zq0 freeOf
 rw [prefix_Last_eq hp cp hn, bind_s]
 have := allA_eq p.ad.v6 p.ad.num (2 ^ freeBits p) n4 64 (2 ^ freeBits p - 1) (by omega) (by omega)
 rw [show 2 ^ freeBits p - 1 - (2 ^ freeBits p - 1) = 0 by omega, Nat.add_zero, ofNum_num _ hp.1.wf, show 2 ^ freeBits p - 1 + 1 = 2 ^ freeBits p by omega, ← List.range_eq_range'] at this
 show (allA (ofNum p.ad.v6 (p.ad.num + (2 ^ freeBits p - 1))) 64 p.ad).bind _ = _
 rw [this, bind_s, firstIn_eq p hk hb]
 rfl
end Go.Ma
