/-
  Parts: MaE MaK MaM MaL MaN.
-/
import Derived.Laws.MakeOwn
import Derived.Test.YtfkfpgoicmfpkaaGreatDoorZz0
set_option linter.unusedVariables false
set_option linter.unusedSimpArgs false
namespace Go.Ma
open Go Go.RowKit
theorem RelT.agree {ρ ρ' : Nat → Value} {n n' : Nat} {t : List SV} {a : Act} (h : RelT ρ n t a) (ha : Agree n ρ ρ') (hn : n ≤ n') : RelT ρ' n' t a :=
 ⟨h.size, fun i sv hi hs => by
  obtain ⟨h1, h2⟩ := h.slot i sv hi hs
  exact ⟨lt_mono hn sv h1, by rw [h2, den_agree ha sv h1]⟩⟩
theorem RelT.put {ρ : Nat → Value} {n : Nat} {t : List SV} {a : Act} (h : RelT ρ n t a) (d : Option Tmp) {v : SV} {x : Value} (hv : v.isAny = false → v.lt n = true ∧ x = den ρ v) : RelT ρ n (Ma.put t d v) (a.put d x) := by
 cases d with
 | none => exact h
 | some d =>
  refine ⟨by simp [Ma.put, Act.put, h.size], fun i sv hi hs => ?_⟩
  simp only [Ma.put] at hi
  simp only [Act.put]
  by_cases hid : i = d
  ·subst hid
   have hl : i < t.length := by
    have := (List.getElem?_eq_some_iff.1 hi).1
    simpa using this
   rw [List.getElem?_set_self hl] at hi
   injection hi with hi
   subst hi
   obtain ⟨h1, h2⟩ := hv hs
   refine ⟨h1, ?_⟩
   rw [Array.getElem?_setIfInBounds_self_of_lt (by rw [h.size]; exact hl), h2]
  ·rw [List.getElem?_set_ne (by omega)] at hi
   rw [Array.getElem?_setIfInBounds_ne (by omega)]
   exact h.slot i sv hi hs
theorem put_defers (a : Act) (d : Option Tmp) (x : Value) : (a.put d x).defers = a.defers := by cases d <;> rfl
section
variable {P : Program} {T : Nat → TI} {W : World} {ρ : Nat → Value} {m : Mem} {a : Act} {o : Oper} {t : List SV} {w : World}
theorem repCells_length (z : List Value) : ∀ n, (repCells z n).length = n * z.length
 | 0 => by simp [repCells]
 | n + 1 => by simp [repCells, repCells_length z n, Nat.add_mul, Nat.add_comm]
theorem repCells_get (z : List Value) (hz : 0 < z.length) : ∀ (n i : Nat), i < n * z.length → (repCells z n)[i]? = (z[i % z.length]?).map ofC
 | 0, i, h => by simp at h
 | n + 1, i, h => by
  simp only [repCells]
  by_cases hi : i < z.length
  ·rw [List.getElem?_append_left (by simpa using hi), List.getElem?_map, Nat.mod_eq_of_lt hi]
  ·rw [List.getElem?_append_right (by simpa using hi), List.length_map, repCells_get z hz n (i - z.length) (by rw [Nat.add_mul] at h; omega)]
   rw [← Nat.mod_eq_sub_mod (by omega)]
theorem repCells_lt (z : List Value) (k : Nat) : ∀ n, ltL k (repCells z n) = true
 | 0 => rfl
 | n + 1 => by
  have := repCells_lt z k n
  rw [ltL_all] at this ⊢
  simp only [repCells, List.all_append, Bool.and_eq_true]
  exact ⟨by simp [ofC_lt], this⟩
theorem repCells_one (z : List Value) (hz : z.all oneC = true) : ∀ n, (repCells z n).all (·.one) = true
 | 0 => rfl
 | n + 1 => by
  simp only [repCells, List.all_append, repCells_one z hz n, Bool.and_true, List.all_map]
  rw [List.all_eq_true] at hz ⊢
  intro v hv
  have := hz v hv
  cases v <;> simp_all [ofC, SV.one, oneC]
theorem repCells_den (z : Array Value) (hz : 0 < z.size) (n : Nat) : ((Array.range (n * z.size)).map fun i => z[i % z.size]!) = (denL ρ (repCells z.toList n)).toArray := by
 apply Array.ext'
 apply List.ext_getElem?
 intro i
 simp only [Array.toList_map, List.getElem?_map, Array.toList_range, denL_map]
 by_cases hi : i < n * z.size
 ·rw [List.getElem?_range hi, repCells_get z.toList (by simpa using hz) n i (by simpa using hi)]
  have hm : i % z.size < z.size := Nat.mod_lt _ hz
  simp [den_ofC, hm]
 ·rw [List.getElem?_eq_none (by simpa using hi), List.getElem?_eq_none (by rw [repCells_length]; simpa using hi)]
  rfl
theorem litCells_ok (ht : RelT ρ m.length t a) (sz n : Nat) : ∀ (ps : List (Nat × Operand)) (cs cs' : List SV), litCells t sz n ps cs = some cs' → cs.length = n * sz → ltL m.length cs = true → cs.all (·.one) = true →
  Instr.fill (fun i => some (i * sz, sz)) (denL ρ cs).toArray (ps.map fun (i, x) => (i, a.eval x)) = some (denL ρ cs').toArray ∧ ltL m.length cs' = true ∧ cs'.all (·.one) = true ∧ cs'.length = n * sz
 | [], cs, cs', h, hn, hl, h1 => by simp only [litCells, Option.some.injEq] at h; subst h; exact ⟨rfl, hl, h1, hn⟩
 | (i, x) :: r, cs, cs', h, hn, hl, h1 => by
  simp only [litCells] at h
  split at h
  ·cases h
  ·rename_i hc
   simp only [Bool.or_eq_true, Bool.not_eq_true', not_or, Bool.not_eq_true, bne_eq_false_iff_eq, decide_eq_false_iff_not, Bool.not_eq_false] at hc
   obtain ⟨⟨⟨h2, h3⟩, h4⟩, h5⟩ := hc
   have h5 : i < n := by omega
   obtain ⟨hlt, hev⟩ := ht.ev x h2
   have hcells : (a.eval x).cells.toList = denL ρ (ev t x).cells := by rw [hev]; exact one_cells_den h3 h2
   have hsz : (a.eval x).cells.size = (ev t x).cells.length := by rw [← Array.length_toList, hcells, zq5]
   have hlc : ltL m.length (ev t x).cells = true := by
    cases hsv : ev t x with
    | agg l => rw [hsv] at hlt; simpa [SV.cells, SV.lt] using hlt
    | _ => simp_all [SV.cells, ltL]
   have hbound : i * sz + sz ≤ n * sz := by
    have : (i + 1) * sz ≤ n * sz := Nat.mul_le_mul_right _ h5
    rw [Nat.add_mul] at this
    omega
   simp only [List.map_cons, Instr.fill]
   rw [if_neg (by simp [hsz, h4]; omega)]
   have hfold : (a.eval x).cells.zipIdx.foldl (fun cs (p : Value × Nat) => cs.setIfInBounds (i * sz + p.2) p.1) (denL ρ cs).toArray = (denL ρ (fillAt cs (i * sz) (ev t x).cells)).toArray := by
    rw [← Array.foldl_toList, Array.toList_zipIdx, hcells, fold_set (i * sz) _ 0 _ (by simp; omega)]
    simp only [fillAt, denL_map, List.map_append, List.map_take, List.map_drop, List.length_map, Nat.add_zero]
   have := litCells_ok ht sz n r (fillAt cs (i * sz) (ev t x).cells) cs' h (by simp [fillAt]; omega) (by
    simp only [ltL_all, List.all_eq_true, fillAt, List.mem_append] at hl hlc ⊢
    rintro c ((hc | hc) | hc)
    ·exact hl c (List.mem_of_mem_take hc)
    ·exact hlc c hc
    ·exact hl c (List.mem_of_mem_drop hc)) (by
    simp only [List.all_eq_true, fillAt, List.mem_append] at h1 h3 ⊢
    rintro c ((hc | hc) | hc)
    ·exact h1 c (List.mem_of_mem_take hc)
    ·exact h3 c hc
    ·exact h1 c (List.mem_of_mem_drop hc))
   rw [← hfold] at this
   exact this
theorem dec_enc : ∀ (k : K) (cs : List SV) (a : k.T), k.dec cs = some a → cs = k.enc a ∧ cs.length = k.sz := by
 intro k cs a h
 unfold K.dec at h
 split at h <;> first | (cases h; done) | (injection h with h; subst h; exact ⟨rfl, rfl⟩)
theorem enc_len (k : K) (a : k.T) : (k.enc a).length = k.sz := by cases k <;> rfl
theorem enc_one (k : K) (a : k.T) : ∀ c ∈ k.enc a, c.one = true := by
 cases k <;> simp [K.enc, SV.one]
theorem sz_pos (k : K) : 0 < k.sz := by cases k <;> decide
theorem chunks_spec (ρ : Nat → Value) (k : K) : ∀ (n : Nat) (cs : List SV) (l : List k.T), chunks k n cs = some l → l.length = n ∧ (l.flatMap fun a => denL ρ (k.enc a)) = denL ρ cs
 | 0, cs, l, h => by
  simp only [chunks] at h
  split at h
  ·rename_i hc
   injection h with h
   subst h
   have : cs = [] := by simpa using hc
   subst this
   exact ⟨rfl, rfl⟩
  ·cases h
 | n + 1, cs, l, h => by
  simp only [chunks] at h
  split at h
  ·rename_i a r ha hr
   injection h with h
   subst h
   obtain ⟨h1, h2⟩ := chunks_spec ρ k n _ r hr
   obtain ⟨h3, _⟩ := dec_enc k _ a ha
   refine ⟨by simp [h1], ?_⟩
   rw [List.flatMap_cons, h2, ← h3, denL_map, denL_map, denL_map, ← List.map_append, List.take_append_drop]
  ·cases h
theorem mkRow_spec (ρ : Nat → Value) (ti : TI) (cs : List SV) (n : Nat) (hl : cs.length = n * ti.size) : (mkRow ti cs n).sz = ti.size ∧ (mkRow ti cs n).n = n ∧ (mkRow ti cs n).den ρ = denL ρ cs ∧ ∀ k, ltL k cs = true → (mkRow ti cs n).lt k = true := by
 unfold mkRow
 split
 ·split
  ·rename_i k _ hk
   split
   ·rename_i l hc
    obtain ⟨h1, h2⟩ := chunks_spec ρ k n cs l hc
    exact ⟨(by simpa using hk : k.sz = ti.size), h1, h2, fun _ _ => rfl⟩
   ·exact ⟨rfl, rfl, rfl, fun _ h => h⟩
  ·exact ⟨rfl, rfl, rfl, fun _ h => h⟩
 ·exact ⟨rfl, rfl, rfl, fun _ h => h⟩
theorem opa_ok (hT : TOk P T) (ht : RelT ρ m.length t a) (hm : RelM W ρ m w) {ob : Obj} {r : Nat → SV} (h : opa T t o.op = some (ob, r)) :
  ∃ x w', (execOp a.eval o).run P w = .ok (.value x) w' ∧ Agree m.length ρ (upd ρ m.length x) ∧ RelM W (upd ρ m.length x) (m ++ [ob]) w' ∧ (r m.length).lt (m.length + 1) = true ∧ x = den (upd ρ m.length x) (r m.length) := by
 have hag : ∀ x, Agree m.length ρ (upd ρ m.length x) := upd_agree ρ m.length
 cases hop : o.op with
 | box ty x =>
  simp only [hop, opa] at h
  split at h
  ·cases h
  ·rename_i hany
   split at h
   ·rename_i hall
    simp only [Option.some.injEq, Prod.mk.injEq] at h
    obtain ⟨rfl, rfl⟩ := h
    have hany : (ev t x).isAny = false := by simpa using hany
    obtain ⟨hlt, hev⟩ := ht.ev x hany
    have hcells : (a.eval x).cells.toList = denL ρ (ev t x).cells := by rw [hev]; exact one_cells_den hall hany
    have hlc : ltL m.length (ev t x).cells = true := by
     cases hsv : ev t x with
     | agg l => rw [hsv] at hlt; simpa [SV.cells, SV.lt] using hlt
     | _ => simp_all [SV.cells, ltL]
    refine ⟨_, _, by simp only [execOp, hop, Instr.box, newVar, newRow, Sem.run_bind, run_newObj, Sem.run_pure, Result.andThen_ok]; rfl, hag _, ?_, by simp [SV.lt], by simp [den, upd_same, ptrOff, Addr.add]⟩
    refine hm.alloc (arr := (a.eval x).cells) (by rw [← Array.length_toList, hcells, zq5]) (fun i sv hi hs => ?_)
    rw [ltL_all, List.all_eq_true] at hlc
    refine ⟨hlc sv (List.mem_of_getElem? hi), ?_⟩
    rw [← Array.getElem?_toList, hcells, denL_map, List.getElem?_map, hi]
    rfl
   ·cases h
 | alloc ty =>
  simp only [hop, opa] at h
  split at h
  ·rename_i hk
   simp only [Option.some.injEq, Prod.mk.injEq] at h
   obtain ⟨rfl, rfl⟩ := h
   obtain ⟨z, hz, hzl⟩ := (hT.ty ty hk).zero w
   refine ⟨_, _, by simp only [execOp, hop, Instr.alloc, newVar, newRow, Sem.run_bind, hz, run_newObj, Sem.run_pure, Result.andThen_ok]; rfl, hag _, ?_, by simp [SV.lt], by simp [den, upd_same, ptrOff, Addr.add]⟩
   refine hm.alloc (arr := z.cells) (by rw [← Array.length_toList, hzl]; simp) (fun i sv hi hs => ?_)
   rw [List.getElem?_map] at hi
   obtain ⟨u, hu, rfl⟩ := Option.map_eq_some_iff.1 hi
   refine ⟨ofC_lt _ _, ?_⟩
   rw [← Array.getElem?_toList, hzl, hu, den_ofC]
  ·cases h
 | buildSlice ty n ps =>
  simp only [hop, opa] at h
  split at h
  ·rename_i hk hkd hke
   split at h
   ·rename_i hc
    simp only [Bool.and_eq_true, decide_eq_true_eq, beq_iff_eq] at hc
    obtain ⟨⟨⟨hsz, hbig⟩, hzl⟩, hz1⟩ := hc
    obtain ⟨cs, hcs, h⟩ := Option.map_eq_some_iff.1 h
    simp only [Prod.mk.injEq] at h
    obtain ⟨rfl, rfl⟩ := h
    obtain ⟨ti, d, z0, hti, hd, hz, g1, g2, g3, g4, g5, g6, g7, g8, g9⟩ := (hT.ty ty hk).ex
    have := g7 hkd; subst this
    obtain ⟨z, hzr, hzt⟩ := (hT.ty _ hke).zero w
    have hzsz : z.cells.size = (T (T ty).elem).size := by rw [← Array.length_toList, hzt]; exact hzl
    obtain ⟨hfill, hlt, hone, hlen⟩ := litCells_ok ht (T (T ty).elem).size n ps.toList _ cs hcs (by rw [repCells_length, hzl]) (repCells_lt _ _ _) (repCells_one _ hz1 n)
    have hrun : (Instr.buildSlice ty n (ps.map fun (i, x) => (i, a.eval x))).run P w = .ok (.slice (some ⟨w.heap.size, 0, none⟩) n n) (w.alloc (.cells (denL ρ cs).toArray (T ty).elem)) := by
     have hcells : Instr.fill (fun i => some (i * (T (T ty).elem).size, (T (T ty).elem).size)) ((Array.range (n * (T (T ty).elem).size)).map fun i => z.cells[i % z.cells.size]!) (ps.map fun (i, x) => (i, a.eval x)).toList = some (denL ρ cs).toArray := by
      have := repCells_den (ρ := ρ) z.cells (by omega) n
      rw [hzsz] at this
      rw [hzsz, this, hzt]
      simpa using hfill
     unfold Instr.buildSlice
     simp only [Sem.run_bind, run_underlying hd, Result.andThen_ok, (hT.ty _ hke).sizeOf]
     rw [if_neg (by omega)]
     by_cases hn : n * (T (T ty).elem).size = 0
     ·have hn0 : n = 0 := by
       rcases Nat.mul_eq_zero.1 hn with h | h
       ·exact h
       ·omega
      subst hn0
      have e0 : ∀ (g : Nat → Value), (Array.range 0).map g = #[] := fun g => by simp
      rw [Nat.zero_mul, e0] at hcells
      rw [Nat.zero_mul, if_pos rfl, Sem.run_bind, Sem.run_pure, Result.andThen_ok, e0, hcells]
      simp [newRow, World.alloc_eq]
     ·rw [if_neg hn]
      simp only [Sem.run_bind, hzr, Sem.run_pure, Result.andThen_ok]
      rw [hcells]
      simp [newRow, World.alloc_eq]
    refine ⟨_, _, by simp only [execOp, hop, Sem.run_bind, hrun, Result.andThen_ok]; rfl, hag _, ?_, by simp [SV.lt], by simp [den, upd_same, sliceVal]⟩
    obtain ⟨r1, r2, r3, r4⟩ := mkRow_spec (upd ρ m.length (.slice (some ⟨w.heap.size, 0, none⟩) n n)) (T (T ty).elem) cs n hlen
    obtain ⟨_, _, r3', _⟩ := mkRow_spec ρ (T (T ty).elem) cs n hlen
    refine hm.push ((Below.refl _ _).alloc (Nat.le_refl _) _) ⟨by rw [r1]; exact hsz, fun u hu => ?_, ?_⟩ (by simp only [Obj.lt]; exact r4 _ hlt) (fun b hb => by have hb := (blocks_one (v := .slice (some ⟨w.heap.size, 0, none⟩) n n) (fun vs h => by cases h)).1 (blocks_sub hb); simp only [valBlock, Option.some.injEq] at hb; omega)
    ·rw [r3'] at hu
     simp only [denL_map, List.mem_map] at hu
     obtain ⟨c, hc, rfl⟩ := hu
     exact one_den (List.all_eq_true.1 hone c hc)
    show World.ownsRow _ _ _ _ _ _ _
    rw [r1, r2, r3']
    refine ⟨by simp [hlen], .inr ⟨w.heap.size, n, (denL ρ cs).toArray, rfl, hm.below.size, by show (w.heap.push _)[w.heap.size]? = _; simp, Nat.le_refl _, ?_, by simp [hlen], ?_⟩⟩
    ·have : n ≤ n * (T (T ty).elem).size := Nat.le_mul_of_pos_right _ hsz
     unfold maxLen
     omega
    ·rw [List.take_of_length_le (by simp [hlen])]
   ·cases h
  ·cases h
 | _ => simp only [hop, opa] at h; cases h
theorem opst_ok (hT : TOk P T) (ht : RelT ρ m.length t a) (hm : RelM W ρ m w) {m' : Mem} (h : opst T t m o.op = some m') :
  ∃ w', (execOp a.eval o).run P w = .ok .skip w' ∧ RelM W ρ m' w' ∧ m'.length = m.length := by
 cases hop : o.op with
 | store ty ad x =>
  simp only [hop, opst] at h
  split at h
  ·rename_i j off had
   split at h
   ·rename_i cs bt hj
    split at h
    ·rename_i hc
     simp only [Bool.and_eq_true, Bool.not_eq_true', beq_iff_eq, decide_eq_true_eq] at hc
     obtain ⟨⟨⟨⟨hk, hany⟩, hall⟩, hlen⟩, hoff⟩ := hc
     simp only [Option.some.injEq] at h
     subst h
     obtain ⟨hlt, hev⟩ := ht.ev x hany
     have h1 := (ht.ev ad (by rw [had]; rfl)).2
     rw [had] at h1
     obtain ⟨b, arr, hb, hh, hs, hcell⟩ := hm.blk hj
     simp only [den, hb, ptrOff, add_zero_addr, Nat.zero_add] at h1
     have hcells : (a.eval x).cells.toList = denL ρ (ev t x).cells := by rw [hev]; exact one_cells_den hall hany
     have hsz : (a.eval x).cells.size = (T ty).size := by rw [← Array.length_toList, hcells, zq5, hlen]
     have hlc : ltL m.length (ev t x).cells = true := by
      cases hsv : ev t x with
      | agg l => rw [hsv] at hlt; simpa [SV.cells, SV.lt] using hlt
      | _ => simp_all [SV.cells, ltL]
     have hst := run_storeCells_cells (P := P) b off (denL ρ (ev t x).cells) 0 w (fun i hi => by
       rw [cells_of_blk hh, Array.getElem?_eq_getElem (by simp at hi; omega)]; rfl)
      (fun i hi => by simp [World.frozen?, hh]) (fun v hv => by
       rw [denL_map, List.mem_map] at hv
       obtain ⟨c, hc, rfl⟩ := hv
       exact oneC_cell' (one_den (List.all_eq_true.1 hall c hc)))
     refine ⟨_, ?_, hm.store hj (off := off) (xs := (ev t x).cells) (by omega) hlc b hb, by simp⟩
     simp only [execOp, hop, h1, Instr.storeAt, Instr.sureAddr, storeVar, Sem.run_bind, Sem.run_pure, Result.andThen_ok, (hT.ty ty hk).sizeOf, hcells]
     simp [hsz, hst]
    ·cases h
   ·cases h
  ·cases h
 | _ => simp only [hop, opst] at h; cases h
end
theorem rowc_len (ρ : Nat → Value) (k : K) : ∀ l : List k.T, (l.flatMap fun a => denL ρ (k.enc a)).length = l.length * k.sz
 | [] => by simp
 | b :: r => by rw [List.flatMap_cons, List.length_append, rowc_len ρ k r, zq5, enc_len, List.length_cons, Nat.succ_mul, Nat.add_comm]
theorem flat_set (ρ : Nat → Value) (k : K) (b : k.T) : ∀ (l : List k.T) (n : Nat), n < l.length →
  ((l.set n b).flatMap fun a => denL ρ (k.enc a)) = (l.flatMap fun a => denL ρ (k.enc a)).take (n * k.sz) ++ denL ρ (k.enc b) ++ (l.flatMap fun a => denL ρ (k.enc a)).drop ((n + 1) * k.sz)
 | [], n, h => by simp at h
 | c :: r, 0, _ => by
  have hc : (denL ρ (k.enc c)).length = k.sz := by rw [zq5, enc_len]
  simp only [List.set_cons_zero, List.flatMap_cons, Nat.zero_mul, List.take_zero, List.nil_append, Nat.zero_add, Nat.one_mul]
  rw [List.drop_append, List.drop_of_length_le (by omega), List.nil_append, hc, Nat.sub_self, List.drop_zero]
 | c :: r, n + 1, h => by
  have hc : (denL ρ (k.enc c)).length = k.sz := by rw [zq5, enc_len]
  simp only [List.set_cons_succ, List.flatMap_cons]
  rw [flat_set ρ k b r n (by simpa using h)]
  have e1 : (n + 1) * k.sz = k.sz + n * k.sz := by rw [Nat.succ_mul, Nat.add_comm]
  have e2 : (n + 1 + 1) * k.sz = k.sz + (n + 1) * k.sz := by rw [Nat.succ_mul, Nat.add_comm]
  have t1 : ∀ (X Y : List Value) (q : Nat), X.length = k.sz → (X ++ Y).take (k.sz + q) = X ++ Y.take q := fun X Y q h => by rw [← h, List.take_length_add_append]
  have t2 : ∀ (X Y : List Value) (q : Nat), X.length = k.sz → (X ++ Y).drop (k.sz + q) = Y.drop q := fun X Y q h => by rw [← h, List.drop_length_add_append]
  rw [e2, t2 _ _ _ hc, e1, t1 _ _ _ hc, ← e1]
  simp only [List.append_assoc]
theorem rowc_get (ρ : Nat → Value) (k : K) {a : k.T} : ∀ {l : List k.T} {n : Nat}, l[n]? = some a → ∀ i, i < k.sz → (l.flatMap fun a => denL ρ (k.enc a))[n * k.sz + i]? = (denL ρ (k.enc a))[i]?
 | [], n, h, _, _ => by simp at h
 | c :: r, 0, h, i, hi => by
  simp only [List.getElem?_cons_zero, Option.some.injEq] at h
  subst h
  rw [List.flatMap_cons, Nat.zero_mul, Nat.zero_add, List.getElem?_append_left (by rw [zq5, enc_len]; exact hi)]
 | c :: r, n + 1, h, i, hi => by
  have := rowc_get ρ k (l := r) (n := n) (by simpa using h) i hi
  rw [List.flatMap_cons, List.getElem?_append_right (by rw [zq5, enc_len, Nat.succ_mul]; omega), zq5, enc_len, ← this]
  congr 1
  rw [Nat.succ_mul]
  omega
theorem fill_get (cs : List SV) (off : Nat) (xs : List SV) (hlen : off + xs.length ≤ cs.length) (i : Nat) : (fillAt cs off xs)[i]? = if off ≤ i ∧ i < off + xs.length then xs[i - off]? else cs[i]? := by
 unfold fillAt
 rw [List.append_assoc, List.getElem?_append]
 simp only [List.length_take]
 rw [Nat.min_eq_left (by omega)]
 split
 ·rw [if_neg (by omega), List.getElem?_take, if_pos (by omega)]
 ·rw [List.getElem?_append]
  split
  ·rw [if_pos (by omega)]
  ·rw [if_neg (by omega), List.getElem?_drop]
   congr 1
   omega
theorem flat_upd (ρ : Nat → Value) (k : K) {l : List k.T} {n : Nat} {a b : k.T} (ha : l[n]? = some a) {off : Nat} {xs : List SV} (hb : k.upd a off xs = some b) (i : Nat) :
  ((l.set n b).flatMap fun a => denL ρ (k.enc a))[i]? = if n * k.sz + off ≤ i ∧ i < n * k.sz + off + xs.length then (denL ρ xs)[i - (n * k.sz + off)]? else (l.flatMap fun a => denL ρ (k.enc a))[i]? := by
 unfold K.upd at hb
 split at hb
 rotate_left
 ·cases hb
 rename_i hoff
 obtain ⟨he, _⟩ := dec_enc k _ b hb
 have hnl := (List.getElem?_eq_some_iff.1 ha).1
 have hF : (l.flatMap fun a => denL ρ (k.enc a)).length = l.length * k.sz := rowc_len ρ k l
 have hn1 : (n + 1) * k.sz ≤ l.length * k.sz := Nat.mul_le_mul_right _ hnl
 rw [Nat.succ_mul] at hn1
 have hel : (k.enc b).length = k.sz := enc_len k b
 rw [flat_set ρ k b l n hnl, List.append_assoc, List.getElem?_append, List.length_take, Nat.min_eq_left (by omega)]
 split
 ·rw [if_neg (by omega), List.getElem?_take, if_pos (by omega)]
 ·rename_i h1
  rw [List.getElem?_append, zq5, hel]
  split
  ·rename_i h2
   have e1 : (denL ρ (k.enc b))[i - n * k.sz]? = if off ≤ i - n * k.sz ∧ i - n * k.sz < off + xs.length then (denL ρ xs)[i - n * k.sz - off]? else (denL ρ (k.enc a))[i - n * k.sz]? := by
    rw [← he, denL_map, List.getElem?_map, fill_get _ _ _ (by rw [enc_len]; exact hoff), denL_map, denL_map, List.getElem?_map, List.getElem?_map]
    split <;> rfl
   rw [e1]
   by_cases h3 : off ≤ i - n * k.sz ∧ i - n * k.sz < off + xs.length
   ·rw [if_pos h3, if_pos (by omega)]
    congr 1
    omega
   ·rw [if_neg h3, if_neg (by omega), ← rowc_get ρ k ha (i - n * k.sz) (by omega)]
    congr 1
    omega
  ·rw [if_neg (by omega), List.getElem?_drop]
   congr 1
   rw [Nat.succ_mul]
   omega
theorem RelM.storeC {W : World} {ρ : Nat → Value} {m : Mem} {w : World} (h : RelM W ρ m w) {j : Nat} {c c' : C} {ty : TypeId} (hj : m[j]? = some (.row c ty true)) (hsz : c'.sz = c.sz) (hn : c'.n = c.n) (hlt : c'.lt m.length = true)
  (hone : ∀ u ∈ c'.den ρ, oneC u = true) (hlen : (c'.den ρ).length = c.n * c.sz) {off : Nat} {vs : List Value} (hoff : off + vs.length ≤ c.n * c.sz)
  (hflat : ∀ i : Nat, (c'.den ρ)[i]? = if off ≤ i ∧ i < off + vs.length then vs[i - off]? else (c.den ρ)[i]?)
  (g cap : Nat) (hg : ρ j = .slice (some ⟨g, 0, none⟩) c.n cap) :
  RelM W ρ (m.set j (.row c' ty true)) (w.setCells g off vs) := by
 have hob := h.obj j _ hj
 obtain ⟨hz, hcell1, hown⟩ := hob
 rw [if_pos rfl] at hown
 obtain ⟨ho1, ho2⟩ := hown
 rcases ho2 with ⟨hv, h0⟩ | ⟨g', cap', cur, hv, hbase, hheap, hnc, hcm, hcs, htake⟩
 ·rw [hg] at hv; cases hv
 rw [hg] at hv
 simp only [Value.slice.injEq, Option.some.injEq, Addr.mk.injEq] at hv
 obtain ⟨⟨rfl, _⟩, _, rfl⟩ := hv
 obtain ⟨s1, s2, s3, s4, s5, s6⟩ := setCells_spec w g off vs cur ty (0, 0) hheap
 have hjl : j < m.length := (List.getElem?_eq_some_iff.1 hj).1
 have hn2 : c.n * c.sz ≤ cap * c.sz := Nat.mul_le_mul_right _ hnc
 have hset : ∀ (i : Nat) (o : Obj), (m.set j (.row c' ty true))[i]? = some o → (i = j ∧ o = .row c' ty true) ∨ (i ≠ j ∧ m[i]? = some o) := by
  intro i o hi
  by_cases hij : i = j
  ·subst hij
   rw [List.getElem?_set_self hjl] at hi
   injection hi with hi
   exact .inl ⟨rfl, hi.symm⟩
  ·rw [List.getElem?_set_ne (by omega)] at hi
   exact .inr ⟨hij, hi⟩
 refine ⟨⟨s4.trans h.below.os, s5.trans h.below.tape, s6.trans h.below.output, by rw [s3]; exact h.below.size, fun q hq => (s2 q (by omega)).trans (h.below.block q hq)⟩, fun q o hq => ?_, fun i q o1 o2 hiq hi hq hm hd => ?_, fun q o hq => ?_⟩
 ·rcases hset q o hq with ⟨rfl, rfl⟩ | ⟨hne, hq⟩
  ·refine ⟨by rw [hsz]; exact hz, hone, ?_⟩
   ·rw [if_pos rfl]
    rw [hn, hsz, hg]
    refine ⟨hlen, .inr ⟨g, cap, _, rfl, hbase, s1, hnc, hcm, by rw [setArr_size]; exact hcs, ?_⟩⟩
    apply List.ext_getElem?
    intro i
    rw [hflat, List.getElem?_take]
    split
    ·rw [Array.getElem?_toList, setArr_get _ _ _ _ (by omega)]
     split
     ·rfl
     ·rw [← htake, List.getElem?_take, if_pos (by assumption), Array.getElem?_toList]
    ·rw [if_neg (by omega), List.getElem?_eq_none (by omega)]
  ·cases hdd : o.deadB
   ·refine (h.obj q o hq).keep (fun b2 hb2 hlt => s2 b2 ?_) (by rw [s3]; omega)
    intro e
    subst e
    exact h.sep j q _ o (by omega) hj hq rfl hdd b2 (by rw [hg]; exact mem_blocks rfl) hb2
   ·exact (h.obj q o hq).still hdd
 ·have hi' : ∃ o1', m[i]? = some o1' ∧ o1'.mutB = true := by
   rcases hset i o1 hi with ⟨rfl, rfl⟩ | ⟨hne, hi⟩
   ·exact ⟨_, hj, rfl⟩
   ·exact ⟨_, hi, hm⟩
  have hk' : ∃ o2', m[q]? = some o2' ∧ (o2' matches .dead _) = false ∧ o2.blocks = o2'.blocks := by
   rcases hset q o2 hq with ⟨rfl, rfl⟩ | ⟨hne, hq⟩
   ·exact ⟨_, hj, rfl, rfl⟩
   ·exact ⟨_, hq, hd, rfl⟩
  obtain ⟨o1', hi', hm'⟩ := hi'
  obtain ⟨o2', hk', hd', hbl⟩ := hk'
  rw [hbl]
  exact h.sep i q o1' o2' hiq hi' hk' hm' hd'
 ·rw [List.length_set]
  rcases hset q o hq with ⟨rfl, rfl⟩ | ⟨hne, hq⟩
  ·exact hlt
  ·exact h.lt q o hq
theorem RelM.storeSeg {W : World} {ρ : Nat → Value} {m : Mem} {w : World} (h : RelM W ρ m w) {j : Nat} {k : K} {l l' : List k.T} {ty : TypeId} (hj : m[j]? = some (.row (.ty k l) ty true)) (hl' : l'.length = l.length)
  {off : Nat} {vs : List Value} (hoff : off + vs.length ≤ l.length * k.sz)
  (hflat : ∀ i : Nat, (l'.flatMap fun a => denL ρ (k.enc a))[i]? = if off ≤ i ∧ i < off + vs.length then vs[i - off]? else (l.flatMap fun a => denL ρ (k.enc a))[i]?)
  (g cap : Nat) (hg : ρ j = .slice (some ⟨g, 0, none⟩) l.length cap) :
  RelM W ρ (m.set j (.row (.ty k l') ty true)) (w.setCells g off vs) :=
 h.storeC (c := .ty k l) (c' := .ty k l') hj rfl hl' rfl (fun u hu => by
  have hu : u ∈ l'.flatMap fun a => denL ρ (k.enc a) := hu
  simp only [List.mem_flatMap, denL_map, List.mem_map] at hu
  obtain ⟨x, _, c, hc, rfl⟩ := hu
  exact one_den (enc_one k x c hc)) (by show (l'.flatMap fun a => denL ρ (k.enc a)).length = _; rw [rowc_len, hl']; rfl) hoff hflat g cap hg
theorem RelM.storeRow {W : World} {ρ : Nat → Value} {m : Mem} {w : World} (h : RelM W ρ m w) {j : Nat} {k : K} {l : List k.T} {ty : TypeId} (hj : m[j]? = some (.row (.ty k l) ty true)) {n : Nat} {a b : k.T} (ha : l[n]? = some a)
  {off : Nat} {xs : List SV} (hb : k.upd a off xs = some b) (g cap : Nat) (hg : ρ j = .slice (some ⟨g, 0, none⟩) l.length cap) :
  RelM W ρ (m.set j (.row (.ty k (l.set n b)) ty true)) (w.setCells g (n * k.sz + off) (denL ρ xs)) := by
 have hnl := (List.getElem?_eq_some_iff.1 ha).1
 have hoff : off + xs.length ≤ k.sz := by
  unfold K.upd at hb
  split at hb
  ·assumption
  ·cases hb
 have hn1 : (n + 1) * k.sz ≤ l.length * k.sz := Nat.mul_le_mul_right _ hnl
 rw [Nat.succ_mul] at hn1
 refine h.storeSeg hj (by rw [List.length_set]) (by rw [zq5]; omega) (fun i => ?_) g cap hg
 rw [flat_upd ρ k ha hb, zq5]
theorem opsr_ok {P : Program} {T : Nat → TI} {W : World} {ρ : Nat → Value} {m : Mem} {a : Act} {o : Oper} {t : List SV} {w : World} (hT : TOk P T) (ht : RelT ρ m.length t a) (hm : RelM W ρ m w) {r : StR} (h : opsr T t m o.op = some r)
  {y : r.k.T} (hy : geti r.l r.i = some y) {b : r.k.T} (hb : r.k.upd y r.off r.xs = some b) : ∃ w', (execOp a.eval o).run P w = .ok .skip w' ∧ RelM W ρ (r.mem m b) w' ∧ (r.mem m b).length = m.length := by
 cases hop : o.op with
 | store ty ad x =>
  simp only [hop, opsr] at h
  split at h
  ·rename_i j i sz off had
   split at h
   ·rename_i k l bt hj
    split at h
    ·rename_i hc
     simp only [Bool.and_eq_true, Bool.not_eq_true', beq_iff_eq] at hc
     obtain ⟨⟨⟨⟨hk, hsz⟩, hany⟩, hall⟩, hlen⟩ := hc
     simp only [Option.some.injEq] at h
     subst h
     simp only at hy hb ⊢
     obtain ⟨hlt, hev⟩ := ht.ev x hany
     have h1 := (ht.ev ad (by rw [had]; rfl)).2
     rw [had] at h1
     obtain ⟨hi0, hyl⟩ : 0 ≤ i ∧ l[i.toNat]? = some y := by
      unfold geti at hy
      split at hy
      ·exact ⟨by assumption, hy⟩
      ·cases hy
     have hnl := (List.getElem?_eq_some_iff.1 hyl).1
     obtain ⟨hz, _, hown⟩ := hm.obj j _ hj
     rw [if_pos rfl] at hown
     rcases hown.2 with ⟨hv, h0⟩ | ⟨g, cap, cur, hv, hbase, hheap, hnc, hcm, hcs, htake⟩
     ·have h0 : l.length = 0 := h0
      omega
     have hv' : ρ j = .slice (some ⟨g, 0, none⟩) l.length cap := hv
     have hoff : off + (ev t x).cells.length ≤ k.sz := by
      unfold K.upd at hb
      split at hb
      ·assumption
      ·cases hb
     have hn1 : (i.toNat + 1) * k.sz ≤ l.length * k.sz := Nat.mul_le_mul_right _ hnl
     have hn2 : l.length * k.sz ≤ cap * k.sz := Nat.mul_le_mul_right _ hnc
     rw [Nat.succ_mul] at hn1
     have hcs' : cur.size = cap * k.sz := hcs
     have hadr : a.eval ad = .pointer (some ⟨g, i.toNat * k.sz + off, none⟩) := by
      rw [h1]
      simp only [den, hv', elemPtr, ← hsz]
      congr 2
      unfold Addr.add
      split <;> split <;> simp_all
     have hcells : (a.eval x).cells.toList = denL ρ (ev t x).cells := by rw [hev]; exact one_cells_den hall hany
     have hsz2 : (a.eval x).cells.size = (T ty).size := by rw [← Array.length_toList, hcells, zq5, hlen]
     have hst := run_storeCells_cells (P := P) g (i.toNat * k.sz + off) (denL ρ (ev t x).cells) 0 w (fun q hq => by
       rw [cells_of_blk hheap, Array.getElem?_eq_getElem (by simp at hq; omega)]; rfl)
      (fun q hq => by simp [World.frozen?, hheap]) (fun v hv => by
       rw [denL_map, List.mem_map] at hv
       obtain ⟨c, hc, rfl⟩ := hv
       exact oneC_cell' (one_den (List.all_eq_true.1 hall c hc)))
     refine ⟨_, ?_, hm.storeRow hj hyl hb g cap hv', by simp [StR.mem]⟩
     simp only [execOp, hop, hadr, Instr.storeAt, Instr.sureAddr, storeVar, Sem.run_bind, Sem.run_pure, Result.andThen_ok, (hT.ty ty hk).sizeOf, hcells]
     simp [hsz2, hst]
    ·cases h
   ·cases h
  ·cases h
 | _ => simp only [hop, opsr] at h; cases h
theorem append_own {P : Program} (w : World) (base : Nat) (t ty e : TypeId) (i : TypeInfo) (z : Value) (ht : P.underlying t = some (.slice e)) (hi : P.info? e = some i) (hz : i.zero = some z) (hzs : z.cells.size = i.size) (hsz : 0 < i.size)
  (v : Value) (n : Nat) (xs : List Value) (hown : w.ownsRow base e i.size v n xs) (A : Option Addr) (m c : Nat) (news : List Value) (hl : news.length = m * i.size) (hA : A = none → m = 0)
  (hnews : ∀ ad, A = some ad → ∀ j u, news[j]? = some u → w.cell? (ad.add j) = some u) (h1 : ∀ u ∈ news, u.oneCell' = true)
  (h63 : n + m ≤ maxLen) (hbytes : (n + m) * i.bytes ≤ 140737488355328) (hbase : base ≤ w.heap.size) :
  ∃ v' w', (Builtin.append_ #[t, t] ty #[v, .slice A m c]).run P w = .ok v' w' ∧ w'.ownsRow base e i.size v' (n + m) (xs ++ news) ∧ w.grownBy w' v.ownBlock ∧ (∀ b, v'.ownBlock = some b → v.ownBlock = some b ∨ w.heap.size ≤ b) := by
 cases A with
 | none =>
  have hm := hA rfl
  subst hm
  have hn : news = [] := List.eq_nil_of_length_eq_zero (by simpa using hl)
  subst hn
  have hv : ∃ B c', v = .slice B n c' ∧ n ≤ c' ∧ ∀ g o sp, B = some ⟨g, o, sp⟩ → o = 0 ∧ sp = none ∧ True := by
   rcases hown.2 with ⟨rfl, rfl⟩ | ⟨g, cap, cur, rfl, _, _, hc, _⟩
   ·exact ⟨none, 0, rfl, Nat.le_refl _, fun _ _ _ h => by cases h⟩
   ·exact ⟨_, cap, rfl, hc, fun _ _ _ h => by injection h with h; injection h with h1 h2 h3; exact ⟨h2.symm, h3.symm, trivial⟩⟩
  refine ⟨v, w, ?_, by simpa using hown, ⟨rfl, rfl, rfl, Nat.le_refl _, fun _ _ _ => rfl⟩, fun b hb => .inl hb⟩
  rcases hown.2 with ⟨rfl, rfl⟩ | ⟨g, cap, cur, rfl, _, hg, hc, _⟩
  ·simp [Builtin.append_, run_underlying ht, sizeOf, typeInfo, hi, Builtin.lenOf, Builtin.firstCells]
  ·simp [Builtin.append_, run_underlying ht, sizeOf, typeInfo, hi, Builtin.lenOf, Builtin.firstCells, hc, storeCells]
 | some ad =>
  obtain ⟨v', w', hr, ho, hgb, _⟩ := run_append_own (P := P) w base t ty e i z i.size i.bytes ht hi hz rfl rfl hzs hsz v n xs hown ad m c news hl (hnews ad rfl) h1 h63 hbytes hbase
  refine ⟨v', w', hr, ho, hgb, fun b hb => ?_⟩
  have hsmall : n + m ≤ 9223372036854775807 := by simp only [maxLen] at h63; omega
  rcases hown.2 with ⟨rfl, rfl⟩ | ⟨g, cap, cur, rfl, hbg, hg, hnc, hcm, hcs, htake⟩
  ·by_cases hm : m = 0
   ·subst hm
    have hn : news = [] := List.eq_nil_of_length_eq_zero (by simpa using hl)
    subst hn
    have : (Builtin.append_ #[t, t] ty #[.slice none 0 0, .slice (some ad) 0 c]).run P w = .ok (.slice none 0 0) w := by
     simp [Builtin.append_, run_underlying ht, sizeOf, typeInfo, hi, Builtin.lenOf, Builtin.firstCells, loadCells, loadCellsFrom]
    rw [this] at hr
    injection hr with hr _
    subst hr
    cases hb
   ·have hr' := run_append_nil (P := P) w t ty e i z ht hi hz ad m c news hl (hnews ad rfl) (by omega) (by omega) (by have hb := hbytes; simp only [Nat.zero_add] at hb; omega)
    rw [hr'] at hr
    injection hr with hr _
    subst hr
    simp only [Value.ownBlock, Option.some.injEq] at hb
    exact .inr (by omega)
  ·by_cases hroom : n + m ≤ cap
   ·have hfit : n * i.size + news.length ≤ cur.size := by rw [hl, hcs, ← Nat.add_mul]; exact Nat.mul_le_mul_right _ hroom
    have hr' := run_append_room (P := P) w t ty e i ht hi g n cap cur hg ad m c news hl (hnews ad rfl) h1 hroom hfit
    rw [hr'] at hr
    injection hr with hr _
    subst hr
    exact .inl hb
   ·have holds : ∀ j u, xs[j]? = some u → w.cell? ((⟨g, 0, none⟩ : Addr).add j) = some u := hown.cells (g := g) rfl
    have hr' := run_append_grow (P := P) w t ty e i z ht hi hz ⟨g, 0, none⟩ n cap xs hown.1 holds ad m c news hl (hnews ad rfl) (by omega) (by omega) (growslice_fits (by omega) hbytes)
    rw [hr'] at hr
    injection hr with hr _
    subst hr
    simp only [Value.ownBlock, Option.some.injEq] at hb
    exact .inr (by omega)
theorem ownRow_ok {P : Program} {T : Nat → TI} {W : World} {ρ : Nat → Value} {m : Mem} {a : Act} {t : List SV} {w : World} (ht : RelT ρ m.length t a) (hm : RelM W ρ m w) {sz : Nat} {e : TypeId} {x : Operand} {j : Option Nat} {c : C} (hsz : 0 < sz)
  (h : ownRow t m sz e x = some (j, c)) :
  c.sz = sz ∧ w.ownsRow W.heap.size e sz (a.eval x) c.n (c.den ρ) ∧ (∀ u ∈ c.den ρ, oneC u = true) ∧ c.lt m.length = true ∧
   ((j = none ∧ a.eval x = .slice none 0 0) ∨ ∃ i, j = some i ∧ a.eval x = ρ i ∧ m[i]? = some (.row c e true)) := by
 unfold ownRow at h
 split at h
 ·rename_i hx
  simp only [Option.some.injEq, Prod.mk.injEq] at h
  obtain ⟨rfl, rfl⟩ := h
  have := (ht.ev x (by rw [hx]; rfl)).2
  rw [hx] at this
  simp only [den] at this
  refine ⟨rfl, by rw [this]; exact World.ownsRow_nil w _ e sz, (fun u hu => by cases hu), rfl, .inl ⟨rfl, this⟩⟩
 ·rename_i i hx
  split at h
  ·rename_i c' ty hi
   split at h
   ·rename_i hc
    simp only [Bool.and_eq_true, beq_iff_eq] at hc
    obtain ⟨rfl, rfl⟩ := hc
    simp only [Option.some.injEq, Prod.mk.injEq] at h
    obtain ⟨rfl, rfl⟩ := h
    obtain ⟨_, h0, h3⟩ := hm.obj i _ hi
    simp only [if_true] at h3
    have := (ht.ev x (by rw [hx]; rfl)).2
    rw [hx] at this
    have hv : a.eval x = ρ i := by
     rw [this]
     simp only [den]
     rcases h3.2 with ⟨hv, _⟩ | ⟨g, cap, cur, hv, _⟩ <;> rw [hv] <;> rfl
    refine ⟨rfl, by rw [hv]; exact h3, h0, hm.lt i _ hi, .inr ⟨i, rfl, hv, hi⟩⟩
   ·cases h
  ·cases h
 ·cases h
theorem srcRow_ok {P : Program} {T : Nat → TI} {W : World} {ρ : Nat → Value} {m : Mem} {a : Act} {t : List SV} {w : World} (ht : RelT ρ m.length t a) (hm : RelM W ρ m w) {sz : Nat} {x : Operand} {j : Option Nat} {c : C}
  (h : srcRow t m sz x = some (j, c)) :
  c.sz = sz ∧ ∃ A cap, a.eval x = .slice A c.n cap ∧ (c.den ρ).length = c.n * sz ∧ (A = none → c.n = 0) ∧ (∀ ad, A = some ad → ∀ (i : Nat) (u : Value), (c.den ρ)[i]? = some u → w.cell? (ad.add i) = some u) ∧ (∀ u ∈ c.den ρ, oneC u = true) ∧ c.lt m.length = true := by
 unfold srcRow at h
 split at h
 ·rename_i hx
  simp only [Option.some.injEq, Prod.mk.injEq] at h
  obtain ⟨rfl, rfl⟩ := h
  have := (ht.ev x (by rw [hx]; rfl)).2
  rw [hx] at this
  simp only [den] at this
  exact ⟨rfl, none, 0, this, by simp [C.den, denL, C.n], (fun _ => rfl), (fun _ h => by cases h), (fun u hu => by cases hu), rfl⟩
 ·rename_i i hx
  split at h
  ·rename_i c' ty own hi
   split at h
   ·rename_i hc
    simp only [beq_iff_eq] at hc
    subst hc
    simp only [Option.some.injEq, Prod.mk.injEq] at h
    obtain ⟨rfl, rfl⟩ := h
    obtain ⟨_, A, cap, hρ, hlen, hnone, _, _, h0, hcell⟩ := RelM.row hm hi
    have := (ht.ev x (by rw [hx]; rfl)).2
    rw [hx] at this
    simp only [den, hρ, sliceVal] at this
    exact ⟨rfl, A, cap, this, hlen, hnone, hcell, h0, hm.lt i _ hi⟩
   ·cases h
  ·cases h
 ·rename_i i i' hx
  split at h
  ·rename_i k' ls ty own fr hi
   split at h
   ·rename_i hc
    simp only [beq_iff_eq] at hc
    subst hc
    simp only [Option.some.injEq, Prod.mk.injEq] at h
    obtain ⟨rfl, rfl⟩ := h
    obtain ⟨hlen, A, cap, hρ, _, _, hnone, hcell⟩ := hm.inn hi i'
    have := (ht.ev x (by rw [hx]; rfl)).2
    rw [hx, hρ] at this
    refine ⟨rfl, A, cap, this, hlen, hnone, fun ad had => (hcell ad had).2, fun u hu => ?_, rfl⟩
    simp only [C.den, List.mem_flatMap, denL_map, List.mem_map] at hu
    obtain ⟨x, _, c, hc, rfl⟩ := hu
    exact one_den (enc_one k' x c hc)
   ·cases h
  ·cases h
 ·cases h
theorem castL_den (ρ : Nat → Value) {k k' : K} (h : k = k') (l : List k.T) : ((castL h l).flatMap fun a => denL ρ (k'.enc a)) = (l.flatMap fun a => denL ρ (k.enc a)) ∧ (castL h l).length = l.length := by
 subst h; exact ⟨rfl, rfl⟩
theorem cat_spec {c c' d : C} (h : c.cat c' = some d) (hs : c.sz = c'.sz) : d.sz = c.sz ∧ d.n = c.n + c'.n ∧ (∀ ρ, d.den ρ = c.den ρ ++ c'.den ρ) ∧ (∀ k, c.lt k = true → c'.lt k = true → d.lt k = true) := by
 unfold C.cat at h
 split at h
 ·rename_i k l k' l'
  split at h
  ·rename_i hk
   injection h with h
   subst h
   have := fun ρ => castL_den ρ hk l'
   refine ⟨rfl, ?_, fun ρ => ?_, fun _ _ _ => rfl⟩
   ·simp [C.n, (this (fun _ => undef)).2]
   ·simp [C.den, List.flatMap_append, (this ρ).1]
  ·cases h
 ·injection h with h
  subst h
  exact ⟨rfl, rfl, fun ρ => by simp [C.den, denL], fun _ h _ => h⟩
 ·injection h with h
  subst h
  exact ⟨hs.symm, by simp [C.n], fun ρ => by simp [C.den, denL], fun _ _ h => h⟩
 ·split at h
  ·injection h with h
   subst h
   refine ⟨rfl, rfl, fun ρ => by simp [C.den, denL_map], fun k h1 h2 => ?_⟩
   simp only [C.lt, ltL_all, List.all_append, Bool.and_eq_true] at *
   exact ⟨h1, h2⟩
  ·cases h
 ·cases h
def Obj.live' : Obj → Bool
 | .dead _ => false
 | _ => true
theorem live'_iff : ∀ {o : Obj}, (o matches .dead _) = false ↔ o.live' = true := by intro o; cases o <;> simp [Obj.live']
theorem killO_get {m : Mem} {j : Option Nat} {i : Nat} {o : Obj} (h : (killO m j)[i]? = some o) : (o = .dead none ∧ j = some i) ∨ (j ≠ some i ∧ m[i]? = some o) := by
 cases j with
 | none => exact .inr ⟨by simp, h⟩
 | some k =>
  simp only [killO] at h
  by_cases hik : i = k
  ·subst hik
   have hl : i < m.length := by
    have := (List.getElem?_eq_some_iff.1 h).1
    simpa using this
   rw [List.getElem?_set_self hl] at h
   injection h with h
   exact .inl ⟨h.symm, rfl⟩
  ·rw [List.getElem?_set_ne (by omega)] at h
   exact .inr ⟨by simp; omega, h⟩
theorem RelM.grow {W : World} {ρ : Nat → Value} {m : Mem} {w w' : World} (hm : RelM W ρ m w) {j : Option Nat} {xv v' : Value} {d : C} {e : TypeId} {sz n : Nat} {xs : List Value}
  (hwhich : (j = none ∧ xv = .slice none 0 0) ∨ ∃ (i : Nat) (c1 : C), j = some i ∧ xv = ρ i ∧ m[i]? = some (.row c1 e true)) (hown : w.ownsRow W.heap.size e sz xv n xs)
  (hgb : w.grownBy w' xv.ownBlock) (hblk : ∀ b, v'.ownBlock = some b → xv.ownBlock = some b ∨ w.heap.size ≤ b) (hsz : 0 < d.sz) (hdl : d.lt m.length = true) (hone : ∀ u ∈ d.den ρ, oneC u = true)
  (hown' : w'.ownsRow W.heap.size e d.sz v' d.n (d.den ρ)) : RelM W (upd ρ m.length v') (killO m j ++ [.row d e true]) w' ∧ (∃ A' c', v' = .slice A' d.n c') := by
 have hv' : ∃ A' c', v' = .slice A' d.n c' := by
  rcases hown'.2 with ⟨h, h0⟩ | ⟨g, cap, cur, h, _⟩
  ·exact ⟨none, 0, by rw [h, h0]⟩
  ·exact ⟨_, _, h⟩
 have hnt : ∀ vs, v' ≠ .tuple vs := fun vs e => by obtain ⟨A', c', h⟩ := hv'; rw [h] at e; cases e
 have hvb : ∀ b, b ∈ valBlocks v' → xv.ownBlock = some b ∨ w.heap.size ≤ b := by
  intro b hb
  have hb := (blocks_one hnt).1 hb
  obtain ⟨A', c', rfl⟩ := hv'
  exact hblk b (by cases A' <;> simp_all [valBlock, Value.ownBlock])
 have hag := upd_agree ρ m.length v'
 have hkl : (killO m j).length = m.length := by cases j <;> simp [killO]
 refine ⟨?_, hv'⟩
 -- the block of the row that grew
 have hold : ∀ (i : Nat) (ob : Obj), (killO m j)[i]? = some ob → (ob matches .dead _) = false → m[i]? = some ob ∧ ∀ b, b ∈ ob.blocks (ρ i) → xv.ownBlock ≠ some b := by
  intro i ob hi hlive
  rcases killO_get hi with ⟨rfl, _⟩ | ⟨hne, hmi⟩
  ·cases hlive
  ·refine ⟨hmi, fun b hb hown => ?_⟩
   rcases hwhich with ⟨_, hnil⟩ | ⟨k, c1, rfl, hvk, hmk⟩
   ·rw [hnil] at hown; cases hown
   ·have hbk : valBlock (ρ k) = some b := by
     rw [hvk] at hown
     revert hown
     cases ρ k <;> simp [Value.ownBlock, valBlock]
     rename_i A1 _ _
     cases A1 <;> simp
    exact hm.sep k i _ ob (fun hki => hne (by rw [hki])) hmk hmi rfl hlive b (mem_blocks hbk) hb
 have hkeep : ∀ (i : Nat) (ob : Obj), (killO m j)[i]? = some ob → ObjIs W w' ρ (ρ i) ob := by
  intro i ob hi
  cases hlive : ob.deadB
  ·obtain ⟨hmi, hne⟩ := hold i ob hi hlive
   exact (hm.obj i ob hmi).keep (fun b hb hlt => hgb.block b hlt (fun e => hne b hb e.symm)) hgb.size
  ·rcases killO_get hi with ⟨rfl, _⟩ | ⟨_, hmi⟩
   ·trivial
   ·exact (hm.obj i ob hmi).still hlive
 have hbelow : Below W.heap.size W w' := hm.below.grown hgb hm.below.size (fun k hk => (hown.lt k hk).1)
 have hlast : ∀ (i : Nat) (ob : Obj), (killO m j ++ [.row d e true])[i]? = some ob →
   (i < m.length ∧ (killO m j)[i]? = some ob) ∨ (i = m.length ∧ ob = .row d e true) := by
  intro i ob hi
  rw [List.getElem?_append] at hi
  split at hi
  ·rename_i hlt; rw [hkl] at hlt; exact .inl ⟨hlt, hi⟩
  ·rename_i hge
   have hx := List.getElem?_eq_some_iff.1 hi
   obtain ⟨hx, hy⟩ := hx
   simp only [List.length_cons, List.length_nil, hkl] at hx hge
   have hie : i = m.length := by omega
   subst hie
   simp only [hkl, Nat.sub_self, List.getElem?_cons_zero, Option.some.injEq] at hi
   exact .inr ⟨rfl, hi.symm⟩
 refine ⟨hbelow, fun i ob hi => ?_, fun i k o1 o2 hik hi hk' hmut hlive b hb hb' => ?_, fun i ob hi => ?_⟩
 ·rcases hlast i ob hi with ⟨hil, hi⟩ | ⟨rfl, rfl⟩
  ·rw [hag i hil]
   refine (hkeep i ob hi).agree hag ?_
   rcases killO_get hi with ⟨rfl, _⟩ | ⟨_, hmi⟩
   ·rfl
   ·exact hm.lt i ob hmi
  ·rw [upd_same]
   refine ⟨hsz, ?_, ?_⟩
   ·rw [C.den_agree hag d hdl]; exact hone
   ·simp only [if_true]
    rw [C.den_agree hag d hdl]
    exact hown'
 ·rcases hlast i o1 hi with ⟨hil, hi⟩ | ⟨rfl, rfl⟩ <;> rcases hlast k o2 hk' with ⟨hkl', hk'⟩ | ⟨rfl, rfl⟩
  ·rw [hag i hil] at hb
   rw [hag k hkl'] at hb'
   have hl1 := mutB_live hmut
   obtain ⟨hmi, _⟩ := hold i o1 hi hl1
   obtain ⟨hmk, _⟩ := hold k o2 hk' hlive
   exact hm.sep i k o1 o2 hik hmi hmk hmut hlive b hb hb'
  ·rw [hag i hil] at hb
   rw [upd_same] at hb'
   have hl1 := mutB_live hmut
   obtain ⟨hmi, hne⟩ := hold i o1 hi hl1
   have hbo : b ∈ o1.blocks (ρ i) := by rw [blocks_mut hmut]; exact hb
   rcases hvb b (blocks_sub hb') with h | h
   ·exact hne b hbo h
   ·have := ObjIs.lt_heap hbo hl1 (hm.obj i o1 hmi)
    omega
  ·rw [hag k hkl'] at hb'
   rw [upd_same] at hb
   obtain ⟨hmk, hne⟩ := hold k o2 hk' hlive
   rcases hvb b hb with h | h
   ·exact hne b hb' h
   ·have := ObjIs.lt_heap hb' hlive (hm.obj k o2 hmk)
    omega
  ·exact hik rfl
 ·simp only [List.length_append, hkl, List.length_cons, List.length_nil]
  rcases hlast i ob hi with ⟨hil, hi⟩ | ⟨rfl, rfl⟩
  ·rcases killO_get hi with ⟨rfl, _⟩ | ⟨_, hmi⟩
   ·rfl
   ·exact Obj.lt_mono (by omega) ob (hm.lt i ob hmi)
  ·simp only [Obj.lt]
   exact C.lt_mono (by omega) d hdl
theorem opap_ok {P : Program} {T : Nat → TI} {W : World} {ρ : Nat → Value} {m : Mem} {a : Act} {o : Oper} {t : List SV} {w : World} (hT : TOk P T) (ht : RelT ρ m.length t a) (hm : RelM W ρ m w) {e : Bool} {m' : Mem} (h : opap T t m o.op = some (e, m')) (he : e = true) :
  ∃ x w', (execOp a.eval o).run P w = .ok (.value x) w' ∧ RelM W (upd ρ m.length x) m' w' ∧ m'.length = m.length + 1 ∧ x = den (upd ρ m.length x) (.row m.length) := by
 cases hop : o.op with
 | call c =>
  simp only [hop, opap] at h
  split at h
  ·rename_i x y ty ty' hc hargs hat
   split at h
   ·rename_i hcond
    simp only [Bool.and_eq_true, beq_iff_eq, decide_eq_true_eq] at hcond
    obtain ⟨⟨⟨⟨⟨rfl, hk⟩, hke⟩, hsz⟩, hby⟩, hzl⟩ := hcond
    split at h
    ·rename_i j c1 j' c2 hkd hx hy
     split at h
     ·cases h
     split at h
     ·rename_i d hd0
      simp only [Option.some.injEq, Prod.mk.injEq] at h
      obtain ⟨rfl, rfl⟩ := h
      have b1 : c1.n + c2.n ≤ 274877906944 := by
       have := Nat.le_of_ble_eq_true he
       rw [C.len_n, C.len_n] at this
       simpa using this
      obtain ⟨hsz1, hown, ho1, hlt1, hwhich⟩ := ownRow_ok (P := P) (T := T) ht hm hsz hx
      obtain ⟨hsz2, A, cap, hyv, hlen2, hnone, hcell2, ho2, hlt2⟩ := srcRow_ok (P := P) (T := T) ht hm hy
      obtain ⟨hds, hdn, hdd, hdl⟩ := cat_spec hd0 (hsz1.trans hsz2.symm)
      obtain ⟨ti, d, z0, hti, hd, hz, g1, g2, g3, g4, g5, g6, g7, g8, g9⟩ := (hT.ty ty hk).ex
      have := g7 hkd; subst this
      obtain ⟨ei, de, z, hei, hde, hez, q1, q2, q3, q4, q5, q6, q7, q8, q9⟩ := (hT.ty _ hke).ex
      have hzs : z.cells.size = ei.size := by rw [← Array.length_toList, ← q2, hzl, q1]
      have hbytes : (c1.n + c2.n) * ei.bytes ≤ 140737488355328 := by
       have : (c1.n + c2.n) * ei.bytes ≤ 549755813888 * 256 := Nat.mul_le_mul (by omega) (by rw [← q9]; exact hby)
       omega
      rw [q1] at hown hlen2 hsz hsz1
      obtain ⟨v', w', hrun, hown', hgb, hblk⟩ := append_own (P := P) w W.heap.size ty o.type _ ei z hd hei hez hzs hsz _ _ _ hown A _ cap _ hlen2 hnone hcell2 (fun u hu => oneC_cell' (ho2 u hu)) (by unfold maxLen; omega) hbytes hm.below.size
      have hw2 : (j = none ∧ a.eval x = .slice none 0 0) ∨ ∃ (i : Nat) (c1 : C), j = some i ∧ a.eval x = ρ i ∧ m[i]? = some (.row c1 (T ty).elem true) := hwhich.imp id fun ⟨i, h1, h2, h3⟩ => ⟨i, c1, h1, h2, h3⟩
      have hdsz : d.sz = ei.size := by rw [hds, hsz1]
      obtain ⟨hrel, A', c', hv'⟩ := hm.grow (d := d) hw2 hown hgb hblk (by rw [hdsz]; exact hsz) (hdl _ hlt1 hlt2) (fun u hu => by
       rw [hdd, List.mem_append] at hu
       exact hu.elim (ho1 u) (ho2 u)) (by rw [hdsz, hdn, hdd]; exact hown')
      have hkl : (killO m j).length = m.length := by cases j <;> simp [killO]
      refine ⟨v', w', ?_, hrel, by simp [hkl], ?_⟩
      ·have ha : c.args = #[x, y] := by rw [← Array.toArray_toList (xs := c.args), hargs]
       have hb : c.argTypes = #[ty, ty] := by rw [← Array.toArray_toList (xs := c.argTypes), hat]
       rw [← hyv] at hrun
       simp [execOp, hop, resolve, hc, ha, hb, invoke, builtin, hrun]
      ·subst hv'
       simp [den, upd_same, sliceVal]
     ·cases h
    ·cases h
   ·cases h
  ·cases h
 | _ => simp only [hop, opap] at h; cases h
theorem flat_take (ρ : Nat → Value) (k : K) : ∀ (l : List k.T) (n : Nat), (l.take n).flatMap (fun a => denL ρ (k.enc a)) = (l.flatMap fun a => denL ρ (k.enc a)).take (n * k.sz)
 | [], n => by simp
 | a :: r, 0 => by simp
 | a :: r, n + 1 => by
  simp only [List.take_succ_cons, List.flatMap_cons, flat_take ρ k r n]
  rw [List.take_append, List.take_of_length_le (l := denL ρ (k.enc a)) (by simp [enc_len, Nat.add_mul]), zq5, enc_len]
  congr 2
  rw [Nat.add_mul]
  omega
theorem flat_drop (ρ : Nat → Value) (k : K) : ∀ (l : List k.T) (n : Nat), (l.drop n).flatMap (fun a => denL ρ (k.enc a)) = (l.flatMap fun a => denL ρ (k.enc a)).drop (n * k.sz)
 | [], n => by simp
 | a :: r, 0 => by simp
 | a :: r, n + 1 => by
  simp only [List.drop_succ_cons, List.flatMap_cons, flat_drop ρ k r n]
  rw [List.drop_append, List.drop_of_length_le (l := denL ρ (k.enc a)) (by simp [enc_len, Nat.add_mul]), zq5, enc_len, List.nil_append]
  congr 1
  rw [Nat.add_mul]
  omega
theorem sub_spec (c : C) (hf : c.flat = true) (lo hi : Int) (h : 0 ≤ lo ∧ lo ≤ hi ∧ hi ≤ (c.n : Int)) : (c.sub lo hi).sz = c.sz ∧ (c.sub lo hi).n = hi.toNat - lo.toNat ∧ (∀ ρ, (c.sub lo hi).den ρ = ((c.den ρ).take (hi.toNat * c.sz)).drop (lo.toNat * c.sz)) ∧ (∀ k, c.lt k = true → (c.sub lo hi).lt k = true) := by
 cases c with
 | ty k l =>
  simp only [C.n] at h
  refine ⟨rfl, by simp [C.sub, C.n, subL]; omega, fun ρ => ?_, fun _ _ => rfl⟩
  simp only [C.sub, C.den, subL, C.sz, flat_drop, flat_take]
 | sv cs sz n =>
  refine ⟨rfl, rfl, fun ρ => by simp [C.sub, C.den, C.sz, denL_map, List.map_take, List.map_drop], fun k hk => ?_⟩
  simp only [C.lt, C.sub, ltL_all, List.all_eq_true] at *
  exact fun c hc => hk c (List.mem_of_mem_take (List.mem_of_mem_drop hc))
 | nest k l j => cases hf
theorem opsl_ok {P : Program} {T : Nat → TI} {W : World} {ρ : Nat → Value} {m : Mem} {a : Act} {o : Oper} {t : List SV} {w : World} (hT : TOk P T) (ht : RelT ρ m.length t a) (hm : RelM W ρ m w) {e : Bool} {m' : Mem} (h : opsl T t m o.op = some (e, m')) (he : e = true) :
  ∃ x w', (execOp a.eval o).run P w = .ok (.value x) w' ∧ RelM W (upd ρ m.length x) m' w' ∧ m'.length = m.length + 1 ∧ x = den (upd ρ m.length x) (.row m.length) := by
 cases hop : o.op with
 | slice ty x lo hi mx =>
  cases mx with
  | some _ => simp only [hop, opsl] at h; cases h
  | none =>
  simp only [hop, opsl] at h
  split at h
  ·rename_i j hk hkd hx
   split at h
   ·rename_i c bt own hj
    split at h
    ·rename_i hc
     simp only [Bool.and_eq_true, beq_iff_eq] at hc
     obtain ⟨⟨hke, hsz⟩, hfl⟩ := hc
     split at h
     ·rename_i el eh hlo hhi
      simp only [Option.some.injEq, Prod.mk.injEq] at h
      obtain ⟨rfl, rfl⟩ := h
      obtain ⟨kj, hkj⟩ : ∃ kj, kj = (if own then some j else none) := ⟨_, rfl⟩
      rw [← hkj]
      obtain ⟨ow, how⟩ : ∃ ow, ow = (own && lo.isNone) := ⟨_, rfl⟩
      rw [← how]
      have how1 : ow = true → own = true ∧ el = 0 := fun h => by
       rw [how, Bool.and_eq_true] at h
       refine ⟨h.1, ?_⟩
       cases lo with
       | none => simp only [bndE, Option.some.injEq] at hlo; exact hlo.symm
       | some x => simp at h
      simp only [Bool.and_eq_true, decide_eq_true_eq] at he
      obtain ⟨⟨b1, b2⟩, b3⟩ := he
      rw [C.len_n] at b3
      obtain ⟨s1, s2, s3, s4⟩ := sub_spec c hfl el eh (by omega)
      obtain ⟨ti, d, z0, hti, hd, hz, g1, g2, g3, g4, g5, g6, g7, g8, g9⟩ := (hT.ty ty hk).ex
      have := g7 hkd; subst this
      obtain ⟨hs0, A, cap, hρ, hlen, hnone, hncap, hcap, h0, hcell⟩ := RelM.row hm hj
      have hxv := (ht.ev x (by rw [hx]; rfl)).2
      rw [hx] at hxv
      simp only [den, hρ, sliceVal] at hxv
      -- the value
      let v' : Value := .slice (if cap = el.toNat then A else A.map (·.add (el.toNat * c.sz))) (eh.toNat - el.toNat) (cap - el.toNat)
      have hehn : (eh.toNat : Int) = eh := Int.toNat_of_nonneg (by omega)
      have hrun : (Instr.slice ty (.slice A c.n cap) (lo.map a.eval) (hi.map a.eval) none).run P w = .ok v' w := by
       have hnc : (c.n : Int) ≤ (cap : Int) := by omega
       rw [C.len_n] at hhi
       rcases bnd_some hlo ht with ⟨rfl, rfl⟩ | ⟨l, kl, rfl, hl⟩ <;> rcases bnd_some hhi ht with ⟨rfl, rfl⟩ | ⟨h', kh, rfl, hh⟩
       ·simp [Instr.slice, run_underlying hd, Instr.sliceBounds, (hT.ty _ hke).sizeOf, hsz, v']
       ·simp [hh, Instr.slice, run_underlying hd, Instr.sliceBounds, (hT.ty _ hke).sizeOf, hsz, v', run_sliceBound w kh eh cap _ (by omega) (by omega)]
       ·simp [hl, Instr.slice, run_underlying hd, Instr.sliceBounds, (hT.ty _ hke).sizeOf, hsz, v', run_sliceBound w kl el c.n _ b1 (by omega)]
       ·simp [hl, hh, Instr.slice, run_underlying hd, Instr.sliceBounds, (hT.ty _ hke).sizeOf, hsz, v', run_sliceBound w kh eh cap _ (by omega) (by omega), run_sliceBound w kl el eh.toNat _ b1 (by omega)]
      have hvb : ∀ b, b ∈ (Obj.row (c.sub el eh) bt ow).blocks v' → b ∈ (Obj.row c bt own).blocks (ρ j) := by
       intro b hb
       have hnt : ∀ vs, v' ≠ .tuple vs := fun vs h => by simp only [v'] at h; cases h
       cases hw : ow
       ·rw [hw] at hb
        have hb : rdBlock v' = some b := (rd_one hnt).1 (by simpa [Obj.blocks, Obj.mutB] using hb)
        refine rd_blocks (mem_rd ?_)
        rw [hρ]
        have hcp : 0 < cap - el.toNat := by
         rcases Nat.eq_zero_or_pos (cap - el.toNat) with h0 | h0
         ·simp only [v', h0] at hb; cases hb
         ·exact h0
        have hb := rd_val hb
        cases A with
        | none => simp only [v'] at hb; split at hb <;> simp [valBlock] at hb
        | some ad =>
         rw [rd_slice (by omega)]
         simp only [v'] at hb
         split at hb
         ·exact hb
         ·simpa [valBlock, block_add] using hb
       ·rw [blocks_mut (show (Obj.row c bt own).mutB = true from (how1 hw).1)]
        have hb := (blocks_one (v := v') hnt).1 (blocks_sub hb)
        rw [hρ]
        refine mem_blocks ?_
        cases A with
        | none => simp only [v'] at hb; split at hb <;> simp [valBlock] at hb
        | some ad =>
         simp only [v'] at hb
         split at hb
         ·exact hb
         ·simpa [valBlock, block_add] using hb
      have hag := upd_agree ρ m.length v'
      have hkl : (killO m kj).length = m.length := by rw [hkj]; cases own <;> simp [killO]
      refine ⟨v', w, by simp only [execOp, hop, hxv, Instr.sliceAt]; simp [run_underlying hd, hrun], ?_, by simp [hkl], by simp [den, upd_same, sliceVal, v']⟩
      have hold : ∀ (i : Nat) (ob : Obj), (killO m kj)[i]? = some ob → ob.live' = true → m[i]? = some ob ∧ (own = true → i ≠ j) := by
       intro i ob hi hlive
       rcases killO_get hi with ⟨rfl, _⟩ | ⟨hne, hmi⟩
       ·cases hlive
       ·refine ⟨hmi, fun ho hij => hne ?_⟩
        rw [hkj, ho, hij]
        rfl
      have hlast : ∀ (i : Nat) (ob : Obj), (killO m kj ++ [.row (c.sub el eh) bt ow])[i]? = some ob →
        (i < m.length ∧ (killO m kj)[i]? = some ob) ∨ (i = m.length ∧ ob = .row (c.sub el eh) bt ow) := by
       intro i ob hi
       rw [List.getElem?_append] at hi
       split at hi
       ·rename_i hlt; rw [hkl] at hlt; exact .inl ⟨hlt, hi⟩
       ·rename_i hge
        have hx := List.getElem?_eq_some_iff.1 hi
        obtain ⟨hx, hy⟩ := hx
        simp only [List.length_cons, List.length_nil, hkl] at hx hge
        have hie : i = m.length := by omega
        subst hie
        simp only [hkl, Nat.sub_self, List.getElem?_cons_zero, Option.some.injEq] at hi
        exact .inr ⟨rfl, hi.symm⟩
      have hclt := hm.lt j _ hj
      simp only [Obj.lt] at hclt
      have hjl : j < m.length := (List.getElem?_eq_some_iff.1 hj).1
      refine ⟨hm.below, fun i ob hi => ?_, fun i k o1 o2 hik hi hk' hmut hlive b hb hb' => ?_, fun i ob hi => ?_⟩
      ·rcases hlast i ob hi with ⟨hil, hi⟩ | ⟨rfl, rfl⟩
       ·rw [hag i hil]
        cases hlv : ob.live'
        ·rcases killO_get hi with ⟨rfl, _⟩ | ⟨_, hmi⟩
         ·trivial
         ·exact ((hm.obj i ob hmi).agree hag (hm.lt i ob hmi))
        ·obtain ⟨hmi, _⟩ := hold i ob hi hlv
         exact (hm.obj i ob hmi).agree hag (hm.lt i ob hmi)
       ·rw [upd_same]
        refine ⟨by rw [s1]; exact hs0, fun u hu => ?_, ?_⟩
        ·rw [s3, C.den_agree hag c hclt] at hu
         exact h0 u (List.mem_of_mem_take (List.mem_of_mem_drop hu))
        ·cases hw : ow
         rotate_left
         ·obtain ⟨hown1, hel⟩ := how1 hw
          obtain ⟨_, _, hob⟩ := hm.obj j _ hj
          rw [hown1, if_pos rfl] at hob
          rw [if_pos rfl, s3, C.den_agree hag c hclt, s1, s2]
          have hm1 : eh.toNat * c.sz ≤ (c.den ρ).length := by rw [hlen]; exact Nat.mul_le_mul_right _ (by omega)
          subst hel
          have e0 : (0 : Int).toNat = 0 := rfl
          simp only [e0, Nat.zero_mul, List.drop_zero, Nat.sub_zero]
          have hv'A : v' = .slice A eh.toNat cap := by
           simp only [v', e0, Nat.zero_mul, Nat.sub_zero]
           split
           ·rfl
           ·cases A with
            | none => rfl
            | some ad => simp [Addr.add]
          rw [hv'A]
          rw [hρ] at hob
          obtain ⟨hl1, hl2⟩ := hob
          refine ⟨by rw [List.length_take, Nat.min_eq_left hm1], ?_⟩
          rcases hl2 with ⟨hl2, hl3⟩ | ⟨g, cp, cur, hl2, hl3, hl4, hl5, hl6, hl7, hl8⟩
          ·simp only [Value.slice.injEq] at hl2
           obtain ⟨rfl, _, rfl⟩ := hl2
           have : eh.toNat = 0 := by omega
           exact .inl ⟨by rw [this], this⟩
          ·simp only [Value.slice.injEq] at hl2
           obtain ⟨rfl, _, rfl⟩ := hl2
           refine .inr ⟨g, cap, cur, rfl, hl3, hl4, by omega, hl6, hl7, ?_⟩
           rw [← hl8, List.take_take, Nat.min_eq_left (Nat.mul_le_mul_right _ (by omega))]
         simp only [Bool.false_eq_true, if_false]
         rw [s3, C.den_agree hag c hclt, s1, s2]
         have hm1 : eh.toNat * c.sz ≤ (c.den ρ).length := by rw [hlen]; exact Nat.mul_le_mul_right _ (by omega)
         refine ⟨by rw [List.length_drop, List.length_take, Nat.min_eq_left hm1, Nat.sub_mul], _, _, rfl, by omega, by omega, fun hnn => ?_, fun ad had => ?_⟩
         ·cases A with
          | none => have := hnone rfl; omega
          | some ad => split at hnn <;> simp at hnn
         ·cases A with
          | none => split at had <;> simp at had
          | some ad0 =>
           have hlt0 : 0 < cap - el.toNat → ad0.block < w.heap.size := fun hc => ObjIs.lt_heap (v := ρ j) (o := .row c bt own) (rd_blocks (by rw [hρ]; exact mem_rd (rd_slice (by omega)))) rfl (hm.obj j _ hj)
           have hcells : ∀ i u, (((c.den ρ).take (eh.toNat * c.sz)).drop (el.toNat * c.sz))[i]? = some u → w.cell? (ad0.add (el.toNat * c.sz + i)) = some u := by
            intro i u hu
            rw [List.getElem?_drop, List.getElem?_take] at hu
            split at hu
            ·exact hcell ad0 rfl _ u hu
            ·cases hu
           split at had
           ·rename_i hce
            injection had with had
            subst had
            refine ⟨hlt0, fun i u hu => ?_⟩
            have h1 := (List.getElem?_eq_some_iff.1 hu).1
            rw [List.length_drop, List.length_take, Nat.min_eq_left hm1, ← Nat.sub_mul, show eh.toNat - el.toNat = 0 by omega, Nat.zero_mul] at h1
            omega
           ·simp only [Option.map_some, Option.some.injEq] at had
            subst had
            refine ⟨fun hc => by rw [block_add]; exact hlt0 hc, fun i u hu => ?_⟩
            rw [Ma.add_add']
            exact hcells i u hu
      ·rcases hlast i o1 hi with ⟨hil, hi⟩ | ⟨rfl, rfl⟩ <;> rcases hlast k o2 hk' with ⟨hkl', hk'⟩ | ⟨rfl, rfl⟩
       ·rw [hag i hil] at hb
        rw [hag k hkl'] at hb'
        obtain ⟨hmi, _⟩ := hold i o1 hi (by cases o1 <;> first | rfl | cases hmut)
        obtain ⟨hmk, _⟩ := hold k o2 hk' (live'_iff.1 hlive)
        exact hm.sep i k o1 o2 hik hmi hmk hmut hlive b hb hb'
       ·rw [hag i hil] at hb
        rw [upd_same] at hb'
        obtain ⟨hmi, hne⟩ := hold i o1 hi (by cases o1 <;> first | rfl | cases hmut)
        have hbj := hvb b hb'
        by_cases hij : i = j
        ·subst hij
         have : own = true := by
          rw [hj] at hmi
          injection hmi with hmi
          subst hmi
          exact hmut
         exact hne this rfl
        ·exact hm.sep i j o1 _ hij hmi hj hmut rfl b hb hbj
       ·have hmut : ow = true := hmut
        obtain ⟨hown1, _⟩ := how1 hmut
        rw [upd_same] at hb
        rw [hag k hkl'] at hb'
        obtain ⟨hmk, hnk⟩ := hold k o2 hk' (live'_iff.1 hlive)
        subst hown1
        exact hm.sep j k _ o2 (fun e => hnk rfl e.symm) hj hmk rfl hlive b (blocks_sub (hvb b (by rw [blocks_mut (show (Obj.row (c.sub el eh) bt ow).mutB = true from hmut)]; exact hb))) hb'
       ·exact hik rfl
      ·simp only [List.length_append, hkl, List.length_cons, List.length_nil]
       rcases hlast i ob hi with ⟨hil, hi⟩ | ⟨rfl, rfl⟩
       ·rcases killO_get hi with ⟨rfl, _⟩ | ⟨_, hmi⟩
        ·rfl
        ·exact Obj.lt_mono (by omega) ob (hm.lt i ob hmi)
       ·simp only [Obj.lt]
        exact C.lt_mono (by omega) _ (s4 _ hclt)
     ·cases h
    ·cases h
   ·cases h
  ·cases h
 | _ => simp only [hop, opsl] at h; cases h
theorem flat_rep (ρ : Nat → Value) (k : K) {z : k.T} {zs : List Value} (hz : k.enc z = zs.map ofC) : ∀ n : Nat, ((List.replicate n z).flatMap fun a => denL ρ (k.enc a)) = denL ρ (repCells zs n)
 | 0 => rfl
 | n + 1 => by rw [List.replicate_succ, List.flatMap_cons, flat_rep ρ k hz n, repCells, hz]; simp only [denL_map, List.map_append]
theorem flat_clr (ρ : Nat → Value) (k : K) {z : k.T} {zs : List Value} (hz : k.enc z = zs.map ofC) {l : List k.T} {e : Nat} (he : e ≤ l.length) (i : Nat) :
  ((l.take e ++ List.replicate (l.length - e) z).flatMap fun a => denL ρ (k.enc a))[i]? = if e * k.sz ≤ i ∧ i < e * k.sz + (denL ρ (repCells zs (l.length - e))).length then (denL ρ (repCells zs (l.length - e)))[i - e * k.sz]? else (l.flatMap fun a => denL ρ (k.enc a))[i]? := by
 have h1 : zs.length = k.sz := by rw [← enc_len k z, hz, List.length_map]
 have h2 : (denL ρ (repCells zs (l.length - e))).length = (l.length - e) * k.sz := by rw [zq5, repCells_length, h1]
 have h3 : e * k.sz ≤ l.length * k.sz := Nat.mul_le_mul_right _ he
 have h4 : (l.length - e) * k.sz = l.length * k.sz - e * k.sz := Nat.sub_mul _ _ _
 rw [List.flatMap_append, flat_rep ρ k hz, List.getElem?_append, flat_take, List.length_take, rowc_len, Nat.min_eq_left h3]
 split
 ·rw [if_neg (by omega), List.getElem?_take, if_pos (by assumption)]
 ·by_cases hi : i < e * k.sz + (denL ρ (repCells zs (l.length - e))).length
  ·rw [if_pos ⟨by omega, hi⟩]
  ·rw [if_neg (by omega), List.getElem?_eq_none (by omega), List.getElem?_eq_none (by rw [rowc_len]; omega)]
theorem opcl_ok {P : Program} {T : Nat → TI} {W : World} {ρ : Nat → Value} {m : Mem} {a : Act} {o : Oper} {t : List SV} {w : World} {r : List Oper} (hT : TOk P T) (ht : RelT ρ m.length t a) (hm : RelM W ρ m w) {c : ClS} (h : opcl T t m o r = some c) (hc : c.ok = true) :
  ∃ o' r' y w', r = o' :: r' ∧ o'.guard = none ∧ o'.dst = none ∧ (execOp a.eval o).run P w = .ok (.value y) w ∧ (execOp (a.put o.dst y).eval o').run P w = .ok (.value (.tuple #[])) w' ∧ RelM W ρ (c.mem m) w' ∧ (c.mem m).length = m.length := by
 unfold opcl at h
 split at h
 rotate_left
 ·cases h
 rename_i ty x lo d o' r' hop hdst
 split at h
 rotate_left
 ·cases h
 rename_i cc hop' hdst' hg'
 split at h
 rotate_left
 ·cases h
 rename_i d' ty' hcal hargs hat
 split at h
 rotate_left
 ·cases h
 rename_i hcond
 simp only [Bool.and_eq_true, beq_iff_eq, decide_eq_true_eq] at hcond
 obtain ⟨⟨⟨⟨rfl, rfl⟩, hdl⟩, hk⟩, hke⟩ := hcond
 split at h
 rotate_left
 ·cases h
 rename_i j el hkd hx hlo
 split at h
 rotate_left
 ·cases h
 rename_i k l bt hj
 split at h
 rotate_left
 ·cases h
 rename_i hsz
 simp only [beq_iff_eq] at hsz
 obtain ⟨z, hz, hcz⟩ := Option.map_eq_some_iff.1 h
 subst hcz
 simp only [ClS.ok, Bool.and_eq_true, decide_eq_true_eq] at hc
 obtain ⟨b1, b2⟩ := hc
 have b2 : el ≤ (l.length : Int) := b2
 have hez := (dec_enc k _ z hz).1.symm
 obtain ⟨ti, dd, z0, hti, hd, hz0, g1, g2, g3, g4, g5, g6, g7, g8, g9⟩ := (hT.ty _ hk).ex
 have := g7 hkd; subst this
 obtain ⟨hcz0, hob1, hown⟩ := hm.obj j _ hj
 rw [if_pos rfl] at hown
 have hnsz : (C.ty k l).sz = k.sz := rfl
 have hnn : (C.ty k l).n = l.length := rfl
 obtain ⟨zv, hzv, hzc⟩ := (hT.ty _ hke).zero (P := P) w
 have hxv := (ht.ev x (by rw [hx]; rfl)).2
 rw [hx] at hxv
 have hlt1 : el.toNat ≤ l.length := by omega
 -- the slice
 have hrun : ∀ (A : Option Addr) (cap : Nat), l.length ≤ cap → (Instr.slice ty' (.slice A l.length cap) (some (a.eval lo)) none none).run P w = .ok (.slice (if cap = el.toNat then A else A.map (·.add (el.toNat * k.sz))) (l.length - el.toNat) (cap - el.toNat)) w := by
  intro A cap hcap
  rcases bnd_some hlo ht with ⟨h0, _⟩ | ⟨l', kl, h0, hl⟩
  ·cases h0
  ·cases h0
   simp [hl, Instr.slice, run_underlying hd, Instr.sliceBounds, (hT.ty _ hke).sizeOf, hsz, run_sliceBound w kl el l.length _ b1 (by omega)]
 have hput : ∀ y : Value, (a.put (some d') y).eval (.tmp d') = y := by
  intro y
  have : d' < a.tmps.size := by rw [ht.size]; exact hdl
  simp [Act.put, Act.eval, this]
 have ha : cc.args = #[.tmp d'] := by rw [← Array.toArray_toList (xs := cc.args), hargs]
 have hb : cc.argTypes = #[ty'] := by rw [← Array.toArray_toList (xs := cc.argTypes), hat]
 have hcmem : ∀ l' : List k.T, (m.set j (.row (.ty k l') bt true)).length = m.length := fun l' => by simp
 have hflat := flat_clr ρ k hez hlt1
 have hzl : (T (T ty').elem).zero.length = k.sz := by rw [← enc_len k z, hez, List.length_map]
 have hvl : (denL ρ (repCells (T (T ty').elem).zero (l.length - el.toNat))).length = (l.length - el.toNat) * k.sz := by rw [zq5, repCells_length, hzl]
 have hl' : (clrL l el z).length = l.length := by simp [clrL]; omega
 rcases hown.2 with ⟨hv, h0⟩ | ⟨g, cap, cur, hv, hbase, hheap, hnc, hcm, hcs, htake⟩
 · -- nothing there
  have h0 : l.length = 0 := h0
  have hl0 : l = [] := List.eq_nil_of_length_eq_zero h0
  subst hl0
  have hel0 : el.toNat = 0 := by simpa using hlt1
  have hcl : clrL ([] : List k.T) el z = [] := by simp [clrL]
  refine ⟨o', r', .slice none 0 0, w, rfl, hg', hdst', ?_, ?_, ?_, hcmem _⟩
  ·have := hrun none 0 (by simp)
   simp only [hel0, List.length_nil, Nat.sub_self, if_true] at this
   simp only [den, hv, sliceVal] at hxv
   simp only [execOp, hop, hxv, Instr.sliceAt]
   simp [run_underlying hd, this]
  ·rw [hdst]
   simp [execOp, hop', resolve, hcal, ha, hb, hput, invoke, builtin, Builtin.clear_, run_underlying hd]
  ·show RelM W ρ (m.set j (.row (.ty k (clrL [] el z)) bt true)) w
   have hself : m.set j (.row (.ty k []) bt true) = m := by
    apply List.ext_getElem?
    intro q
    by_cases hq : j = q
    ·subst hq
     rw [List.getElem?_set_self (List.getElem?_eq_some_iff.1 hj).1, hj]
    ·rw [List.getElem?_set_ne hq]
   rw [hcl, hself]
   exact hm
 ·have hnc : l.length ≤ cap := hnc
  have hcs' : cur.size = cap * k.sz := hcs
  have hv' : ρ j = .slice (some ⟨g, 0, none⟩) l.length cap := hv
  have hn2 : l.length * k.sz ≤ cap * k.sz := Nat.mul_le_mul_right _ hnc
  have hn3 : el.toNat * k.sz + (l.length - el.toNat) * k.sz = l.length * k.sz := by rw [← Nat.add_mul]; congr 1; omega
  simp only [den, hv', sliceVal] at hxv
  have hst := hm.storeSeg hj hl' (off := el.toNat * k.sz) (vs := denL ρ (repCells (T (T ty').elem).zero (l.length - el.toNat))) (by rw [hvl]; omega) hflat g cap hv'
  refine ⟨o', r', .slice (if cap = el.toNat then some ⟨g, 0, none⟩ else some ⟨g, el.toNat * k.sz, none⟩) (l.length - el.toNat) (cap - el.toNat), w.setCells g (el.toNat * k.sz) (denL ρ (repCells (T (T ty').elem).zero (l.length - el.toNat))), rfl, hg', hdst', ?_, ?_, hst, hcmem _⟩
  ·have h1 := hrun (some ⟨g, 0, none⟩) cap hnc
   have e1 : (Option.map (fun x : Addr => x.add (el.toNat * k.sz)) (some ⟨g, 0, none⟩)) = some ⟨g, el.toNat * k.sz, none⟩ := by
    simp only [Option.map_some, Option.some.injEq]
    rw [add_zero_addr, Nat.zero_add]
   rw [e1] at h1
   simp only [execOp, hop, hxv, Instr.sliceAt]
   simp [run_underlying hd, h1]
  ·rw [hdst]
   by_cases hn0 : l.length - el.toNat = 0
   ·have : denL ρ (repCells (T (T ty').elem).zero (l.length - el.toNat)) = [] := by rw [hn0]; rfl
    rw [this]
    simp only [World.setCells]
    cases hce : decide (cap = el.toNat) <;> simp at hce <;> simp [execOp, hop', resolve, hcal, ha, hb, hput, invoke, builtin, Builtin.clear_, run_underlying hd, hn0, hce]
   ·have hce : cap ≠ el.toNat := by omega
    have hzc' : (Builtin.zeroCells zv.cells (l.length - el.toNat)).toList = denL ρ (repCells (T (T ty').elem).zero (l.length - el.toNat)) := by
     have hp : 0 < zv.cells.size := by rw [← Array.length_toList, hzc, hzl]; exact sz_pos k
     have := repCells_den (ρ := ρ) zv.cells hp (l.length - el.toNat)
     rw [hzc] at this
     unfold Builtin.zeroCells
     rw [this]
    have hst2 := run_storeCells_cells (P := P) g (el.toNat * k.sz) (denL ρ (repCells (T (T ty').elem).zero (l.length - el.toNat))) 0 w (fun q hq => by
      rw [hvl] at hq
      rw [cells_of_blk hheap, Array.getElem?_eq_getElem (by omega)]; rfl)
     (fun q hq => by simp [World.frozen?, hheap]) (fun v hv => by
      rw [← flat_rep ρ k hez] at hv
      simp only [List.mem_flatMap, denL_map, List.mem_map] at hv
      obtain ⟨y, _, c, hc, rfl⟩ := hv
      exact oneC_cell' (one_den (enc_one k y c hc)))
    obtain ⟨q, hq⟩ : ∃ q, l.length - el.toNat = q + 1 := ⟨l.length - el.toNat - 1, by omega⟩
    rw [hq] at hzc' hst2 ⊢
    simp [execOp, hop', resolve, hcal, ha, hb, hput, invoke, builtin, Builtin.clear_, run_underlying hd, hce, hzv, hzc', hst2]
theorem flat_get (ρ : Nat → Value) (k : K) : ∀ (l : List k.T) (i : Nat) (a : k.T), l[i]? = some a → ∀ (q : Nat) (u : Value), (denL ρ (k.enc a))[q]? = some u → (l.flatMap fun a => denL ρ (k.enc a))[i * k.sz + q]? = some u
 | [], i, a, h => by simp at h
 | b :: r, 0, a, h => by
  intro q u hu
  simp only [List.getElem?_cons_zero, Option.some.injEq] at h
  subst h
  have hq : q < (denL ρ (k.enc b)).length := (List.getElem?_eq_some_iff.1 hu).1
  rw [List.flatMap_cons, Nat.zero_mul, Nat.zero_add, List.getElem?_append_left hq]
  exact hu
 | b :: r, i + 1, a, h => by
  intro q u hu
  rw [List.flatMap_cons, List.getElem?_append_right (by simp [enc_len, Nat.add_mul]; omega), zq5, enc_len]
  have := flat_get ρ k r i a (by simpa using h) q u hu
  rw [← this]
  congr 1
  rw [Nat.add_mul]
  omega
theorem geti_some {α : Type} {l : List α} {i : Int} {a : α} (h : geti l i = some a) : 0 ≤ i ∧ l[i.toNat]? = some a := by
 unfold geti at h
 split at h
 ·exact ⟨by assumption, h⟩
 ·cases h
theorem nest_cons (ρ : Nat → Value) (k : K) (v : Value) (a : k.T) (r : List k.T) (s : Nat) : nestDen ρ k v (a :: r) s = (denL ρ (k.enc a) ++ [innV v (s : Int)]) ++ nestDen ρ k v r (s + 1) := by simp [nestDen]
theorem nest_get (ρ : Nat → Value) (k : K) (v : Value) : ∀ (l : List k.T) (s i : Nat) (a : k.T), l[i]? = some a → ∀ (q : Nat) (u : Value), (denL ρ (k.enc a) ++ [innV v ((s + i : Nat) : Int)])[q]? = some u → (nestDen ρ k v l s)[i * (k.sz + 1) + q]? = some u
 | [], s, i, a, h => by simp at h
 | b :: r, s, 0, a, h => by
  intro q u hu
  simp only [List.getElem?_cons_zero, Option.some.injEq] at h
  subst h
  rw [Nat.add_zero] at hu
  rw [nest_cons, Nat.zero_mul, Nat.zero_add, List.getElem?_append_left (List.getElem?_eq_some_iff.1 hu).1]
  exact hu
 | b :: r, s, i + 1, a, h => by
  intro q u hu
  have hl : (denL ρ (k.enc b) ++ [innV v (s : Int)]).length = k.sz + 1 := by simp [enc_len]
  rw [nest_cons, List.getElem?_append_right (by rw [hl, Nat.add_mul]; omega), hl]
  have := nest_get ρ k v r (s + 1) i a (by simpa using h) q u (by rw [show s + 1 + i = s + (i + 1) by omega]; exact hu)
  rw [← this]
  congr 1
  rw [Nat.add_mul]
  omega
theorem nest_len (ρ : Nat → Value) (k : K) (v : Value) : ∀ (l : List k.T) (s : Nat), (nestDen ρ k v l s).length = l.length * (k.sz + 1)
 | [], _ => by simp [nestDen]
 | a :: r, s => by rw [nest_cons, List.length_append, nest_len ρ k v r]; simp [enc_len, Nat.add_mul]; omega
theorem rd_core {P : Program} {T : Nat → TI} (hT : TOk P T) {ty : TypeId} (hk : (T ty).known = true) {k : K} {x : k.T} {tl : List SV} {off n : Nat} {v : SV} (hv : (takeCells (k.enc x ++ tl) off (T ty).size).bind (valOf (T ty)) = some v) (htl : ltL n tl = true) :
  v.lt n = true ∧ ∀ (w : World) (ρ : Nat → Value) (adr : Addr), (∀ (q : Nat) (u : Value), (denL ρ (k.enc x ++ tl))[q]? = some u → w.cell? (adr.add q) = some u) → (loadVar ty (adr.add off)).run P w = .ok (den ρ v) w := by
 obtain ⟨cs, hcs, hv⟩ := Option.bind_eq_some_iff.1 hv
 obtain ⟨hcse, hlen, hget, hone⟩ := takeCells_spec hcs
 have hlt0 : ltL n cs = true := by
  rw [hcse, ltL_all, List.all_eq_true]
  intro c hc
  have hm : c ∈ k.enc x ++ tl := List.mem_of_mem_drop (List.mem_of_mem_take hc)
  rcases List.mem_append.1 hm with hm | hm
  ·cases k <;> (simp only [K.enc] at hm; revert hm; simp) <;> (intro hm; rcases hm with rfl | rfl | rfl | rfl | rfl | rfl | rfl | rfl | rfl | rfl | rfl | rfl | rfl | rfl) <;> rfl
  ·rw [ltL_all, List.all_eq_true] at htl
   exact htl c hm
 refine ⟨?_, fun w ρ adr hcell => ?_⟩
 ·unfold valOf at hv
  split at hv
  ·injection hv with hv; subst hv; simpa [SV.lt] using hlt0
  ·split at hv
   ·injection hv with hv; subst hv; simpa [ltL] using hlt0
   ·cases hv
 ·exact run_loadVar (hT.ty ty hk) (w := w) (a := adr.add off) (ρ := ρ) hlen hv (fun q y hq => by
   rw [Ma.add_add']
   refine hcell _ _ ?_
   have hql : q < (T ty).size := by rw [← hlen]; exact (List.getElem?_eq_some_iff.1 hq).1
   rw [denL_map, List.getElem?_map, hget q hql, hq]
   rfl)
theorem oprd_ok {P : Program} {T : Nat → TI} {W : World} {ρ : Nat → Value} {m : Mem} {a : Act} {o : Oper} {t : List SV} (hT : TOk P T) (hlt : ∀ (j : Nat) (ob : Obj), m[j]? = some ob → ob.lt m.length = true) (ht : RelT ρ m.length t a) {r : RdL} {x : r.k.T} {v : SV} (h : oprd T t m o.op = some r) (hx : geti r.l r.i = some x) (hv : r.val x = some v) :
  ∃ y, (∀ w, RelM W ρ m w → (execOp a.eval o).run P w = .ok (.value y) w) ∧ (v.lt m.length = true ∧ y = den ρ v) := by
 cases hop : o.op with
 | load ty ad =>
  simp only [hop, oprd] at h
  split at h
  ·rename_i j e' sz' off' had
   split at h
   ·rename_i k l bt own hj
    split at h
    ·rename_i hc
     simp only [Bool.and_eq_true, beq_iff_eq, decide_eq_true_eq] at hc
     obtain ⟨⟨hk, rfl⟩, hs⟩ := hc
     injection h with h
     subst h
     simp only [RdL.val] at hv hx
     obtain ⟨hvl, hrd⟩ := rd_core (P := P) hT hk hv (n := m.length) rfl
     obtain ⟨_, hxl⟩ := geti_some hx
     have h1 := (ht.ev ad (by rw [had]; rfl)).2
     rw [had] at h1
     refine ⟨den ρ v, fun w hw => ?_, hvl, rfl⟩
     obtain ⟨hs0, A, cap, hρ, hlen', hnone, _, _, _, hcell⟩ := RelM.row hw hj
     have hil : e'.toNat < l.length := (List.getElem?_eq_some_iff.1 hxl).1
     cases A with
     | none => have := hnone rfl; simp only [C.n] at this; omega
     | some adr =>
      simp only [den, hρ, elemPtr] at h1
      have hrun := hrd w ρ (adr.add (e'.toNat * k.sz)) fun q u hq => by
       rw [List.append_nil] at hq
       rw [Ma.add_add']
       exact hcell adr rfl _ _ (flat_get ρ k l _ x hxl _ _ hq)
      simp [execOp, hop, h1, Instr.loadAt, Instr.sureAddr, hrun]
    ·cases h
   ·rename_i k l jb bt own hj
    split at h
    ·rename_i hc
     simp only [Bool.and_eq_true, beq_iff_eq, decide_eq_true_eq] at hc
     obtain ⟨⟨hk, rfl⟩, hs⟩ := hc
     injection h with h
     subst h
     simp only [RdL.val] at hv hx
     have hjb := hlt j _ hj
     obtain ⟨hvl, hrd⟩ := rd_core (P := P) hT hk hv (n := m.length) (by simpa [ltL, SV.lt, Obj.lt, C.lt] using hjb)
     obtain ⟨he0, hxl⟩ := geti_some hx
     have h1 := (ht.ev ad (by rw [had]; rfl)).2
     rw [had] at h1
     refine ⟨den ρ v, fun w hw => ?_, hvl, rfl⟩
     obtain ⟨hs0, A, cap, hρ, hlen', hnone, _, _, _, hcell⟩ := RelM.row hw hj
     have hil : e'.toNat < l.length := (List.getElem?_eq_some_iff.1 hxl).1
     cases A with
     | none => have := hnone rfl; simp only [C.n] at this; omega
     | some adr =>
      simp only [den, hρ, elemPtr] at h1
      have hrun := hrd w ρ (adr.add (e'.toNat * (k.sz + 1))) fun q u hq => by
       rw [Ma.add_add']
       refine hcell adr rfl _ _ (nest_get ρ k _ l 0 _ x hxl _ _ ?_)
       rw [denL_map, List.map_append, ← denL_map] at hq
       rw [Nat.zero_add, Int.toNat_of_nonneg he0]
       exact hq
      simp [execOp, hop, h1, Instr.loadAt, Instr.sureAddr, hrun]
    ·cases h
   ·cases h
  ·rename_i j i' e' sz' off' had
   split at h
   ·rename_i k ls bt own fr hj
    split at h
    ·rename_i hc
     simp only [Bool.and_eq_true, beq_iff_eq, decide_eq_true_eq] at hc
     obtain ⟨⟨hk, rfl⟩, hs⟩ := hc
     injection h with h
     subst h
     simp only [RdL.val] at hv hx
     obtain ⟨hvl, hrd⟩ := rd_core (P := P) hT hk hv (n := m.length) rfl
     obtain ⟨_, hxl⟩ := geti_some hx
     have h1 := (ht.ev ad (by rw [had]; rfl)).2
     rw [had] at h1
     refine ⟨den ρ v, fun w hw => ?_, hvl, rfl⟩
     obtain ⟨hlen', A, cap, hρ, _, _, hnone, hcell⟩ := hw.inn hj i'
     simp only [den] at hρ
     have hil : e'.toNat < (getL ls i').length := (List.getElem?_eq_some_iff.1 hxl).1
     cases A with
     | none => have := hnone rfl; omega
     | some adr =>
      simp only [den, hρ, elemPtr] at h1
      have hrun := hrd w ρ (adr.add (e'.toNat * k.sz)) fun q u hq => by
       rw [List.append_nil] at hq
       rw [Ma.add_add']
       exact (hcell adr rfl).2 _ _ (flat_get ρ k _ _ x hxl _ _ hq)
      simp [execOp, hop, h1, Instr.loadAt, Instr.sureAddr, hrun]
    ·cases h
   ·cases h
  ·cases h
 | _ => simp only [hop, oprd] at h; cases h
theorem opnil_ok {P : Program} {T : Nat → TI} {W : World} {ρ : Nat → Value} {m : Mem} {a : Act} {o : Oper} {t : List SV} {w : World} (hT : TOk P T) (ht : RelT ρ m.length t a) (hm : RelM W ρ m w) {ty : TypeId} {ob : Obj} (h : opnil T ty o.op = some ob) :
  ∃ x, (execOp a.eval o).run P w = .ok (.value x) w ∧ Agree m.length ρ (upd ρ m.length x) ∧ RelM W (upd ρ m.length x) (m ++ [ob]) w ∧ x = den (upd ρ m.length x) (.row m.length) := by
 have gen : ∀ (k : K), (o.op = .move (.const (.slice none 0 0)) ∨ o.op = .assign (.const (.slice none 0 0))) → ob = .row (.ty k []) (T ty).elem true → ∃ x, (execOp a.eval o).run P w = .ok (.value x) w ∧ Agree m.length ρ (upd ρ m.length x) ∧ RelM W (upd ρ m.length x) (m ++ [ob]) w ∧ x = den (upd ρ m.length x) (.row m.length) := by
  intro k ho hob
  subst hob
  refine ⟨.slice none 0 0, by rcases ho with ho | ho <;> simp [execOp, ho, Act.eval], upd_agree _ _ _, ?_, by simp [den, upd_same, sliceVal]⟩
  have h1 : (C.ty k []).den ρ = [] := rfl
  refine hm.push (Below.refl _ _) ⟨(sz_pos k : 0 < k.sz), ?_, World.ownsRow_nil w _ _ _⟩ rfl (fun b hb => by have hb := blocks_sub hb; simp [valBlocks, valBlock] at hb)
  intro u hu
  rw [h1] at hu
  cases hu
 unfold opnil at h
 split at h
 ·rename_i hop
  split at h
  ·split at h
   ·rename_i k _
    split at h
    ·injection h with h; exact gen k (.inl hop) h.symm
    ·cases h
   ·cases h
  ·cases h
 ·rename_i hop
  split at h
  ·split at h
   ·rename_i k _
    split at h
    ·injection h with h; exact gen k (.inr hop) h.symm
    ·cases h
   ·cases h
  ·cases h
 ·cases h
end Go.Ma
namespace Go.Ma
open Go Go.RowKit
theorem ObjIs.shut {W w : World} {ρ : Nat → Value} {v : Value} : ∀ {o : Obj}, ObjIs W w ρ v o → ObjIs W w ρ v o.shut
 | .dead none, _ => trivial
 | .dead (some (_, _)), h => h
 | .ghost, _ => trivial
 | .blk _ _ _, ⟨b, arr, h1, _, h3⟩ => ⟨b, arr, h1, (fun h => by cases h), h3⟩
 | .row c ty own, ⟨h1, h0, h3⟩ => by
  refine ⟨h1, h0, ?_⟩
  simp only [Bool.false_eq_true, if_false]
  cases own
  ·simpa using h3
  ·exact ownsRow_is (by simpa using h3)
 | .bag k ls ty own fr, ⟨vs, h1, h2, h3, h4, h5⟩ => by
  refine ⟨vs, h1, h2, fun i x l hi hl => ?_, (fun h => by cases h), fun hf x hx b hb => ?_⟩
  ·have := h3 i x l hi hl
   simp only [Bool.false_eq_true, if_false]
   cases own
   ·simpa using this
   ·exact ownsRow_is (by simpa using this)
  ·cases own
   ·exact h5 (by simpa using hf) x hx b hb
   ·obtain ⟨i, hi⟩ := List.mem_iff_getElem?.1 hx
    have hil : i < ls.length := by rw [← h2]; exact (List.getElem?_eq_some_iff.1 hi).1
    have := h3 i x _ hi (List.getElem?_eq_getElem hil)
    simp only [if_true] at this
    exact (ownsRow_lt this hb).1
theorem shut_mut (o : Obj) : o.shut.mutB = false := by cases o <;> rfl
theorem shut_live (o : Obj) (h : o.shut.live' = true) : o.live' = true := by cases o <;> first | rfl | cases h
theorem shut_lt (o : Obj) (n : Nat) : o.shut.lt n = o.lt n := by
 cases o <;> rfl
theorem shut_shut (o : Obj) : o.shut.shut = o.shut := by cases o <;> rfl
theorem RelM.weak {W : World} {ρ : Nat → Value} {m : Mem} {w : World} (h : RelM W ρ m w) {j : Nat} {o o' : Obj} (hj : m[j]? = some o) (hobj : ObjIs W w ρ (ρ j) o') (hmu : o'.mutB = true → o.mutB = true) (hlv : o'.live' = true → o.live' = true)
  (hlt : o'.lt m.length = true) (hbl : ∀ v b, b ∈ o'.blocks v → b ∈ o.blocks v) : RelM W ρ (m.set j o') w := by
 have hjl : j < m.length := (List.getElem?_eq_some_iff.1 hj).1
 have hset : ∀ (i : Nat) (x : Obj), (m.set j o')[i]? = some x → (i = j ∧ x = o') ∨ (i ≠ j ∧ m[i]? = some x) := by
  intro i x hi
  by_cases hij : i = j
  ·subst hij
   rw [List.getElem?_set_self hjl] at hi
   injection hi with hi
   exact .inl ⟨rfl, hi.symm⟩
  ·rw [List.getElem?_set_ne (by omega)] at hi
   exact .inr ⟨hij, hi⟩
 refine ⟨h.below, fun i x hi => ?_, fun i k x y hik hi hk hm hd b hb => ?_, fun i x hi => ?_⟩
 ·rcases hset i x hi with ⟨rfl, rfl⟩ | ⟨_, hi⟩
  ·exact hobj
  ·exact h.obj i x hi
 ·have h1 : ∃ x', m[i]? = some x' ∧ x'.mutB = true := by
   rcases hset i x hi with ⟨rfl, rfl⟩ | ⟨_, hi⟩
   ·exact ⟨_, hj, hmu hm⟩
   ·exact ⟨_, hi, hm⟩
  have h2 : ∃ y', m[k]? = some y' ∧ y'.live' = true ∧ ∀ b, b ∈ y.blocks (ρ k) → b ∈ y'.blocks (ρ k) := by
   rcases hset k y hk with ⟨rfl, rfl⟩ | ⟨_, hk⟩
   ·exact ⟨_, hj, hlv (live'_iff.1 hd), fun b => hbl _ b⟩
   ·exact ⟨_, hk, live'_iff.1 hd, fun _ h => h⟩
  obtain ⟨x', hx, hxm⟩ := h1
  obtain ⟨y', hy, hyl, hyb⟩ := h2
  exact fun h3 => h.sep i k x' y' hik hx hy hxm (live'_iff.2 hyl) b hb (hyb b h3)
 ·rw [List.length_set]
  rcases hset i x hi with ⟨rfl, rfl⟩ | ⟨_, hi⟩
  ·exact hlt
  ·exact h.lt i x hi
theorem RelM.kill {W : World} {ρ : Nat → Value} {m : Mem} {w : World} (h : RelM W ρ m w) (j : Nat) : RelM W ρ (m.set j (.dead none)) w := by
 by_cases hj : j < m.length
 ·exact h.weak (List.getElem?_eq_getElem hj) trivial (fun h => by cases h) (fun h => by cases h) rfl (fun v b h => rd_blocks (by simpa [Obj.blocks, Obj.mutB] using h))
 ·rw [List.set_eq_of_length_le (by omega)]
  exact h
theorem RelM.shutAt {W : World} {ρ : Nat → Value} {m : Mem} {w : World} (h : RelM W ρ m w) (j : Nat) : RelM W ρ (m.set j (m.getD j (.dead none)).shut) w := by
 by_cases hj : j < m.length
 ·have e : m.getD j (.dead none) = m[j] := by rw [List.getD_eq_getElem?_getD, List.getElem?_eq_getElem hj]; rfl
  have hg := List.getElem?_eq_getElem hj
  rw [e]
  exact h.weak hg (h.obj j _ hg).shut (fun h => by rw [shut_mut] at h; cases h) (shut_live _) (by rw [shut_lt]; exact h.lt j _ hg) (fun v b h => rd_blocks (by simpa [Obj.blocks, shut_mut] using h))
 ·rw [List.set_eq_of_length_le (by omega)]
  exact h
theorem killL_spec {W : World} {ρ : Nat → Value} {w : World} : ∀ (js : List Nat) (m : Mem), RelM W ρ m w → RelM W ρ (killL js m) w ∧ (killL js m).length = m.length ∧ (∀ (i : Nat) (o' : Obj), (killL js m)[i]? = some o' → (i ∈ js ∧ o' = .dead none) ∨ (i ∉ js ∧ m[i]? = some o')) ∧ ∀ i, i ∉ js → (killL js m)[i]? = m[i]?
 | [], m, h => ⟨h, rfl, fun i o' hi => .inr ⟨by simp, hi⟩, fun _ _ => rfl⟩
 | j :: r, m, h => by
  obtain ⟨h1, h2, h3, h4⟩ := killL_spec r (m.set j (.dead none)) (h.kill j)
  refine ⟨h1, by rw [killL, h2, List.length_set], fun i o' hi => ?_, fun i hi => ?_⟩
  ·rcases h3 i o' hi with ⟨a, b⟩ | ⟨a, b⟩
   ·exact .inl ⟨by simp [a], b⟩
   ·by_cases hij : i = j
    ·subst hij
     have hl : i < m.length := by simpa using (List.getElem?_eq_some_iff.1 b).1
     rw [List.getElem?_set_self hl] at b
     injection b with b
     exact .inl ⟨by simp, b.symm⟩
    ·rw [List.getElem?_set_ne (by omega)] at b
     exact .inr ⟨by simp [a, hij], b⟩
  ·simp only [List.mem_cons, not_or] at hi
   rw [killL, h4 i hi.2, List.getElem?_set_ne (by omega)]
theorem shutL_spec {W : World} {ρ : Nat → Value} {w : World} : ∀ (js : List Nat) (m : Mem), RelM W ρ m w → RelM W ρ (shutL js m) w ∧ (shutL js m).length = m.length ∧ (∀ (i : Nat) (o' : Obj), (shutL js m)[i]? = some o' → ∃ o, m[i]? = some o ∧ ((i ∈ js ∧ o' = o.shut) ∨ (i ∉ js ∧ o' = o))) ∧ ∀ i, i ∉ js → (shutL js m)[i]? = m[i]?
 | [], m, h => ⟨h, rfl, fun i o' hi => ⟨o', hi, .inr ⟨by simp, rfl⟩⟩, fun _ _ => rfl⟩
 | j :: r, m, h => by
  obtain ⟨h1, h2, h3, h4⟩ := shutL_spec r (m.set j (m.getD j (.dead none)).shut) (h.shutAt j)
  refine ⟨h1, by rw [shutL, h2, List.length_set], fun i o' hi => ?_, fun i hi => ?_⟩
  ·obtain ⟨o, ho, hh⟩ := h3 i o' hi
   by_cases hij : i = j
   ·subst hij
    have hl : i < m.length := by simpa using (List.getElem?_eq_some_iff.1 ho).1
    rw [List.getElem?_set_self hl] at ho
    injection ho with ho
    have e : m.getD i (.dead none) = m[i] := by rw [List.getD_eq_getElem?_getD, List.getElem?_eq_getElem hl]; rfl
    rw [e] at ho
    refine ⟨m[i], List.getElem?_eq_getElem hl, .inl ⟨by simp, ?_⟩⟩
    rcases hh with ⟨_, hh⟩ | ⟨_, hh⟩
    ·rw [hh, ← ho, shut_shut]
    ·rw [hh, ← ho]
   ·rw [List.getElem?_set_ne (by omega)] at ho
    refine ⟨o, ho, ?_⟩
    rcases hh with ⟨a, b⟩ | ⟨a, b⟩
    ·exact .inl ⟨by simp [a], b⟩
    ·exact .inr ⟨by simp [a, hij], b⟩
  ·simp only [List.mem_cons, not_or] at hi
   rw [shutL, h4 i hi.2, List.getElem?_set_ne (by omega)]
theorem goneL_spec {W : World} {ρ : Nat → Value} {w : World} {m : Mem} (own : Bool) (js : List Nat) (h : RelM W ρ m w) : RelM W ρ (goneL own js m) w ∧ (goneL own js m).length = m.length ∧
  (∀ (i : Nat) (o' : Obj), (goneL own js m)[i]? = some o' → ∃ o, m[i]? = some o ∨ (o'.live' = false ∧ o = .dead none)) ∧
  (∀ (i : Nat) (o' : Obj), (goneL own js m)[i]? = some o' → o'.mutB = true → i ∉ js ∧ m[i]? = some o') ∧
  (∀ (i : Nat) (o' : Obj), (goneL own js m)[i]? = some o' → own = true → o'.live' = true → i ∉ js ∧ m[i]? = some o') ∧ ∀ i, i ∉ js → (goneL own js m)[i]? = m[i]? := by
 unfold goneL
 cases own
 ·simp only [Bool.false_eq_true, if_false]
  obtain ⟨h1, h2, h3, h4⟩ := shutL_spec js m h
  refine ⟨h1, h2, fun i o' hi => ?_, fun i o' hi hm => ?_, (fun _ _ _ h => by cases h), h4⟩
  ·obtain ⟨o, ho, _⟩ := h3 i o' hi
   exact ⟨o, .inl ho⟩
  ·obtain ⟨o, ho, hh⟩ := h3 i o' hi
   rcases hh with ⟨_, b⟩ | ⟨a, b⟩
   ·rw [b, shut_mut] at hm; cases hm
   ·exact ⟨a, by rw [b]; exact ho⟩
 ·simp only [if_true]
  obtain ⟨h1, h2, h3, h4⟩ := killL_spec js m h
  refine ⟨h1, h2, fun i o' hi => ?_, fun i o' hi hm => ?_, fun i o' hi _ hl => ?_, h4⟩
  ·rcases h3 i o' hi with ⟨_, b⟩ | ⟨_, b⟩
   ·exact ⟨.dead none, .inr ⟨by rw [b]; rfl, rfl⟩⟩
   ·exact ⟨_, .inl b⟩
  ·rcases h3 i o' hi with ⟨_, b⟩ | h
   ·rw [b] at hm; cases hm
   ·exact h
  ·rcases h3 i o' hi with ⟨_, b⟩ | h
   ·rw [b] at hl; cases hl
   ·exact h
theorem RelM.bagPush {W : World} {ρ : Nat → Value} {m : Mem} {w : World} (h : RelM W ρ m w) {k : K} {ls : List (List k.T)} {ity : TypeId} {own fr : Bool} {vs : List Value} (js : List Nat) (hlen : vs.length = ls.length)
  (hrow : ∀ (i : Nat) (x : Value) (l : List k.T), vs[i]? = some x → ls[i]? = some l → RowIs w x l.length k.sz ((C.ty k l).den ρ) ∧ (own = true → w.ownsRow W.heap.size ity k.sz x l.length ((C.ty k l).den ρ)))
  (hsrc : ∀ x ∈ vs, ∀ b, rdBlock x = some b → ∃ j ∈ js, ∃ o, m[j]? = some o ∧ o.live' = true ∧ b ∈ o.blocks (ρ j))
  (hsrcO : own = true → ∀ x ∈ vs, ∀ b, valBlock x = some b → ∃ j ∈ js, ∃ o, m[j]? = some o ∧ b ∈ valBlocks (ρ j) ∧ o.mutB = true)
  (hdist : own = true → ∀ (i j : Nat) (x y : Value) (b : Nat), i ≠ j → vs[i]? = some x → vs[j]? = some y → valBlock x = some b → valBlock y ≠ some b)
  (hfr : fr = true → ∀ x ∈ vs, ∀ b, valBlock x = some b → W.heap.size ≤ b) :
  RelM W (upd ρ m.length (.tuple vs.toArray)) (goneL own js m ++ [.bag k ls ity own fr]) w ∧ (goneL own js m ++ [Obj.bag k ls ity own fr]).length = m.length + 1 := by
 obtain ⟨hg, hl, _, hmut, hlive, _⟩ := goneL_spec own js h
 have hin : ∀ b, b ∈ valBlocks (.tuple vs.toArray) → ∃ x ∈ vs, valBlock x = some b := fun b hb => by simpa [valBlocks] using hb
 have hir : ∀ b, b ∈ rdBlocks (.tuple vs.toArray) → ∃ x ∈ vs, rdBlock x = some b := fun b hb => by simpa [rdBlocks] using hb
 have := hg.pushG (o := .bag k ls ity own fr) (v := .tuple vs.toArray) (Below.refl _ _) ⟨vs, rfl, hlen, fun i x l hi hl => by
  have := hrow i x l hi hl
  cases own
  ·simpa using this.1
  ·simpa using this.2, hdist, hfr⟩ rfl (fun i oi hi hm b hb hb2 => by
  obtain ⟨hni, hmi⟩ := hmut i oi hi hm
  cases own
  ·obtain ⟨x, hx, hxb⟩ := hir b (by simpa [Obj.blocks, Obj.mutB] using hb2)
   obtain ⟨j, hj, o, hmj, hol, hbj⟩ := hsrc x hx b hxb
   exact h.sep i j oi o (fun e => hni (by rw [e]; exact hj)) hmi hmj hm (live'_iff.2 hol) b hb hbj
  ·obtain ⟨x, hx, hxb⟩ := hin b (blocks_sub hb2)
   obtain ⟨j, hj, o, hmj, hbj, hom⟩ := hsrcO rfl x hx b hxb
   exact h.sep i j oi o (fun e => hni (by rw [e]; exact hj)) hmi hmj hm (mutB_live hom) b hb (by rw [blocks_mut hom]; exact hbj)) (fun ho i oi hi hd b hb hb2 => by
  have ho : own = true := ho
  obtain ⟨hni, hmi⟩ := hlive i oi hi ho (live'_iff.1 hd)
  obtain ⟨x, hx, hxb⟩ := hin b hb
  obtain ⟨j, hj, o, hmj, hbj, hom⟩ := hsrcO ho x hx b hxb
  exact h.sep j i o oi (fun e => hni (by rw [← e]; exact hj)) hmj hmi hom hd b hbj hb2)
 rw [hl] at this
 exact ⟨this, by simp [hl]⟩
theorem RelM.rowIs {W : World} {ρ : Nat → Value} {m : Mem} {w : World} (h : RelM W ρ m w) {j : Nat} {c : C} {ty : TypeId} {own : Bool} (hj : m[j]? = some (.row c ty own)) : RowIs w (ρ j) c.n c.sz (c.den ρ) := by
 obtain ⟨h1, h0, h3⟩ := h.obj j _ hj
 cases own
 ·simpa using h3
 ·exact ownsRow_is (by simpa using h3)
theorem innV_tup (vs : List Value) (i : Nat) : innV (.tuple vs.toArray) (i : Int) = sliceVal (vs.getD i (.slice none 0 0)) := by
 simp [innV]
theorem RowIs.slice {w : World} {v : Value} {n sz : Nat} {cells : List Value} (h : RowIs w v n sz cells) : sliceVal v = v := by
 obtain ⟨_, A, cap, hv, _⟩ := h
 rw [hv]
 rfl
theorem rowIs_nil (w : World) (k : K) (ρ : Nat → Value) : RowIs w (.slice none 0 0) ([] : List k.T).length k.sz ((C.ty k []).den ρ) := ⟨by simp [C.den], none, 0, rfl, Nat.le_refl _, by unfold maxLen; omega, fun _ => rfl, fun _ h => by cases h⟩
theorem nestDen_app (ρ : Nat → Value) (k : K) (v : Value) : ∀ (l r : List k.T) (s : Nat), nestDen ρ k v (l ++ r) s = nestDen ρ k v l s ++ nestDen ρ k v r (s + l.length)
 | [], r, s => by simp [nestDen]
 | a :: l, r, s => by
  rw [List.cons_append, nest_cons, nest_cons, nestDen_app ρ k v l r, List.length_cons, show s + 1 + l.length = s + (l.length + 1) by omega]
  simp only [List.append_assoc]
theorem nestDen_congr (ρ : Nat → Value) (k : K) (v v' : Value) : ∀ (l : List k.T) (s s' : Nat), (∀ i, i < l.length → innV v ((s + i : Nat) : Int) = innV v' ((s' + i : Nat) : Int)) → nestDen ρ k v l s = nestDen ρ k v' l s'
 | [], _, _, _ => rfl
 | a :: l, s, s', h => by
  have h0 := h 0 (by simp)
  rw [Nat.add_zero, Nat.add_zero] at h0
  rw [nest_cons, nest_cons, h0, nestDen_congr ρ k v v' l (s + 1) (s' + 1) fun i hi => by
   have := h (i + 1) (by simpa using hi)
   rw [show s + 1 + i = s + (i + 1) by omega, show s' + 1 + i = s' + (i + 1) by omega]
   exact this]
theorem nest_one (ρ : Nat → Value) (k : K) (v : Value) : ∀ (l : List k.T) (s : Nat), ∀ u ∈ nestDen ρ k v l s, oneC u = true
 | [], _, u, h => by cases h
 | a :: l, s, u, h => by
  rw [nest_cons] at h
  rcases List.mem_append.1 h with h | h
  ·rcases List.mem_append.1 h with h | h
   ·rw [denL_map, List.mem_map] at h
    obtain ⟨c, hc, rfl⟩ := h
    exact one_den (enc_one k a c hc)
   ·rw [List.mem_singleton] at h
    subst h
    exact innV_one _ _
  ·exact nest_one ρ k v l _ u h
theorem nest_set (ρ : Nat → Value) (k : K) (v v' : Value) : ∀ (l : List k.T) (n s : Nat) (a b : k.T), l[n]? = some a → (∀ i, i < l.length → i ≠ n → innV v' ((s + i : Nat) : Int) = innV v ((s + i : Nat) : Int)) → ∀ {off : Nat} {vs : List Value}, off + vs.length ≤ k.sz + 1 →
  (∀ q, q < k.sz + 1 → (denL ρ (k.enc b) ++ [innV v' ((s + n : Nat) : Int)])[q]? = if off ≤ q ∧ q < off + vs.length then vs[q - off]? else (denL ρ (k.enc a) ++ [innV v ((s + n : Nat) : Int)])[q]?) →
  ∀ q, (nestDen ρ k v' (l.set n b) s)[q]? = if n * (k.sz + 1) + off ≤ q ∧ q < n * (k.sz + 1) + off + vs.length then vs[q - (n * (k.sz + 1) + off)]? else (nestDen ρ k v l s)[q]?
 | [], n, s, a, b, h, _, _, _, _, _, q => by simp at h
 | a0 :: r, 0, s, a, b, h, hv, off, vs, hoff, hmid, q => by
  simp only [List.getElem?_cons_zero, Option.some.injEq] at h
  subst h
  have hl : ∀ (x : k.T) (u : Value), (denL ρ (k.enc x) ++ [u]).length = k.sz + 1 := fun x u => by simp [enc_len]
  rw [List.set_cons_zero, nest_cons, nest_cons, Nat.zero_mul, Nat.zero_add]
  rw [Nat.add_zero] at hmid
  by_cases hq : q < k.sz + 1
  ·have e1 : (denL ρ (k.enc b) ++ [innV v' (s : Int)] ++ nestDen ρ k v' r (s + 1))[q]? = (denL ρ (k.enc b) ++ [innV v' (s : Int)])[q]? := List.getElem?_append_left (by rw [hl]; exact hq)
   have e2 : (denL ρ (k.enc a0) ++ [innV v (s : Int)] ++ nestDen ρ k v r (s + 1))[q]? = (denL ρ (k.enc a0) ++ [innV v (s : Int)])[q]? := List.getElem?_append_left (by rw [hl]; exact hq)
   rw [e1, e2]
   exact hmid q hq
  ·rw [List.getElem?_append_right (by rw [hl]; omega), List.getElem?_append_right (by rw [hl]; omega), if_neg (by omega), hl, hl]
   congr 1
   exact nestDen_congr ρ k v' v r _ _ fun i hi => by
    have := hv (i + 1) (by simpa using hi) (by omega)
    rw [show s + 1 + i = s + (i + 1) by omega]
    exact this
 | a0 :: r, n + 1, s, a, b, h, hv, off, vs, hoff, hmid, q => by
  have hl : ∀ (x : k.T) (u : Value), (denL ρ (k.enc x) ++ [u]).length = k.sz + 1 := fun x u => by simp [enc_len]
  have hm : (n + 1) * (k.sz + 1) = k.sz + 1 + n * (k.sz + 1) := by rw [Nat.add_mul]; omega
  have h0 := hv 0 (by simp) (by omega)
  rw [Nat.add_zero] at h0
  rw [List.set_cons_succ, nest_cons, nest_cons, h0, hm]
  by_cases hq : q < k.sz + 1
  ·have e1 : (denL ρ (k.enc a0) ++ [innV v (s : Int)] ++ nestDen ρ k v' (r.set n b) (s + 1))[q]? = (denL ρ (k.enc a0) ++ [innV v (s : Int)])[q]? := List.getElem?_append_left (by rw [hl]; exact hq)
   have e2 : (denL ρ (k.enc a0) ++ [innV v (s : Int)] ++ nestDen ρ k v r (s + 1))[q]? = (denL ρ (k.enc a0) ++ [innV v (s : Int)])[q]? := List.getElem?_append_left (by rw [hl]; exact hq)
   rw [e1, e2, if_neg (by omega)]
  ·rw [List.getElem?_append_right (by rw [hl]; omega), List.getElem?_append_right (by rw [hl]; omega), hl]
   have := nest_set ρ k v v' r n (s + 1) a b (by simpa using h) (fun i hi hne => by
    have := hv (i + 1) (by simpa using hi) (by omega)
    rw [show s + 1 + i = s + (i + 1) by omega]
    exact this) hoff (by rw [show s + 1 + n = s + (n + 1) by omega]; exact hmid) (q - (k.sz + 1))
   rw [this]
   by_cases hc : k.sz + 1 + n * (k.sz + 1) + off ≤ q ∧ q < k.sz + 1 + n * (k.sz + 1) + off + vs.length
   ·rw [if_pos hc, if_pos (by omega)]
    congr 1
    omega
   ·rw [if_neg hc, if_neg (by omega)]
section
variable {W : World} {ρ : Nat → Value} {m : Mem} {w : World} (hm : RelM W ρ m w)
include hm
theorem innOf_ok {k : K} {ity : TypeId} {c : SV} {l : List k.T} {o f : Bool} {jr : Option Nat} (h : innOf m k ity c = some (l, o, f, jr)) :
  RowIs w (den ρ c) l.length k.sz ((C.ty k l).den ρ) ∧ (o = true → w.ownsRow W.heap.size ity k.sz (den ρ c) l.length ((C.ty k l).den ρ)) ∧
   (∀ b, rdBlock (den ρ c) = some b → ∃ j, jr = some j ∧ ∃ ob, m[j]? = some ob ∧ ob.live' = true ∧ b ∈ ob.blocks (ρ j)) ∧
   (o = true → ∀ b, valBlock (den ρ c) = some b → ∃ j, jr = some j ∧ ∃ ob, m[j]? = some ob ∧ b ∈ valBlocks (ρ j) ∧ ob.mutB = true) ∧ (f = true → ∀ b, valBlock (den ρ c) = some b → W.heap.size ≤ b) := by
 unfold innOf at h
 split at h
 ·rename_i r
  split at h
  ·rename_i k' l' ty own hr
   split at h
   ·rename_i hk
    subst hk
    simp only [Option.some.injEq, Prod.mk.injEq] at h
    obtain ⟨rfl, rfl, rfl, rfl⟩ := h
    obtain ⟨h1, h0, h3⟩ := hm.obj r _ hr
    have hv : den ρ (.row r) = ρ r := by
     obtain ⟨_, A, cap, hρ, _⟩ := RelM.row hm hr
     simp only [den, hρ, sliceVal]
    rw [hv]
    refine ⟨?_, fun ho => ?_, fun b hb => ⟨r, rfl, _, hr, rfl, rd_blocks (mem_rd hb)⟩, fun ho b hb => ⟨r, rfl, _, hr, mem_blocks hb, ?_⟩, fun ho b hb => ?_⟩
    ·have : RowIs w (ρ r) (C.ty k' l').n (C.ty k' l').sz ((C.ty k' l').den ρ) := by
      cases own
      ·simpa using h3
      ·exact ownsRow_is (by simpa using h3)
     exact this
    ·simp only [Bool.and_eq_true, beq_iff_eq] at ho
     obtain ⟨rfl, rfl⟩ := ho
     have : w.ownsRow W.heap.size ty (C.ty k' l').sz (ρ r) (C.ty k' l').n ((C.ty k' l').den ρ) := by simpa using h3
     exact this
    ·simp only [Bool.and_eq_true, beq_iff_eq] at ho
     exact ho.1
    ·subst ho
     simp only [if_true] at h3
     exact (ownsRow_lt h3 hb).1
   ·cases h
  ·cases h
 ·rename_i j i
  split at h
  ·rename_i k' ls ty own fr hj
   split at h
   ·rename_i hk
    subst hk
    simp only [Option.some.injEq, Prod.mk.injEq] at h
    obtain ⟨rfl, rfl, rfl, rfl⟩ := h
    have hin : den ρ (.inn j i) = .slice none 0 0 ∨ ∃ vs : List Value, ρ j = .tuple vs.toArray ∧ ∃ x ∈ vs, den ρ (.inn j i) = x := by
     obtain ⟨vs, hv, h2, h3, _⟩ := (hm.obj j _ hj).shut
     simp only [den, hv, innV]
     split
     ·rename_i h0
      rw [List.getD_eq_getElem?_getD]
      cases hi : vs[i.toNat]? with
      | none => exact .inl rfl
      | some x =>
       refine .inr ⟨vs, rfl, x, List.mem_of_getElem? hi, ?_⟩
       have hil : i.toNat < ls.length := by rw [← h2]; exact (List.getElem?_eq_some_iff.1 hi).1
       have := h3 i.toNat x _ hi (List.getElem?_eq_getElem hil)
       simp only [Bool.false_eq_true, if_false] at this
       obtain ⟨_, A, cap, hx, _⟩ := this
       simp only [Option.getD_some, hx, sliceVal]
     ·exact .inl rfl
    refine ⟨hm.inn hj i, (fun h => by cases h), fun b hb => ⟨j, rfl, _, hj, rfl, ?_⟩, (fun h => by cases h), fun hf b hb => ?_⟩
    ·rcases hin with h0 | ⟨vs, hv, x, hx, h0⟩
     ·rw [h0] at hb; cases hb
     ·rw [h0] at hb
      refine rd_blocks ?_
      rw [hv]
      simp only [rdBlocks, List.mem_filterMap]
      exact ⟨x, hx, hb⟩
    ·rcases hin with h0 | ⟨vs, hv, x, hx, h0⟩
     ·rw [h0] at hb; simp [valBlock] at hb
     ·rw [h0] at hb
      obtain ⟨vs', hv', _, _, _, h5⟩ := (hm.obj j _ hj).shut
      rw [hv] at hv'
      injection hv' with hv'
      have : vs = vs' := by simpa using hv'
      subst this
      exact h5 hf x hx b hb
   ·cases h
  ·cases h
 ·simp only [Option.some.injEq, Prod.mk.injEq] at h
  obtain ⟨rfl, rfl, rfl, rfl⟩ := h
  exact ⟨rowIs_nil w k ρ, (fun _ => World.ownsRow_nil w _ ity k.sz), (fun b hb => by cases hb), (fun _ b hb => by simp [den, valBlock] at hb), fun _ b hb => by simp [den, valBlock] at hb⟩
 ·cases h
theorem nestOf_ok {hk ik : K} {ity : TypeId} : ∀ (n : Nat) (cs : List SV) (l : List hk.T) (ls : List (List ik.T)) (o f : Bool) (js : List Nat), nestOf m hk ik ity n cs = some (l, ls, o, f, js) → ∃ vs : List Value, vs.length = n ∧ l.length = n ∧ ls.length = n ∧
  (∀ (v : Value) (s : Nat), (∀ (i : Nat) (x : Value), vs[i]? = some x → innV v ((s + i : Nat) : Int) = x) → denL ρ cs = nestDen ρ hk v l s) ∧
  (∀ (i : Nat) (x : Value) (l' : List ik.T), vs[i]? = some x → ls[i]? = some l' → RowIs w x l'.length ik.sz ((C.ty ik l').den ρ) ∧ (o = true → w.ownsRow W.heap.size ity ik.sz x l'.length ((C.ty ik l').den ρ))) ∧
  (∀ x ∈ vs, ∀ b, rdBlock x = some b → ∃ j ∈ js, ∃ ob, m[j]? = some ob ∧ ob.live' = true ∧ b ∈ ob.blocks (ρ j)) ∧
  (o = true → ∀ x ∈ vs, ∀ b, valBlock x = some b → ∃ j ∈ js, ∃ ob, m[j]? = some ob ∧ b ∈ valBlocks (ρ j) ∧ ob.mutB = true) ∧
  (o = true → nodup js = true → ∀ (i j : Nat) (x y : Value) (b : Nat), i ≠ j → vs[i]? = some x → vs[j]? = some y → valBlock x = some b → valBlock y ≠ some b) ∧
  (f = true → ∀ x ∈ vs, ∀ b, valBlock x = some b → W.heap.size ≤ b)
 | 0, cs, l, ls, o, f, js, h => by
  simp only [nestOf] at h
  split at h
  ·rename_i hc
   simp only [Option.some.injEq, Prod.mk.injEq] at h
   obtain ⟨rfl, rfl, rfl, rfl, rfl⟩ := h
   rw [List.isEmpty_iff] at hc
   subst hc
   exact ⟨[], rfl, rfl, rfl, fun _ _ _ => rfl, (fun i x l' h => by simp at h), (fun x h => by cases h), (fun _ x h => by cases h), (fun _ _ i j x y b _ h => by simp at h), fun _ x h => by cases h⟩
  ·cases h
 | n + 1, cs, l, ls, o, f, js, h => by
  simp only [nestOf] at h
  split at h
  ·rename_i a c r ha hd
   split at h
   ·rename_i x0 o0 f0 j0 l0 ls0 o1 f1 js0 hi0 hn0
    simp only [Option.some.injEq, Prod.mk.injEq] at h
    obtain ⟨rfl, rfl, rfl, rfl, rfl⟩ := h
    obtain ⟨vs, v1, v2, v3, v4, v5, v6, v6o, v7, v8⟩ := nestOf_ok n r l0 ls0 o1 f1 js0 hn0
    obtain ⟨i1, i2, i3, i3o, i4⟩ := innOf_ok hm hi0
    obtain ⟨e1, _⟩ := dec_enc hk _ a ha
    refine ⟨den ρ c :: vs, by simp [v1], by simp [v2], by simp [v3], fun v s hv => ?_, fun i x l' hi hl => ?_, fun x hx b hb => ?_, fun ho x hx b hb => ?_, fun ho hnd i j x y b hij hi hj hb => ?_, fun hf x hx b hb => ?_⟩
    ·have h0 := hv 0 (den ρ c) (by simp)
     rw [nest_cons, show ((s : Nat) : Int) = ((s + 0 : Nat) : Int) from rfl, h0, ← v4 v (s + 1) fun i x hi => by
      have := hv (i + 1) x (by simpa using hi)
      rw [show s + 1 + i = s + (i + 1) by omega]
      exact this]
     rw [← e1]
     have e : denL ρ cs = denL ρ (cs.take hk.sz) ++ denL ρ (cs.drop hk.sz) := by rw [denL_map, denL_map, denL_map, ← List.map_append, List.take_append_drop]
     rw [e, hd]
     simp [denL]
    ·cases i with
     | zero =>
      simp only [List.getElem?_cons_zero, Option.some.injEq] at hi hl
      subst hi hl
      exact ⟨i1, fun ho => i2 (by simp only [Bool.and_eq_true] at ho; exact ho.1)⟩
     | succ i =>
      obtain ⟨a1, a2⟩ := v5 i x l' (by simpa using hi) (by simpa using hl)
      exact ⟨a1, fun ho => a2 (by simp only [Bool.and_eq_true] at ho; exact ho.2)⟩
    ·rcases List.mem_cons.1 hx with rfl | hx
     ·obtain ⟨j, hj, ob, h1, h2, h3⟩ := i3 b hb
      exact ⟨j, by rw [hj]; simp, ob, h1, h2, h3⟩
     ·obtain ⟨j, hj, ob, h1, h2, h3⟩ := v6 x hx b hb
      exact ⟨j, by simp [hj], ob, h1, h2, h3⟩
    ·simp only [Bool.and_eq_true] at ho
     rcases List.mem_cons.1 hx with rfl | hx
     ·obtain ⟨j, hj, ob, h1, h3, h4⟩ := i3o ho.1 b hb
      exact ⟨j, by rw [hj]; simp, ob, h1, h3, h4⟩
     ·obtain ⟨j, hj, ob, h1, h3, h4⟩ := v6o ho.2 x hx b hb
      exact ⟨j, by simp [hj], ob, h1, h3, h4⟩
    ·simp only [Bool.and_eq_true] at ho
     have hnd2 : nodup js0 = true ∧ ∀ j, j0 = some j → j ∉ js0 := by
      cases j0 with
      | none => exact ⟨hnd, fun j h => by cases h⟩
      | some j =>
       simp only [Option.toList_some, List.cons_append, List.nil_append, nodup, Bool.and_eq_true, Bool.not_eq_true', List.contains_eq_mem, decide_eq_false_iff_not] at hnd
       exact ⟨hnd.2, fun j' h => by injection h with h; subst h; exact hnd.1⟩
     have cross : ∀ (y : Value) (b : Nat), y ∈ vs → valBlock (den ρ c) = some b → valBlock y ≠ some b := fun y b hy hb hyb => by
      obtain ⟨j, hj, ob, h1, h3, h4⟩ := i3o ho.1 b hb
      obtain ⟨j', hj', ob', h1', h3', h4'⟩ := v6o ho.2 y hy b hyb
      exact hm.sep j j' ob ob' (fun e => hnd2.2 j hj (by rw [e]; exact hj')) h1 h1' h4 (mutB_live h4') b h3 (by rw [blocks_mut h4']; exact h3')
     cases i with
     | zero =>
      cases j with
      | zero => exact absurd rfl hij
      | succ j =>
       simp only [List.getElem?_cons_zero, Option.some.injEq] at hi
       subst hi
       exact cross y b (List.mem_of_getElem? (by simpa using hj)) hb
     | succ i =>
      cases j with
      | zero =>
       simp only [List.getElem?_cons_zero, Option.some.injEq] at hj
       subst hj
       exact fun hyb => cross x b (List.mem_of_getElem? (by simpa using hi)) hyb hb
      | succ j => exact v7 ho.2 hnd2.1 i j x y b (by omega) (by simpa using hi) (by simpa using hj) hb
    ·simp only [Bool.and_eq_true] at hf
     rcases List.mem_cons.1 hx with rfl | hx
     ·exact i4 hf.1 b hb
     ·exact v8 hf.2 x hx b hb
   ·cases h
  ·cases h
end
theorem lit_run {P : Program} {T : Nat → TI} (hT : TOk P T) {ρ : Nat → Value} {m : Mem} {a : Act} {t : List SV} {w : World} (ht : RelT ρ m.length t a) {ty : TypeId} {n : Nat} {ps : Array (Nat × Operand)} {cs : List SV} (hk : (T ty).known = true) (hkd : (T ty).kind = .slice) (hke : (T (T ty).elem).known = true)
  (hsz : 0 < (T (T ty).elem).size) (hbig : n * (T (T ty).elem).size ≤ 4096) (hzl : (T (T ty).elem).zero.length = (T (T ty).elem).size) (hz1 : (T (T ty).elem).zero.all oneC = true) (hcs : litCells t (T (T ty).elem).size n ps.toList (repCells (T (T ty).elem).zero n) = some cs) :
  (Instr.buildSlice ty n (ps.map fun (i, x) => (i, a.eval x))).run P w = .ok (.slice (some ⟨w.heap.size, 0, none⟩) n n) (w.alloc (.cells (denL ρ cs).toArray (T ty).elem)) ∧ ltL m.length cs = true ∧ cs.all (·.one) = true ∧ cs.length = n * (T (T ty).elem).size := by
 obtain ⟨ti, d, z0, hti, hd, hz, g1, g2, g3, g4, g5, g6, g7, g8, g9⟩ := (hT.ty ty hk).ex
 have := g7 hkd; subst this
 obtain ⟨z, hzr, hzt⟩ := (hT.ty _ hke).zero w
 have hzsz : z.cells.size = (T (T ty).elem).size := by rw [← Array.length_toList, hzt]; exact hzl
 obtain ⟨hfill, hlt, hone, hlen⟩ := litCells_ok ht (T (T ty).elem).size n ps.toList _ cs hcs (by rw [repCells_length, hzl]) (repCells_lt _ _ _) (repCells_one _ hz1 n)
 refine ⟨?_, hlt, hone, hlen⟩
 have hcells : Instr.fill (fun i => some (i * (T (T ty).elem).size, (T (T ty).elem).size)) ((Array.range (n * (T (T ty).elem).size)).map fun i => z.cells[i % z.cells.size]!) (ps.map fun (i, x) => (i, a.eval x)).toList = some (denL ρ cs).toArray := by
  have := repCells_den (ρ := ρ) z.cells (by omega) n
  rw [hzsz] at this
  rw [hzsz, this, hzt]
  simpa using hfill
 unfold Instr.buildSlice
 simp only [Sem.run_bind, run_underlying hd, Result.andThen_ok, (hT.ty _ hke).sizeOf]
 rw [if_neg (by omega)]
 by_cases hn : n * (T (T ty).elem).size = 0
 ·have hn0 : n = 0 := by
   rcases Nat.mul_eq_zero.1 hn with h | h
   ·exact h
   ·omega
  subst hn0
  have e0 : ∀ (g : Nat → Value), (Array.range 0).map g = #[] := fun g => by simp
  rw [Nat.zero_mul, e0] at hcells
  rw [Nat.zero_mul, if_pos rfl, Sem.run_bind, Sem.run_pure, Result.andThen_ok, e0, hcells]
  simp [newRow, World.alloc_eq]
 ·rw [if_neg hn]
  simp only [Sem.run_bind, hzr, Sem.run_pure, Result.andThen_ok]
  rw [hcells]
  simp [newRow, World.alloc_eq]
def NewRow (P : Program) (W : World) (ρ : Nat → Value) (m m' : Mem) (a : Act) (o : Oper) (w : World) : Prop :=
 ∃ x w' ρ', (execOp a.eval o).run P w = .ok (.value x) w' ∧ RelM W ρ' m' w' ∧ Agree m.length ρ ρ' ∧ m'.length = m.length + 2 ∧ x = den ρ' (.row (m'.length - 1))
theorem push_nest {P : Program} {W : World} {ρ : Nat → Value} {m m1 : Mem} {w w' : World} {a : Act} {o : Oper} {vs : List Value} (h1 : RelM W (upd ρ m.length (.tuple vs.toArray)) m1 w) (hl : m1.length = m.length + 1) {hk : K} {l : List hk.T} {ety : TypeId} {v : Value}
  (hrun : (execOp a.eval o).run P w = .ok (.value v) w') (hb : Below w.heap.size w w') (hown : w'.ownsRow W.heap.size ety (hk.sz + 1) v l.length (nestDen ρ hk (.tuple vs.toArray) l 0)) (hnew : ∀ b, valBlock v = some b → w.heap.size ≤ b) (hs : sliceVal v = v) :
  NewRow P W ρ m (m1 ++ [.row (.nest hk l m.length) ety true]) a o w := by
 have hd : (C.nest hk l m.length).den (upd ρ m.length (.tuple vs.toArray)) = nestDen ρ hk (.tuple vs.toArray) l 0 := by
  simp only [C.den, upd_same]
  exact nestDen_enc _ _ _ _ _ _
 have hnt : ∀ us, v ≠ .tuple us := fun us e => by rw [e] at hs; simp [sliceVal] at hs
 have := h1.push hb (o := .row (.nest hk l m.length) ety true) (v := v) ⟨by simp [C.sz], fun u hu => by rw [hd] at hu; exact nest_one _ _ _ _ _ u hu, by
  rw [if_pos rfl, hd]; exact hown⟩ (by simp [Obj.lt, C.lt, hl]) (fun b hb => hnew b ((blocks_one hnt).1 (blocks_sub hb)))
 refine ⟨v, w', _, hrun, this, (upd_agree ρ m.length _).trans (upd_agree _ _ _) (by omega), by simp [hl], ?_⟩
 have e : (m1 ++ [Obj.row (.nest hk l m.length) ety true]).length - 1 = m1.length := by simp
 rw [e]
 simp only [den, upd_same, hs]
theorem opnl_ok {P : Program} {T : Nat → TI} {W : World} {ρ : Nat → Value} {m m' : Mem} {a : Act} {o : Oper} {t : List SV} {w : World} (hT : TOk P T) (ht : RelT ρ m.length t a) (hm : RelM W ρ m w) {oty : TypeId} (h : opnl T t m oty o.op = some m') : NewRow P W ρ m m' a o w := by
 have nilc : ∀ (hk ik : K) (ity ety : TypeId), (o.op = .move (.const (.slice none 0 0)) ∨ o.op = .assign (.const (.slice none 0 0))) → m' = m ++ [.bag ik [] ity true true, .row (.nest hk [] m.length) ety true] → NewRow P W ρ m m' a o w := by
  intro hk ik ity ety ho hm'
  subst hm'
  obtain ⟨h1, h2⟩ := hm.bagPush (k := ik) (ls := []) (ity := ity) (own := true) (fr := true) (vs := []) [] rfl (fun i x l h => by simp at h) (fun x h => by cases h) (fun _ x h => by cases h) (fun _ i j x y b _ h => by simp at h) (fun _ x h => by cases h)
  have := push_nest (P := P) (a := a) (o := o) (w' := w) (l := ([] : List hk.T)) (ety := ety) (v := .slice none 0 0) h1 h2 (by rcases ho with ho | ho <;> simp [execOp, ho, Act.eval]) (Below.refl _ _) (World.ownsRow_nil w _ _ _) (fun b hb => by simp [valBlock] at hb) rfl
  simpa [goneL, killL] using this
 unfold opnl at h
 split at h
 ·rename_i ty n ps hop
  split at h
  ·rename_i hk ik ity hkn hkd hke hnk
   split at h
   ·rename_i hc
    simp only [Bool.and_eq_true, decide_eq_true_eq, beq_iff_eq] at hc
    obtain ⟨⟨⟨hsz, hbig⟩, hzl⟩, hz1⟩ := hc
    split at h
    ·rename_i cs hcs
     split at h
     ·rename_i l ls own fr js hn
      split at h
      ·rename_i hnd
       simp only [Option.some.injEq] at h
       subst h
       obtain ⟨hrun, hlt, hone, hlen⟩ := lit_run hT ht hkn hkd hke (by omega) (by
        have h14 : hk.sz ≤ 14 := by cases hk <;> decide
        have : n * (T (T ty).elem).size ≤ 64 * 15 := Nat.mul_le_mul hbig (by omega)
        omega) hzl hz1 hcs (w := w)
       obtain ⟨vs, v1, v2, v3, v4, v5, v6, v6o, v7, v8⟩ := nestOf_ok hm n cs l ls own fr js hn
       obtain ⟨h1, h2⟩ := hm.bagPush (k := ik) (ls := ls) (ity := ity) (own := own) (fr := fr) (vs := vs) js (by omega) v5 v6 v6o (fun ho => v7 ho (by rw [ho] at hnd; simpa using hnd)) v8
       have hden : denL ρ cs = nestDen ρ hk (.tuple vs.toArray) l 0 := v4 _ 0 fun i x hi => by
        have hil : i < ls.length := by rw [v3, ← v1]; exact (List.getElem?_eq_some_iff.1 hi).1
        have hx := (v5 i x _ hi (List.getElem?_eq_getElem hil)).1.slice
        rw [Nat.zero_add, innV_tup, List.getD_eq_getElem?_getD, hi]
        exact hx
       have := push_nest (P := P) (a := a) (o := o) (w' := w.alloc (.cells (denL ρ cs).toArray (T ty).elem)) (l := l) (ety := (T ty).elem) (v := .slice (some ⟨w.heap.size, 0, none⟩) n n) h1 h2
        (by simp only [execOp, hop, Sem.run_bind, hrun, Result.andThen_ok]; rfl) ((Below.refl _ _).alloc (Nat.le_refl _) _) (by
         rw [← hden, v2]
         rw [hsz] at hlen
         refine ⟨by simp [hlen], .inr ⟨w.heap.size, n, (denL ρ cs).toArray, rfl, hm.below.size, by show (w.heap.push _)[w.heap.size]? = _; simp, Nat.le_refl _, by unfold maxLen; omega, by simp [hlen], ?_⟩⟩
         rw [List.take_of_length_le (by simp [hlen])]) (fun b hb => by simp only [valBlock, Option.some.injEq] at hb; omega) rfl
       simpa using this
      ·cases h
     ·cases h
    ·cases h
   ·cases h
  ·cases h
 ·unfold opnlN at h
  split at h
  ·rename_i hop
   split at h
   ·rename_i hk ik ity _ _ _ _
    split at h
    ·injection h with h; exact nilc hk ik ity _ (.inl hop) h.symm
    ·cases h
   ·cases h
  ·rename_i hop
   split at h
   ·rename_i hk ik ity _ _ _ _
    split at h
    ·injection h with h; exact nilc hk ik ity _ (.inr hop) h.symm
    ·cases h
   ·cases h
  ·rename_i ty kx x ky y hop
   obtain ⟨g, hg, rfl⟩ := Option.map_eq_some_iff.1 h
   unfold mkN at hg
   split at hg
   ·rename_i hk ik ity hkn hkd hke hnk
    split at hg
    ·rename_i hc
     simp only [Bool.and_eq_true, decide_eq_true_eq, beq_iff_eq] at hc
     obtain ⟨⟨⟨⟨⟨hsz, hx0⟩, hx64⟩, hxy⟩, hby⟩, hzl⟩ := hc
     subst hxy
     split at hg
     ·rename_i l ls own fr hn
      injection hg with hg
      subst hg
      obtain ⟨ti, d, z0, hti, hd, hz, g1, g2, g3, g4, g5, g6, g7, g8, g9⟩ := (hT.ty ty hkn).ex
      have := g7 hkd; subst this
      obtain ⟨i, de, z, hei, hde, hez, k1, k2, k3, k4, k5, k6, k7, k8, k9⟩ := (hT.ty _ hke).ex
      have hm0 : RelM W ρ ([] : Mem) w := ⟨hm.below, fun j o h => by simp at h, fun i j o o' _ h => by simp at h, fun j o h => by simp at h⟩
      obtain ⟨vs, v1, v2, v3, v4, v5, v6, v6o, v7, v8⟩ := nestOf_ok hm0 _ _ l ls own fr [] hn
      obtain ⟨h1, h2⟩ := hm.bagPush (k := ik) (ls := ls) (ity := ity) (own := own) (fr := fr) (vs := vs) [] (by omega) v5 (fun x hx b hb => by obtain ⟨j, hj, _⟩ := v6 x hx b hb; cases hj) (fun ho x hx b hb => by obtain ⟨j, hj, _⟩ := v6o ho x hx b hb; cases hj) (fun ho => v7 ho rfl) v8
      have hgo : goneL own [] m = m := by cases own <;> rfl
      rw [hgo] at h1 h2
      have hden : denL ρ (repCells (T (T ty).elem).zero x.toNat) = nestDen ρ hk (.tuple vs.toArray) l 0 := v4 _ 0 fun i x hi => by
       have hil : i < ls.length := by rw [v3, ← v1]; exact (List.getElem?_eq_some_iff.1 hi).1
       have hx := (v5 i x _ hi (List.getElem?_eq_getElem hil)).1.slice
       rw [Nat.zero_add, innV_tup, List.getD_eq_getElem?_getD, hi]
       exact hx
      have hzsz : z.cells.size = (T (T ty).elem).size := by rw [← Array.length_toList, ← k2]; exact hzl
      have hmade : madeCells z.cells (x.toNat * i.size) = (denL ρ (repCells (T (T ty).elem).zero x.toNat)).toArray := by
       have := repCells_den (ρ := ρ) z.cells (by omega) x.toNat
       rw [← k2, hzsz] at this
       unfold madeCells
       rw [← k1, hzsz]
       exact this
      have hlen : (denL ρ (repCells (T (T ty).elem).zero x.toNat)).length = x.toNat * (hk.sz + 1) := by rw [zq5, repCells_length, hzl, hsz]
      have hrun := run_make w ty (T ty).elem i z hd hei hez kx ky x x hx0 (Int.le_refl _) (by
       rw [← k9]
       have : ((T (T ty).elem).bytes : Int) * x ≤ 256 * 64 := Int.mul_le_mul (by omega) hx64 hx0 (by omega)
       omega) (by omega)
      rw [hmade] at hrun
      have := push_nest (P := P) (a := a) (o := o) (w' := w.alloc (.cells (denL ρ (repCells (T (T ty).elem).zero x.toNat)).toArray (T ty).elem)) (l := l) (ety := (T ty).elem) (v := .slice (some ⟨w.heap.size, 0, none⟩) x.toNat x.toNat) h1 h2
       (by simp only [execOp, hop, Act.eval, Sem.run_bind, hrun, Result.andThen_ok]; rfl) ((Below.refl _ _).alloc (Nat.le_refl _) _) (by
        rw [← hden, v2]
        refine ⟨by simp [hlen], .inr ⟨w.heap.size, x.toNat, (denL ρ (repCells (T (T ty).elem).zero x.toNat)).toArray, rfl, hm.below.size, by show (w.heap.push _)[w.heap.size]? = _; simp, Nat.le_refl _, by unfold maxLen; omega, by simp [hlen], ?_⟩⟩
        rw [List.take_of_length_le (by simp [hlen])]) (fun b hb => by simp only [valBlock, Option.some.injEq] at hb; omega) rfl
      simpa using this
     ·cases hg
    ·cases hg
   ·cases hg
  ·cases h
theorem nstAt_ok {m : Mem} {hk ik : K} {ity : TypeId} {j : Nat} {o : Bool} {ty : TypeId} {n : Nst} (h : nstAt m hk ik ity j = some (o, ty, n)) : n.hk = hk ∧ n.ik = ik ∧ m[j]? = some (.row (.nest n.hk n.l n.jb) ty o) ∧ m[n.jb]? = some (.bag n.ik n.ls ity n.own n.fr) := by
 unfold nstAt at h
 split at h
 ·rename_i hk' l jb ty' o' hj
  split at h
  ·rename_i ik' ls ity' own fr hb
   split at h
   ·rename_i hc
    obtain ⟨rfl, rfl, rfl⟩ := hc
    simp only [Option.some.injEq, Prod.mk.injEq] at h
    obtain ⟨rfl, rfl, rfl⟩ := h
    exact ⟨rfl, rfl, hj, hb⟩
   ·cases h
  ·cases h
 ·cases h
theorem pad_get {α : Type} (n : Nat) (ls : List (List α)) (i : Nat) : (padL n ls)[i]? = if i < n then some (ls.getD i []) else none := by
 unfold padL
 rw [List.getElem?_take]
 split
 ·rename_i hi
  rw [List.getD_eq_getElem?_getD, List.getElem?_append]
  split
  ·rename_i h; rw [List.getElem?_eq_getElem h]; rfl
  ·rename_i h
   rw [List.getElem?_replicate, if_pos (by omega), List.getElem?_eq_none (by omega)]
   rfl
 ·rfl
theorem pad_len {α : Type} (n : Nat) (ls : List (List α)) : (padL n ls).length = n := by
 unfold padL
 simp
 omega
def padV (n : Nat) (vs : List Value) : List Value := (vs ++ List.replicate (n - vs.length) (Value.slice none 0 0)).take n
theorem padV_get (n : Nat) (vs : List Value) (i : Nat) : (padV n vs)[i]? = if i < n then some (vs.getD i (.slice none 0 0)) else none := by
 unfold padV
 rw [List.getElem?_take]
 split
 ·rename_i hi
  rw [List.getD_eq_getElem?_getD, List.getElem?_append]
  split
  ·rename_i h; rw [List.getElem?_eq_getElem h]; rfl
  ·rename_i h
   rw [List.getElem?_replicate, if_pos (by omega), List.getElem?_eq_none (by omega)]
   rfl
 ·rfl
theorem padV_len (n : Nat) (vs : List Value) : (padV n vs).length = n := by
 unfold padV
 simp
 omega
theorem bag_pad {W : World} {ρ : Nat → Value} {m : Mem} {w : World} (hm : RelM W ρ m w) {jb : Nat} {k : K} {ls : List (List k.T)} {ity : TypeId} {own fr : Bool} (hj : m[jb]? = some (.bag k ls ity own fr)) : ∃ vs : List Value, ρ jb = .tuple vs.toArray ∧ vs.length = ls.length ∧
  (∀ (n i : Nat) (x : Value) (l : List k.T), (padV n vs)[i]? = some x → (padL n ls)[i]? = some l → RowIs w x l.length k.sz ((C.ty k l).den ρ) ∧ (own = true → w.ownsRow W.heap.size ity k.sz x l.length ((C.ty k l).den ρ))) ∧
  (∀ n, ∀ x ∈ padV n vs, ∀ b, (valBlock x = some b → b ∈ valBlocks (ρ jb)) ∧ (rdBlock x = some b → b ∈ rdBlocks (ρ jb))) ∧
  (own = true → ∀ (n i j : Nat) (x y : Value) (b : Nat), i ≠ j → (padV n vs)[i]? = some x → (padV n vs)[j]? = some y → valBlock x = some b → valBlock y ≠ some b) ∧
  (∀ (i : Nat) (x : Value) (l : List k.T), vs[i]? = some x → ls[i]? = some l → RowIs w x l.length k.sz ((C.ty k l).den ρ) ∧ (own = true → w.ownsRow W.heap.size ity k.sz x l.length ((C.ty k l).den ρ))) ∧
  ((own || fr) = true → (∀ x ∈ vs, ∀ b, valBlock x = some b → W.heap.size ≤ b) ∧ ∀ n, ∀ x ∈ padV n vs, ∀ b, valBlock x = some b → W.heap.size ≤ b) := by
 have hsh := (hm.obj jb _ hj).shut
 obtain ⟨vs, hv, h2, h3, h4, _⟩ := hm.obj jb _ hj
 have base : ∀ (i : Nat) (x : Value) (l : List k.T), vs[i]? = some x → ls[i]? = some l → RowIs w x l.length k.sz ((C.ty k l).den ρ) ∧ (own = true → w.ownsRow W.heap.size ity k.sz x l.length ((C.ty k l).den ρ)) := fun i x l hi hl => by
  have := h3 i x l hi hl
  cases own
  ·exact ⟨by simpa using this, fun h => by cases h⟩
  ·simp only [if_true] at this
   exact ⟨ownsRow_is this, fun _ => this⟩
 have hf5 : (own || fr) = true → ∀ x ∈ vs, ∀ b, valBlock x = some b → W.heap.size ≤ b := by
  obtain ⟨vs', hv', _, _, _, h5⟩ := hsh
  rw [hv] at hv'
  injection hv' with hv'
  have : vs = vs' := by simpa using hv'
  subst this
  exact h5
 have hget : ∀ (n i : Nat) (x : Value), (padV n vs)[i]? = some x → (vs[i]? = some x) ∨ (x = .slice none 0 0 ∧ vs[i]? = none) := fun n i x hx => by
  rw [padV_get] at hx
  split at hx
  ·rw [List.getD_eq_getElem?_getD] at hx
   injection hx with hx
   cases hi : vs[i]? with
   | none => rw [hi] at hx; exact .inr ⟨hx.symm, rfl⟩
   | some y => rw [hi] at hx; exact .inl (by rw [← hx]; rfl)
  ·cases hx
 refine ⟨vs, hv, h2, fun n i x l hx hl => ?_, fun n x hx b => ?_, fun ho n i j x y b hij hi hj hb => ?_, base, fun hf => ⟨hf5 hf, fun n x hx b hb => ?_⟩⟩
 ·rw [pad_get] at hl
  split at hl
  ·injection hl with hl
   rcases hget n i x hx with hx | ⟨hx, hn⟩
   ·have hil : i < ls.length := by rw [← h2]; exact (List.getElem?_eq_some_iff.1 hx).1
    rw [List.getD_eq_getElem?_getD, List.getElem?_eq_getElem hil] at hl
    rw [← hl]
    exact base i x _ hx (List.getElem?_eq_getElem hil)
   ·have hil : ls[i]? = none := List.getElem?_eq_none (by rw [← h2]; exact List.getElem?_eq_none_iff.1 hn)
    rw [List.getD_eq_getElem?_getD, hil] at hl
    rw [← hl, hx]
    exact ⟨rowIs_nil w k ρ, fun _ => World.ownsRow_nil w _ ity k.sz⟩
  ·cases hl
 ·obtain ⟨i, hi⟩ := List.mem_iff_getElem?.1 hx
  rcases hget n i x hi with hi | ⟨hx, _⟩
  ·rw [hv]
   simp only [valBlocks, rdBlocks, List.mem_filterMap]
   exact ⟨fun hb => ⟨x, List.mem_of_getElem? hi, hb⟩, fun hb => ⟨x, List.mem_of_getElem? hi, hb⟩⟩
  ·rw [hx]; exact ⟨fun hb => by simp [valBlock] at hb, fun hb => by cases hb⟩
 ·rcases hget n i x hi with hi | ⟨hx, _⟩
  ·rcases hget n j y hj with hj | ⟨hy, _⟩
   ·exact h4 ho i j x y b hij hi hj hb
   ·rw [hy]; simp [valBlock]
  ·rw [hx] at hb; simp [valBlock] at hb
 ·obtain ⟨i, hi⟩ := List.mem_iff_getElem?.1 hx
  rcases hget n i x hi with hi | ⟨hx, _⟩
  ·exact hf5 hf x (List.mem_of_getElem? hi) b hb
  ·rw [hx] at hb; simp [valBlock] at hb
theorem row_val {W : World} {ρ : Nat → Value} {m : Mem} {w : World} (hm : RelM W ρ m w) {j : Nat} {c : C} {ty : TypeId} {own : Bool} (hj : m[j]? = some (.row c ty own)) : den ρ (.row j) = ρ j := by
 obtain ⟨_, A, cap, hρ, _⟩ := RelM.row hm hj
 simp only [den, hρ, sliceVal]
theorem opan_ok {P : Program} {T : Nat → TI} {W : World} {ρ : Nat → Value} {m m' : Mem} {a : Act} {o : Oper} {t : List SV} {w : World} (hT : TOk P T) (ht : RelT ρ m.length t a) (hm : RelM W ρ m w) {e : Bool} (h : opan T t m o.op = some (e, m')) (he : e = true) : NewRow P W ρ m m' a o w := by
 cases hop : o.op with
 | call c =>
  simp only [hop, opan] at h
  split at h
  ·rename_i x y ty ty' hc hargs hat
   split at h
   ·rename_i hk ik ity j j' hnk hx hy
    split at h
    ·rename_i hcond
     simp only [Bool.and_eq_true, beq_iff_eq, decide_eq_true_eq, bne_iff_ne, ne_eq] at hcond
     obtain ⟨⟨⟨⟨⟨⟨rfl, hkn⟩, hke⟩, hsz⟩, hby⟩, hzl⟩, hjj⟩ := hcond
     split at h
     ·rename_i bt na o2 bt2 nb hkd hna hnb
      obtain ⟨ahk, aik, al, als, ajb, aown, afr⟩ := na
      obtain ⟨bhk, bik, bl, bls, bjb, bown, bfr⟩ := nb
      obtain ⟨a1, a2, a3, a4⟩ := nstAt_ok hna
      obtain ⟨b1, b2, b3, b4⟩ := nstAt_ok hnb
      simp only at a1 a2 a3 a4 b1 b2 b3 b4 h
      subst a1 a2
      split at h
      ·rename_i hh
       obtain ⟨h1, h2⟩ := hh
       subst h1 h2
       split at h
       ·rename_i hbt
        simp only [Bool.and_eq_true, beq_iff_eq, bne_iff_ne, ne_eq] at hbt
        obtain ⟨rfl, hjb⟩ := hbt
        simp only [Option.some.injEq, Prod.mk.injEq] at h
        obtain ⟨rfl, rfl⟩ := h
        have e1 : castL rfl bl = bl := rfl
        have e2 : castLL rfl bls = bls := rfl
        rw [e1, e2]
        have bnd : al.length + bl.length ≤ 274877906944 := by
         have := Nat.le_of_ble_eq_true he
         simpa [lenL] using this
        -- the bag
        obtain ⟨va, va1, va2, va3, va4, va5, _, va7⟩ := bag_pad hm a4
        obtain ⟨vb, vb1, vb2, _, _, _, vb6, vb7⟩ := bag_pad hm b4
        have hbb : ∀ x ∈ vb, ∀ b, valBlock x = some b → b ∈ valBlocks (ρ bjb) := fun x hx b hb => by
         rw [vb1]
         simp only [valBlocks, List.mem_filterMap]
         exact ⟨x, hx, hb⟩
        have hbr : ∀ x ∈ vb, ∀ b, rdBlock x = some b → b ∈ rdBlocks (ρ bjb) := fun x hx b hb => by
         rw [vb1]
         simp only [rdBlocks, List.mem_filterMap]
         exact ⟨x, hx, hb⟩
        have hobB := hm.obj bjb _ b4
        have hdistB : bown = true → ∀ (i j : Nat) (x y : Value) (b : Nat), i ≠ j → vb[i]? = some x → vb[j]? = some y → valBlock x = some b → valBlock y ≠ some b := by
         obtain ⟨vs, hv, _, _, h4, _⟩ := hobB
         rw [vb1] at hv
         injection hv with hv
         have : vb = vs := by simpa using hv
         rw [this]
         exact h4
        have hlp : (padV al.length va).length = al.length := padV_len _ _
        have hcross : ∀ (x y : Value) (b : Nat), (aown = true ∧ bown = true) → x ∈ padV al.length va → y ∈ vb → valBlock x = some b → valBlock y ≠ some b := fun x y b ho hx hy hb hb2 => by
         have h1 := (va4 al.length x hx b).1 hb
         have h2 := hbb y hy b hb2
         exact hm.sep ajb bjb _ _ hjb a4 b4 ho.1 rfl b h1 (by rw [blocks_mut (show (Obj.bag bik bls ity bown bfr).mutB = true from ho.2)]; exact h2)
        obtain ⟨g1, g2⟩ := hm.bagPush (k := bik) (ls := padL al.length als ++ bls) (ity := ity) (own := aown && bown) (fr := (aown || afr) && (bown || bfr)) (vs := padV al.length va ++ vb) [ajb, bjb]
         (by simp [padV_len, pad_len, vb2]) (fun i x l hi hl => by
          rw [List.getElem?_append, hlp] at hi
          rw [List.getElem?_append, pad_len] at hl
          split at hi
          ·rename_i hil
           rw [if_pos hil] at hl
           obtain ⟨r1, r2⟩ := va3 al.length i x l hi hl
           exact ⟨r1, fun ho => r2 (by simp only [Bool.and_eq_true] at ho; exact ho.1)⟩
          ·rename_i hil
           rw [if_neg hil] at hl
           obtain ⟨r1, r2⟩ := vb6 _ x l hi hl
           exact ⟨r1, fun ho => r2 (by simp only [Bool.and_eq_true] at ho; exact ho.2)⟩) (fun x hx b hb => by
          rcases List.mem_append.1 hx with hx | hx
          ·exact ⟨ajb, by simp, _, a4, rfl, rd_blocks ((va4 al.length x hx b).2 hb)⟩
          ·exact ⟨bjb, by simp, _, b4, rfl, rd_blocks (hbr x hx b hb)⟩) (fun ho x hx b hb => by
          simp only [Bool.and_eq_true] at ho
          rcases List.mem_append.1 hx with hx | hx
          ·exact ⟨ajb, by simp, _, a4, (va4 al.length x hx b).1 hb, ho.1⟩
          ·exact ⟨bjb, by simp, _, b4, hbb x hx b hb, ho.2⟩) (fun ho i j x y b hij hi hj hb => by
          simp only [Bool.and_eq_true] at ho
          rw [List.getElem?_append, hlp] at hi hj
          split at hi <;> split at hj
          ·exact va5 ho.1 al.length i j x y b hij hi hj hb
          ·exact hcross x y b ho (List.mem_of_getElem? hi) (List.mem_of_getElem? hj) hb
          ·exact fun hb2 => hcross y x b ho (List.mem_of_getElem? hj) (List.mem_of_getElem? hi) hb2 hb
          ·exact hdistB ho.2 _ _ x y b (by omega) hi hj hb) (fun hf x hx b hb => by
          rw [Bool.and_eq_true] at hf
          rcases List.mem_append.1 hx with hx | hx
          ·exact (va7 hf.1).2 al.length x hx b hb
          ·exact (vb7 hf.2).1 x hx b hb)
        -- the row
        obtain ⟨_, hone1, hown⟩ := hm.obj j _ a3
        rw [if_pos rfl] at hown
        obtain ⟨_, A, cap, hρy, hlen2, hnone, _, _, hone2, hcell2⟩ := RelM.row hm b3
        have hxv := (ht.ev x (by rw [hx]; rfl)).2
        have hyv := (ht.ev y (by rw [hy]; rfl)).2
        rw [hx, row_val hm a3] at hxv
        rw [hy, row_val hm b3, hρy] at hyv
        obtain ⟨ti, d, z0, hti, hd, hz, g1', g2', g3', g4', g5', g6', g7', g8', g9'⟩ := (hT.ty ty hkn).ex
        have := g7' hkd; subst this
        obtain ⟨ei, de, z, hei, hde, hez, q1, q2, q3, q4, q5, q6, q7, q8, q9⟩ := (hT.ty _ hke).ex
        have hzs : z.cells.size = ei.size := by rw [← Array.length_toList, ← q2, hzl, q1]
        have hes : ei.size = bhk.sz + 1 := by rw [← q1]; exact hsz
        have hbytes : (al.length + bl.length) * ei.bytes ≤ 140737488355328 := by
         have : (al.length + bl.length) * ei.bytes ≤ 549755813888 * 256 := Nat.mul_le_mul (by omega) (by rw [← q9]; exact hby)
         omega
        have hown2 : w.ownsRow W.heap.size (T ty).elem ei.size (a.eval x) al.length ((C.nest bhk al ajb).den ρ) := by rw [hes, hxv]; exact hown
        obtain ⟨v', w', hrun, hown', hgb, hblk⟩ := append_own (P := P) w W.heap.size ty o.type _ ei z hd hei hez hzs (by omega) _ _ _ hown2 A _ cap _ (by rw [hes]; exact hlen2) hnone hcell2 (fun u hu => oneC_cell' (hone2 u hu)) (by unfold maxLen; show al.length + bl.length ≤ _; omega) hbytes hm.below.size
        have hag := upd_agree ρ m.length (.tuple (padV al.length va ++ vb).toArray)
        have hjl : j < m.length := (List.getElem?_eq_some_iff.1 a3).1
        have hden : nestDen (upd ρ m.length (.tuple (padV al.length va ++ vb).toArray)) bhk (.tuple (padV al.length va ++ vb).toArray) (al ++ bl) 0 = (C.nest bhk al ajb).den ρ ++ (C.nest bhk bl bjb).den ρ := by
         rw [nestDen_enc ρ, nestDen_app]
         simp only [C.den]
         congr 1
         ·refine nestDen_congr _ _ _ _ _ _ _ fun i hi => ?_
          rw [va1, innV_tup, innV_tup, Nat.zero_add, List.getD_eq_getElem?_getD, List.getElem?_append_left (by rw [hlp]; exact hi), padV_get, if_pos hi]
          rfl
         ·refine nestDen_congr _ _ _ _ _ _ _ fun i hi => ?_
          rw [vb1, innV_tup, innV_tup, Nat.zero_add, Nat.zero_add, List.getD_eq_getElem?_getD, List.getElem?_append_right (by rw [hlp]; omega), hlp, show al.length + i - al.length = i by omega, List.getD_eq_getElem?_getD]
        have hm1j : ∃ c1, (goneL (aown && bown) [ajb, bjb] m ++ [Obj.bag bik (padL al.length als ++ bls) ity (aown && bown) ((aown || afr) && (bown || bfr))])[j]? = some (.row c1 (T ty).elem true) := by
         obtain ⟨_, hl, _, _, _, hk⟩ := goneL_spec (aown && bown) [ajb, bjb] hm
         refine ⟨.nest bhk al ajb, ?_⟩
         rw [List.getElem?_append_left (by rw [hl]; exact hjl), hk j (by
          simp only [List.mem_cons, List.not_mem_nil, or_false, not_or]
          exact ⟨(fun e => by rw [e, a4] at a3; cases a3), (fun e => by rw [e, b4] at a3; cases a3)⟩), a3]
        obtain ⟨c1, hm1j⟩ := hm1j
        obtain ⟨hrel, A', c', hv'⟩ := g1.grow (j := some j) (xv := a.eval x) (d := .nest bhk (al ++ bl) m.length) (e := (T ty).elem) (.inr ⟨j, c1, rfl, by rw [hxv, hag j hjl], hm1j⟩) hown2 hgb hblk (by simp [C.sz]) (by simp [C.lt, g2])
         (fun u hu => by simp only [C.den, upd_same] at hu; exact nest_one _ _ _ _ _ u hu) (by
          simp only [C.den, upd_same, hden]
          rw [hes] at hown'
          simpa [C.sz, C.n, C.den] using hown')
        refine ⟨v', w', _, ?_, hrel, hag.trans (upd_agree _ _ _) (by omega), by simp [killO, g2], ?_⟩
        ·have ha : c.args = #[x, y] := by rw [← Array.toArray_toList (xs := c.args), hargs]
         have hb : c.argTypes = #[ty, ty] := by rw [← Array.toArray_toList (xs := c.argTypes), hat]
         have hyv' : a.eval y = .slice A (C.nest bhk bl bjb).n cap := hyv
         rw [← hyv'] at hrun
         simp [execOp, hop, resolve, hc, ha, hb, invoke, builtin, hrun]
        ·subst hv'
         rw [show (killO (goneL (aown && bown) [ajb, bjb] m ++ [Obj.bag bik (padL al.length als ++ bls) ity (aown && bown) ((aown || afr) && (bown || bfr))]) (some j) ++ [Obj.row (.nest bhk (al ++ bl) m.length) (T ty).elem true]).length - 1 = (goneL (aown && bown) [ajb, bjb] m ++ [Obj.bag bik (padL al.length als ++ bls) ity (aown && bown) ((aown || afr) && (bown || bfr))]).length by simp [killO]]
         simp only [den, upd_same, sliceVal]
       ·cases h
      ·cases h
     ·cases h
    ·cases h
   ·cases h
  ·cases h
 | _ => simp only [hop, opan] at h; cases h
theorem upd_mid (ρ : Nat → Value) {k : K} {a b : k.T} {off : Nat} {xs : List SV} (hb : k.upd a off xs = some b) (u u' : Value) {vs : List Value} (hvs : (vs = denL ρ xs ∧ u' = u) ∨ (vs = denL ρ xs ++ [u'] ∧ off + xs.length = k.sz)) (q : Nat) (hq : q < k.sz + 1) :
  (denL ρ (k.enc b) ++ [u'])[q]? = if off ≤ q ∧ q < off + vs.length then vs[q - off]? else (denL ρ (k.enc a) ++ [u])[q]? := by
 have hle : off + xs.length ≤ k.sz := by
  unfold K.upd at hb
  split at hb
  ·assumption
  ·cases hb
 have he : k.enc b = fillAt (k.enc a) off xs := by
  unfold K.upd at hb
  rw [if_pos hle] at hb
  exact (dec_enc k _ b hb).1.symm
 have hlb : (denL ρ (k.enc b)).length = k.sz := by simp [enc_len]
 have hla : (denL ρ (k.enc a)).length = k.sz := by simp [enc_len]
 have hg : ∀ i, (denL ρ (k.enc b))[i]? = if off ≤ i ∧ i < off + xs.length then (denL ρ xs)[i - off]? else (denL ρ (k.enc a))[i]? := fun i => by
  rw [he, denL_map, List.getElem?_map, fill_get _ _ _ (by rw [enc_len]; exact hle), denL_map, denL_map, List.getElem?_map, List.getElem?_map]
  split <;> rfl
 rcases hvs with ⟨rfl, rfl⟩ | ⟨rfl, hsz⟩
 ·rw [zq5]
  by_cases h : q < k.sz
  ·rw [List.getElem?_append_left (by rw [hlb]; exact h), List.getElem?_append_left (by rw [hla]; exact h)]
   exact hg q
  ·rw [List.getElem?_append_right (by omega), List.getElem?_append_right (by omega), hlb, hla, if_neg (by omega)]
 ·simp only [List.length_append, zq5, List.length_cons, List.length_nil]
  by_cases h : q < k.sz
  ·have e2 : (denL ρ (k.enc a) ++ [u])[q]? = (denL ρ (k.enc a))[q]? := List.getElem?_append_left (by rw [hla]; exact h)
   rw [List.getElem?_append_left (by rw [hlb]; exact h), hg q, e2]
   by_cases h2 : off ≤ q ∧ q < off + xs.length
   ·rw [if_pos h2, if_pos (by omega), List.getElem?_append_left (by rw [zq5]; omega)]
   ·rw [if_neg h2, if_neg (by omega)]
  ·rw [List.getElem?_append_right (by omega), hlb, if_pos (by omega), List.getElem?_append_right (by simp; omega)]
   simp only [zq5]
   congr 1
   omega
theorem opsn_slice {W : World} {ρ : Nat → Value} {m : Mem} {w : World} (hm : RelM W ρ m w) {j : Nat} {k : K} {l : List k.T} {jb : Nat} {bt : TypeId} (hj : m[j]? = some (.row (.nest k l jb) bt true)) {jx : Nat} {ik : K} {ls : List (List ik.T)} {ity : TypeId} {own fr : Bool}
  (hjx : m[jx]? = some (.bag ik ls ity own fr)) {i : Int} {y b : k.T} (hyl : l[i.toNat]? = some y) {off : Nat} {xs : List SV} (hb : k.upd y off xs = some b) {c : SV} {yl : List ik.T} {yo yf : Bool} {yr : Option Nat} (hinn : innOf m ik ity c = some (yl, yo, yf, yr))
  (hnj : ¬ yr = some j ∧ ¬ yr = some jx) (hsame : ∀ p : Nat, p < l.length → p ≠ i.toNat → innV (ρ jb) (p : Int) = innV (ρ jx) (p : Int)) {g cap : Nat} (hg : ρ j = .slice (some ⟨g, 0, none⟩) l.length cap) (hdl : off + xs.length = k.sz) :
  ∃ ρ', RelM W ρ' ((goneL (own && yo) (jx :: yr.toList) m ++ [Obj.bag ik ((padL l.length ls).set i.toNat yl) ity (own && yo) ((own || fr) && yf)]).set j (.row (.nest k (l.set i.toNat b) m.length) bt true)) (w.setCells g (i.toNat * (k.sz + 1) + off) (denL ρ xs ++ [den ρ c])) ∧
   Agree m.length ρ ρ' ∧ m.length ≤ ((goneL (own && yo) (jx :: yr.toList) m ++ [Obj.bag ik ((padL l.length ls).set i.toNat yl) ity (own && yo) ((own || fr) && yf)]).set j (.row (.nest k (l.set i.toNat b) m.length) bt true)).length := by
 have hil := (List.getElem?_eq_some_iff.1 hyl).1
 have hn1 : (i.toNat + 1) * (k.sz + 1) ≤ l.length * (k.sz + 1) := Nat.mul_le_mul_right _ hil
 rw [Nat.succ_mul] at hn1
 obtain ⟨i1, i2, i3, i3o, i4⟩ := innOf_ok hm hinn
 obtain ⟨va, va1, va2, va3, va4, va5, _, va7⟩ := bag_pad hm hjx
 have hset : ∀ (p : Nat) (z : Value), ((padV l.length va).set i.toNat (den ρ c))[p]? = some z → (p = i.toNat ∧ z = den ρ c) ∨ (p ≠ i.toNat ∧ (padV l.length va)[p]? = some z) := fun p z hz => by
  by_cases hp : p = i.toNat
  ·subst hp
   rw [List.getElem?_set_self (by rw [padV_len]; exact hil)] at hz
   injection hz with hz
   exact .inl ⟨rfl, hz.symm⟩
  ·rw [List.getElem?_set_ne (by omega)] at hz
   exact .inr ⟨hp, hz⟩
 have hcross : (own && yo) = true → ∀ (z : Value) (b : Nat), z ∈ padV l.length va → valBlock (den ρ c) = some b → valBlock z ≠ some b := fun ho z b hz hb hzb => by
  simp only [Bool.and_eq_true] at ho
  obtain ⟨jr, hjr, ob, q1, q3, q4⟩ := i3o ho.2 b hb
  exact hm.sep jr jx ob _ (fun e => hnj.2 (by rw [hjr, e])) q1 hjx q4 rfl b q3 (by rw [blocks_mut (show (Obj.bag ik ls ity own fr).mutB = true from ho.1)]; exact (va4 l.length z hz b).1 hzb)
 obtain ⟨g1, g2⟩ := hm.bagPush (k := ik) (ls := (padL l.length ls).set i.toNat yl) (ity := ity) (own := own && yo) (fr := (own || fr) && yf) (vs := (padV l.length va).set i.toNat (den ρ c)) (jx :: yr.toList) (by simp [padV_len, pad_len])
  (fun p z lz hz hl => by
   rcases hset p z hz with ⟨rfl, rfl⟩ | ⟨hp, hz⟩
   ·rw [List.getElem?_set_self (by rw [pad_len]; exact hil)] at hl
    injection hl with hl
    subst hl
    exact ⟨i1, fun ho => i2 (by simp only [Bool.and_eq_true] at ho; exact ho.2)⟩
   ·rw [List.getElem?_set_ne (by omega)] at hl
    obtain ⟨r1, r2⟩ := va3 l.length p z lz hz hl
    exact ⟨r1, fun ho => r2 (by simp only [Bool.and_eq_true] at ho; exact ho.1)⟩) (fun z hz b hb => by
   obtain ⟨p, hp⟩ := List.mem_iff_getElem?.1 hz
   rcases hset p z hp with ⟨_, rfl⟩ | ⟨_, hp⟩
   ·obtain ⟨jr, hjr, ob, q1, q2, q3⟩ := i3 b hb
    exact ⟨jr, by rw [hjr]; simp, ob, q1, q2, q3⟩
   ·exact ⟨jx, by simp, _, hjx, rfl, rd_blocks ((va4 l.length z (List.mem_of_getElem? hp) b).2 hb)⟩) (fun ho z hz b hb => by
   simp only [Bool.and_eq_true] at ho
   obtain ⟨p, hp⟩ := List.mem_iff_getElem?.1 hz
   rcases hset p z hp with ⟨_, rfl⟩ | ⟨_, hp⟩
   ·obtain ⟨jr, hjr, ob, q1, q3, q4⟩ := i3o ho.2 b hb
    exact ⟨jr, by rw [hjr]; simp, ob, q1, q3, q4⟩
   ·exact ⟨jx, by simp, _, hjx, (va4 l.length z (List.mem_of_getElem? hp) b).1 hb, ho.1⟩) (fun ho p q z z' b hpq hp hq hb => by
   rcases hset p z hp with ⟨rfl, rfl⟩ | ⟨hp1, hp⟩ <;> rcases hset q z' hq with ⟨rfl, rfl⟩ | ⟨hq1, hq⟩
   ·exact absurd rfl hpq
   ·exact hcross ho z' b (List.mem_of_getElem? hq) hb
   ·exact fun hb2 => hcross ho z b (List.mem_of_getElem? hp) hb2 hb
   ·exact va5 (by simp only [Bool.and_eq_true] at ho; exact ho.1) l.length p q z z' b hpq hp hq hb) (fun hf z hz b hb => by
   rw [Bool.and_eq_true] at hf
   obtain ⟨p, hp⟩ := List.mem_iff_getElem?.1 hz
   rcases hset p z hp with ⟨_, rfl⟩ | ⟨_, hp⟩
   ·exact i4 hf.2 b hb
   ·exact (va7 hf.1).2 l.length z (List.mem_of_getElem? hp) b hb)
 have hag := upd_agree ρ m.length (.tuple ((padV l.length va).set i.toNat (den ρ c)).toArray)
 have hjl : j < m.length := (List.getElem?_eq_some_iff.1 hj).1
 have hjbl : jb < m.length := by have := hm.lt j _ hj; simpa [Obj.lt, C.lt] using this
 obtain ⟨_, hgl, _, _, _, hkeep⟩ := goneL_spec (own && yo) (jx :: yr.toList) hm
 have hm1j : (goneL (own && yo) (jx :: yr.toList) m ++ [Obj.bag ik ((padL l.length ls).set i.toNat yl) ity (own && yo) ((own || fr) && yf)])[j]? = some (.row (.nest k l jb) bt true) := by
  rw [List.getElem?_append_left (by rw [hgl]; exact hjl), hkeep j (by
   simp only [List.mem_cons, Option.mem_toList, not_or]
   exact ⟨(fun e => by rw [e, hjx] at hj; cases hj), hnj.1⟩), hj]
 have := g1.storeC (c := .nest k l jb) (c' := .nest k (l.set i.toNat b) m.length) hm1j rfl (by simp [C.n]) (by simp [C.lt, g2]) (fun u hu => by simp only [C.den] at hu; exact nest_one _ _ _ _ _ u hu) (by simp [C.den, nest_len, C.n, C.sz]) (off := i.toNat * (k.sz + 1) + off) (vs := denL ρ xs ++ [den ρ c])
  (by simp only [C.n, C.sz, zq5, List.length_append, List.length_cons, List.length_nil]; omega) (fun q => ?_) g cap (by rw [hag j hjl]; exact hg)
 ·exact ⟨_, this, hag, by simp [hgl]⟩
 ·simp only [C.den, upd_same]
  rw [hag jb hjbl, nestDen_enc ρ _ k (.tuple _), nestDen_enc ρ _ k (ρ jb)]
  refine nest_set ρ k (ρ jb) _ l i.toNat 0 y b hyl (fun p hp hne => ?_) (by simp only [zq5, List.length_append, List.length_cons, List.length_nil]; omega) (fun q hq => ?_) q
  ·rw [Nat.zero_add, hsame p hp hne, va1, innV_tup, innV_tup, List.getD_eq_getElem?_getD, List.getElem?_set_ne (by omega), padV_get, if_pos hp]
   rfl
  ·have hin : innV (.tuple ((padV l.length va).set i.toNat (den ρ c)).toArray) ((0 + i.toNat : Nat) : Int) = den ρ c := by
    rw [Nat.zero_add, innV_tup, List.getD_eq_getElem?_getD, List.getElem?_set_self (by rw [padV_len]; exact hil)]
    exact i1.slice
   rw [hin]
   exact upd_mid ρ hb _ _ (.inr ⟨rfl, hdl⟩) q hq
theorem opsn_run {P : Program} {T : Nat → TI} {W : World} {ρ : Nat → Value} {m : Mem} {a : Act} {o : Oper} {t : List SV} {w : World} (hT : TOk P T) (ht : RelT ρ m.length t a) (hm : RelM W ρ m w) {ty : TypeId} {ad x : Operand} (hop : o.op = .store ty ad x) {j : Nat} {i : Int} {off : Nat} {k : K} {l : List k.T} {jb : Nat} {bt : TypeId}
  (had : ev t ad = .ep j i (k.sz + 1) off) (hk : (T ty).known = true) (hany : (ev t x).isAny = false) (hall : (ev t x).cells.all (·.one) = true) (hlen : (ev t x).cells.length = (T ty).size) (hj : m[j]? = some (.row (.nest k l jb) bt true)) (hil : i.toNat < l.length) (hoff : off + (ev t x).cells.length ≤ k.sz + 1) :
  ∃ g cap, ρ j = .slice (some ⟨g, 0, none⟩) l.length cap ∧ (execOp a.eval o).run P w = .ok .skip (w.setCells g (i.toNat * (k.sz + 1) + off) (denL ρ (ev t x).cells)) := by
 obtain ⟨hlt, hev⟩ := ht.ev x hany
 have h1 := (ht.ev ad (by rw [had]; rfl)).2
 rw [had] at h1
 have hcells : (a.eval x).cells.toList = denL ρ (ev t x).cells := by rw [hev]; exact one_cells_den hall hany
 have hsz2 : (a.eval x).cells.size = (T ty).size := by rw [← Array.length_toList, hcells, zq5, hlen]
 obtain ⟨hz, _, hown⟩ := hm.obj j _ hj
 rw [if_pos rfl] at hown
 rcases hown.2 with ⟨hv, h0⟩ | ⟨g, cap, cur, hv, hbase, hheap, hnc, hcm, hcs, htake⟩
 ·have h0 : l.length = 0 := h0
  omega
 have hv' : ρ j = .slice (some ⟨g, 0, none⟩) l.length cap := hv
 have hn1 : (i.toNat + 1) * (k.sz + 1) ≤ l.length * (k.sz + 1) := Nat.mul_le_mul_right _ hil
 have hn2 : l.length * (k.sz + 1) ≤ cap * (k.sz + 1) := Nat.mul_le_mul_right _ hnc
 rw [Nat.succ_mul] at hn1
 have hcs' : cur.size = cap * (k.sz + 1) := hcs
 have hadr : a.eval ad = .pointer (some ⟨g, i.toNat * (k.sz + 1) + off, none⟩) := by
  rw [h1]
  simp only [den, hv', elemPtr]
  congr 2
  unfold Addr.add
  split <;> split <;> simp_all
 have hst := run_storeCells_cells (P := P) g (i.toNat * (k.sz + 1) + off) (denL ρ (ev t x).cells) 0 w (fun q hq => by
   rw [cells_of_blk hheap, Array.getElem?_eq_getElem (by simp at hq; omega)]; rfl)
  (fun q hq => by simp [World.frozen?, hheap]) (fun v hv => by
   rw [denL_map, List.mem_map] at hv
   obtain ⟨c, hc, rfl⟩ := hv
   exact oneC_cell' (one_den (List.all_eq_true.1 hall c hc)))
 refine ⟨g, cap, hv', ?_⟩
 simp only [execOp, hop, hadr, Instr.storeAt, Instr.sureAddr, storeVar, Sem.run_bind, Sem.run_pure, Result.andThen_ok, (hT.ty ty hk).sizeOf, hcells]
 simp [hsz2, hst]
theorem opsn_ok {P : Program} {T : Nat → TI} {W : World} {ρ : Nat → Value} {m : Mem} {a : Act} {o : Oper} {t : List SV} {w : World} (hT : TOk P T) (ht : RelT ρ m.length t a) (hm : RelM W ρ m w) {r : StN} (h : opsn T t m o.op = some r)
  {y : r.k.T} (hy : geti r.l r.i = some y) {b : r.k.T} (hb : r.k.upd y r.off r.xs = some b) (hcr : r.c = true) : ∃ w' ρ', (execOp a.eval o).run P w = .ok .skip w' ∧ RelM W ρ' (r.mem m b) w' ∧ m.length ≤ (r.mem m b).length ∧ Agree m.length ρ ρ' := by
 cases hop : o.op with
 | store ty ad x =>
  simp only [hop, opsn] at h
  split at h
  ·rename_i j i sz off had
   split at h
   ·rename_i k l jb bt hj
    split at h
    ·rename_i ik ls ity own fr hjb
     split at h
     ·rename_i hc
      simp only [Bool.and_eq_true, Bool.not_eq_true', beq_iff_eq] at hc
      obtain ⟨⟨⟨⟨hk, rfl⟩, hany⟩, hall⟩, hlen⟩ := hc
      obtain ⟨hlt, hev⟩ := ht.ev x hany
      have h1 := (ht.ev ad (by rw [had]; rfl)).2
      rw [had] at h1
      have hcells : (a.eval x).cells.toList = denL ρ (ev t x).cells := by rw [hev]; exact one_cells_den hall hany
      have hsz2 : (a.eval x).cells.size = (T ty).size := by rw [← Array.length_toList, hcells, zq5, hlen]
      obtain ⟨hz, _, hown⟩ := hm.obj j _ hj
      rw [if_pos rfl] at hown
      have run := opsn_run hT ht hm hop had hk hany hall hlen hj
      split at h
      ·rename_i hoff
       simp only [Option.some.injEq] at h
       subst h
       simp only at hy hb ⊢
       obtain ⟨hi0, hyl⟩ := geti_some hy
       have hil := (List.getElem?_eq_some_iff.1 hyl).1
       obtain ⟨g, cap, hg, hrun⟩ := run hil (by omega)
       have hn1 : (i.toNat + 1) * (k.sz + 1) ≤ l.length * (k.sz + 1) := Nat.mul_le_mul_right _ hil
       rw [Nat.succ_mul] at hn1
       refine ⟨_, ρ, hrun, ?_, by simp [StN.mem], Agree.refl _ _⟩
       have := hm.storeC (c := .nest k l jb) (c' := .nest k (l.set i.toNat b) jb) hj rfl (by simp [C.n]) (by have := hm.lt j _ hj; simpa [Obj.lt, C.lt] using this) (fun u hu => nest_one _ _ _ _ _ u hu) (by simp [C.den, nest_len, C.n, C.sz]) (off := i.toNat * (k.sz + 1) + off) (vs := denL ρ (ev t x).cells)
        (by simp only [C.n, C.sz, zq5]; omega) (fun q => ?_) g cap hg
       ·simpa [StN.mem, seti] using this
       ·exact nest_set ρ k (ρ jb) (ρ jb) l i.toNat 0 y b hyl (fun _ _ _ => rfl) (by rw [zq5]; omega) (fun q hq => upd_mid ρ hb _ _ (.inl ⟨rfl, rfl⟩) q hq) q
      ·split at h
       ·rename_i hoff2 hoff
        split at h
        ·rename_i c hcl
         split at h
         ·rename_i yy hinn
          obtain ⟨yl, yo, yf, yr⟩ := yy
          split at h
          ·cases h
          ·rename_i hnj
           simp only [Bool.or_eq_true, beq_iff_eq, not_or] at hnj
           simp only [Option.some.injEq] at h
           subst h
           simp only at hy hb ⊢
           obtain ⟨hi0, hyl⟩ := geti_some hy
           have hil := (List.getElem?_eq_some_iff.1 hyl).1
           obtain ⟨g, cap, hg, hrun⟩ := run hil (by omega)
           have hn1 : (i.toNat + 1) * (k.sz + 1) ≤ l.length * (k.sz + 1) := Nat.mul_le_mul_right _ hil
           rw [Nat.succ_mul] at hn1
           have hsp : (ev t x).cells = (ev t x).cells.dropLast ++ [c] := by
            have hne : (ev t x).cells ≠ [] := fun e => by rw [e] at hcl; cases hcl
            rw [List.getLast?_eq_some_getLast hne] at hcl
            injection hcl with hcl
            rw [← hcl, List.dropLast_concat_getLast]
           have hdl : off + (ev t x).cells.dropLast.length = k.sz := by
            have := congrArg List.length hsp
            rw [List.length_append] at this
            simp only [List.length_cons, List.length_nil] at this
            omega
           obtain ⟨ρ', q1, q2, q3⟩ := opsn_slice hm hj hjb hyl hb hinn hnj (fun _ _ _ => rfl) hg hdl
           rw [hsp, show denL ρ ((ev t x).cells.dropLast ++ [c]) = denL ρ (ev t x).cells.dropLast ++ [den ρ c] by rw [denL_map, List.map_append, ← denL_map]; rfl] at hrun
           exact ⟨_, ρ', hrun, q1, q3, q2⟩
         ·cases h
        ·cases h
       ·cases h
     ·cases h
    ·rename_i nb i0 hjb
     split at h
     ·rename_i ik ls ity own fr hnb
      split at h
      ·rename_i hc
       simp only [Bool.and_eq_true, Bool.not_eq_true', beq_iff_eq, decide_eq_true_eq] at hc
       obtain ⟨⟨⟨⟨⟨hk, rfl⟩, hany⟩, hall⟩, hlen⟩, hoff⟩ := hc
       split at h
       ·rename_i c hcl
        split at h
        ·rename_i yy hinn
         obtain ⟨yl, yo, yf, yr⟩ := yy
         split at h
         ·cases h
         ·rename_i hnj
          simp only [Bool.or_eq_true, beq_iff_eq, not_or] at hnj
          simp only [Option.some.injEq] at h
          subst h
          simp only [decide_eq_true_eq] at hy hb hcr ⊢
          subst hcr
          obtain ⟨hi0, hyl⟩ := geti_some hy
          have hil := (List.getElem?_eq_some_iff.1 hyl).1
          obtain ⟨g, cap, hg, hrun⟩ := opsn_run hT ht hm hop had hk hany hall hlen hj hil (by omega)
          have hsp : (ev t x).cells = (ev t x).cells.dropLast ++ [c] := by
           have hne : (ev t x).cells ≠ [] := fun e => by rw [e] at hcl; cases hcl
           rw [List.getLast?_eq_some_getLast hne] at hcl
           injection hcl with hcl
           rw [← hcl, List.dropLast_concat_getLast]
          have hdl : off + (ev t x).cells.dropLast.length = k.sz := by
           have := congrArg List.length hsp
           rw [List.length_append] at this
           simp only [List.length_cons, List.length_nil] at this
           omega
          obtain ⟨_, va, hv1, hv2⟩ := hm.obj jb _ hjb
          obtain ⟨ρ', q1, q2, q3⟩ := opsn_slice hm hj hnb hyl hb hinn hnj (fun p hp hne => by
           rw [hv1, hv2, innV_tup, innV_tup, List.getD_eq_getElem?_getD, List.getD_eq_getElem?_getD, List.getElem?_set_ne (by omega)]) hg hdl
          rw [hsp, show denL ρ ((ev t x).cells.dropLast ++ [c]) = denL ρ (ev t x).cells.dropLast ++ [den ρ c] by rw [denL_map, List.map_append, ← denL_map]; rfl] at hrun
          exact ⟨_, ρ', hrun, q1, q3, q2⟩
        ·cases h
       ·cases h
      ·cases h
     ·cases h
    ·cases h
   ·cases h
  ·cases h
 | _ => simp only [hop, opsn] at h; cases h
end Go.Ma
namespace Go.Ma
open Go Go.RowKit
theorem RelM.nilRow {W : World} {ρ : Nat → Value} {m : Mem} {w : World} (hm : RelM W ρ m w) (k : K) (e : TypeId) : RelM W (upd ρ m.length (.slice none 0 0)) (m ++ [.row (.ty k []) e true]) w :=
 hm.push (Below.refl _ _) ⟨(sz_pos k : 0 < k.sz), fun u hu => (by simp [C.den] at hu), World.ownsRow_nil w _ _ _⟩ rfl (fun b hb => by have hb := blocks_sub hb; simp [valBlocks, valBlock] at hb)
theorem RelM.nilBag {W : World} {ρ : Nat → Value} {m : Mem} {w : World} (hm : RelM W ρ m w) (k : K) (e : TypeId) : RelM W (upd ρ m.length (.tuple #[])) (m ++ [.bag k [] e true true]) w :=
 hm.push (Below.refl _ _) ⟨[], rfl, rfl, fun i x l h => (by simp at h), fun _ i j x y b _ h => (by simp at h), fun _ x h => (by cases h)⟩ rfl (fun b hb => by have hb := blocks_sub hb; simp [valBlocks] at hb)
theorem RelM.nilNest {W : World} {ρ : Nat → Value} {m : Mem} {w : World} (hm : RelM W ρ m w) (k : K) (e : TypeId) {j : Nat} (hj : j < m.length) : RelM W (upd ρ m.length (.slice none 0 0)) (m ++ [.row (.nest k [] j) e true]) w :=
 hm.push (Below.refl _ _) ⟨by simp [C.sz], fun u hu => (by simp [C.den, nestDen] at hu), World.ownsRow_nil w _ _ _⟩ (by simpa [Obj.lt, C.lt] using hj) (fun b hb => by have hb := blocks_sub hb; simp [valBlocks, valBlock] at hb)
theorem RelM.blkCell {W : World} {ρ : Nat → Value} {m : Mem} {w : World} (hm : RelM W ρ m w) {j : Nat} {cs : List SV} {ty : TypeId} {own : Bool} (hj : m[j]? = some (.blk cs ty own)) {q : Nat} {c c' : SV} (hq : cs[q]? = some c) (ha : c.isAny = false) (hd : den ρ c' = den ρ c) (hl : c'.lt m.length = true) :
  RelM W ρ (m.set j (.blk (cs.set q c') ty own)) w := by
 refine hm.weak hj ?_ (fun h => h) (fun h => h) ?_ (fun v b h => h)
 ·obtain ⟨b, arr, h1, h2, h3, h4, h5⟩ := hm.obj j _ hj
  refine ⟨b, arr, h1, h2, h3, by simpa using h4, fun i sv hi hs => ?_⟩
  by_cases hiq : i = q
  ·subst hiq
   rw [List.getElem?_set_self (List.getElem?_eq_some_iff.1 hq).1] at hi
   injection hi with hi
   subst hi
   rw [hd]
   exact h5 i c hq ha
  ·rw [List.getElem?_set_ne (by omega)] at hi
   exact h5 i sv hi hs
 ·have := hm.lt j _ hj
  simp only [Obj.lt, List.all_eq_true, Bool.or_eq_true] at this ⊢
  intro x hx
  rcases List.mem_or_eq_of_mem_set hx with hx | rfl
  ·exact this x hx
  ·exact .inr hl
theorem lay_ok {W : World} {w : World} (j off : Nat) : ∀ (l : List (Nat × (K ⊕ (K × K × TypeId)) × TypeId)) (m : Mem) (ρ : Nat → Value), RelM W ρ m w → ∃ ρ', RelM W ρ' (layB j off l m) w ∧ Agree m.length ρ ρ' ∧ m.length ≤ (layB j off l m).length
 | [], m, ρ, h => ⟨ρ, h, Agree.refl _ _, Nat.le_refl _⟩
 | (o, kd, e) :: r, m, ρ, h => by
  unfold layB
  split
  ·rename_i cs ty own hj
   have hjl : j < m.length := (List.getElem?_eq_some_iff.1 hj).1
   split
   ·rename_i hq
    cases kd with
    | inl k =>
     have h1 := h.nilRow k e
     have hag := upd_agree ρ m.length (.slice none 0 0)
     have h2 := h1.blkCell (j := j) (cs := cs) (ty := ty) (own := own) (by rw [List.getElem?_append_left hjl]; exact hj) (c' := .row m.length) hq rfl (by simp only [den, upd_same, sliceVal]) (by simp [SV.lt])
     obtain ⟨ρ', q1, q2, q3⟩ := lay_ok j off r _ _ h2
     simp only [List.length_set, List.length_append, List.length_cons, List.length_nil] at q2 q3
     exact ⟨ρ', q1, hag.trans q2 (by omega), by simp only; omega⟩
    | inr x =>
     obtain ⟨hk, ik, ity⟩ := x
     have h1 := (h.nilBag ik ity).nilNest hk e (j := m.length) (by simp)
     simp only [List.append_assoc, List.cons_append, List.nil_append, List.length_append, List.length_cons, List.length_nil] at h1
     have hag := upd_agree ρ m.length (.tuple #[])
     have hag2 := upd_agree (upd ρ m.length (.tuple #[])) (m.length + 1) (.slice none 0 0)
     have h2 := h1.blkCell (j := j) (cs := cs) (ty := ty) (own := own) (by rw [List.getElem?_append_left hjl]; exact hj) (c' := .row (m.length + 1)) hq rfl (by simp only [den, upd_same, sliceVal]) (by simp [SV.lt])
     obtain ⟨ρ', q1, q2, q3⟩ := lay_ok j off r _ _ h2
     simp only [List.length_set, List.length_append, List.length_cons, List.length_nil] at q2 q3
     exact ⟨ρ', q1, (hag.trans hag2 (by omega)).trans q2 (by omega), by simp only; omega⟩
   ·exact lay_ok j off r m ρ h
  ·exact lay_ok j off r m ρ h
theorem lay_app (j off : Nat) : ∀ (l : List (Nat × (K ⊕ (K × K × TypeId)) × TypeId)) (m os : Mem), m.length ≤ j → ∃ os', layB j off l (m ++ os) = m ++ os'
 | [], m, os, _ => ⟨os, rfl⟩
 | (o, kd, e) :: r, m, os, h => by
  unfold layB
  split
  ·split
   ·cases kd with
    | inl k =>
     simp only [List.append_assoc]
     rw [List.set_append_right _ _ h]
     exact lay_app j off r m _ h
    | inr x =>
     obtain ⟨hk, ik, ity⟩ := x
     simp only [List.append_assoc]
     rw [List.set_append_right _ _ h]
     exact lay_app j off r m _ h
   ·exact lay_app j off r m os h
  ·exact lay_app j off r m os h
theorem post_ok {W : World} {w : World} {T : Nat → TI} {t : List SV} {n : Nat} {op : Op} {m : Mem} {ρ : Nat → Value} (h : RelM W ρ m w) : ∃ ρ', RelM W ρ' (post T t n op m) w ∧ Agree m.length ρ ρ' ∧ m.length ≤ (post T t n op m).length := by
 have triv : ∃ ρ', RelM W ρ' m w ∧ Agree m.length ρ ρ' ∧ m.length ≤ m.length := ⟨ρ, h, Agree.refl _ _, Nat.le_refl _⟩
 unfold post
 split
 ·exact lay_ok _ _ _ m ρ h
 ·exact lay_ok _ _ _ m ρ h
 ·split
  ·exact lay_ok _ _ _ m ρ h
  ·exact triv
 ·exact triv
theorem flat_one' {ρ : Nat → Value} {k : K} {l : List k.T} {u : Value} (hu : u ∈ (C.ty k l).den ρ) : oneC u = true := by
 simp only [C.den, List.mem_flatMap, denL_map, List.mem_map] at hu
 obtain ⟨a, _, c, hc, rfl⟩ := hu
 exact one_den (enc_one k a c hc)
theorem take_ok {W : World} {w : World} {m m' : Mem} {ρ : Nat → Value} (hm : RelM W ρ m w) {jb : Nat} {i : Int} (h0 : 0 ≤ i) (h : takeM m jb i = some m') :
  ∃ ρ', RelM W ρ' m' w ∧ Agree m.length ρ ρ' ∧ m'.length = m.length + 2 ∧ den ρ' (.row (m.length + 1)) = den ρ (.inn jb i) := by
 unfold takeM at h
 split at h
 rotate_left
 ·cases h
 rename_i k ls ty fr hj
 injection h with h
 subst h
 have hjl : jb < m.length := (List.getElem?_eq_some_iff.1 hj).1
 obtain ⟨vs, hv, hlen, hrow, hdis, hfr⟩ := hm.obj jb _ hj
 simp only [if_true] at hrow
 have hvb : ∀ {b : Nat}, b ∈ valBlocks (ρ jb) ↔ ∃ x ∈ vs, valBlock x = some b := fun {b} => by rw [hv]; simp [valBlocks]
 have hsetV : ∀ (p : Nat) (x : Value), (vs.set i.toNat (.slice none 0 0))[p]? = some x → (p = i.toNat ∧ x = .slice none 0 0) ∨ (p ≠ i.toNat ∧ vs[p]? = some x) := fun p x hx => by
  by_cases hp : p = i.toNat
  ·subst hp
   have hil : i.toNat < vs.length := by have := (List.getElem?_eq_some_iff.1 hx).1; simpa using this
   rw [List.getElem?_set_self hil] at hx
   injection hx with hx
   exact .inl ⟨rfl, hx.symm⟩
  ·rw [List.getElem?_set_ne (by omega)] at hx
   exact .inr ⟨hp, hx⟩
 have hnil : w.ownsRow W.heap.size ty k.sz (.slice none 0 0) ([] : List k.T).length ((C.ty k []).den ρ) := World.ownsRow_nil w _ _ _
 -- the other slices
 obtain ⟨g1, g2⟩ := hm.bagPush (k := k) (ls := outL ls i) (ity := ty) (own := true) (fr := fr) (vs := vs.set i.toNat (.slice none 0 0)) [jb] (by simp [outL, hlen])
  (fun p x l hx hl => by
   rcases hsetV p x hx with ⟨rfl, rfl⟩ | ⟨hp, hx⟩
   ·have hil : i.toNat < ls.length := by have := (List.getElem?_eq_some_iff.1 hl).1; simpa [outL] using this
    unfold outL at hl
    rw [List.getElem?_set_self hil] at hl
    injection hl with hl
    subst hl
    exact ⟨ownsRow_is hnil, fun _ => hnil⟩
   ·unfold outL at hl
    rw [List.getElem?_set_ne (by omega)] at hl
    exact ⟨ownsRow_is (hrow p x l hx hl), fun _ => hrow p x l hx hl⟩)
  (fun x hx b hb => by
   obtain ⟨p, hp⟩ := List.mem_iff_getElem?.1 hx
   rcases hsetV p x hp with ⟨rfl, rfl⟩ | ⟨_, hp⟩
   ·cases hb
   ·exact ⟨jb, by simp, _, hj, rfl, by rw [blocks_mut rfl]; exact hvb.2 ⟨x, List.mem_of_getElem? hp, rd_val hb⟩⟩)
  (fun _ x hx b hb => by
   obtain ⟨p, hp⟩ := List.mem_iff_getElem?.1 hx
   rcases hsetV p x hp with ⟨rfl, rfl⟩ | ⟨_, hp⟩
   ·cases hb
   ·exact ⟨jb, by simp, _, hj, hvb.2 ⟨x, List.mem_of_getElem? hp, hb⟩, rfl⟩)
  (fun _ p q x y b hpq hx hy hb => by
   rcases hsetV p x hx with ⟨rfl, rfl⟩ | ⟨_, hx⟩
   ·cases hb
   ·rcases hsetV q y hy with ⟨rfl, rfl⟩ | ⟨_, hy⟩
    ·simp [valBlock]
    ·exact hdis rfl p q x y b hpq hx hy hb)
  (fun hf x hx b hb => by
   obtain ⟨p, hp⟩ := List.mem_iff_getElem?.1 hx
   rcases hsetV p x hp with ⟨rfl, rfl⟩ | ⟨_, hp⟩
   ·cases hb
   ·exact hfr hf x (List.mem_of_getElem? hp) b hb)
 have hg : goneL true [jb] m = m.set jb (.dead none) := rfl
 rw [hg] at g1 g2
 have hag := upd_agree ρ m.length (.tuple (vs.set i.toNat (.slice none 0 0)).toArray)
 -- the slice
 have hx : w.ownsRow W.heap.size ty k.sz (innV (ρ jb) i) (getL ls i).length ((C.ty k (getL ls i)).den ρ) ∧ ∀ b, valBlock (innV (ρ jb) i) = some b → vs[i.toNat]? = some (innV (ρ jb) i) := by
  rw [hv]
  unfold innV getL
  simp only [if_pos h0, List.getD_eq_getElem?_getD]
  cases hi : vs[i.toNat]? with
  | none =>
   rw [List.getElem?_eq_none (by rw [← hlen]; exact List.getElem?_eq_none_iff.1 hi)]
   exact ⟨hnil, fun b hb => by simp [sliceVal, valBlock] at hb⟩
  | some x =>
   have hil : i.toNat < ls.length := by rw [← hlen]; exact (List.getElem?_eq_some_iff.1 hi).1
   have hx := hrow i.toNat x _ hi (List.getElem?_eq_getElem hil)
   rw [List.getElem?_eq_getElem hil]
   simp only [Option.getD_some]
   have hs : sliceVal x = x := by
    rcases hx.2 with ⟨h, _⟩ | ⟨_, _, _, h, _⟩ <;> rw [h] <;> rfl
   rw [hs]
   exact ⟨hx, fun _ _ => rfl⟩
 obtain ⟨hown, hat⟩ := hx
 have hs : sliceVal (innV (ρ jb) i) = innV (ρ jb) i := by
  rcases hown.2 with ⟨h, _⟩ | ⟨_, _, _, h, _⟩ <;> rw [h] <;> rfl
 have hone : ∀ b, b ∈ valBlocks (innV (ρ jb) i) ↔ valBlock (innV (ρ jb) i) = some b := fun b => blocks_one (fun vs' e => by rw [e] at hs; simp [sliceVal] at hs)
 have hold : ∀ (q : Nat) (o : Obj), (m.set jb (.dead none))[q]? = some o → o.live' = true → q ≠ jb ∧ m[q]? = some o := fun q o hq hl => by
  by_cases hqj : q = jb
  ·subst hqj
   rw [List.getElem?_set_self hjl] at hq
   injection hq with hq
   subst hq
   cases hl
  ·rw [List.getElem?_set_ne (by omega)] at hq
   exact ⟨hqj, hq⟩
 have hkey : ∀ (q : Nat) (o : Obj), (m.set jb (.dead none) ++ [Obj.bag k (outL ls i) ty true fr])[q]? = some o → o.live' = true → (q < m.length ∧ q ≠ jb ∧ m[q]? = some o) ∨ (q = m.length ∧ o = .bag k (outL ls i) ty true fr) := fun q o hq hl => by
  by_cases hql : q < m.length
  ·rw [List.getElem?_append_left (by simpa using hql)] at hq
   exact .inl ⟨hql, hold q o hq hl⟩
  ·have h1 := (List.getElem?_eq_some_iff.1 hq).1
   simp only [List.length_append, List.length_set, List.length_cons, List.length_nil] at h1
   have hqe : q = m.length := by omega
   subst hqe
   rw [List.getElem?_append_right (by simp)] at hq
   simp only [List.length_set, Nat.sub_self, List.getElem?_cons_zero, Option.some.injEq] at hq
   exact .inr ⟨rfl, hq.symm⟩
 have hcross : ∀ b, valBlock (innV (ρ jb) i) = some b → b ∉ valBlocks (.tuple (vs.set i.toNat (.slice none 0 0)).toArray) := fun b hb hb2 => by
  simp only [valBlocks, List.mem_filterMap] at hb2
  obtain ⟨x, hx, hxb⟩ := hb2
  obtain ⟨p, hp⟩ := List.mem_iff_getElem?.1 hx
  rcases hsetV p x hp with ⟨rfl, rfl⟩ | ⟨hpi, hp⟩
  ·cases hxb
  ·exact hdis rfl i.toNat p _ x b (by omega) (hat b hb) hp hb hxb
 have hden : (C.ty k (getL ls i)).den (upd ρ m.length (.tuple (vs.set i.toNat (.slice none 0 0)).toArray)) = (C.ty k (getL ls i)).den ρ := by simp only [C.den]; congr 1; funext a; exact denL_enc _ _ k a
 have g3 := g1.pushG (o := .row (.ty k (getL ls i)) ty true) (v := innV (ρ jb) i) (Below.refl _ _) ⟨(sz_pos k : 0 < k.sz), fun u hu => (flat_one' hu), by rw [if_pos rfl, hden]; exact hown⟩ rfl (fun q o hq hmu b hb hb2 => by
   have hb2 := (hone b).1 (blocks_sub hb2)
   rcases hkey q o hq (live'_iff.1 (mutB_live hmu)) with ⟨hql, hqj, hq⟩ | ⟨rfl, rfl⟩
   ·rw [hag q hql] at hb
    exact hm.sep q jb o _ hqj hq hj hmu rfl b hb (by rw [blocks_mut rfl]; exact hvb.2 ⟨_, List.mem_of_getElem? (hat b hb2), hb2⟩)
   ·rw [upd_same] at hb
    exact hcross b hb2 hb) (fun _ q o hq hl b hb hb2 => by
   have hb := (hone b).1 hb
   rcases hkey q o hq (live'_iff.1 hl) with ⟨hql, hqj, hq⟩ | ⟨rfl, rfl⟩
   ·rw [hag q hql] at hb2
    exact hm.sep jb q _ o (fun e => hqj e.symm) hj hq rfl hl b (hvb.2 ⟨_, List.mem_of_getElem? (hat b hb), hb⟩) hb2
   ·rw [upd_same] at hb2
    exact hcross b hb (blocks_sub hb2))
 simp only [List.append_assoc, List.cons_append, List.nil_append, List.length_append, List.length_set, List.length_cons, List.length_nil] at g3
 have hag2 := upd_agree (upd ρ m.length (.tuple (vs.set i.toNat (.slice none 0 0)).toArray)) (m.length + 1) (innV (ρ jb) i)
 have hagA := hag.trans hag2 (by omega)
 -- the note on the bag
 have g4 := g3.weak (j := jb) (o := .dead none) (o' := .dead (some (m.length, i))) (by rw [List.getElem?_append_left (by simpa using hjl), List.getElem?_set_self hjl]) ⟨h0, vs, by rw [hagA jb hjl]; exact hv, by rw [hag2 m.length (by omega), upd_same]⟩ (fun h => by cases h) (fun h => by cases h) (by simp [Obj.lt]) (fun v b h => h)
 refine ⟨_, ?_, hagA, by simp, ?_⟩
 ·have e : (m.set jb (.dead none) ++ [Obj.bag k (outL ls i) ty true fr, Obj.row (.ty k (getL ls i)) ty true]).set jb (.dead (some (m.length, i))) = m.set jb (.dead (some (m.length, i))) ++ [Obj.bag k (outL ls i) ty true fr, Obj.row (.ty k (getL ls i)) ty true] := by
   rw [List.set_append_left _ _ (by simpa using hjl), List.set_set]
  rw [e] at g4
  exact g4
 ·simp only [den, upd_same, hs]
theorem pre_ok {W : World} {ρ : Nat → Value} {m m1 : Mem} {w : World} {t : List SV} {a : Act} {op : Op} (ht : RelT ρ m.length t a) (hm : RelM W ρ m w) {c : Bool} {s : Nat} (h : pre t m op = some (c, s, m1)) (hc : c = true) :
  ∃ ρ', RelT ρ' m1.length (t.set s (.row (m1.length - 1))) a ∧ RelM W ρ' m1 w ∧ Agree m.length ρ ρ' ∧ m.length ≤ m1.length := by
 unfold pre at h
 split at h
 rotate_left
 ·cases h
 split at h
 rotate_left
 ·cases h
 rename_i s0 _ _ _
 split at h
 rotate_left
 ·cases h
 rename_i jb i hs
 obtain ⟨m2, hm2, he⟩ := Option.map_eq_some_iff.1 h
 simp only [Prod.mk.injEq] at he
 obtain ⟨rfl, rfl, rfl⟩ := he
 obtain ⟨ρ', h1, h2, h3, h4⟩ := take_ok hm (by simpa using hc) hm2
 refine ⟨ρ', ⟨by simp [ht.size], fun q sv hq ha => ?_⟩, h1, h2, by omega⟩
 have ht' := ht.agree h2 (show m.length ≤ m2.length by omega)
 by_cases hqs : q = s0
 ·subst hqs
  have hql : q < t.length := by have := (List.getElem?_eq_some_iff.1 hq).1; simpa using this
  rw [List.getElem?_set_self hql] at hq
  injection hq with hq
  subst hq
  have hget : t[q]? = some (.inn jb i) := by
   rw [List.getD_eq_getElem?_getD, List.getElem?_eq_getElem hql] at hs
   rw [List.getElem?_eq_getElem hql]
   simpa using hs
  refine ⟨by simp [SV.lt]; omega, ?_⟩
  rw [(ht.slot q _ hget rfl).2, show m2.length - 1 = m.length + 1 by omega, h4]
 ·rw [List.getElem?_set_ne (by omega)] at hq
  exact ht'.slot q sv hq ha
end Go.Ma
namespace Go.Ma
open Go Go.RowKit
theorem run_call {P : Program} {f : FuncId} (h : HasBody P f) (args : Array Value) (w : World) : (callFunc f args).run P w = .ok (.enter f args) w := by
 obtain ⟨fn, hf, hb, hn⟩ := h
 have hb' : ¬ fn.body = none := by cases hx : fn.body <;> simp_all
 have hn' : ¬ fn.name = "runtime.NumGoroutine" := by simpa using hn
 simp [callFunc, hf, hn', hb']
def TrOk (P : Program) (f : FuncId) (g : Con) : Prop :=
 (∀ (W : World), Glob P W → ∀ (X : Type) (args : List SV) (m : Mem) (k : SV → Mem → Option X) (x : X), g.tr X args m k = some x → args.all (fun x => !x.isAny) = true → CallN ⟨P, W⟩ f args m fun r m' => k r m' = some x) ∧
 (g.q = true → ∀ (W : World), Glob P W → ∀ (X : Type) (args : List SV) (m : Mem) (k : SV → Option X) (x : X), g.tr X args m (fun r _ => k r) = some x → args.all (fun x => !x.isAny) = true → QCallN ⟨P, W⟩ f args m fun r => k r = some x) ∧
 (g.det = true → ∀ (X : Type) (args : List SV) (m : Mem) (k : SV → Mem → Option X) (x : X), g.tr X args m k = some x → ∃ r m', g.tr (SV × Mem) args m (fun r m' => some (r, m')) = some (r, m') ∧ k r m' = some x ∧ (g.law = true → ∃ os, m' = m ++ os))
structure EnvOk (P : Program) (E : Env) : Prop where
 T : TOk P E.T
 B : ∀ f, E.B f = true → HasBody P f
 call : ∀ f g, E.call f = some g → TrOk P f g
structure EnvOkW (P : Program) (E : Env) (W : World) : Prop extends EnvOk P E where
 glob : Glob P W
def LOk (P : Program) (b : Code) (l : LTr) : Prop :=
 ∀ (W : World), Glob P W → ∀ (X : Type) (base : Nat) (s : St) (e : Nat → St → Option X) (r : St → Option X) (x : X), l X base s e r = some x → CodeN ⟨P, W⟩ base (.loop b) s (fun _ => False) (fun i s' => e i s' = some x) (fun s' => r s' = some x)
def loopsOf : Code → List Code
 | .seq a b => loopsOf a ++ loopsOf b
 | .cond _ a b => loopsOf a ++ loopsOf b
 | .block _ b => loopsOf b
 | .loop b => [b]
 | _ => []
def LoopsOk (P : Program) (E : Env) (c : Code) : Prop := ∀ b ∈ loopsOf c, ∀ l, E.loop (regId b) = some l → LOk P b l
theorem br_some {X : Type} {c : Bool} {a b : Option X} {x : X} (h : br c a b = some x) : (c = true ∧ a = some x) ∨ (c = false ∧ b = some x) := by
 cases c
 ·exact .inr ⟨rfl, h⟩
 ·exact .inl ⟨rfl, h⟩
theorem req_some {X : Type} {c : Bool} {a : Option X} {x : X} (h : req c a = some x) : c = true ∧ a = some x := by
 cases c
 ·cases h
 ·exact ⟨rfl, h⟩
section
variable {P : Program} {W : World} {E : Env} {X : Type}
theorem opcall_ok (hE : EnvOk P E) {ρ : Nat → Value} {m : Mem} {a : Act} {o : Oper} {t : List SV} (ht : RelT ρ m.length t a) {g : Con} {args : List SV} (h : opcall E t o.op = some (g, args)) :
  ∃ f, TrOk P f g ∧ args.all (fun x => !x.isAny) = true ∧ ltL m.length args = true ∧ ∀ w, (execOp a.eval o).run P w = .ok (.enter f (denL ρ args).toArray) w := by
 unfold opcall at h
 split at h
 ·rename_i c hop
  split at h
  ·rename_i f hc
   split at h
   ·rename_i n caps hg
    split at h
    ·rename_i hcond
     obtain ⟨g', hg', h⟩ := Option.map_eq_some_iff.1 h
     simp only [Prod.mk.injEq] at h
     obtain ⟨rfl, rfl⟩ := h
     simp only [Bool.and_eq_true] at hcond
     obtain ⟨hBg, hargs⟩ := hcond
     have hany : ∀ x ∈ c.args.toList, (ev t x).isAny = false := fun x hx => by simpa using (List.all_eq_true.1 hargs) _ (List.mem_append_left _ (List.mem_map.2 ⟨x, hx, rfl⟩))
     obtain ⟨hgl, hge⟩ := ht.ev f (by rw [hg]; rfl)
     rw [hg] at hgl hge
     simp only [den] at hge
     have hl : ltL m.length (c.args.toList.map (ev t) ++ caps) = true := by
      simp only [SV.lt] at hgl
      rw [ltL_all, List.all_append, ← ltL_all, ← ltL_all, hgl, Bool.and_true, ltL_all, List.all_eq_true]
      simp only [List.mem_map]
      rintro _ ⟨x, hx, rfl⟩
      exact (ht.ev x (hany x hx)).1
     have hargsv : c.args.map a.eval ++ (denL ρ caps).toArray = (denL ρ (c.args.toList.map (ev t) ++ caps)).toArray := by
      apply Array.ext'
      simp only [Array.toList_append, Array.toList_map, denL_map, List.map_append, List.map_map]
      congr 1
      exact List.map_congr_left fun x hx => (ht.ev x (hany x hx)).2
     refine ⟨n, hE.call n g' hg', ?_, hl, fun w => ?_⟩
     ·exact hargs
     ·simp only [execOp, hop, resolve, hc, hge, Deferred.ofValue, Sem.run_bind, Sem.run_pure, Result.andThen_ok, invoke, Array.empty_append, hargsv]
      exact run_call (hE.B n hBg) _ w
    ·cases h
   ·cases h
  ·cases h
 ·cases h
theorem opx0_ok (hE : EnvOkW P E W) {ρ : Nat → Value} {m : Mem} {a : Act} {o : Oper} {t t2 : List SV} {w : World} {k : SV → Mem → Option X} {x : X} {K : Act → World → Prop} {Q : Exit → Act → World → Prop}
  (ht : RelT ρ m.length t a) (ht2 : RelT ρ m.length t2 a) (hm : RelM W ρ m w) (hd : a.defers = []) (h : opx0 E t o m k = some x)
  (hK : ∀ ρ' v m' a' w', Agree m.length ρ ρ' → m.length ≤ m'.length → RelS W ρ' ⟨put t2 o.dst v, m'⟩ a' w' → k v m' = some x → K a' w') : o.wp P a w K Q := by
 have hT := hE.T
 unfold opx0 at h
 split at h
 ·rename_i ob hnil
  obtain ⟨y, hrun, hag, hm', hy⟩ := opnil_ok hT ht hm hnil
  unfold Oper.wp
  rw [hrun]
  refine hK _ (.row m.length) _ _ _ hag (by simp) ⟨?_, hm', by rw [put_defers]; exact hd⟩ h
  have := (ht2.agree hag (Nat.le_succ _)).put o.dst (v := .row m.length) fun _ => ⟨by simp [SV.lt], hy⟩
  simpa using this
 split at h
 ·rename_i m' hnl
  obtain ⟨y, w', ρ', hrun, hm', hag, hlen, hy⟩ := opnl_ok hT ht hm hnl
  unfold Oper.wp
  rw [hrun]
  refine hK ρ' (.row (m'.length - 1)) m' _ _ hag (by omega) ⟨(ht2.agree hag (show m.length ≤ m'.length by omega)).put o.dst fun _ => ⟨?_, hy⟩, hm', by rw [put_defers]; exact hd⟩ h
  simp [SV.lt]; omega
 split at h
 ·rename_i c v hq
  obtain ⟨hc, h⟩ := req_some h
  obtain ⟨y, hy, hrun⟩ := opq_ok (W := W) hT hm.lt ht hq hc
  unfold Oper.wp
  rw [hrun w hm]
  exact hK ρ v m _ _ (Agree.refl _ _) (Nat.le_refl _) ⟨ht2.put o.dst hy, hm, by rw [put_defers]; exact hd⟩ h
 split at h
 ·rename_i ob r ha
  obtain ⟨y, w', hrun, hag, hm', hlt, hy⟩ := opa_ok hT ht hm ha
  unfold Oper.wp
  rw [hrun]
  exact hK _ (r m.length) _ _ _ hag (by simp) ⟨((ht2.agree hag (Nat.le_succ _)).put o.dst fun _ => ⟨hlt, hy⟩) |> (fun h => by simpa using h), hm', by rw [put_defers]; exact hd⟩ h
 split at h
 ·rename_i m' hst
  obtain ⟨w', hrun, hm', hlen⟩ := opst_ok hT ht hm hst
  split at h
  ·rename_i hdst
   have hdn : o.dst = none := by cases hx : o.dst <;> simp_all
   unfold Oper.wp
   rw [hrun]
   refine hK ρ .any m' _ _ (Agree.refl _ _) (by omega) ⟨?_, hm', by rw [put_defers]; exact hd⟩ h
   rw [hdn]
   simp only [put, Act.put]
   exact ht2.agree (Agree.refl _ _) (by rw [hlen]; exact Nat.le_refl _)
  ·cases h
 split at h
 ·rename_i e m' hap
  obtain ⟨he, h⟩ := req_some h
  obtain ⟨y, w', hrun, hm', hlen, hy⟩ := opap_ok hT ht hm hap he
  have hag := upd_agree ρ m.length y
  unfold Oper.wp
  rw [hrun]
  refine hK _ (.row (m'.length - 1)) m' _ _ hag (by omega) ⟨(ht2.agree hag (show m.length ≤ m'.length by omega)).put o.dst fun _ => ⟨?_, ?_⟩, hm', by rw [put_defers]; exact hd⟩ h
  ·simp [SV.lt]; omega
  ·have e1 : m'.length - 1 = m.length := by omega
   rw [e1]
   exact hy
 split at h
 ·rename_i e m' han
  obtain ⟨he, h⟩ := req_some h
  obtain ⟨y, w', ρ', hrun, hm', hag, hlen, hy⟩ := opan_ok hT ht hm han he
  unfold Oper.wp
  rw [hrun]
  refine hK ρ' (.row (m'.length - 1)) m' _ _ hag (by omega) ⟨(ht2.agree hag (show m.length ≤ m'.length by omega)).put o.dst fun _ => ⟨?_, hy⟩, hm', by rw [put_defers]; exact hd⟩ h
  simp [SV.lt]; omega
 split at h
 ·rename_i e m' hap
  obtain ⟨he, h⟩ := req_some h
  obtain ⟨y, w', hrun, hm', hlen, hy⟩ := opsl_ok hT ht hm hap he
  have hag := upd_agree ρ m.length y
  unfold Oper.wp
  rw [hrun]
  refine hK _ (.row (m'.length - 1)) m' _ _ hag (by omega) ⟨(ht2.agree hag (show m.length ≤ m'.length by omega)).put o.dst fun _ => ⟨?_, ?_⟩, hm', by rw [put_defers]; exact hd⟩ h
  ·simp [SV.lt]; omega
  ·have e1 : m'.length - 1 = m.length := by omega
   rw [e1]
   exact hy
 split at h
 ·rename_i r hrd
  obtain ⟨y, hy, h⟩ := Option.bind_eq_some_iff.1 h
  split at h
  ·rename_i v hv
   obtain ⟨z, hz, hr⟩ := oprd_ok (W := W) hT hm.lt ht hrd hy hv
   unfold Oper.wp
   rw [hz w hm]
   exact hK ρ v m _ _ (Agree.refl _ _) (Nat.le_refl _) ⟨ht2.put o.dst (fun _ => hr), hm, by rw [put_defers]; exact hd⟩ h
  ·cases h
 split at h
 ·rename_i r hsr
  split at h
  ·rename_i hdst
   obtain ⟨y, hy, h⟩ := Option.bind_eq_some_iff.1 h
   split at h
   ·rename_i b hb
    obtain ⟨w', hrun, hm', hlen⟩ := opsr_ok (W := W) hT ht hm hsr hy hb
    unfold Oper.wp
    rw [hrun]
    refine hK ρ .any (r.mem m b) _ _ (Agree.refl _ _) (by omega) ⟨?_, hm', by rw [put_defers]; exact hd⟩ h
    rw [hlen]
    exact ht2.put o.dst (fun h => by cases h)
   ·cases h
  ·cases h
 split at h
 ·rename_i r hsr
  split at h
  ·rename_i hdst
   obtain ⟨hcr, h⟩ := req_some h
   obtain ⟨y, hy, h⟩ := Option.bind_eq_some_iff.1 h
   split at h
   ·rename_i b hb
    obtain ⟨w', ρ', hrun, hm', hlen, hag⟩ := opsn_ok (W := W) hT ht hm hsr hy hb hcr
    unfold Oper.wp
    rw [hrun]
    exact hK ρ' .any (r.mem m b) _ _ hag hlen ⟨(ht2.agree hag hlen).put o.dst (fun h => by cases h), hm', by rw [put_defers]; exact hd⟩ h
   ·cases h
  ·cases h
 split at h
 ·rename_i g args hcall
  obtain ⟨f, hg, hany, hl, hrun⟩ := opcall_ok hE.toEnvOk ht hcall
  unfold Oper.wp
  rw [hrun w]
  refine ((hg.1 W hE.glob X args m k x h hany).call hl ρ w hm).mono ?_
  rintro e w' ⟨ρ', r, m', rfl, hm', hag, hle, hrl, hk⟩
  exact hK ρ' r m' _ _ hag hle ⟨(ht2.agree hag hle).put o.dst fun hr => ⟨hrl hr, rfl⟩, hm', by rw [put_defers]; exact hd⟩ hk
 ·cases h
theorem opx_ok (hE : EnvOkW P E W) {ρ : Nat → Value} {m : Mem} {a : Act} {o : Oper} {t : List SV} {w : World} {k : SV → Mem → Option X} {x : X} {K : Act → World → Prop} {Q : Exit → Act → World → Prop}
  (ht : RelT ρ m.length t a) (hm : RelM W ρ m w) (hd : a.defers = []) (h : opx E t o m k = some x)
  (hK : ∀ ρ' v m' a' w', Agree m.length ρ ρ' → m.length ≤ m'.length → RelS W ρ' ⟨put t o.dst v, m'⟩ a' w' → k v m' = some x → K a' w') : o.wp P a w K Q := by
 unfold opx at h
 split at h
 ·rename_i c s m1 hp
  obtain ⟨hc, h⟩ := req_some h
  obtain ⟨ρ1, ht1, hm1, hag1, hl1⟩ := pre_ok ht hm hp hc
  refine opx0_ok hE ht1 (ht.agree hag1 hl1) hm1 hd h fun ρ' v m' a' w' hag hle hs hk => ?_
  obtain ⟨ρ2, hr, hag2, hl2⟩ := post_ok (T := E.T) (t := t) (n := m.length) (op := o.op) hs.m
  have hst := hs.t.agree (n' := (post E.T t m.length o.op m').length) hag2 hl2
  simp only at hag2 hl2
  exact hK ρ2 v _ a' w' ((hag1.trans hag hl1).trans hag2 (Nat.le_trans hl1 hle)) (Nat.le_trans hl1 (Nat.le_trans hle hl2)) ⟨hst, hr, hs.d⟩ hk
 ·refine opx0_ok hE ht ht hm hd h fun ρ' v m' a' w' hag hle hs hk => ?_
  obtain ⟨ρ2, hr, hag2, hl2⟩ := post_ok (T := E.T) (t := t) (n := m.length) (op := o.op) hs.m
  have hst := hs.t.agree (n' := (post E.T t m.length o.op m').length) hag2 hl2
  simp only at hag2 hl2
  exact hK ρ2 v _ a' w' (hag.trans hag2 hle) (Nat.le_trans hle hl2) ⟨hst, hr, hs.d⟩ hk
theorem RelT.lit {ρ : Nat → Value} {n : Nat} {t : List SV} {a : Act} (h : RelT ρ n t a) {d : Nat} {e : Bool} (hd : t.getD d .any = .b e) {b : Bool} (he : e = b) : RelT ρ n (t.set d (.b b)) a := by
 refine ⟨by rw [List.length_set]; exact h.size, fun i sv hi hs => ?_⟩
 by_cases hid : i = d
 ·subst hid
  have hl : i < t.length := by
   have := (List.getElem?_eq_some_iff.1 hi).1
   simpa using this
  rw [List.getElem?_set_self hl] at hi
  injection hi with hi
  subst hi
  have hti : t[i]? = some (.b e) := by
   rw [List.getD_eq_getElem?_getD] at hd
   rw [List.getElem?_eq_getElem hl] at hd ⊢
   simpa using hd
  obtain ⟨_, h2⟩ := h.slot i _ hti rfl
  exact ⟨rfl, by rw [h2]; simp [den, he]⟩
 ·rw [List.getElem?_set_ne (by omega)] at hi
  exact h.slot i sv hi hs
theorem yielded_of {ρ : Nat → Value} {n : Nat} {t : List SV} {a : Act} (h : RelT ρ n t a) {ops : Array Oper} {j d : Nat} (hj : (ops.toList[j]?).bind (·.dst) = some d) {e : Bool} (hd : t.getD d .any = .b e) : yielded ops a.tmps j = some e := by
 have hl : d < t.length := by
  rcases Nat.lt_or_ge d t.length with h' | h'
  ·exact h'
  ·rw [List.getD_eq_getElem?_getD, List.getElem?_eq_none h'] at hd; cases hd
 have htd : t[d]? = some (.b e) := by
  rw [List.getD_eq_getElem?_getD] at hd
  rw [List.getElem?_eq_getElem hl] at hd ⊢
  simpa using hd
 obtain ⟨_, h2⟩ := h.slot d _ htd rfl
 rw [Array.getElem?_toList] at hj
 simp [yielded, hj, h2, den]
theorem yielded_undef {ρ : Nat → Value} {n : Nat} {t : List SV} {a : Act} (h : RelT ρ n t a) {ops : Array Oper} {j d : Nat} (hj : (ops.toList[j]?).bind (·.dst) = some d) (hd : t.getD d .any = .undef) : yielded ops a.tmps j = none := by
 have hl : d < t.length := by
  rcases Nat.lt_or_ge d t.length with h' | h'
  ·exact h'
  ·rw [List.getD_eq_getElem?_getD, List.getElem?_eq_none h'] at hd; cases hd
 have htd : t[d]? = some .undef := by
  rw [List.getD_eq_getElem?_getD] at hd
  rw [List.getElem?_eq_getElem hl] at hd ⊢
  simpa using hd
 obtain ⟨_, h2⟩ := h.slot d _ htd rfl
 rw [Array.getElem?_toList] at hj
 simp [yielded, hj, h2, den, Go.undef]
theorem both_some {a b : Option X} {x : X} (h : both a b = some x) : a = some x ∧ b = some x := by
 unfold both at h
 split at h
 ·rename_i he; exact ⟨h, he ▸ h⟩
 ·cases h
theorem nilB_zero {a b : Option X} {x : X} (h : nilB 0 a b = some x) : a = some x ∧ b = some x := both_some h
theorem nilB_some {n : Nat} {a b : Option X} {x : X} (h : nilB n a b = some x) : (n = 0 ∧ a = some x ∧ b = some x) ∨ b = some x := by
 cases n with
 | zero => exact .inl ⟨rfl, both_some h⟩
 | succ n => exact .inr h
theorem run_equal_slice {t e : TypeId} (hd : P.underlying t = some (.slice e)) (A : Option Addr) (n c : Nat) (w : World) : (Op.equal t (.slice A n c) (.slice none 0 0)).run P w = .ok A.isNone w := by
 have h : ∀ d : Nat, (Op.equalIn (d + 1) t (.slice A n c) (.slice none 0 0)).run P w = .ok A.isNone w := fun d => by
  cases A <;> simp [Op.equalIn, run_underlying hd]
 exact h 9999
theorem opnc_ok (hT : TOk P E.T) {ρ : Nat → Value} {m : Mem} {a : Act} {o : Oper} {t : List SV} {w : World} (ht : RelT ρ m.length t a) (hm : RelM W ρ m w) {neg : Bool} {c : C} (h : opnc E.T t m o.op = some (neg, c)) :
  ∃ b, (execOp a.eval o).run P w = .ok (.value (.bool b)) w ∧ (b = neg ∨ (b = !neg ∧ c.n = 0)) := by
 unfold opnc at h
 split at h
 ·rename_i bo ty x yt hop
  split at h
  ·rename_i j hk hkd hx
   split at h
   ·rename_i c' bt own hj
    obtain ⟨_, A, cap, hρ, _, hnone, _⟩ := RelM.row hm hj
    have hxv := (ht.ev x (by rw [hx]; rfl)).2
    rw [hx] at hxv
    simp only [den, hρ, sliceVal] at hxv
    obtain ⟨ti, d, z0, hti, hd, hz, g1, g2, g3, g4, g5, g6, g7, g8, g9⟩ := (hT.ty ty hk).ex
    have := g7 hkd; subst this
    have heq := run_equal_slice (P := P) hd A c'.n cap w
    have hnil : a.eval (.const (.slice none 0 0)) = .slice none 0 0 := rfl
    split at h
    ·rename_i hb
     have : bo = .eql := by cases bo <;> simp_all [isEql]
     subst this
     cases h
     refine ⟨A.isNone, by simp [execOp, hop, hxv, hnil, eqGuard, binOp, heq], ?_⟩
     cases A with
     | none => exact .inr ⟨rfl, hnone rfl⟩
     | some _ => exact .inl rfl
    ·split at h
     ·rename_i hb
      have : bo = .neq := by cases bo <;> simp_all [isNeq]
      subst this
      cases h
      refine ⟨!A.isNone, by simp [execOp, hop, hxv, hnil, eqGuard, binOp, heq], ?_⟩
      cases A with
      | none => exact .inr ⟨rfl, hnone rfl⟩
      | some _ => exact .inl rfl
     ·cases h
   ·cases h
  ·cases h
 ·cases h
theorem opsx_ok (hE : EnvOkW P E W) {ops : Array Oper} {Q : Exit → Act → World → Prop} {n : St → Option X} {x : X} :
  ∀ (l : List Oper) (s : St) (ρ : Nat → Value) (a : Act) (w : World), RelS W ρ s a w → opsx E (dsts ops.toList) n l s = some x →
   (∀ ρ' s' a' w', Agree s.m.length ρ ρ' → s.m.length ≤ s'.m.length → RelS W ρ' s' a' w' → n s' = some x → Q .normal a' w') → wpList P ops Q l a w
 | [], s, ρ, a, w, hs, h, hQ => hQ ρ s a w (Agree.refl _ _) (Nat.le_refl _) hs h
 | o :: r, s, ρ, a, w, hs, h, hQ => by
  -- the two things that may be done with an operation
  have run : ∀ t' : List SV, RelT ρ s.m.length t' a → opx E t' o s.m (fun v m => opsx E (dsts ops.toList) n r ⟨put t' o.dst v, m⟩) = some x → o.wp P a w (wpList P ops Q r) Q := by
   intro t' ht' hx
   refine opx_ok hE ht' hs.m hs.d hx fun ρ' v m' a' w' hag hle hs' hk => ?_
   exact opsx_ok hE r ⟨put t' o.dst v, m'⟩ ρ' a' w' hs' hk fun ρ'' s'' a'' w'' hag' hle' hs'' hn => hQ ρ'' s'' a'' w'' (hag.trans hag' hle) (Nat.le_trans hle hle') hs'' hn
  have skip : ∀ t' : List SV, RelT ρ s.m.length t' a → opsx E (dsts ops.toList) n r ⟨put t' o.dst .undef, s.m⟩ = some x → wpList P ops Q r (a.put o.dst undef) w := by
   intro t' ht' hx
   exact opsx_ok hE r ⟨put t' o.dst .undef, s.m⟩ ρ _ w ⟨ht'.put o.dst (fun _ => ⟨rfl, rfl⟩), hs.m, by rw [put_defers]; exact hs.d⟩ hx hQ
  simp only [opsx] at h
  simp only [wpList]
  cases hg : o.guard with
  | none =>
   simp only [hg] at h
   rw [if_pos (by simp [Region.wanted, hg])]
   split at h
   ·rename_i neg c hnc
    left
    obtain ⟨b, hrun, hb⟩ := opnc_ok (W := W) hE.T hs.t hs.m hnc
    have hx : opsx E (dsts ops.toList) n r ⟨put s.t o.dst (.b b), s.m⟩ = some x := by
     rcases nilB_some h with ⟨hn, h1, h2⟩ | h2
     ·rcases hb with rfl | ⟨rfl, _⟩
      ·exact h2
      ·exact h1
     ·rcases hb with rfl | ⟨rfl, h0⟩
      ·exact h2
      ·exact (nilB_zero (h0 ▸ h)).1
    unfold Oper.wp
    rw [hrun]
    exact opsx_ok hE r ⟨put s.t o.dst (.b b), s.m⟩ ρ _ w ⟨hs.t.put o.dst (fun _ => ⟨rfl, rfl⟩), hs.m, by rw [put_defers]; exact hs.d⟩ hx hQ
   exact .inl (run s.t hs.t h)
  | some jw =>
   obtain ⟨j, want⟩ := jw
   simp only [hg, dsts_get] at h
   split at h
   ·cases h
   ·rename_i d hd
    split at h
    ·rename_i e hb
     have hy := yielded_of hs.t hd hb
     cases want
     ·simp only at h
      rcases br_some h with ⟨he, h⟩ | ⟨he, h⟩
      ·rw [he] at hy
       rw [if_neg (by simp [Region.wanted, hg, hy])]
       exact skip _ (hs.t.lit hb he) h
      ·rw [he] at hy
       rw [if_pos (by simp [Region.wanted, hg, hy])]
       exact .inl (run _ (hs.t.lit hb he) h)
     ·simp only at h
      rcases br_some h with ⟨he, h⟩ | ⟨he, h⟩
      ·rw [he] at hy
       rw [if_pos (by simp [Region.wanted, hg, hy])]
       exact .inl (run _ (hs.t.lit hb he) h)
      ·rw [he] at hy
       rw [if_neg (by simp [Region.wanted, hg, hy])]
       exact skip _ (hs.t.lit hb he) h
    ·rename_i hb
     have hy := yielded_undef hs.t hd hb
     rw [if_neg (by simp [Region.wanted, hg, hy])]
     exact skip s.t hs.t h
    ·cases h
theorem opxq_ok (hE : EnvOkW P E W) {ρ : Nat → Value} {m : Mem} {a : Act} {o : Oper} {t : List SV} {k : SV → Option X} {x : X} {K : Act → Prop}
  (hlt : ∀ (j : Nat) (ob : Obj), m[j]? = some ob → ob.lt m.length = true) (ht : RelT ρ m.length t a) (h : opxq E t o m k = some x) (hK : ∀ v y, (v.isAny = false → v.lt m.length = true ∧ y = den ρ v) → k v = some x → K (a.put o.dst y)) : o.quiet P a (RelM W ρ m) K := by
 have hT := hE.T
 unfold opxq at h
 split at h
 ·rename_i c v hq
  obtain ⟨hc, h⟩ := req_some h
  obtain ⟨y, hy, hrun⟩ := opq_ok (W := W) hT hlt ht hq hc
  refine ⟨y, fun w hw => ?_, hK v y hy h⟩
  unfold Oper.quietAt
  rw [hrun w hw]
  exact ⟨rfl, rfl⟩
 split at h
 ·rename_i r hrd
  obtain ⟨y, hy, h⟩ := Option.bind_eq_some_iff.1 h
  split at h
  ·rename_i v hv
   obtain ⟨z, hz, hr⟩ := oprd_ok (W := W) hT hlt ht hrd hy hv
   refine ⟨z, fun w hw => ?_, hK v z (fun _ => hr) h⟩
   unfold Oper.quietAt
   rw [hz w hw]
   exact ⟨rfl, rfl⟩
  ·cases h
 split at h
 ·rename_i g args hcall
  split at h
  ·rename_i hq
   obtain ⟨f, hg, hany, hl, hrun⟩ := opcall_ok hE.toEnvOk ht hcall
   obtain ⟨r, hr, hcalls, hk⟩ := (hg.2.1 hq W hE.glob X args m k x h hany).ex hl
   refine ⟨den ρ r, fun w hw => ?_, hK r _ (fun _ => ⟨hr, rfl⟩) hk⟩
   unfold Oper.quietAt
   rw [hrun w]
   exact ⟨rfl, hcalls ρ w hw⟩
  ·cases h
 ·cases h
def Keeps (l : List Oper) (t t' : List SV) : Prop := ∀ i : Nat, (∀ o ∈ l, o.dst ≠ some i) → t'[i]? = t[i]?
theorem keeps_put {o : Oper} {r : List Oper} {t t' : List SV} {v : SV} (h : Keeps r (put t o.dst v) t') : Keeps (o :: r) t t' := fun i hi => by
 rw [h i (fun q hq => hi q (by simp [hq]))]
 have := hi o (by simp)
 unfold put
 cases hd : o.dst with
 | none => rfl
 | some d =>
  have hne : d ≠ i := by rintro rfl; exact this hd
  exact List.getElem?_set_ne hne
theorem keeps_lit {l : List Oper} {t t' : List SV} {d : Nat} {e b : Bool} (hd : t.getD d .any = .b e) (he : e = b) (h : Keeps l (t.set d (.b b)) t') : Keeps l t t' := by
 subst he
 have : t.set d (.b e) = t := by
  apply List.ext_getElem?
  intro i
  by_cases hid : d = i
  ·subst hid
   rcases Nat.lt_or_ge d t.length with hl | hl
   ·rw [List.getElem?_set_self hl]
    rw [List.getD_eq_getElem?_getD, List.getElem?_eq_getElem hl] at hd
    rw [List.getElem?_eq_getElem hl]
    simpa using hd.symm
   ·rw [List.getElem?_eq_none (by simpa using hl), List.getElem?_eq_none hl]
  ·rw [List.getElem?_set_ne hid]
 rw [this] at h
 exact h
theorem opsxq_ok (hE : EnvOkW P E W) {ops : Array Oper} {n : St → Option X} {x : X} {m : Mem} {ρ : Nat → Value} {Kq : Act → Prop}
  (hlt : ∀ (j : Nat) (ob : Obj), m[j]? = some ob → ob.lt m.length = true) :
  ∀ (l : List Oper) (t : List SV) (a : Act), RelT ρ m.length t a → a.defers = [] → opsxq E (dsts ops.toList) n m l t = some x →
   (∀ t' a', RelT ρ m.length t' a' → a'.defers = [] → Keeps l t t' → n ⟨t', m⟩ = some x → Kq a') → wpQuiet P ops (RelM W ρ m) Kq l a
 | [], t, a, ht, hd, h, hQ => hQ t a ht hd (fun _ _ => rfl) h
 | o :: r, t, a, ht, hd, h, hQ => by
  have run : ∀ t' : List SV, RelT ρ m.length t' a → (∀ t'', Keeps (o :: r) t' t'' → Keeps (o :: r) t t'') → opxq E t' o m (fun v => opsxq E (dsts ops.toList) n m r (put t' o.dst v)) = some x → o.quiet P a (RelM W ρ m) (wpQuiet P ops (RelM W ρ m) Kq r) := by
   intro t' ht' hkp hx
   refine opxq_ok hE hlt ht' hx fun v y hv hk => ?_
   exact opsxq_ok hE hlt r _ _ (ht'.put o.dst hv) (by rw [put_defers]; exact hd) hk fun t'' a'' h1 h2 h3 h4 => hQ t'' a'' h1 h2 (hkp _ (keeps_put h3)) h4
  have skip : ∀ t' : List SV, RelT ρ m.length t' a → (∀ t'', Keeps (o :: r) t' t'' → Keeps (o :: r) t t'') → opsxq E (dsts ops.toList) n m r (put t' o.dst .undef) = some x → wpQuiet P ops (RelM W ρ m) Kq r (a.put o.dst Go.undef) := by
   intro t' ht' hkp hx
   exact opsxq_ok hE hlt r _ _ (ht'.put o.dst (fun _ => ⟨rfl, rfl⟩)) (by rw [put_defers]; exact hd) hx fun t'' a'' h1 h2 h3 h4 => hQ t'' a'' h1 h2 (hkp _ (keeps_put h3)) h4
  simp only [opsxq] at h
  simp only [wpQuiet]
  cases hg : o.guard with
  | none =>
   simp only [hg] at h
   rw [if_pos (by simp [Region.wanted, hg])]
   exact run t ht (fun _ h => h) h
  | some jw =>
   obtain ⟨j, want⟩ := jw
   simp only [hg, dsts_get] at h
   split at h
   ·cases h
   ·rename_i d hdd
    split at h
    ·rename_i e hb
     have hy := yielded_of ht hdd hb
     cases want
     ·simp only at h
      rcases br_some h with ⟨he, h⟩ | ⟨he, h⟩
      ·rw [he] at hy
       rw [if_neg (by simp [Region.wanted, hg, hy])]
       exact skip _ (ht.lit hb he) (fun _ => keeps_lit hb he) h
      ·rw [he] at hy
       rw [if_pos (by simp [Region.wanted, hg, hy])]
       exact run _ (ht.lit hb he) (fun _ => keeps_lit hb he) h
     ·simp only at h
      rcases br_some h with ⟨he, h⟩ | ⟨he, h⟩
      ·rw [he] at hy
       rw [if_pos (by simp [Region.wanted, hg, hy])]
       exact run _ (ht.lit hb he) (fun _ => keeps_lit hb he) h
      ·rw [he] at hy
       rw [if_neg (by simp [Region.wanted, hg, hy])]
       exact skip _ (ht.lit hb he) (fun _ => keeps_lit hb he) h
    ·rename_i hb
     have hy := yielded_undef ht hdd hb
     rw [if_neg (by simp [Region.wanted, hg, hy])]
     exact skip t ht (fun _ h => h) h
    ·cases h
theorem clear_get : ∀ (l : List (Option Nat)) (t : List SV) (i : Nat) (sv : SV), (clearL l t)[i]? = some sv → sv.isAny = false → t[i]? = some sv ∧ some i ∉ l
 | [], t, i, sv, h, _ => ⟨h, by simp⟩
 | none :: r, t, i, sv, h, hs => by
  obtain ⟨h1, h2⟩ := clear_get r t i sv h hs
  exact ⟨h1, by simpa using h2⟩
 | some d :: r, t, i, sv, h, hs => by
  obtain ⟨h1, h2⟩ := clear_get r (t.set d .any) i sv h hs
  by_cases hid : d = i
  ·subst hid
   have hl : d < t.length := by have := (List.getElem?_eq_some_iff.1 h1).1; simpa using this
   rw [List.getElem?_set_self hl] at h1
   injection h1 with h1
   subst h1
   cases hs
  ·rw [List.getElem?_set_ne hid] at h1
   exact ⟨h1, by simp only [List.mem_cons, Option.some.injEq, not_or]; exact ⟨fun h => hid h.symm, h2⟩⟩
theorem clear_len : ∀ (l : List (Option Nat)) (t : List SV), (clearL l t).length = t.length
 | [], t => rfl
 | none :: r, t => clear_len r t
 | some d :: r, t => by rw [clearL, clear_len r, List.length_set]
theorem RelT.join {ρ : Nat → Value} {n : Nat} {t t' : List SV} {a' : Act} {m : Mem} {l : List Oper} {d : Nat} {b : Bool} (hlen : t.length = t'.length) (h : RelT ρ n t' a') (hk : Keeps l t t') (hb : slotB d ⟨t', m⟩ = some b) :
  RelT ρ n ((clearL (dsts l) t).set d (.b b)) a' := by
 refine ⟨by rw [List.length_set, clear_len, hlen]; exact h.size, fun i sv hi hs => ?_⟩
 by_cases hid : d = i
 ·subst hid
  have hl : d < (clearL (dsts l) t).length := by have := (List.getElem?_eq_some_iff.1 hi).1; simpa using this
  rw [List.getElem?_set_self hl] at hi
  injection hi with hi
  subst hi
  unfold slotB at hb
  split at hb
  ·rename_i e he
   injection hb with hb
   subst hb
   have hl' : d < t'.length := by rw [clear_len] at hl; omega
   have hti : t'[d]? = some (.b e) := by
    have he : t'.getD d .any = .b e := he
    rw [List.getD_eq_getElem?_getD, List.getElem?_eq_getElem hl'] at he
    rw [List.getElem?_eq_getElem hl']
    simpa using he
   exact h.slot d _ hti rfl
  ·cases hb
 ·rw [List.getElem?_set_ne hid] at hi
  obtain ⟨h1, h2⟩ := clear_get _ _ _ _ hi hs
  refine h.slot i sv ?_ hs
  rw [hk i (fun o ho hd => h2 (by rw [← hd]; exact List.mem_map.2 ⟨o, ho, rfl⟩))]
  exact h1
theorem wpQuiet_app {P : Program} {ops : Array Oper} {C : World → Prop} {K K' : Act → Prop} : ∀ (l1 l2 : List Oper) (a : Act), wpQuiet P ops C K l1 a → (∀ a', K a' → wpQuiet P ops C K' l2 a') → wpQuiet P ops C K' (l1 ++ l2) a
 | [], l2, a, h, hk => hk a h
 | o :: r, l2, a, h, hk => by
  simp only [List.cons_append, wpQuiet] at h ⊢
  split
  ·rename_i hw
   rw [if_pos hw] at h
   obtain ⟨v, h1, h2⟩ := h
   exact ⟨v, h1, wpQuiet_app r l2 _ h2 hk⟩
  ·rename_i hw
   rw [if_neg hw] at h
   exact wpQuiet_app r l2 _ h hk
theorem quiet_wp {P : Program} {o : Oper} {a : Act} {C : World → Prop} {w : World} {Q : Exit → Act → World → Prop} {N : Act → World → Prop} {v : Value} (h : o.quietAt P a C w v) (hw : C w) (hN : ∀ w', C w' → N (a.put o.dst v) w') : o.wp P a w N Q := by
 unfold Oper.quietAt at h
 unfold Oper.wp
 cases hr : (execOp a.eval o).run P w with
 | ok n w' =>
  rw [hr] at h
  cases n with
  | value u =>
   simp only [Oper.quietUpon] at h
   obtain ⟨rfl, rfl⟩ := h
   exact hN _ hw
  | skip =>
   simp only [Oper.quietUpon] at h
   obtain ⟨rfl, rfl⟩ := h
   exact hN _ hw
  | enter f args =>
   simp only [Oper.quietUpon] at h
   obtain ⟨rfl, h⟩ := h
   rw [Oper.upon_enter]
   refine h.mono ?_
   rintro e w'' ⟨rfl, hc⟩
   exact hN _ hc
  | _ => exact h.elim
 | _ => rw [hr] at h; exact h.elim
theorem wpList_of_quiet {P : Program} {ops : Array Oper} {C : World → Prop} {K : Act → Prop} {Q : Exit → Act → World → Prop} : ∀ (l1 l2 : List Oper) (a : Act) (w : World), wpQuiet P ops C K l1 a → C w → (∀ a' w', C w' → K a' → wpList P ops Q l2 a' w') → wpList P ops Q (l1 ++ l2) a w
 | [], l2, a, w, h, hw, hk => hk a w hw h
 | o :: r, l2, a, w, h, hw, hk => by
  simp only [List.cons_append, wpQuiet, wpList] at h ⊢
  split
  ·rename_i hq
   rw [if_pos hq] at h
   obtain ⟨v, h1, h2⟩ := h
   exact .inl (quiet_wp (h1 w hw) hw fun w' hw' => wpList_of_quiet r l2 _ w' h2 hw' hk)
  ·rename_i hq
   rw [if_neg hq] at h
   exact wpList_of_quiet r l2 _ w h hw hk
theorem segOf_app {E : Env} {l l1 l2 : List Oper} {d : Nat} (h : segOf E l = some (l1, d, l2)) : l = l1 ++ l2 := by
 unfold segOf at h
 split at h
 ·split at h
  ·injection h with h
   injection h with h1 h
   injection h with h2 h3
   rw [← h1, ← h3, List.take_append_drop]
  ·cases h
 ·cases h
theorem tlen {ρ ρ' : Nat → Value} {n n' : Nat} {t t' : List SV} {a a' : Act} (h : RelT ρ n t a) (h' : RelT ρ' n' t' a') (hs : a'.tmps.size = a.tmps.size) : t.length = t'.length := by rw [← h.size, ← h'.size, hs]
theorem opsxq_len (hE : EnvOkW P E W) {ops : Array Oper} {n : St → Option X} {x : X} {m : Mem} {ρ : Nat → Value} {Kq : Act → Prop}
  (hlt : ∀ (j : Nat) (ob : Obj), m[j]? = some ob → ob.lt m.length = true) (l : List Oper) (t : List SV) (a : Act) (ht : RelT ρ m.length t a) (hd : a.defers = []) (h : opsxq E (dsts ops.toList) n m l t = some x)
  (hQ : ∀ t' a', RelT ρ m.length t' a' → a'.defers = [] → Keeps l t t' → a'.tmps.size = a.tmps.size → n ⟨t', m⟩ = some x → Kq a') : wpQuiet P ops (RelM W ρ m) Kq l a := by
 have h1 : ∀ (l : List Oper) (a : Act) (K K' : Act → Prop), wpQuiet P ops (RelM W ρ m) K l a → (∀ a', a'.tmps.size = a.tmps.size → K a' → K' a') → wpQuiet P ops (RelM W ρ m) K' l a := by
  intro l
  induction l with
  | nil => exact fun a K K' h hk => hk a rfl h
  | cons o r ih =>
   intro a K K' h hk
   simp only [wpQuiet] at h ⊢
   have hsz : ∀ v, (a.put o.dst v).tmps.size = a.tmps.size := fun v => by unfold Act.put; split <;> simp
   split
   ·rename_i hw
    rw [if_pos hw] at h
    obtain ⟨v, h1, h2⟩ := h
    exact ⟨v, h1, ih _ _ _ h2 fun a' ha' => hk a' (ha'.trans (hsz v))⟩
   ·rename_i hw
    rw [if_neg hw] at h
    exact ih _ _ _ h fun a' ha' => hk a' (ha'.trans (hsz _))
 refine h1 l a (fun a' => ∃ t', RelT ρ m.length t' a' ∧ a'.defers = [] ∧ Keeps l t t' ∧ n ⟨t', m⟩ = some x) Kq (opsxq_ok hE hlt l t a ht hd h fun t' a' g1 g2 g3 g4 => ⟨t', g1, g2, g3, g4⟩) ?_
 rintro a' hs ⟨t', g1, g2, g3, g4⟩
 exact hQ t' a' g1 g2 g3 hs g4
theorem opsxqj_ok (hE : EnvOkW P E W) {ops : Array Oper} {n : St → Option X} {x : X} {m : Mem} {ρ : Nat → Value} {Kq : Act → Prop}
  (hlt : ∀ (j : Nat) (ob : Obj), m[j]? = some ob → ob.lt m.length = true) :
  ∀ (f : Nat) (l : List Oper) (t : List SV) (a : Act), RelT ρ m.length t a → a.defers = [] → opsxqj E (dsts ops.toList) n m f l t = some x →
   (∀ t' a', RelT ρ m.length t' a' → a'.defers = [] → n ⟨t', m⟩ = some x → Kq a') → wpQuiet P ops (RelM W ρ m) Kq l a
 | 0, l, t, a, ht, hd, h, hQ => opsxq_ok hE hlt l t a ht hd h fun t' a' h1 h2 _ h3 => hQ t' a' h1 h2 h3
 | f + 1, [], t, a, ht, hd, h, hQ => hQ t a ht hd h
 | f + 1, o :: r, t, a, ht, hd, h, hQ => by
  simp only [opsxqj] at h
  cases hg : o.guard with
  | none =>
   simp only [hg] at h
   simp only [wpQuiet]
   rw [if_pos (by simp [Region.wanted, hg])]
   refine opxq_ok hE hlt ht h fun v y hv hk => ?_
   exact opsxqj_ok hE hlt f r _ _ (ht.put o.dst hv) (by rw [put_defers]; exact hd) hk hQ
  | some jw =>
   simp only [hg] at h
   split at h
   ·rename_i l1 d l2 hs
    obtain ⟨b, hb, h⟩ := Option.bind_eq_some_iff.1 h
    rw [segOf_app hs]
    refine wpQuiet_app l1 l2 a (opsxq_len hE hlt l1 t a ht hd hb (Kq := fun a' => wpQuiet P ops (RelM W ρ m) Kq l2 a') fun t' a' g1 g2 g3 g4 g5 => ?_) fun a' h => h
    exact opsxqj_ok hE hlt f l2 _ a' (g1.join (tlen ht g1 g4) g3 g5) g2 h hQ
   ·exact opsxq_ok hE hlt _ t a ht hd h fun t' a' h1 h2 _ h3 => hQ t' a' h1 h2 h3
theorem opsxj_ok (hE : EnvOkW P E W) {ops : Array Oper} {Q : Exit → Act → World → Prop} {n : St → Option X} {x : X} :
  ∀ (f : Nat) (l : List Oper) (s : St) (ρ : Nat → Value) (a : Act) (w : World), RelS W ρ s a w → opsxj E (dsts ops.toList) n f l s = some x →
   (∀ ρ' s' a' w', Agree s.m.length ρ ρ' → s.m.length ≤ s'.m.length → RelS W ρ' s' a' w' → n s' = some x → Q .normal a' w') → wpList P ops Q l a w
 | 0, l, s, ρ, a, w, hs, h, hQ => opsx_ok hE l s ρ a w hs h hQ
 | f + 1, [], s, ρ, a, w, hs, h, hQ => hQ ρ s a w (Agree.refl _ _) (Nat.le_refl _) hs h
 | f + 1, o :: r, s, ρ, a, w, hs, h, hQ => by
  simp only [opsxj] at h
  cases hg : o.guard with
  | none =>
   simp only [hg] at h
   simp only [wpList]
   rw [if_pos (by simp [Region.wanted, hg])]
   left
   split at h
   ·rename_i c hcl
    obtain ⟨hok, h⟩ := req_some h
    obtain ⟨o', r', y, w', rfl, hg', hdst', hr1, hr2, hm', hlen⟩ := opcl_ok (W := W) hE.T hs.t hs.m hcl hok
    unfold Oper.wp
    rw [hr1]
    simp only [Oper.upon, wpList]
    rw [if_pos (by simp [Region.wanted, hg'])]
    left
    unfold Oper.wp
    rw [hr2]
    simp only [Oper.upon, hdst']
    refine opsxj_ok hE f r' ⟨put s.t o.dst .any, c.mem s.m⟩ ρ _ w' ⟨?_, hm', by show (a.put o.dst y).defers = []; rw [put_defers]; exact hs.d⟩ h fun ρ' s' a' w' hag hle => hQ ρ' s' a' w' (by rw [hlen] at hag; exact hag) (by rw [hlen] at hle; exact hle)
    show RelT ρ (c.mem s.m).length _ (a.put o.dst y)
    rw [hlen]
    exact hs.t.put o.dst (fun h => by cases h)
   split at h
   ·rename_i neg c hnc
    obtain ⟨b, hrun, hb⟩ := opnc_ok (W := W) hE.T hs.t hs.m hnc
    have hx : opsxj E (dsts ops.toList) n f r ⟨put s.t o.dst (.b b), s.m⟩ = some x := by
     rcases nilB_some h with ⟨hn, h1, h2⟩ | h2
     ·rcases hb with rfl | ⟨rfl, _⟩
      ·exact h2
      ·exact h1
     ·rcases hb with rfl | ⟨rfl, h0⟩
      ·exact h2
      ·exact (nilB_zero (h0 ▸ h)).1
    unfold Oper.wp
    rw [hrun]
    exact opsxj_ok hE f r ⟨put s.t o.dst (.b b), s.m⟩ ρ _ w ⟨hs.t.put o.dst (fun _ => ⟨rfl, rfl⟩), hs.m, by rw [put_defers]; exact hs.d⟩ hx hQ
   ·refine opx_ok hE hs.t hs.m hs.d h fun ρ' v m' a' w' hag hle hs' hk => ?_
    exact opsxj_ok hE f r ⟨put s.t o.dst v, m'⟩ ρ' a' w' hs' hk fun ρ'' s'' a'' w'' hag' hle' hs'' hn => hQ ρ'' s'' a'' w'' (hag.trans hag' hle) (Nat.le_trans hle hle') hs'' hn
  | some jw =>
   simp only [hg] at h
   split at h
   ·rename_i l1 d l2 hsg
    obtain ⟨b, hb, h⟩ := Option.bind_eq_some_iff.1 h
    rw [segOf_app hsg]
    refine wpList_of_quiet (C := RelM W ρ s.m) l1 l2 a w (opsxq_len hE hs.m.lt l1 s.t a hs.t hs.d hb (Kq := fun a' => ∃ t', RelT ρ s.m.length t' a' ∧ a'.defers = [] ∧ Keeps l1 s.t t' ∧ a'.tmps.size = a.tmps.size ∧ slotB d ⟨t', s.m⟩ = some b) fun t' a' g1 g2 g3 g4 g5 => ⟨t', g1, g2, g3, g4, g5⟩) hs.m ?_
    rintro a' w' hw' ⟨t', g1, g2, g3, g4, g5⟩
    exact opsxj_ok hE f l2 ⟨_, s.m⟩ ρ a' w' ⟨g1.join (tlen hs.t g1 g4) g3 g5, hw', g2⟩ h hQ
   ·exact opsx_ok hE _ s ρ a w hs h hQ
end
end Go.Ma
namespace Go.Ma
open Go Go.RowKit
theorem place_some : ∀ {l : List Nat} {j k : Nat}, place l j = some k → l[k]? = some j
 | x :: r, j, k, h => by
  simp only [place] at h
  split at h
  ·rename_i hx
   injection h with h
   subst h
   simpa using hx
  ·obtain ⟨k', hk, rfl⟩ := Option.map_eq_some_iff.1 h
   simpa using place_some hk
def from_ (base : Nat) (r : List Nat) (j : Nat) : Nat := if j < base then j else r.getD (j - base) 0
theorem sig_from {base : Nat} {r : List Nat} {j k : Nat} (h : sig base r j = some k) : from_ base r k = j ∧ k < base + r.length := by
 unfold sig at h
 split at h
 ·rename_i hj
  injection h with h
  subst h
  exact ⟨by simp [from_, hj], by omega⟩
 ·obtain ⟨k', hk, rfl⟩ := Option.map_eq_some_iff.1 h
  have := place_some hk
  have hl := (List.getElem?_eq_some_iff.1 this).1
  refine ⟨?_, by omega⟩
  unfold from_
  rw [if_neg (by omega), show base + k' - base = k' by omega, List.getD_eq_getElem?_getD, this]
  rfl
theorem deadB_iff {o : Obj} : (o matches .dead _) = false ↔ o.deadB = false := by cases o <;> simp [Obj.deadB]
section
variable {σ : Nat → Option Nat} {π : Nat → Nat} {N : Nat} (hσ : ∀ j k, σ j = some k → π k = j ∧ k < N)
include hσ
mutual
theorem ren_ok (ρ : Nat → Value) : ∀ (x y : SV), x.ren σ = some y → den ρ x = den (fun j => ρ (π j)) y ∧ y.isAny = x.isAny ∧ y.lt N = true
 | .ptr j o, y, h => by
  simp only [SV.ren] at h
  obtain ⟨k, hk, rfl⟩ := Option.map_eq_some_iff.1 h
  obtain ⟨h1, h2⟩ := hσ j k hk
  exact ⟨by simp only [den, h1], rfl, by simpa [SV.lt] using h2⟩
 | .row j, y, h => by
  simp only [SV.ren] at h
  obtain ⟨k, hk, rfl⟩ := Option.map_eq_some_iff.1 h
  obtain ⟨h1, h2⟩ := hσ j k hk
  exact ⟨by simp only [den, h1], rfl, by simpa [SV.lt] using h2⟩
 | .ep j i sz o, y, h => by
  simp only [SV.ren] at h
  obtain ⟨k, hk, rfl⟩ := Option.map_eq_some_iff.1 h
  obtain ⟨h1, h2⟩ := hσ j k hk
  exact ⟨by simp only [den, h1], rfl, by simpa [SV.lt] using h2⟩
 | .inn j i, y, h => by
  simp only [SV.ren] at h
  obtain ⟨k, hk, rfl⟩ := Option.map_eq_some_iff.1 h
  obtain ⟨h1, h2⟩ := hσ j k hk
  exact ⟨by simp only [den, h1], rfl, by simpa [SV.lt] using h2⟩
 | .iep j i e sz o, y, h => by
  simp only [SV.ren] at h
  obtain ⟨k, hk, rfl⟩ := Option.map_eq_some_iff.1 h
  obtain ⟨h1, h2⟩ := hσ j k hk
  exact ⟨by simp only [den, h1], rfl, by simpa [SV.lt] using h2⟩
 | .agg l, y, h => by
  simp only [SV.ren] at h
  obtain ⟨l', hl, rfl⟩ := Option.map_eq_some_iff.1 h
  obtain ⟨h1, h2⟩ := renL_ok ρ l l' hl
  exact ⟨by simp only [den, h1], rfl, h2⟩
 | .tup l, y, h => by
  simp only [SV.ren] at h
  obtain ⟨l', hl, rfl⟩ := Option.map_eq_some_iff.1 h
  obtain ⟨h1, h2⟩ := renL_ok ρ l l' hl
  exact ⟨by simp only [den, h1], rfl, h2⟩
 | .fn f l, y, h => by
  simp only [SV.ren] at h
  obtain ⟨l', hl, rfl⟩ := Option.map_eq_some_iff.1 h
  obtain ⟨h1, h2⟩ := renL_ok ρ l l' hl
  exact ⟨by simp only [den, h1], rfl, h2⟩
 | .b x, y, h => by simp only [SV.ren, Option.some.injEq] at h; subst h; exact ⟨rfl, rfl, rfl⟩
 | .i k x, y, h => by simp only [SV.ren, Option.some.injEq] at h; subst h; exact ⟨rfl, rfl, rfl⟩
 | .s x, y, h => by simp only [SV.ren, Option.some.injEq] at h; subst h; exact ⟨rfl, rfl, rfl⟩
 | .v x, y, h => by simp only [SV.ren, Option.some.injEq] at h; subst h; exact ⟨rfl, rfl, rfl⟩
 | .any, y, h => by simp only [SV.ren, Option.some.injEq] at h; subst h; exact ⟨rfl, rfl, rfl⟩
 | .undef, y, h => by simp only [SV.ren, Option.some.injEq] at h; subst h; exact ⟨rfl, rfl, rfl⟩
theorem renL_ok (ρ : Nat → Value) : ∀ (x y : List SV), renL σ x = some y → denL ρ x = denL (fun j => ρ (π j)) y ∧ ltL N y = true
 | [], y, h => by simp only [renL, Option.some.injEq] at h; subst h; exact ⟨rfl, rfl⟩
 | a :: r, y, h => by
  have _hs := hσ
  simp only [renL] at h
  obtain ⟨b, hb, h⟩ := Option.bind_eq_some_iff.1 h
  obtain ⟨l, hl, rfl⟩ := Option.map_eq_some_iff.1 h
  obtain ⟨h1, _, h2⟩ := ren_ok ρ a b hb
  obtain ⟨h3, h4⟩ := renL_ok ρ r l hl
  exact ⟨by simp only [denL, h1, h3], by simp [ltL, h2, h4]⟩
end
theorem renL_get : ∀ {x y : List SV}, renL σ x = some y → x.length = y.length ∧ ∀ (i : Nat) (b : SV), y[i]? = some b → ∃ a, x[i]? = some a ∧ a.ren σ = some b
 | [], y, h => by simp only [renL, Option.some.injEq] at h; subst h; exact ⟨rfl, fun i b h => by simp at h⟩
 | a :: r, y, h => by
  have _hs := hσ
  simp only [renL] at h
  obtain ⟨b, hb, h⟩ := Option.bind_eq_some_iff.1 h
  obtain ⟨l, hl, rfl⟩ := Option.map_eq_some_iff.1 h
  obtain ⟨h1, h2⟩ := renL_get hl
  refine ⟨by simp [h1], fun i c hc => ?_⟩
  cases i with
  | zero => simp only [List.getElem?_cons_zero, Option.some.injEq] at hc; subst hc; exact ⟨a, rfl, hb⟩
  | succ i => simpa using h2 i c (by simpa using hc)
theorem renO_ok {W w : World} (ρ : Nat → Value) {o o' : Obj} (h : o.ren σ = some o') : (∀ v, ObjIs W w ρ v o → ObjIs W w (fun j => ρ (π j)) v o') ∧ o'.mutB = o.mutB ∧ o'.lt N = true ∧ o.deadB = o'.deadB := by
 unfold Obj.ren at h
 split at h
 ·simp only [Option.some.injEq] at h; subst h; exact ⟨fun _ _ => trivial, rfl, rfl, rfl⟩
 ·simp only [Option.some.injEq] at h; subst h; exact ⟨fun _ h => h, rfl, rfl, rfl⟩
 ·rename_i cs ty own
  obtain ⟨cs', hcs, rfl⟩ := Option.map_eq_some_iff.1 h
  obtain ⟨hl, hg⟩ := renL_get hσ hcs
  refine ⟨fun v ⟨b, arr, h1, h2, h3, h4, h5⟩ => ⟨b, arr, h1, h2, h3, by rw [h4, hl], fun i sv hi ha => ?_⟩, rfl, ?_, rfl⟩
  ·obtain ⟨a, ha', hr⟩ := hg i sv hi
   obtain ⟨e1, e2, _⟩ := ren_ok hσ ρ a sv hr
   rw [h5 i a ha' (by rw [← e2]; exact ha), e1]
  ·simp only [Obj.lt, List.all_eq_true, Bool.or_eq_true]
   intro c hc
   obtain ⟨i, hi⟩ := List.mem_iff_getElem?.1 hc
   obtain ⟨a, _, hr⟩ := hg i c hi
   exact .inr (ren_ok hσ ρ a c hr).2.2
 ·simp only [Option.some.injEq] at h
  subst h
  rename_i k l ty own
  refine ⟨fun v hv => ?_, rfl, rfl, rfl⟩
  have e : (C.ty k l).den (fun j => ρ (π j)) = (C.ty k l).den ρ := by simp only [C.den]; congr 1; funext a; exact denL_enc ρ _ k a
  obtain ⟨h1, h2, h3⟩ := hv
  exact ⟨h1, by rw [e]; exact h2, by rw [e]; exact h3⟩
 ·rename_i cs sz n ty own
  obtain ⟨cs', hcs, rfl⟩ := Option.map_eq_some_iff.1 h
  obtain ⟨hd, hlt⟩ := renL_ok hσ ρ cs cs' hcs
  refine ⟨fun v hv => ?_, rfl, hlt, rfl⟩
  have e : (C.sv cs' sz n).den (fun j => ρ (π j)) = (C.sv cs sz n).den ρ := hd.symm
  obtain ⟨h1, h2, h3⟩ := hv
  exact ⟨h1, by rw [e]; exact h2, by rw [e]; exact h3⟩
 ·rename_i k l j ty own
  obtain ⟨j', hj, rfl⟩ := Option.map_eq_some_iff.1 h
  obtain ⟨hp, hlt⟩ := hσ j j' hj
  refine ⟨fun v hv => ?_, rfl, by simpa [Obj.lt, C.lt] using hlt, rfl⟩
  have e : (C.nest k l j').den (fun j => ρ (π j)) = (C.nest k l j).den ρ := by simp only [C.den, hp]; exact nestDen_enc _ _ _ _ _ _
  obtain ⟨h1, h2, h3⟩ := hv
  exact ⟨h1, by rw [e]; exact h2, by rw [e]; exact h3⟩
 ·simp only [Option.some.injEq] at h
  subst h
  rename_i k ls ty own fr
  refine ⟨fun v ⟨vs, h1, h2, h3, h4⟩ => ⟨vs, h1, h2, fun i x l hi hl => ?_, h4⟩, rfl, rfl, rfl⟩
  have e : (C.ty k l).den (fun j => ρ (π j)) = (C.ty k l).den ρ := by simp only [C.den]; congr 1; funext a; exact denL_enc ρ _ k a
  rw [e]
  exact h3 i x l hi hl
theorem ren_dead {W w : World} {ρ : Nat → Value} {v : Value} {o o' : Obj} (h : o.ren σ = some o') (hd : o'.deadB = true) : ObjIs W w ρ v o' := by
 have _hs := hσ
 cases o' <;> first | (cases hd; done) | skip
 rename_i g
 unfold Obj.ren at h
 split at h <;> first | (injection h with h; injection h with h; subst h; trivial) | (simp at h; done) | skip
 all_goals (first | (obtain ⟨_, _, h⟩ := Option.map_eq_some_iff.1 h; cases h) | cases h)
theorem renOs_get : ∀ {x y : List Obj}, renOs σ x = some y → x.length = y.length ∧ ∀ (i : Nat) (b : Obj), y[i]? = some b → ∃ a, x[i]? = some a ∧ a.ren σ = some b
 | [], y, h => by simp only [renOs, Option.some.injEq] at h; subst h; exact ⟨rfl, fun i b h => by simp at h⟩
 | a :: r, y, h => by
  have _hs := hσ
  simp only [renOs] at h
  obtain ⟨b, hb, h⟩ := Option.bind_eq_some_iff.1 h
  obtain ⟨l, hl, rfl⟩ := Option.map_eq_some_iff.1 h
  obtain ⟨h1, h2⟩ := renOs_get hl
  refine ⟨by simp [h1], fun i c hc => ?_⟩
  cases i with
  | zero => simp only [List.getElem?_cons_zero, Option.some.injEq] at hc; subst hc; exact ⟨a, rfl, hb⟩
  | succ i => simpa using h2 i c (by simpa using hc)
end
theorem addNew_ok {base : Nat} : ∀ (l acc : List Nat), acc.Nodup → (∀ j ∈ acc, base ≤ j) → (addNew base acc l).Nodup ∧ ∀ j ∈ addNew base acc l, base ≤ j
 | [], acc, h1, h2 => ⟨h1, h2⟩
 | j :: r, acc, h1, h2 => by
  simp only [addNew]
  split
  ·exact addNew_ok r acc h1 h2
  ·rename_i hc
   simp only [Bool.or_eq_true, decide_eq_true_eq, List.contains_eq_mem, not_or] at hc
   refine addNew_ok r _ ?_ ?_
   ·rw [List.nodup_append]
    refine ⟨h1, by simp, fun a ha b hb => ?_⟩
    simp only [List.mem_singleton] at hb
    subst hb
    rintro rfl
    exact hc.2 ha
   ·intro k hk
    rcases List.mem_append.1 hk with hk | hk
    ·exact h2 k hk
    ·simp only [List.mem_singleton] at hk
     omega
theorem keptAt_ok (base : Nat) (keep : List Nat) (s : St) : (keptAt base keep s).Nodup ∧ ∀ j ∈ keptAt base keep s, base ≤ j := by
 unfold keptAt
 simp only
 generalize refsL (keep.map fun i => s.t.getD i .any) ++ (s.m.take base).flatMap Obj.refs = l0
 obtain ⟨h1, h2⟩ := addNew_ok (base := base) l0 [] (List.nodup_nil) (fun j hj => by cases hj)
 obtain ⟨h3, h4⟩ := addNew_ok (base := base) ((addNew base [] l0).flatMap fun j => (s.m.getD j (.dead none)).refs) _ h1 h2
 exact addNew_ok (base := base) _ _ h3 h4
theorem setSlots_len : ∀ (l : List (Nat × SV)) (t : List SV), (setSlots t l).length = t.length
 | [], _ => rfl
 | (i, v) :: r, t => by simp [setSlots, setSlots_len r]
theorem setSlots_get : ∀ (l : List (Nat × SV)) (t : List SV) (i : Nat) (x : SV), (setSlots t l)[i]? = some x → t[i]? = some x ∨ ((i, x) ∈ l)
 | [], _, _, _, h => .inl h
 | (j, v) :: r, t, i, x, h => by
  rcases setSlots_get r _ i x h with h | h
  ·by_cases hij : i = j
   ·subst hij
    have hl : i < t.length := by
     have := (List.getElem?_eq_some_iff.1 h).1
     simpa using this
    rw [List.getElem?_set_self hl] at h
    injection h with h
    subst h
    exact .inr (by simp)
   ·rw [List.getElem?_set_ne (by omega)] at h
    exact .inl h
  ·exact .inr (by simp [h])
theorem RelS.norm {W : World} {base n : Nat} {keep : List Nat} {ρ : Nat → Value} {s : St} {a : Act} {w : World} (h : RelS W ρ s a w) (hn : s.t.length = n) (hb : base ≤ s.m.length) {c : Cp} (hc : Ma.norm base keep s = some c) :
  ∃ ρ', RelS W ρ' (expand n keep c) a w ∧ Agree base ρ ρ' ∧ base ≤ (expand n keep c).m.length := by
 unfold Ma.norm at hc
 simp only at hc
 obtain ⟨vs, hvs, hc⟩ := Option.bind_eq_some_iff.1 hc
 obtain ⟨os, hos, rfl⟩ := Option.map_eq_some_iff.1 hc
 obtain ⟨hnd, hge⟩ := keptAt_ok base keep s
 generalize keptAt base keep s = r at hvs hos hnd hge
 have hσ : ∀ j k, sig base r j = some k → from_ base r k = j ∧ k < base + r.length := fun j k hk => sig_from hk
 obtain ⟨hvl, hvg⟩ := renL_get hσ hvs
 obtain ⟨hol, hog⟩ := renOs_get hσ hos
 have holen : os.length = base + r.length := by
  rw [← hol]
  simp
  omega
 have hget : ∀ {j : Nat} {o' : Obj}, os[j]? = some o' → (o' matches .dead _) = false → ∃ o, s.m[from_ base r j]? = some o ∧ o.ren (sig base r) = some o' := by
  intro j o' hj hlive
  obtain ⟨o, ho, hr⟩ := hog j o' hj
  have hlive' : o.deadB = false := by rw [(renO_ok (W := W) (w := w) hσ ρ hr).2.2.2]; exact deadB_iff.1 hlive
  refine ⟨o, ?_, hr⟩
  by_cases hjb : j < base
  ·rw [List.getElem?_append_left (by simp; omega), List.getElem?_take, if_pos hjb] at ho
   simpa [from_, hjb] using ho
  ·rw [List.getElem?_append_right (by simp; omega)] at ho
   simp only [List.length_take, Nat.min_eq_left hb, List.getElem?_map] at ho
   obtain ⟨k, hk, ho⟩ := Option.map_eq_some_iff.1 ho
   have e : from_ base r j = k := by unfold from_; rw [if_neg hjb, List.getD_eq_getElem?_getD, hk]; rfl
   rw [e]
   rw [List.getD_eq_getElem?_getD] at ho
   cases hm : s.m[k]? with
   | none => rw [hm] at ho; subst ho; cases hlive'
   | some o2 => rw [hm] at ho; subst ho; rfl
 have hinj : ∀ {i j : Nat}, i < base + r.length → j < base + r.length → from_ base r i = from_ base r j → i = j := by
  intro i j hi hj he
  unfold from_ at he
  have hmem : ∀ q, q < r.length → base ≤ r.getD q 0 := fun q hq => hge _ (by rw [List.getD_eq_getElem?_getD, List.getElem?_eq_getElem hq]; exact List.getElem_mem _)
  split at he <;> split at he
  ·exact he
  ·have := hmem (j - base) (by omega); omega
  ·have := hmem (i - base) (by omega); omega
  ·have h1 : i - base < r.length := by omega
   have h2 : j - base < r.length := by omega
   rw [List.getD_eq_getElem?_getD, List.getD_eq_getElem?_getD, List.getElem?_eq_getElem h1, List.getElem?_eq_getElem h2] at he
   have := (List.getElem_inj (h₀ := h1) (h₁ := h2) hnd).1 (by simpa using he)
   omega
 refine ⟨fun j => ρ (from_ base r j), ⟨⟨?_, fun i sv hi ha => ?_⟩, ⟨h.m.below, fun j o' hj => ?_, fun i j o1 o2 hij hi hj hmu hd b hb1 hb2 => ?_, fun j o' hj => ?_⟩, h.d⟩, fun j hj => ?_, ?_⟩
 ·rw [h.t.size, hn]
  simp [expand, setSlots_len]
 ·rcases setSlots_get _ _ i sv hi with hi | hi
  ·have := List.mem_of_getElem? hi
   simp only [List.mem_replicate] at this
   rw [this.2] at ha
   cases ha
  ·obtain ⟨q, hq⟩ := List.mem_iff_getElem?.1 hi
   rw [List.getElem?_zip_eq_some] at hq
   obtain ⟨hk, hv⟩ := hq
   obtain ⟨x, hx, hr⟩ := hvg q sv hv
   obtain ⟨e1, e2, e3⟩ := ren_ok hσ ρ x sv hr
   rw [List.getElem?_map, hk] at hx
   simp only [Option.map_some, Option.some.injEq] at hx
   have hxa : x.isAny = false := by rw [← e2]; exact ha
   refine ⟨by show sv.lt os.length = true; rw [holen]; exact e3, ?_⟩
   obtain ⟨_, h2⟩ := h.t.ev (.tmp i) (by simp only [ev]; rw [hx]; exact hxa)
   simp only [ev, hx, Act.eval] at h2
   have hil : i < a.tmps.size := by
    rw [h.t.size]
    rcases Nat.lt_or_ge i s.t.length with h' | h'
    ·exact h'
    ·rw [List.getD_eq_getElem?_getD, List.getElem?_eq_none h'] at hx
     subst hx
     cases hxa
   rw [← e1, ← h2, Array.getElem?_eq_getElem hil]
   simp [hil]
 ·cases hlive : o'.deadB
  ·obtain ⟨o, ho, hr⟩ := hget hj hlive
   exact (renO_ok hσ ρ hr).1 _ (h.m.obj _ o ho)
  ·obtain ⟨o, _, hr⟩ := hog j o' hj
   exact ren_dead hσ hr hlive
 ·have hl1 := mutB_live hmu
  obtain ⟨p1, hp1, hr1⟩ := hget hi hl1
  obtain ⟨p2, hp2, hr2⟩ := hget hj hd
  have hi' : i < base + r.length := by rw [← holen]; exact (List.getElem?_eq_some_iff.1 hi).1
  have hj' : j < base + r.length := by rw [← holen]; exact (List.getElem?_eq_some_iff.1 hj).1
  have g1 := renO_ok (W := W) (w := w) hσ ρ hr1
  have g2 := renO_ok (W := W) (w := w) hσ ρ hr2
  exact h.m.sep _ _ p1 p2 (fun e => hij (hinj hi' hj' e)) hp1 hp2 (by rw [← g1.2.1]; exact hmu) (deadB_iff.2 (by rw [g2.2.2.2]; exact deadB_iff.1 hd)) b hb1 (by unfold Obj.blocks at hb2 ⊢; rw [← g2.2.1]; exact hb2)
 ·obtain ⟨o, ho, hr⟩ := hog j o' hj
  have := (renO_ok (W := W) (w := w) hσ ρ hr).2.2.1
  show o'.lt os.length = true
  rw [holen]
  exact this
 ·show ρ (from_ base r j) = ρ j
  simp [from_, hj]
 ·show base ≤ os.length
  rw [holen]
  omega
mutual
theorem svEq_ok : ∀ (x y : SV), svEq x y = true → x = y
 | .ptr j o, .ptr k p, h => by simp only [svEq, Bool.and_eq_true, decide_eq_true_eq] at h; rw [h.1, h.2]
 | .row j, .row k, h => by simp only [svEq, decide_eq_true_eq] at h; rw [h]
 | .undef, .undef, _ => rfl
 | .any, .any, _ => rfl
 | .v (.slice none 0 0), .v (.slice none 0 0), _ => rfl
 | .fn f l, .fn g r, h => by simp only [svEq, Bool.and_eq_true, decide_eq_true_eq] at h; rw [h.1, svEqL_ok l r h.2]
theorem svEqL_ok : ∀ (x y : List SV), svEqL x y = true → x = y
 | [], [], _ => rfl
 | x :: r, y :: s, h => by simp only [svEqL, Bool.and_eq_true] at h; rw [svEq_ok x y h.1, svEqL_ok r s h.2]
end
theorem decLCs_ok : ∀ (l : List LC) (cs : List SV) (x : LCsT l), decLCs l cs = some x → cs = encLCs l x
 | [], [], _, _ => rfl
 | [], _ :: _, _, h => by simp [decLCs] at h
 | .fl k :: r, cs, x, h => by
  simp only [decLCs] at h
  obtain ⟨a, ha, h⟩ := Option.bind_eq_some_iff.1 h
  obtain ⟨b, hb, h⟩ := Option.map_eq_some_iff.1 h
  subst h
  obtain ⟨h1, _⟩ := dec_enc k _ a ha
  have h2 := decLCs_ok r _ b hb
  show cs = k.enc a ++ encLCs r b
  rw [← h1, ← h2, List.take_append_drop]
 | .cst _ :: _, [], _, h => by simp [decLCs] at h
 | .cst v :: r, c :: cs, x, h => by
  simp only [decLCs] at h
  cases he : svEq c v
  ·rw [he] at h; cases h
  ·rw [he] at h
   show c :: cs = v :: encLCs r x
   rw [svEq_ok c v he, decLCs_ok r cs x h]
 | .inn _ :: _, [], _, h => by simp [decLCs] at h
 | .inn j :: r, c :: cs, x, h => by
  simp only [decLCs] at h
  obtain ⟨i, hi, h⟩ := Option.bind_eq_some_iff.1 h
  obtain ⟨b, hb, h⟩ := Option.map_eq_some_iff.1 h
  subst h
  show c :: cs = .inn j i :: encLCs r b
  rw [← decLCs_ok r cs b hb]
  unfold innI at hi
  split at hi
  ·rename_i j' i'
   cases hc : decide (j' = j)
   ·rw [hc] at hi; cases hi
   ·rw [hc] at hi
    injection hi with hi
    subst hi
    rw [of_decide_eq_true hc]
  ·cases hi
theorem decLV_ok (v : LV) (s : SV) (x : v.T) (h : decLV v s = some x) : s = encLV v x := by
 cases v with
 | one c =>
  have h : decLCs [c] [s] = some x := h
  have := decLCs_ok [c] [s] x h
  show s = (encLCs [c] x).headD .any
  rw [← this]
  rfl
 | agg l =>
  have h : s.parts.bind (decLCs l) = some x := h
  obtain ⟨cs, hp, h⟩ := Option.bind_eq_some_iff.1 h
  unfold SV.parts at hp
  split at hp
  ·injection hp with hp
   subst hp
   show SV.agg _ = SV.agg (encLCs l x)
   rw [← decLCs_ok l _ x h]
  ·cases hp
theorem own_weak {own own' : Bool} (h : (own' == own || !own) = true) : own' = own ∨ own = false := by cases own <;> cases own' <;> simp_all
def Obj.loose : Obj → Obj
 | .bag k ls ty _ _ => .bag k ls ty false false
 | o => o.shut
theorem ObjIs.loose {W w : World} {ρ : Nat → Value} {v : Value} {o : Obj} (h : ObjIs W w ρ v o) : ObjIs W w ρ v o.loose := by
 cases o with
 | bag k ls ty own fr =>
  obtain ⟨vs, h1, h2, h3, h4, _⟩ := h.shut
  exact ⟨vs, h1, h2, h3, h4, fun h => by cases h⟩
 | _ => exact h.shut
theorem loose_mut (o : Obj) : o.loose.mutB = false := by cases o <;> rfl
theorem loose_live (o : Obj) (h : o.loose.live' = true) : o.live' = true := by cases o <;> first | rfl | cases h
theorem loose_lt (o : Obj) (n : Nat) : o.loose.lt n = o.lt n := by
 cases o <;> rfl
theorem decLO_ok (v : LO) (o : Obj) (x : v.T) (h : decLO v o = some x) : encLO v x = o ∨ encLO v x = o.shut ∨ encLO v x = .dead none ∨ encLO v x = o.loose := by
 cases v with
 | blk l ty own =>
  have h : (blkL ty own o).bind (decLCs l) = some x := h
  obtain ⟨cs, hp, h⟩ := Option.bind_eq_some_iff.1 h
  unfold blkL at hp
  split at hp
  ·rename_i cs' ty' own' _
   cases hc : decide (ty' = ty) && (own' == own || !own)
   ·rw [hc] at hp; cases hp
   ·rw [hc] at hp
    injection hp with hp
    subst hp
    rw [Bool.and_eq_true, decide_eq_true_eq] at hc
    obtain ⟨rfl, hw⟩ := hc
    have e : encLCs l x = cs' := (decLCs_ok l _ x h).symm
    rcases own_weak hw with rfl | rfl
    ·left
     show Obj.blk (encLCs l x) _ _ = Obj.blk _ _ _
     rw [e]
    ·right; left
     show Obj.blk (encLCs l x) _ _ = Obj.blk _ _ _
     rw [e]
  ·cases hp
 | row k ty own =>
  have h : rowL k ty own o = some x := h
  unfold rowL at h
  split at h
  ·rename_i k' l ty' own' _
   split at h
   ·rename_i hk
    subst hk
    cases hc : decide (ty' = ty) && (own' == own || !own)
    ·rw [hc] at h; cases h
    ·rw [hc] at h
     injection h with h
     subst h
     rw [Bool.and_eq_true, decide_eq_true_eq] at hc
     obtain ⟨rfl, hw⟩ := hc
     rcases own_weak hw with rfl | rfl
     ·exact .inl rfl
     ·exact .inr (.inl rfl)
   ·cases h
  ·cases h
 | raw l sz n ty own =>
  have h : (rawL sz n ty own o).bind (decLCs l) = some x := h
  obtain ⟨cs, hp, h⟩ := Option.bind_eq_some_iff.1 h
  unfold rawL at hp
  split at hp
  ·rename_i cs' sz' n' ty' own' _
   cases hc : decide (ty' = ty) && (own' == own || !own) && decide (sz' = sz) && decide (n' = n)
   ·rw [hc] at hp; cases hp
   ·rw [hc] at hp
    injection hp with hp
    subst hp
    rw [Bool.and_eq_true, Bool.and_eq_true, Bool.and_eq_true, decide_eq_true_eq, decide_eq_true_eq, decide_eq_true_eq] at hc
    obtain ⟨⟨⟨rfl, hw⟩, rfl⟩, rfl⟩ := hc
    have e : encLCs l x = cs' := (decLCs_ok l _ x h).symm
    rcases own_weak hw with rfl | rfl
    ·left
     show Obj.row (.sv (encLCs l x) _ _) _ _ = Obj.row (.sv _ _ _) _ _
     rw [e]
    ·right; left
     show Obj.row (.sv (encLCs l x) _ _) _ _ = Obj.row (.sv _ _ _) _ _
     rw [e]
  ·cases hp
 | nest k j ty own =>
  have h : nestL k j ty own o = some x := h
  unfold nestL at h
  split at h
  ·rename_i k' l j' ty' own' _
   split at h
   ·rename_i hk
    subst hk
    cases hc : decide (ty' = ty) && (own' == own || !own) && decide (j' = j)
    ·rw [hc] at h; cases h
    ·rw [hc] at h
     injection h with h
     subst h
     rw [Bool.and_eq_true, Bool.and_eq_true, decide_eq_true_eq, decide_eq_true_eq] at hc
     obtain ⟨⟨rfl, hw⟩, rfl⟩ := hc
     rcases own_weak hw with rfl | rfl
     ·exact .inl rfl
     ·exact .inr (.inl rfl)
   ·cases h
  ·cases h
 | bag k ty own fr =>
  have h : bagL k ty own fr o = some x := h
  unfold bagL at h
  split at h
  ·rename_i k' l ty' own' fr' _
   split at h
   ·rename_i hk
    subst hk
    cases hc : decide (ty' = ty) && ((own' == own && fr' == fr) || (!own && (fr == (own' || fr'))) || (!own && !fr))
    ·rw [hc] at h; cases h
    ·rw [hc] at h
     injection h with h
     subst h
     simp only [Bool.and_eq_true, decide_eq_true_eq, Bool.or_eq_true, beq_iff_eq, Bool.not_eq_true'] at hc
     obtain ⟨rfl, (⟨rfl, rfl⟩ | ⟨rfl, rfl⟩) | ⟨rfl, rfl⟩⟩ := hc
     ·exact .inl rfl
     ·exact .inr (.inl rfl)
     ·exact .inr (.inr (.inr rfl))
   ·cases h
  ·cases h
 | dead => exact .inr (.inr (.inl rfl))
 | ghost =>
  have h : ghostL o = some x := h
  unfold ghostL at h
  split at h
  ·exact .inl rfl
  ·cases h
theorem decLVs_ok : ∀ (l : List LV) (xs : List SV) (x : LVsT l), decLVs l xs = some x → xs = encLVs l x
 | [], [], _, _ => rfl
 | [], _ :: _, _, h => by simp [decLVs] at h
 | _ :: _, [], _, h => by simp [decLVs] at h
 | v :: r, y :: ys, x, h => by
  simp only [decLVs] at h
  obtain ⟨a, ha, h⟩ := Option.bind_eq_some_iff.1 h
  obtain ⟨b, hb, h⟩ := Option.map_eq_some_iff.1 h
  subst h
  show y :: ys = encLV v a :: encLVs r b
  rw [← decLV_ok v y a ha, ← decLVs_ok r ys b hb]
theorem decLOs_ok : ∀ (l : List LO) (xs : List Obj) (x : LOsT l), decLOs l xs = some x → xs.length = (encLOs l x).length ∧ ∀ (i : Nat) (o : Obj), (encLOs l x)[i]? = some o → ∃ o', xs[i]? = some o' ∧ (o = o' ∨ o = o'.shut ∨ o = .dead none ∨ o = o'.loose)
 | [], [], _, _ => ⟨rfl, fun i o h => by simp [encLOs] at h⟩
 | [], _ :: _, _, h => by simp [decLOs] at h
 | _ :: _, [], _, h => by simp [decLOs] at h
 | v :: r, y :: ys, x, h => by
  simp only [decLOs] at h
  obtain ⟨a, ha, h⟩ := Option.bind_eq_some_iff.1 h
  obtain ⟨b, hb, h⟩ := Option.map_eq_some_iff.1 h
  subst h
  obtain ⟨h1, h2⟩ := decLOs_ok r ys b hb
  refine ⟨by simp [encLOs, h1], fun i o ho => ?_⟩
  have ho : (encLO v a :: encLOs r b)[i]? = some o := ho
  cases i with
  | zero =>
   simp only [List.getElem?_cons_zero, Option.some.injEq] at ho
   subst ho
   exact ⟨y, by simp, decLO_ok v y a ha⟩
  | succ i => simpa using h2 i o (by simpa using ho)
theorem RelS.form {W : World} {base n : Nat} {f : Form} {ρ : Nat → Value} {s : St} {a : Act} {w : World} (h : RelS W ρ s a w) {x : f.T} (hx : isF n base f s = some x) :
  ∃ ρ', RelS W ρ' (stF n f x) a w ∧ Agree base ρ ρ' ∧ base ≤ (stF n f x).m.length := by
 unfold isF at hx
 cases hc : decide (s.t.length = n) && decide (base ≤ s.m.length)
 ·rw [hc] at hx; cases hx
 rw [hc] at hx
 simp only [Bool.and_eq_true, decide_eq_true_eq] at hc
 obtain ⟨c, hn, hx⟩ := Option.bind_eq_some_iff.1 hx
 obtain ⟨ρ', h1, h2, h3⟩ := h.norm hc.1 hc.2 hn
 unfold decF at hx
 obtain ⟨p, hp, hx⟩ := Option.bind_eq_some_iff.1 hx
 obtain ⟨q, hq, hx⟩ := Option.map_eq_some_iff.1 hx
 subst hx
 have hv := decLVs_ok f.vals _ p hp
 obtain ⟨hl, hg⟩ := decLOs_ok f.objs _ q hq
 have ht : (stF n f (p, q)).t = (expand n f.keep c).t := by simp only [stF, expand, encF, hv]
 have hlen : (stF n f (p, q)).m.length = (expand n f.keep c).m.length := hl.symm
 refine ⟨ρ', ⟨⟨by rw [ht]; exact h1.t.size, fun i sv hi ha => ?_⟩, ⟨h1.m.below, fun j o hj => ?_, fun i j o o' hij hi hj hmu hd => ?_, fun j o hj => ?_⟩, h1.d⟩, h2, by rw [hlen]; exact h3⟩
 ·rw [hlen]
  exact h1.t.slot i sv (by rw [← ht]; exact hi) ha
 ·obtain ⟨o1, hq, rfl | rfl | rfl | rfl⟩ := hg j o hj
  ·exact h1.m.obj j _ hq
  ·exact (h1.m.obj j o1 hq).shut
  ·trivial
  ·exact (h1.m.obj j o1 hq).loose
 ·have e1 : ∃ o1, (expand n f.keep c).m[i]? = some o1 ∧ o1.mutB = true := by
   obtain ⟨o1, hi, rfl | rfl | rfl | rfl⟩ := hg i o hi
   ·exact ⟨_, hi, hmu⟩
   ·rw [shut_mut] at hmu; cases hmu
   ·cases hmu
   ·rw [loose_mut] at hmu; cases hmu
  have e2 : ∃ o2, (expand n f.keep c).m[j]? = some o2 ∧ o2.live' = true ∧ ∀ b, b ∈ o'.blocks (ρ' j) → b ∈ o2.blocks (ρ' j) := by
   obtain ⟨o2, hq, rfl | rfl | rfl | rfl⟩ := hg j o' hj
   ·exact ⟨_, hq, live'_iff.1 hd, fun _ h => h⟩
   ·exact ⟨_, hq, shut_live _ (live'_iff.1 hd), fun b h => rd_blocks (by simpa [Obj.blocks, shut_mut] using h)⟩
   ·cases hd
   ·exact ⟨_, hq, loose_live _ (live'_iff.1 hd), fun b h => rd_blocks (by simpa [Obj.blocks, loose_mut] using h)⟩
  obtain ⟨o1, hi1, hm1⟩ := e1
  obtain ⟨o2, hj1, hl1, hb1⟩ := e2
  exact fun b hb hb' => h1.m.sep i j o1 o2 hij hi1 hj1 hm1 (live'_iff.2 hl1) b hb (hb1 b hb')
 ·rw [hlen]
  obtain ⟨o1, hq, rfl | rfl | rfl | rfl⟩ := hg j o hj
  ·exact h1.m.lt j _ hq
  ·rw [shut_lt]; exact h1.m.lt j o1 hq
  ·rfl
  ·rw [loose_lt]; exact h1.m.lt j o1 hq
theorem atEq_ok {a b : Option Nat} (h : atEq a b = true) : a = b := by
 unfold atEq at h
 split at h
 ·rfl
 ·rw [eq_of_beq h]
 ·cases h
theorem out_go {X : Type} {n base : Nat} {e : Nat → St → Option X} {r : St → Option X} {x : X} : ∀ (l : List ExitF) (i : Option Nat) (s : St) (y : OutT l), outF n base l i s = some y → goOn n e r l y = some x →
  ∃ (f : Form) (z : f.T), isF n base f s = some z ∧ (match i with | some i => e i (stF n f z) | none => r (stF n f z)) = some x
 | [], _, _, y, _, _ => nomatch y
 | [a], i, s, y, h, hg => by
  simp only [outF] at h
  cases hc : atEq a.at_ i
  ·rw [hc] at h; cases h
  ·rw [hc] at h
   have := atEq_ok hc
   subst this
   exact ⟨a.form, y, h, hg⟩
 | a :: b :: t, i, s, y, h, hg => by
  simp only [outF] at h
  cases hc : atEq a.at_ i
  ·rw [hc] at h
   obtain ⟨y', hy, rfl⟩ := Option.map_eq_some_iff.1 h
   exact out_go (b :: t) i s y' hy hg
  ·rw [hc] at h
   obtain ⟨y', hy, rfl⟩ := Option.map_eq_some_iff.1 h
   have := atEq_ok hc
   subst this
   exact ⟨a.form, y', hy, hg⟩
end Go.Ma
