/-
  THE MACHINE, part E: whatever the machine comes to holds of the code.
-/
import Derived.Test.YtihapikjcifbaaaDoorMaD
namespace Go.Ma
open Go Go.RowKit

theorem RelT.agree {ρ ρ' : Nat → Value} {n n' : Nat} {t : List SV} {a : Act} (h : RelT ρ n t a) (ha : Agree n ρ ρ') (hn : n ≤ n') : RelT ρ' n' t a :=
  ⟨h.size, fun i sv hi hs => by
    obtain ⟨h1, h2⟩ := h.slot i sv hi hs
    exact ⟨lt_mono hn sv h1, by rw [h2, den_agree ha sv h1]⟩⟩
theorem RelT.put {ρ : Nat → Value} {n : Nat} {t : List SV} {a : Act} (h : RelT ρ n t a) (d : Option Tmp) {v : SV} {x : Value} (hv : v.isAny = false → v.lt n = true ∧ x = den ρ v) : RelT ρ n (Ma.put t d v) (a.put d x) := by
  cases d with
  | none => exact h
  | some d =>
    refine ⟨by simp [Ma.put, Act.put, h.size], fun i sv hi hs => ?_⟩
    simp only [Ma.put] at hi
    simp only [Act.put]
    by_cases hid : i = d
    · subst hid
      have hl : i < t.length := by
        have := (List.getElem?_eq_some_iff.1 hi).1
        simpa using this
      rw [List.getElem?_set_self hl] at hi
      injection hi with hi
      subst hi
      obtain ⟨h1, h2⟩ := hv hs
      refine ⟨h1, ?_⟩
      rw [Array.getElem?_setIfInBounds_self_of_lt (by rw [h.size]; exact hl), h2]
    · rw [List.getElem?_set_ne (by omega)] at hi
      rw [Array.getElem?_setIfInBounds_ne (by omega)]
      exact h.slot i sv hi hs
theorem put_defers (a : Act) (d : Option Tmp) (x : Value) : (a.put d x).defers = a.defers := by cases d <;> rfl

section
variable {P : Program} {T : Nat → TI} {W : World} {ρ : Nat → Value} {m : Mem} {a : Act} {o : Oper} {t : List SV} {w : World}

theorem repCells_length (z : List Value) : ∀ n, (repCells z n).length = n * z.length
  | 0 => by simp [repCells]
  | n + 1 => by simp [repCells, repCells_length z n, Nat.add_mul, Nat.add_comm]
theorem repCells_get (z : List Value) (hz : 0 < z.length) : ∀ (n i : Nat), i < n * z.length → (repCells z n)[i]? = (z[i % z.length]?).map ofC
  | 0, i, h => by simp at h
  | n + 1, i, h => by
    simp only [repCells]
    by_cases hi : i < z.length
    · rw [List.getElem?_append_left (by simpa using hi), List.getElem?_map, Nat.mod_eq_of_lt hi]
    · rw [List.getElem?_append_right (by simpa using hi), List.length_map, repCells_get z hz n (i - z.length) (by rw [Nat.add_mul] at h; omega)]
      rw [← Nat.mod_eq_sub_mod (by omega)]
theorem repCells_lt (z : List Value) (k : Nat) : ∀ n, ltL k (repCells z n) = true
  | 0 => rfl
  | n + 1 => by
    have := repCells_lt z k n
    rw [ltL_all] at this ⊢
    simp only [repCells, List.all_append, Bool.and_eq_true]
    exact ⟨by simp [ofC_lt], this⟩
theorem repCells_one (z : List Value) (hz : z.all oneC = true) : ∀ n, (repCells z n).all (·.one) = true
  | 0 => rfl
  | n + 1 => by
    simp only [repCells, List.all_append, repCells_one z hz n, Bool.and_true, List.all_map]
    rw [List.all_eq_true] at hz ⊢
    intro v hv
    have := hz v hv
    cases v <;> simp_all [ofC, SV.one, oneC]
theorem repCells_den (z : Array Value) (hz : 0 < z.size) (n : Nat) : ((Array.range (n * z.size)).map fun i => z[i % z.size]!) = (denL ρ (repCells z.toList n)).toArray := by
  apply Array.ext'
  apply List.ext_getElem?
  intro i
  simp only [Array.toList_map, List.getElem?_map, Array.toList_range, denL_map]
  by_cases hi : i < n * z.size
  · rw [List.getElem?_range hi, repCells_get z.toList (by simpa using hz) n i (by simpa using hi)]
    have hm : i % z.size < z.size := Nat.mod_lt _ hz
    simp [den_ofC, hm]
  · rw [List.getElem?_eq_none (by simpa using hi), List.getElem?_eq_none (by rw [repCells_length]; simpa using hi)]
    rfl

theorem litCells_ok (ht : RelT ρ m.length t a) (sz n : Nat) : ∀ (ps : List (Nat × Operand)) (cs cs' : List SV), litCells t sz n ps cs = some cs' → cs.length = n * sz → ltL m.length cs = true → cs.all (·.one) = true →
    Instr.fill (fun i => some (i * sz, sz)) (denL ρ cs).toArray (ps.map fun (i, x) => (i, a.eval x)) = some (denL ρ cs').toArray ∧ ltL m.length cs' = true ∧ cs'.all (·.one) = true ∧ cs'.length = n * sz
  | [], cs, cs', h, hn, hl, h1 => by simp only [litCells, Option.some.injEq] at h; subst h; exact ⟨rfl, hl, h1, hn⟩
  | (i, x) :: r, cs, cs', h, hn, hl, h1 => by
    simp only [litCells] at h
    split at h
    · cases h
    · rename_i hc
      simp only [Bool.or_eq_true, Bool.not_eq_true', not_or, Bool.not_eq_true, bne_eq_false_iff_eq, decide_eq_false_iff_not, Bool.not_eq_false] at hc
      obtain ⟨⟨⟨h2, h3⟩, h4⟩, h5⟩ := hc
      have h5 : i < n := by omega
      obtain ⟨hlt, hev⟩ := ht.ev x h2
      have hcells : (a.eval x).cells.toList = denL ρ (ev t x).cells := by rw [hev]; exact one_cells_den h3 h2
      have hsz : (a.eval x).cells.size = (ev t x).cells.length := by rw [← Array.length_toList, hcells, denL_length]
      have hlc : ltL m.length (ev t x).cells = true := by
        cases hsv : ev t x with
        | agg l => rw [hsv] at hlt; simpa [SV.cells, SV.lt] using hlt
        | _ => simp_all [SV.cells, ltL]
      have hbound : i * sz + sz ≤ n * sz := by
        have : (i + 1) * sz ≤ n * sz := Nat.mul_le_mul_right _ h5
        rw [Nat.add_mul] at this
        omega
      simp only [List.map_cons, Instr.fill]
      rw [if_neg (by simp [hsz, h4]; omega)]
      have hfold : (a.eval x).cells.zipIdx.foldl (fun cs (p : Value × Nat) => cs.setIfInBounds (i * sz + p.2) p.1) (denL ρ cs).toArray = (denL ρ (fillAt cs (i * sz) (ev t x).cells)).toArray := by
        rw [← Array.foldl_toList, Array.toList_zipIdx, hcells, fold_set (i * sz) _ 0 _ (by simp; omega)]
        simp only [fillAt, denL_map, List.map_append, List.map_take, List.map_drop, List.length_map, Nat.add_zero]
      have := litCells_ok ht sz n r (fillAt cs (i * sz) (ev t x).cells) cs' h (by simp [fillAt]; omega) (by
        simp only [ltL_all, List.all_eq_true, fillAt, List.mem_append] at hl hlc ⊢
        rintro c ((hc | hc) | hc)
        · exact hl c (List.mem_of_mem_take hc)
        · exact hlc c hc
        · exact hl c (List.mem_of_mem_drop hc)) (by
        simp only [List.all_eq_true, fillAt, List.mem_append] at h1 h3 ⊢
        rintro c ((hc | hc) | hc)
        · exact h1 c (List.mem_of_mem_take hc)
        · exact h3 c hc
        · exact h1 c (List.mem_of_mem_drop hc))
      rw [← hfold] at this
      exact this

theorem dec_enc : ∀ (k : K) (cs : List SV) (a : k.T), k.dec cs = some a → cs = k.enc a ∧ cs.length = k.sz := by
  intro k cs a h
  unfold K.dec at h
  split at h <;> first | (cases h; done) | (injection h with h; subst h; exact ⟨rfl, rfl⟩)
theorem enc_len (k : K) (a : k.T) : (k.enc a).length = k.sz := by cases k <;> rfl
theorem enc_one (k : K) (a : k.T) : ∀ c ∈ k.enc a, c.one = true := by
  cases k <;> simp [K.enc, SV.one]
theorem sz_pos (k : K) : 0 < k.sz := by cases k <;> decide
theorem flat_len (ρ : Nat → Value) (k : K) : ∀ l : List k.T, (l.flatMap fun a => denL ρ (k.enc a)).length = l.length * k.sz
  | [] => by simp
  | a :: r => by simp [List.flatMap_cons, flat_len ρ k r, enc_len, Nat.add_mul, Nat.add_comm]
theorem chunks_spec (ρ : Nat → Value) (k : K) : ∀ (n : Nat) (cs : List SV) (l : List k.T), chunks k n cs = some l → l.length = n ∧ (l.flatMap fun a => denL ρ (k.enc a)) = denL ρ cs
  | 0, cs, l, h => by
    simp only [chunks] at h
    split at h
    · rename_i hc
      injection h with h
      subst h
      have : cs = [] := by simpa using hc
      subst this
      exact ⟨rfl, rfl⟩
    · cases h
  | n + 1, cs, l, h => by
    simp only [chunks] at h
    split at h
    · rename_i a r ha hr
      injection h with h
      subst h
      obtain ⟨h1, h2⟩ := chunks_spec ρ k n _ r hr
      obtain ⟨h3, _⟩ := dec_enc k _ a ha
      refine ⟨by simp [h1], ?_⟩
      rw [List.flatMap_cons, h2, ← h3, denL_map, denL_map, denL_map, ← List.map_append, List.take_append_drop]
    · cases h
theorem mkRow_spec (ρ : Nat → Value) (ti : TI) (cs : List SV) (n : Nat) (hl : cs.length = n * ti.size) : (mkRow ti cs n).sz = ti.size ∧ (mkRow ti cs n).n = n ∧ (mkRow ti cs n).den ρ = denL ρ cs ∧ ∀ k, ltL k cs = true → (mkRow ti cs n).lt k = true := by
  unfold mkRow
  split
  · split
    · rename_i k _ hk
      split
      · rename_i l hc
        obtain ⟨h1, h2⟩ := chunks_spec ρ k n cs l hc
        exact ⟨(by simpa using hk : k.sz = ti.size), h1, h2, fun _ _ => rfl⟩
      · exact ⟨rfl, rfl, rfl, fun _ h => h⟩
    · exact ⟨rfl, rfl, rfl, fun _ h => h⟩
  · exact ⟨rfl, rfl, rfl, fun _ h => h⟩

theorem opa_ok (hT : TOk P T) (ht : RelT ρ m.length t a) (hm : RelM W ρ m w) {ob : Obj} {r : Nat → SV} (h : opa T t o.op = some (ob, r)) :
    ∃ x w', (execOp a.eval o).run P w = .ok (.value x) w' ∧ Agree m.length ρ (upd ρ m.length x) ∧ RelM W (upd ρ m.length x) (m ++ [ob]) w' ∧ (r m.length).lt (m.length + 1) = true ∧ x = den (upd ρ m.length x) (r m.length) := by
  have hag : ∀ x, Agree m.length ρ (upd ρ m.length x) := upd_agree ρ m.length
  cases hop : o.op with
  | box ty x =>
    simp only [hop, opa] at h
    split at h
    · cases h
    · rename_i hany
      split at h
      · rename_i hall
        simp only [Option.some.injEq, Prod.mk.injEq] at h
        obtain ⟨rfl, rfl⟩ := h
        have hany : (ev t x).isAny = false := by simpa using hany
        obtain ⟨hlt, hev⟩ := ht.ev x hany
        have hcells : (a.eval x).cells.toList = denL ρ (ev t x).cells := by rw [hev]; exact one_cells_den hall hany
        have hlc : ltL m.length (ev t x).cells = true := by
          cases hsv : ev t x with
          | agg l => rw [hsv] at hlt; simpa [SV.cells, SV.lt] using hlt
          | _ => simp_all [SV.cells, ltL]
        refine ⟨_, _, by simp only [execOp, hop, Instr.box, newVar, newRow, Sem.run_bind, run_newObj, Sem.run_pure, Result.andThen_ok]; rfl, hag _, ?_, by simp [SV.lt], by simp [den, upd_same, ptrOff, Addr.add]⟩
        refine hm.alloc (arr := (a.eval x).cells) (by rw [← Array.length_toList, hcells, denL_length]) (fun i sv hi hs => ?_)
        rw [ltL_all, List.all_eq_true] at hlc
        refine ⟨hlc sv (List.mem_of_getElem? hi), ?_⟩
        rw [← Array.getElem?_toList, hcells, denL_map, List.getElem?_map, hi]
        rfl
      · cases h
  | alloc ty =>
    simp only [hop, opa] at h
    split at h
    · rename_i hk
      simp only [Option.some.injEq, Prod.mk.injEq] at h
      obtain ⟨rfl, rfl⟩ := h
      obtain ⟨z, hz, hzl⟩ := (hT.ty ty hk).zero w
      refine ⟨_, _, by simp only [execOp, hop, Instr.alloc, newVar, newRow, Sem.run_bind, hz, run_newObj, Sem.run_pure, Result.andThen_ok]; rfl, hag _, ?_, by simp [SV.lt], by simp [den, upd_same, ptrOff, Addr.add]⟩
      refine hm.alloc (arr := z.cells) (by rw [← Array.length_toList, hzl]; simp) (fun i sv hi hs => ?_)
      rw [List.getElem?_map] at hi
      obtain ⟨u, hu, rfl⟩ := Option.map_eq_some_iff.1 hi
      refine ⟨ofC_lt _ _, ?_⟩
      rw [← Array.getElem?_toList, hzl, hu, den_ofC]
    · cases h
  | buildSlice ty n ps =>
    simp only [hop, opa] at h
    split at h
    · rename_i hk hkd hke
      split at h
      · rename_i hc
        simp only [Bool.and_eq_true, decide_eq_true_eq, beq_iff_eq] at hc
        obtain ⟨⟨⟨hsz, hbig⟩, hzl⟩, hz1⟩ := hc
        obtain ⟨cs, hcs, h⟩ := Option.map_eq_some_iff.1 h
        simp only [Prod.mk.injEq] at h
        obtain ⟨rfl, rfl⟩ := h
        obtain ⟨ti, d, z0, hti, hd, hz, g1, g2, g3, g4, g5, g6, g7, g8, g9⟩ := (hT.ty ty hk).ex
        have := g7 hkd; subst this
        obtain ⟨z, hzr, hzt⟩ := (hT.ty _ hke).zero w
        have hzsz : z.cells.size = (T (T ty).elem).size := by rw [← Array.length_toList, hzt]; exact hzl
        obtain ⟨hfill, hlt, hone, hlen⟩ := litCells_ok ht (T (T ty).elem).size n ps.toList _ cs hcs (by rw [repCells_length, hzl]) (repCells_lt _ _ _) (repCells_one _ hz1 n)
        have hrun : (Instr.buildSlice ty n (ps.map fun (i, x) => (i, a.eval x))).run P w = .ok (.slice (some ⟨w.heap.size, 0, none⟩) n n) (w.alloc (.cells (denL ρ cs).toArray (T ty).elem)) := by
          have hcells : Instr.fill (fun i => some (i * (T (T ty).elem).size, (T (T ty).elem).size)) ((Array.range (n * (T (T ty).elem).size)).map fun i => z.cells[i % z.cells.size]!) (ps.map fun (i, x) => (i, a.eval x)).toList = some (denL ρ cs).toArray := by
            have := repCells_den (ρ := ρ) z.cells (by omega) n
            rw [hzsz] at this
            rw [hzsz, this, hzt]
            simpa using hfill
          unfold Instr.buildSlice
          simp only [Sem.run_bind, run_underlying hd, Result.andThen_ok, (hT.ty _ hke).sizeOf]
          rw [if_neg (by omega)]
          by_cases hn : n * (T (T ty).elem).size = 0
          · have hn0 : n = 0 := by
              rcases Nat.mul_eq_zero.1 hn with h | h
              · exact h
              · omega
            subst hn0
            have e0 : ∀ (g : Nat → Value), (Array.range 0).map g = #[] := fun g => by simp
            rw [Nat.zero_mul, e0] at hcells
            rw [Nat.zero_mul, if_pos rfl, Sem.run_bind, Sem.run_pure, Result.andThen_ok, e0, hcells]
            simp [newRow, World.alloc_eq]
          · rw [if_neg hn]
            simp only [Sem.run_bind, hzr, Sem.run_pure, Result.andThen_ok]
            rw [hcells]
            simp [newRow, World.alloc_eq]
        refine ⟨_, _, by simp only [execOp, hop, Sem.run_bind, hrun, Result.andThen_ok]; rfl, hag _, ?_, by simp [SV.lt], by simp [den, upd_same, sliceVal]⟩
        obtain ⟨r1, r2, r3, r4⟩ := mkRow_spec (upd ρ m.length (.slice (some ⟨w.heap.size, 0, none⟩) n n)) (T (T ty).elem) cs n hlen
        obtain ⟨_, _, r3', _⟩ := mkRow_spec ρ (T (T ty).elem) cs n hlen
        refine hm.push ((Below.refl _ _).alloc (Nat.le_refl _) _) ⟨by rw [r1]; exact hsz, fun u hu => ?_, ?_⟩ (by simp only [Obj.lt]; exact r4 _ hlt) (fun b hb => by simp only [valBlock, Option.some.injEq] at hb; omega)
        · rw [r3'] at hu
          simp only [denL_map, List.mem_map] at hu
          obtain ⟨c, hc, rfl⟩ := hu
          exact one_den (List.all_eq_true.1 hone c hc)
        show World.ownsRow _ _ _ _ _ _ _
        rw [r1, r2, r3']
        refine ⟨by simp [hlen], .inr ⟨w.heap.size, n, (denL ρ cs).toArray, rfl, hm.below.size, by show (w.heap.push _)[w.heap.size]? = _; simp, Nat.le_refl _, ?_, by simp [hlen], ?_⟩⟩
        · have : n ≤ n * (T (T ty).elem).size := Nat.le_mul_of_pos_right _ hsz
          unfold maxLen
          omega
        · rw [List.take_of_length_le (by simp [hlen])]
      · cases h
    · cases h
  | _ => simp only [hop, opa] at h; cases h

theorem opst_ok (hT : TOk P T) (ht : RelT ρ m.length t a) (hm : RelM W ρ m w) {m' : Mem} (h : opst T t m o.op = some m') :
    ∃ w', (execOp a.eval o).run P w = .ok .skip w' ∧ RelM W ρ m' w' ∧ m'.length = m.length := by
  cases hop : o.op with
  | store ty ad x =>
    simp only [hop, opst] at h
    split at h
    · rename_i j off had
      split at h
      · rename_i cs bt hj
        split at h
        · rename_i hc
          simp only [Bool.and_eq_true, Bool.not_eq_true', beq_iff_eq, decide_eq_true_eq] at hc
          obtain ⟨⟨⟨⟨hk, hany⟩, hall⟩, hlen⟩, hoff⟩ := hc
          simp only [Option.some.injEq] at h
          subst h
          obtain ⟨hlt, hev⟩ := ht.ev x hany
          have h1 := (ht.ev ad (by rw [had]; rfl)).2
          rw [had] at h1
          obtain ⟨b, arr, hb, hh, hs, hcell⟩ := hm.blk hj
          simp only [den, hb, ptrOff, add_zero_addr, Nat.zero_add] at h1
          have hcells : (a.eval x).cells.toList = denL ρ (ev t x).cells := by rw [hev]; exact one_cells_den hall hany
          have hsz : (a.eval x).cells.size = (T ty).size := by rw [← Array.length_toList, hcells, denL_length, hlen]
          have hlc : ltL m.length (ev t x).cells = true := by
            cases hsv : ev t x with
            | agg l => rw [hsv] at hlt; simpa [SV.cells, SV.lt] using hlt
            | _ => simp_all [SV.cells, ltL]
          have hst := run_storeCells_cells (P := P) b off (denL ρ (ev t x).cells) 0 w (fun i hi => by
              rw [cells_of_blk hh, Array.getElem?_eq_getElem (by simp at hi; omega)]; rfl)
            (fun i hi => by simp [World.frozen?, hh]) (fun v hv => by
              rw [denL_map, List.mem_map] at hv
              obtain ⟨c, hc, rfl⟩ := hv
              exact oneC_cell' (one_den (List.all_eq_true.1 hall c hc)))
          refine ⟨_, ?_, hm.store hj (off := off) (xs := (ev t x).cells) (by omega) hlc b hb, by simp⟩
          simp only [execOp, hop, h1, Instr.storeAt, Instr.sureAddr, storeVar, Sem.run_bind, Sem.run_pure, Result.andThen_ok, (hT.ty ty hk).sizeOf, hcells]
          simp [hsz, hst]
        · cases h
      · cases h
    · cases h
  | _ => simp only [hop, opst] at h; cases h
end

/-! Stores into rows. -/
theorem rowc_len (ρ : Nat → Value) (k : K) : ∀ l : List k.T, (l.flatMap fun a => denL ρ (k.enc a)).length = l.length * k.sz
  | [] => by simp
  | b :: r => by rw [List.flatMap_cons, List.length_append, rowc_len ρ k r, denL_length, enc_len, List.length_cons, Nat.succ_mul, Nat.add_comm]
theorem flat_set (ρ : Nat → Value) (k : K) (b : k.T) : ∀ (l : List k.T) (n : Nat), n < l.length →
    ((l.set n b).flatMap fun a => denL ρ (k.enc a)) = (l.flatMap fun a => denL ρ (k.enc a)).take (n * k.sz) ++ denL ρ (k.enc b) ++ (l.flatMap fun a => denL ρ (k.enc a)).drop ((n + 1) * k.sz)
  | [], n, h => by simp at h
  | c :: r, 0, _ => by
    have hc : (denL ρ (k.enc c)).length = k.sz := by rw [denL_length, enc_len]
    simp only [List.set_cons_zero, List.flatMap_cons, Nat.zero_mul, List.take_zero, List.nil_append, Nat.zero_add, Nat.one_mul]
    rw [List.drop_append, List.drop_of_length_le (by omega), List.nil_append, hc, Nat.sub_self, List.drop_zero]
  | c :: r, n + 1, h => by
    have hc : (denL ρ (k.enc c)).length = k.sz := by rw [denL_length, enc_len]
    simp only [List.set_cons_succ, List.flatMap_cons]
    rw [flat_set ρ k b r n (by simpa using h)]
    have e1 : (n + 1) * k.sz = k.sz + n * k.sz := by rw [Nat.succ_mul, Nat.add_comm]
    have e2 : (n + 1 + 1) * k.sz = k.sz + (n + 1) * k.sz := by rw [Nat.succ_mul, Nat.add_comm]
    have t1 : ∀ (X Y : List Value) (q : Nat), X.length = k.sz → (X ++ Y).take (k.sz + q) = X ++ Y.take q := fun X Y q h => by rw [← h, List.take_length_add_append]
    have t2 : ∀ (X Y : List Value) (q : Nat), X.length = k.sz → (X ++ Y).drop (k.sz + q) = Y.drop q := fun X Y q h => by rw [← h, List.drop_length_add_append]
    rw [e2, t2 _ _ _ hc, e1, t1 _ _ _ hc, ← e1]
    simp only [List.append_assoc]
theorem rowc_get (ρ : Nat → Value) (k : K) {a : k.T} : ∀ {l : List k.T} {n : Nat}, l[n]? = some a → ∀ i, i < k.sz → (l.flatMap fun a => denL ρ (k.enc a))[n * k.sz + i]? = (denL ρ (k.enc a))[i]?
  | [], n, h, _, _ => by simp at h
  | c :: r, 0, h, i, hi => by
    simp only [List.getElem?_cons_zero, Option.some.injEq] at h
    subst h
    rw [List.flatMap_cons, Nat.zero_mul, Nat.zero_add, List.getElem?_append_left (by rw [denL_length, enc_len]; exact hi)]
  | c :: r, n + 1, h, i, hi => by
    have := rowc_get ρ k (l := r) (n := n) (by simpa using h) i hi
    rw [List.flatMap_cons, List.getElem?_append_right (by rw [denL_length, enc_len, Nat.succ_mul]; omega), denL_length, enc_len, ← this]
    congr 1
    rw [Nat.succ_mul]
    omega
theorem fill_get (cs : List SV) (off : Nat) (xs : List SV) (hlen : off + xs.length ≤ cs.length) (i : Nat) : (fillAt cs off xs)[i]? = if off ≤ i ∧ i < off + xs.length then xs[i - off]? else cs[i]? := by
  unfold fillAt
  rw [List.append_assoc, List.getElem?_append]
  simp only [List.length_take]
  rw [Nat.min_eq_left (by omega)]
  split
  · rw [if_neg (by omega), List.getElem?_take, if_pos (by omega)]
  · rw [List.getElem?_append]
    split
    · rw [if_pos (by omega)]
    · rw [if_neg (by omega), List.getElem?_drop]
      congr 1
      omega
/-- The cells of a row one of whose elements is overwritten in part. -/
theorem flat_upd (ρ : Nat → Value) (k : K) {l : List k.T} {n : Nat} {a b : k.T} (ha : l[n]? = some a) {off : Nat} {xs : List SV} (hb : k.upd a off xs = some b) (i : Nat) :
    ((l.set n b).flatMap fun a => denL ρ (k.enc a))[i]? = if n * k.sz + off ≤ i ∧ i < n * k.sz + off + xs.length then (denL ρ xs)[i - (n * k.sz + off)]? else (l.flatMap fun a => denL ρ (k.enc a))[i]? := by
  unfold K.upd at hb
  split at hb
  rotate_left
  · cases hb
  rename_i hoff
  obtain ⟨he, _⟩ := dec_enc k _ b hb
  have hnl := (List.getElem?_eq_some_iff.1 ha).1
  have hF : (l.flatMap fun a => denL ρ (k.enc a)).length = l.length * k.sz := rowc_len ρ k l
  have hn1 : (n + 1) * k.sz ≤ l.length * k.sz := Nat.mul_le_mul_right _ hnl
  rw [Nat.succ_mul] at hn1
  have hel : (k.enc b).length = k.sz := enc_len k b
  rw [flat_set ρ k b l n hnl, List.append_assoc, List.getElem?_append, List.length_take, Nat.min_eq_left (by omega)]
  split
  · rw [if_neg (by omega), List.getElem?_take, if_pos (by omega)]
  · rename_i h1
    rw [List.getElem?_append, denL_length, hel]
    split
    · rename_i h2
      have e1 : (denL ρ (k.enc b))[i - n * k.sz]? = if off ≤ i - n * k.sz ∧ i - n * k.sz < off + xs.length then (denL ρ xs)[i - n * k.sz - off]? else (denL ρ (k.enc a))[i - n * k.sz]? := by
        rw [← he, denL_map, List.getElem?_map, fill_get _ _ _ (by rw [enc_len]; exact hoff), denL_map, denL_map, List.getElem?_map, List.getElem?_map]
        split <;> rfl
      rw [e1]
      by_cases h3 : off ≤ i - n * k.sz ∧ i - n * k.sz < off + xs.length
      · rw [if_pos h3, if_pos (by omega)]
        congr 1
        omega
      · rw [if_neg h3, if_neg (by omega), ← rowc_get ρ k ha (i - n * k.sz) (by omega)]
        congr 1
        omega
    · rw [if_neg (by omega), List.getElem?_drop]
      congr 1
      rw [Nat.succ_mul]
      omega
/-- Cells of a row of the call's own are overwritten. -/
theorem RelM.storeSeg {W : World} {ρ : Nat → Value} {m : Mem} {w : World} (h : RelM W ρ m w) {j : Nat} {k : K} {l l' : List k.T} {ty : TypeId} (hj : m[j]? = some (.row (.ty k l) ty true)) (hl' : l'.length = l.length)
    {off : Nat} {vs : List Value} (hoff : off + vs.length ≤ l.length * k.sz)
    (hflat : ∀ i : Nat, (l'.flatMap fun a => denL ρ (k.enc a))[i]? = if off ≤ i ∧ i < off + vs.length then vs[i - off]? else (l.flatMap fun a => denL ρ (k.enc a))[i]?)
    (g cap : Nat) (hg : ρ j = .slice (some ⟨g, 0, none⟩) l.length cap) :
    RelM W ρ (m.set j (.row (.ty k l') ty true)) (w.setCells g off vs) := by
  have hob := h.obj j _ hj
  obtain ⟨hz, hcell1, hown⟩ := hob
  rw [if_pos rfl] at hown
  obtain ⟨ho1, ho2⟩ := hown
  rcases ho2 with ⟨hv, h0⟩ | ⟨g', cap', cur, hv, hbase, hheap, hnc, hcm, hcs, htake⟩
  · rw [hg] at hv; cases hv
  rw [hg] at hv
  simp only [Value.slice.injEq, Option.some.injEq, Addr.mk.injEq] at hv
  obtain ⟨⟨rfl, _⟩, _, rfl⟩ := hv
  obtain ⟨s1, s2, s3, s4, s5, s6⟩ := setCells_spec w g off vs cur ty (0, 0) hheap
  have hjl : j < m.length := (List.getElem?_eq_some_iff.1 hj).1
  have hnc' : l.length ≤ cap := hnc
  have hn2 : l.length * k.sz ≤ cap * k.sz := Nat.mul_le_mul_right _ hnc'
  have hcs' : cur.size = cap * k.sz := hcs
  have hset : ∀ (i : Nat) (o : Obj), (m.set j (.row (.ty k l') ty true))[i]? = some o → (i = j ∧ o = .row (.ty k l') ty true) ∨ (i ≠ j ∧ m[i]? = some o) := by
    intro i o hi
    by_cases hij : i = j
    · subst hij
      rw [List.getElem?_set_self hjl] at hi
      injection hi with hi
      exact .inl ⟨rfl, hi.symm⟩
    · rw [List.getElem?_set_ne (by omega)] at hi
      exact .inr ⟨hij, hi⟩
  have htake' : cur.toList.take (l.length * k.sz) = l.flatMap fun a => denL ρ (k.enc a) := htake
  refine ⟨⟨s4.trans h.below.os, s5.trans h.below.tape, s6.trans h.below.output, by rw [s3]; exact h.below.size, fun q hq => (s2 q (by omega)).trans (h.below.block q hq)⟩, fun q o hq => ?_, fun i q o1 o2 hiq hi hq hm hd => ?_, fun q o hq => ?_⟩
  · rcases hset q o hq with ⟨rfl, rfl⟩ | ⟨hne, hq⟩
    · refine ⟨hz, fun u hu => ?_, ?_⟩
      · have hu : u ∈ l'.flatMap fun a => denL ρ (k.enc a) := hu
        simp only [List.mem_flatMap, denL_map, List.mem_map] at hu
        obtain ⟨x, _, c, hc, rfl⟩ := hu
        exact one_den (enc_one k x c hc)
      · rw [if_pos rfl]
        have hlen : (C.ty k l').n = l.length := by simp [C.n, hl']
        rw [hlen, hg]
        refine ⟨?_, .inr ⟨g, cap, _, rfl, hbase, s1, hnc, hcm, by rw [setArr_size]; exact hcs, ?_⟩⟩
        · show (l'.flatMap fun a => denL ρ (k.enc a)).length = _
          rw [rowc_len, hl']
          rfl
        · show _ = l'.flatMap fun a => denL ρ (k.enc a)
          apply List.ext_getElem?
          intro i
          rw [hflat, List.getElem?_take]
          have hsz : (C.ty k l').sz = k.sz := rfl
          rw [hsz]
          split
          · rw [Array.getElem?_toList, setArr_get _ _ _ _ (by omega)]
            split
            · rfl
            · rw [← htake', List.getElem?_take, if_pos (by assumption), Array.getElem?_toList]
          · rw [if_neg (by omega), List.getElem?_eq_none (by rw [rowc_len]; omega)]
    · cases hdd : (match o with | .dead => true | _ => false)
      · refine (h.obj q o hq).keep (fun b2 hb2 hlt => s2 b2 ?_) (by rw [s3]; omega)
        intro e
        subst e
        exact h.sep j q _ o (by omega) hj hq rfl hdd b2 (by rw [hg]; rfl) hb2
      · cases o <;> simp at hdd
        trivial
  · have hi' : ∃ o1', m[i]? = some o1' ∧ o1'.mutB = true := by
      rcases hset i o1 hi with ⟨rfl, rfl⟩ | ⟨hne, hi⟩
      · exact ⟨_, hj, rfl⟩
      · exact ⟨_, hi, hm⟩
    have hk' : ∃ o2', m[q]? = some o2' ∧ (o2' matches .dead) = false := by
      rcases hset q o2 hq with ⟨rfl, rfl⟩ | ⟨hne, hq⟩
      · exact ⟨_, hj, rfl⟩
      · exact ⟨_, hq, hd⟩
    obtain ⟨o1', hi', hm'⟩ := hi'
    obtain ⟨o2', hk', hd'⟩ := hk'
    exact h.sep i q o1' o2' hiq hi' hk' hm' hd'
  · rw [List.length_set]
    rcases hset q o hq with ⟨rfl, rfl⟩ | ⟨hne, hq⟩
    · rfl
    · exact h.lt q o hq
theorem RelM.storeRow {W : World} {ρ : Nat → Value} {m : Mem} {w : World} (h : RelM W ρ m w) {j : Nat} {k : K} {l : List k.T} {ty : TypeId} (hj : m[j]? = some (.row (.ty k l) ty true)) {n : Nat} {a b : k.T} (ha : l[n]? = some a)
    {off : Nat} {xs : List SV} (hb : k.upd a off xs = some b) (g cap : Nat) (hg : ρ j = .slice (some ⟨g, 0, none⟩) l.length cap) :
    RelM W ρ (m.set j (.row (.ty k (l.set n b)) ty true)) (w.setCells g (n * k.sz + off) (denL ρ xs)) := by
  have hnl := (List.getElem?_eq_some_iff.1 ha).1
  have hoff : off + xs.length ≤ k.sz := by
    unfold K.upd at hb
    split at hb
    · assumption
    · cases hb
  have hn1 : (n + 1) * k.sz ≤ l.length * k.sz := Nat.mul_le_mul_right _ hnl
  rw [Nat.succ_mul] at hn1
  refine h.storeSeg hj (by rw [List.length_set]) (by rw [denL_length]; omega) (fun i => ?_) g cap hg
  rw [flat_upd ρ k ha hb, denL_length]
theorem opsr_ok {P : Program} {T : Nat → TI} {W : World} {ρ : Nat → Value} {m : Mem} {a : Act} {o : Oper} {t : List SV} {w : World} (hT : TOk P T) (ht : RelT ρ m.length t a) (hm : RelM W ρ m w) {r : StR} (h : opsr T t m o.op = some r)
    {y : r.k.T} (hy : geti r.l r.i = some y) {b : r.k.T} (hb : r.k.upd y r.off r.xs = some b) : ∃ w', (execOp a.eval o).run P w = .ok .skip w' ∧ RelM W ρ (r.mem m b) w' ∧ (r.mem m b).length = m.length := by
  cases hop : o.op with
  | store ty ad x =>
    simp only [hop, opsr] at h
    split at h
    · rename_i j i sz off had
      split at h
      · rename_i k l bt hj
        split at h
        · rename_i hc
          simp only [Bool.and_eq_true, Bool.not_eq_true', beq_iff_eq] at hc
          obtain ⟨⟨⟨⟨hk, hsz⟩, hany⟩, hall⟩, hlen⟩ := hc
          simp only [Option.some.injEq] at h
          subst h
          simp only at hy hb ⊢
          obtain ⟨hlt, hev⟩ := ht.ev x hany
          have h1 := (ht.ev ad (by rw [had]; rfl)).2
          rw [had] at h1
          obtain ⟨hi0, hyl⟩ : 0 ≤ i ∧ l[i.toNat]? = some y := by
            unfold geti at hy
            split at hy
            · exact ⟨by assumption, hy⟩
            · cases hy
          have hnl := (List.getElem?_eq_some_iff.1 hyl).1
          obtain ⟨hz, _, hown⟩ := hm.obj j _ hj
          rw [if_pos rfl] at hown
          rcases hown.2 with ⟨hv, h0⟩ | ⟨g, cap, cur, hv, hbase, hheap, hnc, hcm, hcs, htake⟩
          · have h0 : l.length = 0 := h0
            omega
          have hv' : ρ j = .slice (some ⟨g, 0, none⟩) l.length cap := hv
          have hoff : off + (ev t x).cells.length ≤ k.sz := by
            unfold K.upd at hb
            split at hb
            · assumption
            · cases hb
          have hn1 : (i.toNat + 1) * k.sz ≤ l.length * k.sz := Nat.mul_le_mul_right _ hnl
          have hn2 : l.length * k.sz ≤ cap * k.sz := Nat.mul_le_mul_right _ hnc
          rw [Nat.succ_mul] at hn1
          have hcs' : cur.size = cap * k.sz := hcs
          have hadr : a.eval ad = .pointer (some ⟨g, i.toNat * k.sz + off, none⟩) := by
            rw [h1]
            simp only [den, hv', elemPtr, ← hsz]
            congr 2
            unfold Addr.add
            split <;> split <;> simp_all
          have hcells : (a.eval x).cells.toList = denL ρ (ev t x).cells := by rw [hev]; exact one_cells_den hall hany
          have hsz2 : (a.eval x).cells.size = (T ty).size := by rw [← Array.length_toList, hcells, denL_length, hlen]
          have hst := run_storeCells_cells (P := P) g (i.toNat * k.sz + off) (denL ρ (ev t x).cells) 0 w (fun q hq => by
              rw [cells_of_blk hheap, Array.getElem?_eq_getElem (by simp at hq; omega)]; rfl)
            (fun q hq => by simp [World.frozen?, hheap]) (fun v hv => by
              rw [denL_map, List.mem_map] at hv
              obtain ⟨c, hc, rfl⟩ := hv
              exact oneC_cell' (one_den (List.all_eq_true.1 hall c hc)))
          refine ⟨_, ?_, hm.storeRow hj hyl hb g cap hv', by simp [StR.mem]⟩
          simp only [execOp, hop, hadr, Instr.storeAt, Instr.sureAddr, storeVar, Sem.run_bind, Sem.run_pure, Result.andThen_ok, (hT.ty ty hk).sizeOf, hcells]
          simp [hsz2, hst]
        · cases h
      · cases h
    · cases h
  | _ => simp only [hop, opsr] at h; cases h

/-- append onto a row of the call's own: the row that comes is at the same block, or at a new one. -/
theorem append_own {P : Program} (w : World) (base : Nat) (t ty e : TypeId) (i : TypeInfo) (z : Value) (ht : P.underlying t = some (.slice e)) (hi : P.info? e = some i) (hz : i.zero = some z) (hzs : z.cells.size = i.size) (hsz : 0 < i.size)
    (v : Value) (n : Nat) (xs : List Value) (hown : w.ownsRow base e i.size v n xs) (A : Option Addr) (m c : Nat) (news : List Value) (hl : news.length = m * i.size) (hA : A = none → m = 0)
    (hnews : ∀ ad, A = some ad → ∀ j u, news[j]? = some u → w.cell? (ad.add j) = some u) (h1 : ∀ u ∈ news, u.oneCell' = true)
    (h63 : n + m ≤ maxLen) (hbytes : (n + m) * i.bytes ≤ 140737488355328) (hbase : base ≤ w.heap.size) :
    ∃ v' w', (Builtin.append_ #[t, t] ty #[v, .slice A m c]).run P w = .ok v' w' ∧ w'.ownsRow base e i.size v' (n + m) (xs ++ news) ∧ w.grownBy w' v.ownBlock ∧ (∀ b, v'.ownBlock = some b → v.ownBlock = some b ∨ w.heap.size ≤ b) := by
  cases A with
  | none =>
    have hm := hA rfl
    subst hm
    have hn : news = [] := List.eq_nil_of_length_eq_zero (by simpa using hl)
    subst hn
    have hv : ∃ B c', v = .slice B n c' ∧ n ≤ c' ∧ ∀ g o sp, B = some ⟨g, o, sp⟩ → o = 0 ∧ sp = none ∧ True := by
      rcases hown.2 with ⟨rfl, rfl⟩ | ⟨g, cap, cur, rfl, _, _, hc, _⟩
      · exact ⟨none, 0, rfl, Nat.le_refl _, fun _ _ _ h => by cases h⟩
      · exact ⟨_, cap, rfl, hc, fun _ _ _ h => by injection h with h; injection h with h1 h2 h3; exact ⟨h2.symm, h3.symm, trivial⟩⟩
    refine ⟨v, w, ?_, by simpa using hown, ⟨rfl, rfl, rfl, Nat.le_refl _, fun _ _ _ => rfl⟩, fun b hb => .inl hb⟩
    rcases hown.2 with ⟨rfl, rfl⟩ | ⟨g, cap, cur, rfl, _, hg, hc, _⟩
    · simp [Builtin.append_, run_underlying ht, sizeOf, typeInfo, hi, Builtin.lenOf, Builtin.firstCells]
    · simp [Builtin.append_, run_underlying ht, sizeOf, typeInfo, hi, Builtin.lenOf, Builtin.firstCells, hc, storeCells]
  | some ad =>
    obtain ⟨v', w', hr, ho, hgb, _⟩ := run_append_own (P := P) w base t ty e i z i.size i.bytes ht hi hz rfl rfl hzs hsz v n xs hown ad m c news hl (hnews ad rfl) h1 h63 hbytes hbase
    refine ⟨v', w', hr, ho, hgb, fun b hb => ?_⟩
    have hsmall : n + m ≤ 9223372036854775807 := by simp only [maxLen] at h63; omega
    rcases hown.2 with ⟨rfl, rfl⟩ | ⟨g, cap, cur, rfl, hbg, hg, hnc, hcm, hcs, htake⟩
    · by_cases hm : m = 0
      · subst hm
        have hn : news = [] := List.eq_nil_of_length_eq_zero (by simpa using hl)
        subst hn
        have : (Builtin.append_ #[t, t] ty #[.slice none 0 0, .slice (some ad) 0 c]).run P w = .ok (.slice none 0 0) w := by
          simp [Builtin.append_, run_underlying ht, sizeOf, typeInfo, hi, Builtin.lenOf, Builtin.firstCells, loadCells, loadCellsFrom]
        rw [this] at hr
        injection hr with hr _
        subst hr
        cases hb
      · have hr' := run_append_nil (P := P) w t ty e i z ht hi hz ad m c news hl (hnews ad rfl) (by omega) (by omega) (by have hb := hbytes; simp only [Nat.zero_add] at hb; omega)
        rw [hr'] at hr
        injection hr with hr _
        subst hr
        simp only [Value.ownBlock, Option.some.injEq] at hb
        exact .inr (by omega)
    · by_cases hroom : n + m ≤ cap
      · have hfit : n * i.size + news.length ≤ cur.size := by rw [hl, hcs, ← Nat.add_mul]; exact Nat.mul_le_mul_right _ hroom
        have hr' := run_append_room (P := P) w t ty e i ht hi g n cap cur hg ad m c news hl (hnews ad rfl) h1 hroom hfit
        rw [hr'] at hr
        injection hr with hr _
        subst hr
        exact .inl hb
      · have holds : ∀ j u, xs[j]? = some u → w.cell? ((⟨g, 0, none⟩ : Addr).add j) = some u := hown.cells (g := g) rfl
        have hr' := run_append_grow (P := P) w t ty e i z ht hi hz ⟨g, 0, none⟩ n cap xs hown.1 holds ad m c news hl (hnews ad rfl) (by omega) (by omega) (growslice_fits (by omega) hbytes)
        rw [hr'] at hr
        injection hr with hr _
        subst hr
        simp only [Value.ownBlock, Option.some.injEq] at hb
        exact .inr (by omega)

theorem mutB_live : ∀ {o : Obj}, o.mutB = true → (o matches .dead) = false := by
  intro o h
  cases o <;> first | rfl | cases h
theorem ownRow_ok {P : Program} {T : Nat → TI} {W : World} {ρ : Nat → Value} {m : Mem} {a : Act} {t : List SV} {w : World} (ht : RelT ρ m.length t a) (hm : RelM W ρ m w) {sz : Nat} {e : TypeId} {x : Operand} {j : Option Nat} {c : C} (hsz : 0 < sz)
    (h : ownRow t m sz e x = some (j, c)) :
    c.sz = sz ∧ w.ownsRow W.heap.size e sz (a.eval x) c.n (c.den ρ) ∧ (∀ u ∈ c.den ρ, oneC u = true) ∧ c.lt m.length = true ∧
      ((j = none ∧ a.eval x = .slice none 0 0) ∨ ∃ i, j = some i ∧ a.eval x = ρ i ∧ m[i]? = some (.row c e true)) := by
  unfold ownRow at h
  split at h
  · rename_i hx
    simp only [Option.some.injEq, Prod.mk.injEq] at h
    obtain ⟨rfl, rfl⟩ := h
    have := (ht.ev x (by rw [hx]; rfl)).2
    rw [hx] at this
    simp only [den] at this
    refine ⟨rfl, by rw [this]; exact World.ownsRow_nil w _ e sz, (fun u hu => by cases hu), rfl, .inl ⟨rfl, this⟩⟩
  · rename_i i hx
    split at h
    · rename_i c' ty hi
      split at h
      · rename_i hc
        simp only [Bool.and_eq_true, beq_iff_eq] at hc
        obtain ⟨rfl, rfl⟩ := hc
        simp only [Option.some.injEq, Prod.mk.injEq] at h
        obtain ⟨rfl, rfl⟩ := h
        obtain ⟨_, h0, h3⟩ := hm.obj i _ hi
        simp only [if_true] at h3
        have := (ht.ev x (by rw [hx]; rfl)).2
        rw [hx] at this
        have hv : a.eval x = ρ i := by
          rw [this]
          simp only [den]
          rcases h3.2 with ⟨hv, _⟩ | ⟨g, cap, cur, hv, _⟩ <;> rw [hv] <;> rfl
        refine ⟨rfl, by rw [hv]; exact h3, h0, hm.lt i _ hi, .inr ⟨i, rfl, hv, hi⟩⟩
      · cases h
    · cases h
  · cases h
theorem srcRow_ok {P : Program} {T : Nat → TI} {W : World} {ρ : Nat → Value} {m : Mem} {a : Act} {t : List SV} {w : World} (ht : RelT ρ m.length t a) (hm : RelM W ρ m w) {sz : Nat} {x : Operand} {j : Option Nat} {c : C}
    (h : srcRow t m sz x = some (j, c)) :
    c.sz = sz ∧ ∃ A cap, a.eval x = .slice A c.n cap ∧ (c.den ρ).length = c.n * sz ∧ (A = none → c.n = 0) ∧ (∀ ad, A = some ad → ∀ (i : Nat) (u : Value), (c.den ρ)[i]? = some u → w.cell? (ad.add i) = some u) ∧ (∀ u ∈ c.den ρ, oneC u = true) ∧ c.lt m.length = true := by
  unfold srcRow at h
  split at h
  · rename_i hx
    simp only [Option.some.injEq, Prod.mk.injEq] at h
    obtain ⟨rfl, rfl⟩ := h
    have := (ht.ev x (by rw [hx]; rfl)).2
    rw [hx] at this
    simp only [den] at this
    exact ⟨rfl, none, 0, this, by simp [C.den, denL, C.n], (fun _ => rfl), (fun _ h => by cases h), (fun u hu => by cases hu), rfl⟩
  · rename_i i hx
    split at h
    · rename_i c' ty own hi
      split at h
      · rename_i hc
        simp only [beq_iff_eq] at hc
        subst hc
        simp only [Option.some.injEq, Prod.mk.injEq] at h
        obtain ⟨rfl, rfl⟩ := h
        obtain ⟨_, A, cap, hρ, hlen, hnone, _, _, h0, hcell⟩ := RelM.row hm hi
        have := (ht.ev x (by rw [hx]; rfl)).2
        rw [hx] at this
        simp only [den, hρ, sliceVal] at this
        exact ⟨rfl, A, cap, this, hlen, hnone, hcell, h0, hm.lt i _ hi⟩
      · cases h
    · cases h
  · cases h
theorem castL_den (ρ : Nat → Value) {k k' : K} (h : k = k') (l : List k.T) : ((castL h l).flatMap fun a => denL ρ (k'.enc a)) = (l.flatMap fun a => denL ρ (k.enc a)) ∧ (castL h l).length = l.length := by
  subst h; exact ⟨rfl, rfl⟩
theorem cat_spec {c c' d : C} (h : c.cat c' = some d) (hs : c.sz = c'.sz) : d.sz = c.sz ∧ d.n = c.n + c'.n ∧ (∀ ρ, d.den ρ = c.den ρ ++ c'.den ρ) ∧ (∀ k, c.lt k = true → c'.lt k = true → d.lt k = true) := by
  unfold C.cat at h
  split at h
  · rename_i k l k' l'
    split at h
    · rename_i hk
      injection h with h
      subst h
      have := fun ρ => castL_den ρ hk l'
      refine ⟨rfl, ?_, fun ρ => ?_, fun _ _ _ => rfl⟩
      · simp [C.n, (this (fun _ => undef)).2]
      · simp [C.den, List.flatMap_append, (this ρ).1]
    · cases h
  · injection h with h
    subst h
    exact ⟨rfl, rfl, fun ρ => by simp [C.den, denL], fun _ h _ => h⟩
  · injection h with h
    subst h
    exact ⟨hs.symm, by simp [C.n], fun ρ => by simp [C.den, denL], fun _ _ h => h⟩
  · split at h
    · injection h with h
      subst h
      refine ⟨rfl, rfl, fun ρ => by simp [C.den, denL_map], fun k h1 h2 => ?_⟩
      simp only [C.lt, ltL_all, List.all_append, Bool.and_eq_true] at *
      exact ⟨h1, h2⟩
    · cases h
  · cases h

def Obj.live' : Obj → Bool
  | .dead => false
  | _ => true
theorem live'_iff : ∀ {o : Obj}, (o matches .dead) = false ↔ o.live' = true := by intro o; cases o <;> simp [Obj.live']
theorem killO_get {m : Mem} {j : Option Nat} {i : Nat} {o : Obj} (h : (killO m j)[i]? = some o) : (o = .dead ∧ j = some i) ∨ (j ≠ some i ∧ m[i]? = some o) := by
  cases j with
  | none => exact .inr ⟨by simp, h⟩
  | some k =>
    simp only [killO] at h
    by_cases hik : i = k
    · subst hik
      have hl : i < m.length := by
        have := (List.getElem?_eq_some_iff.1 h).1
        simpa using this
      rw [List.getElem?_set_self hl] at h
      injection h with h
      exact .inl ⟨h.symm, rfl⟩
    · rw [List.getElem?_set_ne (by omega)] at h
      exact .inr ⟨by simp; omega, h⟩

theorem opap_ok {P : Program} {T : Nat → TI} {W : World} {ρ : Nat → Value} {m : Mem} {a : Act} {o : Oper} {t : List SV} {w : World} (hT : TOk P T) (ht : RelT ρ m.length t a) (hm : RelM W ρ m w) {e : Bool} {m' : Mem} (h : opap T t m o.op = some (e, m')) (he : e = true) :
    ∃ x w', (execOp a.eval o).run P w = .ok (.value x) w' ∧ RelM W (upd ρ m.length x) m' w' ∧ m'.length = m.length + 1 ∧ x = den (upd ρ m.length x) (.row m.length) := by
  cases hop : o.op with
  | call c =>
    simp only [hop, opap] at h
    split at h
    · rename_i x y ty ty' hc hargs hat
      split at h
      · rename_i hcond
        simp only [Bool.and_eq_true, beq_iff_eq, decide_eq_true_eq] at hcond
        obtain ⟨⟨⟨⟨⟨rfl, hk⟩, hke⟩, hsz⟩, hby⟩, hzl⟩ := hcond
        split at h
        · rename_i j c1 j' c2 hkd hx hy
          split at h
          · cases h
          split at h
          · rename_i d hd0
            simp only [Option.some.injEq, Prod.mk.injEq] at h
            obtain ⟨rfl, rfl⟩ := h
            have b1 : c1.n + c2.n ≤ 274877906944 := by
              have := Nat.le_of_ble_eq_true he
              rw [C.len_n, C.len_n] at this
              simpa using this
            obtain ⟨hsz1, hown, ho1, hlt1, hwhich⟩ := ownRow_ok (P := P) (T := T) ht hm hsz hx
            obtain ⟨hsz2, A, cap, hyv, hlen2, hnone, hcell2, ho2, hlt2⟩ := srcRow_ok (P := P) (T := T) ht hm hy
            obtain ⟨hds, hdn, hdd, hdl⟩ := cat_spec hd0 (hsz1.trans hsz2.symm)
            obtain ⟨ti, d, z0, hti, hd, hz, g1, g2, g3, g4, g5, g6, g7, g8, g9⟩ := (hT.ty ty hk).ex
            have := g7 hkd; subst this
            obtain ⟨ei, de, z, hei, hde, hez, q1, q2, q3, q4, q5, q6, q7, q8, q9⟩ := (hT.ty _ hke).ex
            have hzs : z.cells.size = ei.size := by rw [← Array.length_toList, ← q2, hzl, q1]
            have hbytes : (c1.n + c2.n) * ei.bytes ≤ 140737488355328 := by
              have : (c1.n + c2.n) * ei.bytes ≤ 549755813888 * 256 := Nat.mul_le_mul (by omega) (by rw [← q9]; exact hby)
              omega
            rw [q1] at hown hlen2 hsz hsz1
            obtain ⟨v', w', hrun, hown', hgb, hblk⟩ := append_own (P := P) w W.heap.size ty o.type _ ei z hd hei hez hzs hsz _ _ _ hown A _ cap _ hlen2 hnone hcell2 (fun u hu => oneC_cell' (ho2 u hu)) (by unfold maxLen; omega) hbytes hm.below.size
            have hv' : ∃ A' c', v' = .slice A' (c1.n + c2.n) c' := by
              rcases hown'.2 with ⟨h, h0⟩ | ⟨g, cap, cur, h, _⟩
              · exact ⟨none, 0, by rw [h, h0]⟩
              · exact ⟨_, _, h⟩
            have hvb : ∀ b, valBlock v' = some b → (a.eval x).ownBlock = some b ∨ w.heap.size ≤ b := by
              obtain ⟨A', c', rfl⟩ := hv'
              intro b hb
              exact hblk b (by cases A' <;> simp_all [valBlock, Value.ownBlock])
            have hag := upd_agree ρ m.length v'
            have hkl : (killO m j).length = m.length := by cases j <;> simp [killO]
            refine ⟨v', w', ?_, ?_, by simp [hkl], ?_⟩
            · have ha : c.args = #[x, y] := by rw [← Array.toArray_toList (xs := c.args), hargs]
              have hb : c.argTypes = #[ty, ty] := by rw [← Array.toArray_toList (xs := c.argTypes), hat]
              rw [← hyv] at hrun
              simp [execOp, hop, resolve, hc, ha, hb, invoke, builtin, hrun]
            · -- the block of the row that grew
              have hold : ∀ (i : Nat) (ob : Obj), (killO m j)[i]? = some ob → (ob matches .dead) = false → m[i]? = some ob ∧ ∀ b, valBlock (ρ i) = some b → (a.eval x).ownBlock ≠ some b := by
                intro i ob hi hlive
                rcases killO_get hi with ⟨rfl, _⟩ | ⟨hne, hmi⟩
                · cases hlive
                · refine ⟨hmi, fun b hb hown => ?_⟩
                  rcases hwhich with ⟨_, hnil⟩ | ⟨k, rfl, hvk, hmk⟩
                  · rw [hnil] at hown; cases hown
                  · have hbk : valBlock (ρ k) = some b := by
                      rw [hvk] at hown
                      revert hown
                      cases ρ k <;> simp [Value.ownBlock, valBlock]
                      rename_i A1 _ _
                      cases A1 <;> simp
                    exact hm.sep k i _ ob (fun hki => hne (by rw [hki])) hmk hmi rfl hlive b hbk hb
              have hkeep : ∀ (i : Nat) (ob : Obj), (killO m j)[i]? = some ob → ObjIs W w' ρ (ρ i) ob := by
                intro i ob hi
                cases hlive : (match ob with | .dead => true | _ => false)
                · obtain ⟨hmi, hne⟩ := hold i ob hi hlive
                  exact (hm.obj i ob hmi).keep (fun b hb hlt => hgb.block b hlt (fun e => hne b hb e.symm)) hgb.size
                · cases ob <;> simp at hlive
                  trivial
              have hbelow : Below W.heap.size W w' := hm.below.grown hgb hm.below.size (fun k hk => (hown.lt k hk).1)
              have hlast : ∀ (i : Nat) (ob : Obj), (killO m j ++ [.row d (T ty).elem true])[i]? = some ob →
                  (i < m.length ∧ (killO m j)[i]? = some ob) ∨ (i = m.length ∧ ob = .row d (T ty).elem true) := by
                intro i ob hi
                rw [List.getElem?_append] at hi
                split at hi
                · rename_i hlt; rw [hkl] at hlt; exact .inl ⟨hlt, hi⟩
                · rename_i hge
                  have hx := List.getElem?_eq_some_iff.1 hi
                  obtain ⟨hx, hy⟩ := hx
                  simp only [List.length_cons, List.length_nil, hkl] at hx hge
                  have hie : i = m.length := by omega
                  subst hie
                  simp only [hkl, Nat.sub_self, List.getElem?_cons_zero, Option.some.injEq] at hi
                  exact .inr ⟨rfl, hi.symm⟩
              refine ⟨hbelow, fun i ob hi => ?_, fun i k o1 o2 hik hi hk' hmut hlive b hb hb' => ?_, fun i ob hi => ?_⟩
              · rcases hlast i ob hi with ⟨hil, hi⟩ | ⟨rfl, rfl⟩
                · rw [hag i hil]
                  refine (hkeep i ob hi).agree hag ?_
                  rcases killO_get hi with ⟨rfl, _⟩ | ⟨_, hmi⟩
                  · rfl
                  · exact hm.lt i ob hmi
                · rw [upd_same]
                  refine ⟨by rw [hds, hsz1]; exact hsz, ?_, ?_⟩
                  · intro u hu
                    simp only [hdd, List.mem_append] at hu
                    rw [C.den_agree hag c1 hlt1, C.den_agree hag c2 hlt2] at hu
                    exact hu.elim (ho1 u) (ho2 u)
                  · simp only [if_true, hdd]
                    rw [C.den_agree hag c1 hlt1, C.den_agree hag c2 hlt2, hds, hsz1, hdn]
                    exact hown'
              · rcases hlast i o1 hi with ⟨hil, hi⟩ | ⟨rfl, rfl⟩ <;> rcases hlast k o2 hk' with ⟨hkl', hk'⟩ | ⟨rfl, rfl⟩
                · rw [hag i hil] at hb
                  rw [hag k hkl'] at hb'
                  have hl1 := mutB_live hmut
                  obtain ⟨hmi, _⟩ := hold i o1 hi hl1
                  obtain ⟨hmk, _⟩ := hold k o2 hk' hlive
                  exact hm.sep i k o1 o2 hik hmi hmk hmut hlive b hb hb'
                · rw [hag i hil] at hb
                  rw [upd_same] at hb'
                  have hl1 := mutB_live hmut
                  obtain ⟨hmi, hne⟩ := hold i o1 hi hl1
                  rcases hvb b hb' with h | h
                  · exact hne b hb h
                  · have := ObjIs.lt_heap hb hl1 (hm.obj i o1 hmi)
                    omega
                · rw [hag k hkl'] at hb'
                  rw [upd_same] at hb
                  obtain ⟨hmk, hne⟩ := hold k o2 hk' hlive
                  rcases hvb b hb with h | h
                  · exact hne b hb' h
                  · have := ObjIs.lt_heap hb' hlive (hm.obj k o2 hmk)
                    omega
                · exact hik rfl
              · simp only [List.length_append, hkl, List.length_cons, List.length_nil]
                rcases hlast i ob hi with ⟨hil, hi⟩ | ⟨rfl, rfl⟩
                · rcases killO_get hi with ⟨rfl, _⟩ | ⟨_, hmi⟩
                  · rfl
                  · exact Obj.lt_mono (by omega) ob (hm.lt i ob hmi)
                · simp only [Obj.lt]
                  exact C.lt_mono (by omega) d (hdl _ hlt1 hlt2)
            · obtain ⟨A', c', rfl⟩ := hv'
              simp [den, upd_same, sliceVal]
          · cases h
        · cases h
      · cases h
    · cases h
  | _ => simp only [hop, opap] at h; cases h

theorem flat_take (ρ : Nat → Value) (k : K) : ∀ (l : List k.T) (n : Nat), (l.take n).flatMap (fun a => denL ρ (k.enc a)) = (l.flatMap fun a => denL ρ (k.enc a)).take (n * k.sz)
  | [], n => by simp
  | a :: r, 0 => by simp
  | a :: r, n + 1 => by
    simp only [List.take_succ_cons, List.flatMap_cons, flat_take ρ k r n]
    rw [List.take_append, List.take_of_length_le (l := denL ρ (k.enc a)) (by simp [enc_len, Nat.add_mul]), denL_length, enc_len]
    congr 2
    rw [Nat.add_mul]
    omega
theorem flat_drop (ρ : Nat → Value) (k : K) : ∀ (l : List k.T) (n : Nat), (l.drop n).flatMap (fun a => denL ρ (k.enc a)) = (l.flatMap fun a => denL ρ (k.enc a)).drop (n * k.sz)
  | [], n => by simp
  | a :: r, 0 => by simp
  | a :: r, n + 1 => by
    simp only [List.drop_succ_cons, List.flatMap_cons, flat_drop ρ k r n]
    rw [List.drop_append, List.drop_of_length_le (l := denL ρ (k.enc a)) (by simp [enc_len, Nat.add_mul]), denL_length, enc_len, List.nil_append]
    congr 1
    rw [Nat.add_mul]
    omega
theorem sub_spec (c : C) (lo hi : Int) (h : 0 ≤ lo ∧ lo ≤ hi ∧ hi ≤ (c.n : Int)) : (c.sub lo hi).sz = c.sz ∧ (c.sub lo hi).n = hi.toNat - lo.toNat ∧ (∀ ρ, (c.sub lo hi).den ρ = ((c.den ρ).take (hi.toNat * c.sz)).drop (lo.toNat * c.sz)) ∧ (∀ k, c.lt k = true → (c.sub lo hi).lt k = true) := by
  cases c with
  | ty k l =>
    simp only [C.n] at h
    refine ⟨rfl, by simp [C.sub, C.n, subL]; omega, fun ρ => ?_, fun _ _ => rfl⟩
    simp only [C.sub, C.den, subL, C.sz, flat_drop, flat_take]
  | sv cs sz n =>
    refine ⟨rfl, rfl, fun ρ => by simp [C.sub, C.den, C.sz, denL_map, List.map_take, List.map_drop], fun k hk => ?_⟩
    simp only [C.lt, C.sub, ltL_all, List.all_eq_true] at *
    exact fun c hc => hk c (List.mem_of_mem_take (List.mem_of_mem_drop hc))

theorem opsl_ok {P : Program} {T : Nat → TI} {W : World} {ρ : Nat → Value} {m : Mem} {a : Act} {o : Oper} {t : List SV} {w : World} (hT : TOk P T) (ht : RelT ρ m.length t a) (hm : RelM W ρ m w) {e : Bool} {m' : Mem} (h : opsl T t m o.op = some (e, m')) (he : e = true) :
    ∃ x w', (execOp a.eval o).run P w = .ok (.value x) w' ∧ RelM W (upd ρ m.length x) m' w' ∧ m'.length = m.length + 1 ∧ x = den (upd ρ m.length x) (.row m.length) := by
  cases hop : o.op with
  | slice ty x lo hi mx =>
    cases mx with
    | some _ => simp only [hop, opsl] at h; cases h
    | none =>
    simp only [hop, opsl] at h
    split at h
    · rename_i j hk hkd hx
      split at h
      · rename_i c bt own hj
        split at h
        · rename_i hc
          simp only [Bool.and_eq_true, beq_iff_eq] at hc
          obtain ⟨hke, hsz⟩ := hc
          split at h
          · rename_i el eh hlo hhi
            simp only [Option.some.injEq, Prod.mk.injEq] at h
            obtain ⟨rfl, rfl⟩ := h
            obtain ⟨kj, hkj⟩ : ∃ kj, kj = (if own then some j else none) := ⟨_, rfl⟩
            rw [← hkj]
            obtain ⟨ow, how⟩ : ∃ ow, ow = (own && lo.isNone) := ⟨_, rfl⟩
            rw [← how]
            have how1 : ow = true → own = true ∧ el = 0 := fun h => by
              rw [how, Bool.and_eq_true] at h
              refine ⟨h.1, ?_⟩
              cases lo with
              | none => simp only [bndE, Option.some.injEq] at hlo; exact hlo.symm
              | some x => simp at h
            simp only [Bool.and_eq_true, decide_eq_true_eq] at he
            obtain ⟨⟨b1, b2⟩, b3⟩ := he
            rw [C.len_n] at b3
            obtain ⟨s1, s2, s3, s4⟩ := sub_spec c el eh (by omega)
            obtain ⟨ti, d, z0, hti, hd, hz, g1, g2, g3, g4, g5, g6, g7, g8, g9⟩ := (hT.ty ty hk).ex
            have := g7 hkd; subst this
            obtain ⟨hs0, A, cap, hρ, hlen, hnone, hncap, hcap, h0, hcell⟩ := RelM.row hm hj
            have hxv := (ht.ev x (by rw [hx]; rfl)).2
            rw [hx] at hxv
            simp only [den, hρ, sliceVal] at hxv
            -- the value
            let v' : Value := .slice (if cap = el.toNat then A else A.map (·.add (el.toNat * c.sz))) (eh.toNat - el.toNat) (cap - el.toNat)
            have hehn : (eh.toNat : Int) = eh := Int.toNat_of_nonneg (by omega)
            have hrun : (Instr.slice ty (.slice A c.n cap) (lo.map a.eval) (hi.map a.eval) none).run P w = .ok v' w := by
              have hnc : (c.n : Int) ≤ (cap : Int) := by omega
              rw [C.len_n] at hhi
              rcases bnd_some hlo ht with ⟨rfl, rfl⟩ | ⟨l, kl, rfl, hl⟩ <;> rcases bnd_some hhi ht with ⟨rfl, rfl⟩ | ⟨h', kh, rfl, hh⟩
              · simp [Instr.slice, run_underlying hd, Instr.sliceBounds, (hT.ty _ hke).sizeOf, hsz, v']
              · simp [hh, Instr.slice, run_underlying hd, Instr.sliceBounds, (hT.ty _ hke).sizeOf, hsz, v', run_sliceBound w kh eh cap _ (by omega) (by omega)]
              · simp [hl, Instr.slice, run_underlying hd, Instr.sliceBounds, (hT.ty _ hke).sizeOf, hsz, v', run_sliceBound w kl el c.n _ b1 (by omega)]
              · simp [hl, hh, Instr.slice, run_underlying hd, Instr.sliceBounds, (hT.ty _ hke).sizeOf, hsz, v', run_sliceBound w kh eh cap _ (by omega) (by omega), run_sliceBound w kl el eh.toNat _ b1 (by omega)]
            have hvb : ∀ b, valBlock v' = some b → valBlock (ρ j) = some b := by
              intro b hb
              rw [hρ]
              cases A with
              | none => simp only [v'] at hb; split at hb <;> simp [valBlock] at hb
              | some ad =>
                simp only [v'] at hb
                split at hb
                · exact hb
                · simpa [valBlock, block_add] using hb
            have hag := upd_agree ρ m.length v'
            have hkl : (killO m kj).length = m.length := by rw [hkj]; cases own <;> simp [killO]
            refine ⟨v', w, by simp only [execOp, hop, hxv, Instr.sliceAt]; simp [run_underlying hd, hrun], ?_, by simp [hkl], by simp [den, upd_same, sliceVal, v']⟩
            have hold : ∀ (i : Nat) (ob : Obj), (killO m kj)[i]? = some ob → ob.live' = true → m[i]? = some ob ∧ (own = true → i ≠ j) := by
              intro i ob hi hlive
              rcases killO_get hi with ⟨rfl, _⟩ | ⟨hne, hmi⟩
              · cases hlive
              · refine ⟨hmi, fun ho hij => hne ?_⟩
                rw [hkj, ho, hij]
                rfl
            have hlast : ∀ (i : Nat) (ob : Obj), (killO m kj ++ [.row (c.sub el eh) bt ow])[i]? = some ob →
                (i < m.length ∧ (killO m kj)[i]? = some ob) ∨ (i = m.length ∧ ob = .row (c.sub el eh) bt ow) := by
              intro i ob hi
              rw [List.getElem?_append] at hi
              split at hi
              · rename_i hlt; rw [hkl] at hlt; exact .inl ⟨hlt, hi⟩
              · rename_i hge
                have hx := List.getElem?_eq_some_iff.1 hi
                obtain ⟨hx, hy⟩ := hx
                simp only [List.length_cons, List.length_nil, hkl] at hx hge
                have hie : i = m.length := by omega
                subst hie
                simp only [hkl, Nat.sub_self, List.getElem?_cons_zero, Option.some.injEq] at hi
                exact .inr ⟨rfl, hi.symm⟩
            have hclt := hm.lt j _ hj
            simp only [Obj.lt] at hclt
            have hjl : j < m.length := (List.getElem?_eq_some_iff.1 hj).1
            refine ⟨hm.below, fun i ob hi => ?_, fun i k o1 o2 hik hi hk' hmut hlive b hb hb' => ?_, fun i ob hi => ?_⟩
            · rcases hlast i ob hi with ⟨hil, hi⟩ | ⟨rfl, rfl⟩
              · rw [hag i hil]
                cases hlv : ob.live'
                · cases ob <;> simp [Obj.live'] at hlv
                  trivial
                · obtain ⟨hmi, _⟩ := hold i ob hi hlv
                  exact (hm.obj i ob hmi).agree hag (hm.lt i ob hmi)
              · rw [upd_same]
                refine ⟨by rw [s1]; exact hs0, fun u hu => ?_, ?_⟩
                · rw [s3, C.den_agree hag c hclt] at hu
                  exact h0 u (List.mem_of_mem_take (List.mem_of_mem_drop hu))
                · cases hw : ow
                  rotate_left
                  · obtain ⟨hown1, hel⟩ := how1 hw
                    obtain ⟨_, _, hob⟩ := hm.obj j _ hj
                    rw [hown1, if_pos rfl] at hob
                    rw [if_pos rfl, s3, C.den_agree hag c hclt, s1, s2]
                    have hm1 : eh.toNat * c.sz ≤ (c.den ρ).length := by rw [hlen]; exact Nat.mul_le_mul_right _ (by omega)
                    subst hel
                    have e0 : (0 : Int).toNat = 0 := rfl
                    simp only [e0, Nat.zero_mul, List.drop_zero, Nat.sub_zero]
                    have hv'A : v' = .slice A eh.toNat cap := by
                      simp only [v', e0, Nat.zero_mul, Nat.sub_zero]
                      split
                      · rfl
                      · cases A with
                        | none => rfl
                        | some ad => simp [Addr.add]
                    rw [hv'A]
                    rw [hρ] at hob
                    obtain ⟨hl1, hl2⟩ := hob
                    refine ⟨by rw [List.length_take, Nat.min_eq_left hm1], ?_⟩
                    rcases hl2 with ⟨hl2, hl3⟩ | ⟨g, cp, cur, hl2, hl3, hl4, hl5, hl6, hl7, hl8⟩
                    · simp only [Value.slice.injEq] at hl2
                      obtain ⟨rfl, _, rfl⟩ := hl2
                      have : eh.toNat = 0 := by omega
                      exact .inl ⟨by rw [this], this⟩
                    · simp only [Value.slice.injEq] at hl2
                      obtain ⟨rfl, _, rfl⟩ := hl2
                      refine .inr ⟨g, cap, cur, rfl, hl3, hl4, by omega, hl6, hl7, ?_⟩
                      rw [← hl8, List.take_take, Nat.min_eq_left (Nat.mul_le_mul_right _ (by omega))]
                  simp only [Bool.false_eq_true, if_false]
                  rw [s3, C.den_agree hag c hclt, s1, s2]
                  have hm1 : eh.toNat * c.sz ≤ (c.den ρ).length := by rw [hlen]; exact Nat.mul_le_mul_right _ (by omega)
                  refine ⟨by rw [List.length_drop, List.length_take, Nat.min_eq_left hm1, Nat.sub_mul], _, _, rfl, by omega, by omega, fun hnn => ?_, fun ad had => ?_⟩
                  · cases A with
                    | none => have := hnone rfl; omega
                    | some ad => split at hnn <;> simp at hnn
                  · cases A with
                    | none => split at had <;> simp at had
                    | some ad0 =>
                      have hlt0 : ad0.block < w.heap.size := ObjIs.lt_heap (v := ρ j) (by rw [hρ]; rfl) rfl (hm.obj j _ hj)
                      have hcells : ∀ i u, (((c.den ρ).take (eh.toNat * c.sz)).drop (el.toNat * c.sz))[i]? = some u → w.cell? (ad0.add (el.toNat * c.sz + i)) = some u := by
                        intro i u hu
                        rw [List.getElem?_drop, List.getElem?_take] at hu
                        split at hu
                        · exact hcell ad0 rfl _ u hu
                        · cases hu
                      split at had
                      · rename_i hce
                        injection had with had
                        subst had
                        refine ⟨hlt0, fun i u hu => ?_⟩
                        have h1 := (List.getElem?_eq_some_iff.1 hu).1
                        rw [List.length_drop, List.length_take, Nat.min_eq_left hm1, ← Nat.sub_mul, show eh.toNat - el.toNat = 0 by omega, Nat.zero_mul] at h1
                        omega
                      · simp only [Option.map_some, Option.some.injEq] at had
                        subst had
                        refine ⟨by rw [block_add]; exact hlt0, fun i u hu => ?_⟩
                        rw [Ma.add_add']
                        exact hcells i u hu
            · rcases hlast i o1 hi with ⟨hil, hi⟩ | ⟨rfl, rfl⟩ <;> rcases hlast k o2 hk' with ⟨hkl', hk'⟩ | ⟨rfl, rfl⟩
              · rw [hag i hil] at hb
                rw [hag k hkl'] at hb'
                obtain ⟨hmi, _⟩ := hold i o1 hi (by cases o1 <;> first | rfl | cases hmut)
                obtain ⟨hmk, _⟩ := hold k o2 hk' (live'_iff.1 hlive)
                exact hm.sep i k o1 o2 hik hmi hmk hmut hlive b hb hb'
              · rw [hag i hil] at hb
                rw [upd_same] at hb'
                obtain ⟨hmi, hne⟩ := hold i o1 hi (by cases o1 <;> first | rfl | cases hmut)
                have hbj := hvb b hb'
                by_cases hij : i = j
                · subst hij
                  have : own = true := by
                    rw [hj] at hmi
                    injection hmi with hmi
                    subst hmi
                    exact hmut
                  exact hne this rfl
                · exact hm.sep i j o1 _ hij hmi hj hmut rfl b hb hbj
              · have hmut : ow = true := hmut
                obtain ⟨hown1, _⟩ := how1 hmut
                rw [upd_same] at hb
                rw [hag k hkl'] at hb'
                obtain ⟨hmk, hnk⟩ := hold k o2 hk' (live'_iff.1 hlive)
                subst hown1
                exact hm.sep j k _ o2 (fun e => hnk rfl e.symm) hj hmk rfl hlive b (hvb b hb) hb'
              · exact hik rfl
            · simp only [List.length_append, hkl, List.length_cons, List.length_nil]
              rcases hlast i ob hi with ⟨hil, hi⟩ | ⟨rfl, rfl⟩
              · rcases killO_get hi with ⟨rfl, _⟩ | ⟨_, hmi⟩
                · rfl
                · exact Obj.lt_mono (by omega) ob (hm.lt i ob hmi)
              · simp only [Obj.lt]
                exact C.lt_mono (by omega) _ (s4 _ hclt)
          · cases h
        · cases h
      · cases h
    · cases h
  | _ => simp only [hop, opsl] at h; cases h

/-! The rest of a row, cleared. -/
theorem flat_rep (ρ : Nat → Value) (k : K) {z : k.T} {zs : List Value} (hz : k.enc z = zs.map ofC) : ∀ n : Nat, ((List.replicate n z).flatMap fun a => denL ρ (k.enc a)) = denL ρ (repCells zs n)
  | 0 => rfl
  | n + 1 => by rw [List.replicate_succ, List.flatMap_cons, flat_rep ρ k hz n, repCells, hz]; simp only [denL_map, List.map_append]
theorem flat_clr (ρ : Nat → Value) (k : K) {z : k.T} {zs : List Value} (hz : k.enc z = zs.map ofC) {l : List k.T} {e : Nat} (he : e ≤ l.length) (i : Nat) :
    ((l.take e ++ List.replicate (l.length - e) z).flatMap fun a => denL ρ (k.enc a))[i]? = if e * k.sz ≤ i ∧ i < e * k.sz + (denL ρ (repCells zs (l.length - e))).length then (denL ρ (repCells zs (l.length - e)))[i - e * k.sz]? else (l.flatMap fun a => denL ρ (k.enc a))[i]? := by
  have h1 : zs.length = k.sz := by rw [← enc_len k z, hz, List.length_map]
  have h2 : (denL ρ (repCells zs (l.length - e))).length = (l.length - e) * k.sz := by rw [denL_length, repCells_length, h1]
  have h3 : e * k.sz ≤ l.length * k.sz := Nat.mul_le_mul_right _ he
  have h4 : (l.length - e) * k.sz = l.length * k.sz - e * k.sz := Nat.sub_mul _ _ _
  rw [List.flatMap_append, flat_rep ρ k hz, List.getElem?_append, flat_take, List.length_take, rowc_len, Nat.min_eq_left h3]
  split
  · rw [if_neg (by omega), List.getElem?_take, if_pos (by assumption)]
  · by_cases hi : i < e * k.sz + (denL ρ (repCells zs (l.length - e))).length
    · rw [if_pos ⟨by omega, hi⟩]
    · rw [if_neg (by omega), List.getElem?_eq_none (by omega), List.getElem?_eq_none (by rw [rowc_len]; omega)]
theorem opcl_ok {P : Program} {T : Nat → TI} {W : World} {ρ : Nat → Value} {m : Mem} {a : Act} {o : Oper} {t : List SV} {w : World} {r : List Oper} (hT : TOk P T) (ht : RelT ρ m.length t a) (hm : RelM W ρ m w) {c : ClS} (h : opcl T t m o r = some c) (hc : c.ok = true) :
    ∃ o' r' y w', r = o' :: r' ∧ o'.guard = none ∧ o'.dst = none ∧ (execOp a.eval o).run P w = .ok (.value y) w ∧ (execOp (a.put o.dst y).eval o').run P w = .ok (.value (.tuple #[])) w' ∧ RelM W ρ (c.mem m) w' ∧ (c.mem m).length = m.length := by
  unfold opcl at h
  split at h
  rotate_left
  · cases h
  rename_i ty x lo d o' r' hop hdst
  split at h
  rotate_left
  · cases h
  rename_i cc hop' hdst' hg'
  split at h
  rotate_left
  · cases h
  rename_i d' ty' hcal hargs hat
  split at h
  rotate_left
  · cases h
  rename_i hcond
  simp only [Bool.and_eq_true, beq_iff_eq, decide_eq_true_eq] at hcond
  obtain ⟨⟨⟨⟨rfl, rfl⟩, hdl⟩, hk⟩, hke⟩ := hcond
  split at h
  rotate_left
  · cases h
  rename_i j el hkd hx hlo
  split at h
  rotate_left
  · cases h
  rename_i k l bt hj
  split at h
  rotate_left
  · cases h
  rename_i hsz
  simp only [beq_iff_eq] at hsz
  obtain ⟨z, hz, hcz⟩ := Option.map_eq_some_iff.1 h
  subst hcz
  simp only [ClS.ok, Bool.and_eq_true, decide_eq_true_eq] at hc
  obtain ⟨b1, b2⟩ := hc
  have b2 : el ≤ (l.length : Int) := b2
  have hez := (dec_enc k _ z hz).1.symm
  obtain ⟨ti, dd, z0, hti, hd, hz0, g1, g2, g3, g4, g5, g6, g7, g8, g9⟩ := (hT.ty _ hk).ex
  have := g7 hkd; subst this
  obtain ⟨hcz0, hob1, hown⟩ := hm.obj j _ hj
  rw [if_pos rfl] at hown
  have hnsz : (C.ty k l).sz = k.sz := rfl
  have hnn : (C.ty k l).n = l.length := rfl
  obtain ⟨zv, hzv, hzc⟩ := (hT.ty _ hke).zero (P := P) w
  have hxv := (ht.ev x (by rw [hx]; rfl)).2
  rw [hx] at hxv
  have hlt1 : el.toNat ≤ l.length := by omega
  -- the slice
  have hrun : ∀ (A : Option Addr) (cap : Nat), l.length ≤ cap → (Instr.slice ty' (.slice A l.length cap) (some (a.eval lo)) none none).run P w = .ok (.slice (if cap = el.toNat then A else A.map (·.add (el.toNat * k.sz))) (l.length - el.toNat) (cap - el.toNat)) w := by
    intro A cap hcap
    rcases bnd_some hlo ht with ⟨h0, _⟩ | ⟨l', kl, h0, hl⟩
    · cases h0
    · cases h0
      simp [hl, Instr.slice, run_underlying hd, Instr.sliceBounds, (hT.ty _ hke).sizeOf, hsz, run_sliceBound w kl el l.length _ b1 (by omega)]
  have hput : ∀ y : Value, (a.put (some d') y).eval (.tmp d') = y := by
    intro y
    have : d' < a.tmps.size := by rw [ht.size]; exact hdl
    simp [Act.put, Act.eval, this]
  have ha : cc.args = #[.tmp d'] := by rw [← Array.toArray_toList (xs := cc.args), hargs]
  have hb : cc.argTypes = #[ty'] := by rw [← Array.toArray_toList (xs := cc.argTypes), hat]
  have hcmem : ∀ l' : List k.T, (m.set j (.row (.ty k l') bt true)).length = m.length := fun l' => by simp
  have hflat := flat_clr ρ k hez hlt1
  have hzl : (T (T ty').elem).zero.length = k.sz := by rw [← enc_len k z, hez, List.length_map]
  have hvl : (denL ρ (repCells (T (T ty').elem).zero (l.length - el.toNat))).length = (l.length - el.toNat) * k.sz := by rw [denL_length, repCells_length, hzl]
  have hl' : (clrL l el z).length = l.length := by simp [clrL]; omega
  rcases hown.2 with ⟨hv, h0⟩ | ⟨g, cap, cur, hv, hbase, hheap, hnc, hcm, hcs, htake⟩
  · -- nothing there
    have h0 : l.length = 0 := h0
    have hl0 : l = [] := List.eq_nil_of_length_eq_zero h0
    subst hl0
    have hel0 : el.toNat = 0 := by simpa using hlt1
    have hcl : clrL ([] : List k.T) el z = [] := by simp [clrL]
    refine ⟨o', r', .slice none 0 0, w, rfl, hg', hdst', ?_, ?_, ?_, hcmem _⟩
    · have := hrun none 0 (by simp)
      simp only [hel0, List.length_nil, Nat.sub_self, if_true] at this
      simp only [den, hv, sliceVal] at hxv
      simp only [execOp, hop, hxv, Instr.sliceAt]
      simp [run_underlying hd, this]
    · rw [hdst]
      simp [execOp, hop', resolve, hcal, ha, hb, hput, invoke, builtin, Builtin.clear_, run_underlying hd]
    · show RelM W ρ (m.set j (.row (.ty k (clrL [] el z)) bt true)) w
      have hself : m.set j (.row (.ty k []) bt true) = m := by
        apply List.ext_getElem?
        intro q
        by_cases hq : j = q
        · subst hq
          rw [List.getElem?_set_self (List.getElem?_eq_some_iff.1 hj).1, hj]
        · rw [List.getElem?_set_ne hq]
      rw [hcl, hself]
      exact hm
  · have hnc : l.length ≤ cap := hnc
    have hcs' : cur.size = cap * k.sz := hcs
    have hv' : ρ j = .slice (some ⟨g, 0, none⟩) l.length cap := hv
    have hn2 : l.length * k.sz ≤ cap * k.sz := Nat.mul_le_mul_right _ hnc
    have hn3 : el.toNat * k.sz + (l.length - el.toNat) * k.sz = l.length * k.sz := by rw [← Nat.add_mul]; congr 1; omega
    simp only [den, hv', sliceVal] at hxv
    have hst := hm.storeSeg hj hl' (off := el.toNat * k.sz) (vs := denL ρ (repCells (T (T ty').elem).zero (l.length - el.toNat))) (by rw [hvl]; omega) hflat g cap hv'
    refine ⟨o', r', .slice (if cap = el.toNat then some ⟨g, 0, none⟩ else some ⟨g, el.toNat * k.sz, none⟩) (l.length - el.toNat) (cap - el.toNat), w.setCells g (el.toNat * k.sz) (denL ρ (repCells (T (T ty').elem).zero (l.length - el.toNat))), rfl, hg', hdst', ?_, ?_, hst, hcmem _⟩
    · have h1 := hrun (some ⟨g, 0, none⟩) cap hnc
      have e1 : (Option.map (fun x : Addr => x.add (el.toNat * k.sz)) (some ⟨g, 0, none⟩)) = some ⟨g, el.toNat * k.sz, none⟩ := by
        simp only [Option.map_some, Option.some.injEq]
        rw [add_zero_addr, Nat.zero_add]
      rw [e1] at h1
      simp only [execOp, hop, hxv, Instr.sliceAt]
      simp [run_underlying hd, h1]
    · rw [hdst]
      by_cases hn0 : l.length - el.toNat = 0
      · have : denL ρ (repCells (T (T ty').elem).zero (l.length - el.toNat)) = [] := by rw [hn0]; rfl
        rw [this]
        simp only [World.setCells]
        cases hce : decide (cap = el.toNat) <;> simp at hce <;> simp [execOp, hop', resolve, hcal, ha, hb, hput, invoke, builtin, Builtin.clear_, run_underlying hd, hn0, hce]
      · have hce : cap ≠ el.toNat := by omega
        have hzc' : (Builtin.zeroCells zv.cells (l.length - el.toNat)).toList = denL ρ (repCells (T (T ty').elem).zero (l.length - el.toNat)) := by
          have hp : 0 < zv.cells.size := by rw [← Array.length_toList, hzc, hzl]; exact sz_pos k
          have := repCells_den (ρ := ρ) zv.cells hp (l.length - el.toNat)
          rw [hzc] at this
          unfold Builtin.zeroCells
          rw [this]
        have hst2 := run_storeCells_cells (P := P) g (el.toNat * k.sz) (denL ρ (repCells (T (T ty').elem).zero (l.length - el.toNat))) 0 w (fun q hq => by
            rw [hvl] at hq
            rw [cells_of_blk hheap, Array.getElem?_eq_getElem (by omega)]; rfl)
          (fun q hq => by simp [World.frozen?, hheap]) (fun v hv => by
            rw [← flat_rep ρ k hez] at hv
            simp only [List.mem_flatMap, denL_map, List.mem_map] at hv
            obtain ⟨y, _, c, hc, rfl⟩ := hv
            exact oneC_cell' (one_den (enc_one k y c hc)))
        obtain ⟨q, hq⟩ : ∃ q, l.length - el.toNat = q + 1 := ⟨l.length - el.toNat - 1, by omega⟩
        rw [hq] at hzc' hst2 ⊢
        simp [execOp, hop', resolve, hcal, ha, hb, hput, invoke, builtin, Builtin.clear_, run_underlying hd, hce, hzv, hzc', hst2]
theorem flat_get (ρ : Nat → Value) (k : K) : ∀ (l : List k.T) (i : Nat) (a : k.T), l[i]? = some a → ∀ (q : Nat) (u : Value), (denL ρ (k.enc a))[q]? = some u → (l.flatMap fun a => denL ρ (k.enc a))[i * k.sz + q]? = some u
  | [], i, a, h => by simp at h
  | b :: r, 0, a, h => by
    intro q u hu
    simp only [List.getElem?_cons_zero, Option.some.injEq] at h
    subst h
    have hq : q < (denL ρ (k.enc b)).length := (List.getElem?_eq_some_iff.1 hu).1
    rw [List.flatMap_cons, Nat.zero_mul, Nat.zero_add, List.getElem?_append_left hq]
    exact hu
  | b :: r, i + 1, a, h => by
    intro q u hu
    rw [List.flatMap_cons, List.getElem?_append_right (by simp [enc_len, Nat.add_mul]; omega), denL_length, enc_len]
    have := flat_get ρ k r i a (by simpa using h) q u hu
    rw [← this]
    congr 1
    rw [Nat.add_mul]
    omega
theorem geti_some {α : Type} {l : List α} {i : Int} {a : α} (h : geti l i = some a) : 0 ≤ i ∧ l[i.toNat]? = some a := by
  unfold geti at h
  split at h
  · exact ⟨by assumption, h⟩
  · cases h
theorem oprd_ok {P : Program} {T : Nat → TI} {W : World} {ρ : Nat → Value} {m : Mem} {a : Act} {o : Oper} {t : List SV} (hT : TOk P T) (ht : RelT ρ m.length t a) {r : RdL} {x : r.k.T} {v : SV} (h : oprd T t m o.op = some r) (hx : geti r.l r.i = some x) (hv : r.val x = some v) :
    ∃ y, (∀ w, RelM W ρ m w → (execOp a.eval o).run P w = .ok (.value y) w) ∧ (v.lt m.length = true ∧ y = den ρ v) := by
  cases hop : o.op with
  | load ty ad =>
    simp only [hop, oprd] at h
    split at h
    · rename_i j e' sz' off' had
      split at h
      · rename_i k l bt own hj
        split at h
        · rename_i hc
          simp only [Bool.and_eq_true, beq_iff_eq, decide_eq_true_eq] at hc
          obtain ⟨⟨hk, rfl⟩, hs⟩ := hc
          injection h with h
          subst h
          simp only [RdL.val] at hv hx
          obtain ⟨cs, hcs, hv⟩ := Option.bind_eq_some_iff.1 hv
          obtain ⟨hcse, hlen, hget, hone⟩ := takeCells_spec hcs
          obtain ⟨_, hxl⟩ := geti_some hx
          have h1 := (ht.ev ad (by rw [had]; rfl)).2
          rw [had] at h1
          have hlt0 : ltL 0 cs = true := by
            rw [hcse, ltL_all, List.all_eq_true]
            intro c hc
            have hm : c ∈ k.enc x := List.mem_of_mem_drop (List.mem_of_mem_take hc)
            cases k <;> (simp only [K.enc] at hm; revert hm; simp) <;> (intro hm; rcases hm with rfl | rfl | rfl | rfl | rfl | rfl | rfl | rfl | rfl | rfl | rfl | rfl | rfl | rfl) <;> rfl
          refine ⟨den ρ v, fun w hw => ?_, ?_, rfl⟩
          · obtain ⟨hs0, A, cap, hρ, hlen', hnone, _, _, _, hcell⟩ := RelM.row hw hj
            have hil : e'.toNat < l.length := (List.getElem?_eq_some_iff.1 hxl).1
            cases A with
            | none => have := hnone rfl; simp only [C.n] at this; omega
            | some adr =>
              simp only [den, hρ, elemPtr] at h1
              have hrun := run_loadVar (hT.ty ty hk) (w := w) (a := (adr.add (e'.toNat * k.sz)).add off') (ρ := ρ) hlen hv (fun q y hq => by
                rw [Ma.add_add', Ma.add_add']
                refine hcell adr rfl _ _ ?_
                refine flat_get ρ k l _ x hxl _ _ ?_
                have hql : q < (T ty).size := by rw [← hlen]; exact (List.getElem?_eq_some_iff.1 hq).1
                rw [denL_map, List.getElem?_map, hget q hql, hq]
                rfl)
              simp [execOp, hop, h1, Instr.loadAt, Instr.sureAddr, hrun]
          · exact lt_mono (Nat.zero_le _) v (by
              unfold valOf at hv
              split at hv
              · injection hv with hv; subst hv; simpa [SV.lt] using hlt0
              · split at hv
                · injection hv with hv; subst hv; simpa [ltL] using hlt0
                · cases hv)
        · cases h
      · cases h
    · cases h
  | _ => simp only [hop, oprd] at h; cases h

theorem opnil_ok {P : Program} {T : Nat → TI} {W : World} {ρ : Nat → Value} {m : Mem} {a : Act} {o : Oper} {t : List SV} {w : World} (hT : TOk P T) (ht : RelT ρ m.length t a) (hm : RelM W ρ m w) {ty : TypeId} {ob : Obj} (h : opnil T ty o.op = some ob) :
    ∃ x, (execOp a.eval o).run P w = .ok (.value x) w ∧ Agree m.length ρ (upd ρ m.length x) ∧ RelM W (upd ρ m.length x) (m ++ [ob]) w ∧ x = den (upd ρ m.length x) (.row m.length) := by
  have gen : ∀ (k : K), (o.op = .move (.const (.slice none 0 0)) ∨ o.op = .assign (.const (.slice none 0 0))) → ob = .row (.ty k []) (T ty).elem true → ∃ x, (execOp a.eval o).run P w = .ok (.value x) w ∧ Agree m.length ρ (upd ρ m.length x) ∧ RelM W (upd ρ m.length x) (m ++ [ob]) w ∧ x = den (upd ρ m.length x) (.row m.length) := by
    intro k ho hob
    subst hob
    refine ⟨.slice none 0 0, by rcases ho with ho | ho <;> simp [execOp, ho, Act.eval], upd_agree _ _ _, ?_, by simp [den, upd_same, sliceVal]⟩
    have h1 : (C.ty k []).den ρ = [] := rfl
    refine hm.push (Below.refl _ _) ⟨(sz_pos k : 0 < k.sz), ?_, World.ownsRow_nil w _ _ _⟩ rfl (fun b hb => by simp [valBlock] at hb)
    intro u hu
    rw [h1] at hu
    cases hu
  unfold opnil at h
  split at h
  · rename_i hop
    split at h
    · split at h
      · rename_i k _
        split at h
        · injection h with h; exact gen k (.inl hop) h.symm
        · cases h
      · cases h
    · cases h
  · rename_i hop
    split at h
    · split at h
      · rename_i k _
        split at h
        · injection h with h; exact gen k (.inr hop) h.symm
        · cases h
      · cases h
    · cases h
  · cases h

theorem run_call {P : Program} {f : FuncId} (h : HasBody P f) (args : Array Value) (w : World) : (callFunc f args).run P w = .ok (.enter f args) w := by
  obtain ⟨fn, hf, hb, hn⟩ := h
  have hb' : ¬ fn.body = none := by cases hx : fn.body <;> simp_all
  have hn' : ¬ fn.name = "runtime.NumGoroutine" := by simpa using hn
  simp [callFunc, hf, hn', hb']

/-- The machine's callees are what they are said to be. -/
def TrOk (P : Program) (f : FuncId) (g : Con) : Prop :=
  (∀ (W : World), Glob P W → ∀ (X : Type) (args : List SV) (m : Mem) (k : SV → Mem → Option X) (x : X), g.tr X args m k = some x → args.all (fun x => !x.isAny) = true → CallN ⟨P, W⟩ f args m fun r m' => k r m' = some x) ∧
  (g.q = true → ∀ (W : World), Glob P W → ∀ (X : Type) (args : List SV) (m : Mem) (k : SV → Option X) (x : X), g.tr X args m (fun r _ => k r) = some x → args.all (fun x => !x.isAny) = true → QCallN ⟨P, W⟩ f args m fun r => k r = some x) ∧
  (g.det = true → ∀ (X : Type) (args : List SV) (m : Mem) (k : SV → Mem → Option X) (x : X), g.tr X args m k = some x → ∃ r m', g.tr (SV × Mem) args m (fun r m' => some (r, m')) = some (r, m') ∧ k r m' = some x ∧ (g.law = true → ∃ os, m' = m ++ os))
structure EnvOk (P : Program) (E : Env) : Prop where
  T : TOk P E.T
  B : ∀ f, E.B f = true → HasBody P f
  call : ∀ f g, E.call f = some g → TrOk P f g
/-- .. in a world where the package variables are what they must be. -/
structure EnvOkW (P : Program) (E : Env) (W : World) : Prop extends EnvOk P E where
  glob : Glob P W
/-- A loop is what it is said to be. -/
def LOk (P : Program) (b : Code) (l : LTr) : Prop :=
  ∀ (W : World), Glob P W → ∀ (X : Type) (base : Nat) (s : St) (e : Nat → St → Option X) (r : St → Option X) (x : X), l X base s e r = some x → CodeN ⟨P, W⟩ base (.loop b) s (fun _ => False) (fun i s' => e i s' = some x) (fun s' => r s' = some x)
/-- The loops in a piece of code. -/
def loopsOf : Code → List Code
  | .seq a b => loopsOf a ++ loopsOf b
  | .cond _ a b => loopsOf a ++ loopsOf b
  | .block _ b => loopsOf b
  | .loop b => [b]
  | _ => []
def LoopsOk (P : Program) (E : Env) (c : Code) : Prop := ∀ b ∈ loopsOf c, ∀ l, E.loop (regId b) = some l → LOk P b l

theorem br_some {X : Type} {c : Bool} {a b : Option X} {x : X} (h : br c a b = some x) : (c = true ∧ a = some x) ∨ (c = false ∧ b = some x) := by
  cases c
  · exact .inr ⟨rfl, h⟩
  · exact .inl ⟨rfl, h⟩
theorem req_some {X : Type} {c : Bool} {a : Option X} {x : X} (h : req c a = some x) : c = true ∧ a = some x := by
  cases c
  · cases h
  · exact ⟨rfl, h⟩

section
variable {P : Program} {W : World} {E : Env} {X : Type}

theorem opcall_ok (hE : EnvOk P E) {ρ : Nat → Value} {m : Mem} {a : Act} {o : Oper} {t : List SV} (ht : RelT ρ m.length t a) {g : Con} {args : List SV} (h : opcall E t o.op = some (g, args)) :
    ∃ f, TrOk P f g ∧ args.all (fun x => !x.isAny) = true ∧ ltL m.length args = true ∧ ∀ w, (execOp a.eval o).run P w = .ok (.enter f (denL ρ args).toArray) w := by
  unfold opcall at h
  split at h
  · rename_i c hop
    split at h
    · rename_i f hc
      split at h
      · rename_i n caps hg
        split at h
        · rename_i hcond
          obtain ⟨g', hg', h⟩ := Option.map_eq_some_iff.1 h
          simp only [Prod.mk.injEq] at h
          obtain ⟨rfl, rfl⟩ := h
          simp only [Bool.and_eq_true] at hcond
          obtain ⟨hBg, hargs⟩ := hcond
          have hany : ∀ x ∈ c.args.toList, (ev t x).isAny = false := fun x hx => by simpa using (List.all_eq_true.1 hargs) _ (List.mem_append_left _ (List.mem_map.2 ⟨x, hx, rfl⟩))
          obtain ⟨hgl, hge⟩ := ht.ev f (by rw [hg]; rfl)
          rw [hg] at hgl hge
          simp only [den] at hge
          have hl : ltL m.length (c.args.toList.map (ev t) ++ caps) = true := by
            simp only [SV.lt] at hgl
            rw [ltL_all, List.all_append, ← ltL_all, ← ltL_all, hgl, Bool.and_true, ltL_all, List.all_eq_true]
            simp only [List.mem_map]
            rintro _ ⟨x, hx, rfl⟩
            exact (ht.ev x (hany x hx)).1
          have hargsv : c.args.map a.eval ++ (denL ρ caps).toArray = (denL ρ (c.args.toList.map (ev t) ++ caps)).toArray := by
            apply Array.ext'
            simp only [Array.toList_append, Array.toList_map, denL_map, List.map_append, List.map_map]
            congr 1
            exact List.map_congr_left fun x hx => (ht.ev x (hany x hx)).2
          refine ⟨n, hE.call n g' hg', ?_, hl, fun w => ?_⟩
          · exact hargs
          · simp only [execOp, hop, resolve, hc, hge, Deferred.ofValue, Sem.run_bind, Sem.run_pure, Result.andThen_ok, invoke, Array.empty_append, hargsv]
            exact run_call (hE.B n hBg) _ w
        · cases h
      · cases h
    · cases h
  · cases h

theorem opx_ok (hE : EnvOkW P E W) {ρ : Nat → Value} {m : Mem} {a : Act} {o : Oper} {t : List SV} {w : World} {k : SV → Mem → Option X} {x : X} {K : Act → World → Prop} {Q : Exit → Act → World → Prop}
    (ht : RelT ρ m.length t a) (hm : RelM W ρ m w) (hd : a.defers = []) (h : opx E t o m k = some x)
    (hK : ∀ ρ' v m' a' w', Agree m.length ρ ρ' → m.length ≤ m'.length → RelS W ρ' ⟨put t o.dst v, m'⟩ a' w' → k v m' = some x → K a' w') : o.wp P a w K Q := by
  have hT := hE.T
  unfold opx at h
  split at h
  · rename_i ob hnil
    obtain ⟨y, hrun, hag, hm', hy⟩ := opnil_ok hT ht hm hnil
    unfold Oper.wp
    rw [hrun]
    refine hK _ (.row m.length) _ _ _ hag (by simp) ⟨?_, hm', by rw [put_defers]; exact hd⟩ h
    have := (ht.agree hag (Nat.le_succ _)).put o.dst (v := .row m.length) fun _ => ⟨by simp [SV.lt], hy⟩
    simpa using this
  split at h
  · rename_i c v hq
    obtain ⟨hc, h⟩ := req_some h
    obtain ⟨y, hy, hrun⟩ := opq_ok (W := W) hT hm.lt ht hq hc
    unfold Oper.wp
    rw [hrun w hm]
    exact hK ρ v m _ _ (Agree.refl _ _) (Nat.le_refl _) ⟨ht.put o.dst hy, hm, by rw [put_defers]; exact hd⟩ h
  split at h
  · rename_i ob r ha
    obtain ⟨y, w', hrun, hag, hm', hlt, hy⟩ := opa_ok hT ht hm ha
    unfold Oper.wp
    rw [hrun]
    exact hK _ (r m.length) _ _ _ hag (by simp) ⟨((ht.agree hag (Nat.le_succ _)).put o.dst fun _ => ⟨hlt, hy⟩) |> (fun h => by simpa using h), hm', by rw [put_defers]; exact hd⟩ h
  split at h
  · rename_i m' hst
    obtain ⟨w', hrun, hm', hlen⟩ := opst_ok hT ht hm hst
    split at h
    · rename_i hdst
      have hdn : o.dst = none := by cases hx : o.dst <;> simp_all
      unfold Oper.wp
      rw [hrun]
      refine hK ρ .any m' _ _ (Agree.refl _ _) (by omega) ⟨?_, hm', by rw [put_defers]; exact hd⟩ h
      rw [hdn]
      simp only [put, Act.put]
      exact ht.agree (Agree.refl _ _) (by rw [hlen]; exact Nat.le_refl _)
    · cases h
  split at h
  · rename_i e m' hap
    obtain ⟨he, h⟩ := req_some h
    obtain ⟨y, w', hrun, hm', hlen, hy⟩ := opap_ok hT ht hm hap he
    have hag := upd_agree ρ m.length y
    unfold Oper.wp
    rw [hrun]
    refine hK _ (.row (m'.length - 1)) m' _ _ hag (by omega) ⟨(ht.agree hag (show m.length ≤ m'.length by omega)).put o.dst fun _ => ⟨?_, ?_⟩, hm', by rw [put_defers]; exact hd⟩ h
    · simp [SV.lt]; omega
    · have e1 : m'.length - 1 = m.length := by omega
      rw [e1]
      exact hy
  split at h
  · rename_i e m' hap
    obtain ⟨he, h⟩ := req_some h
    obtain ⟨y, w', hrun, hm', hlen, hy⟩ := opsl_ok hT ht hm hap he
    have hag := upd_agree ρ m.length y
    unfold Oper.wp
    rw [hrun]
    refine hK _ (.row (m'.length - 1)) m' _ _ hag (by omega) ⟨(ht.agree hag (show m.length ≤ m'.length by omega)).put o.dst fun _ => ⟨?_, ?_⟩, hm', by rw [put_defers]; exact hd⟩ h
    · simp [SV.lt]; omega
    · have e1 : m'.length - 1 = m.length := by omega
      rw [e1]
      exact hy
  split at h
  · rename_i r hrd
    obtain ⟨y, hy, h⟩ := Option.bind_eq_some_iff.1 h
    split at h
    · rename_i v hv
      obtain ⟨z, hz, hr⟩ := oprd_ok (W := W) hT ht hrd hy hv
      unfold Oper.wp
      rw [hz w hm]
      exact hK ρ v m _ _ (Agree.refl _ _) (Nat.le_refl _) ⟨ht.put o.dst (fun _ => hr), hm, by rw [put_defers]; exact hd⟩ h
    · cases h
  split at h
  · rename_i r hsr
    split at h
    · rename_i hdst
      obtain ⟨y, hy, h⟩ := Option.bind_eq_some_iff.1 h
      split at h
      · rename_i b hb
        obtain ⟨w', hrun, hm', hlen⟩ := opsr_ok (W := W) hT ht hm hsr hy hb
        unfold Oper.wp
        rw [hrun]
        refine hK ρ .any (r.mem m b) _ _ (Agree.refl _ _) (by omega) ⟨?_, hm', by rw [put_defers]; exact hd⟩ h
        rw [hlen]
        exact ht.put o.dst (fun h => by cases h)
      · cases h
    · cases h
  split at h
  · rename_i g args hcall
    obtain ⟨f, hg, hany, hl, hrun⟩ := opcall_ok hE.toEnvOk ht hcall
    unfold Oper.wp
    rw [hrun w]
    refine ((hg.1 W hE.glob X args m k x h hany).call hl ρ w hm).mono ?_
    rintro e w' ⟨ρ', r, m', rfl, hm', hag, hle, hrl, hk⟩
    exact hK ρ' r m' _ _ hag hle ⟨(ht.agree hag hle).put o.dst fun hr => ⟨hrl hr, rfl⟩, hm', by rw [put_defers]; exact hd⟩ hk
  · cases h

theorem RelT.lit {ρ : Nat → Value} {n : Nat} {t : List SV} {a : Act} (h : RelT ρ n t a) {d : Nat} {e : Bool} (hd : t.getD d .any = .b e) {b : Bool} (he : e = b) : RelT ρ n (t.set d (.b b)) a := by
  refine ⟨by rw [List.length_set]; exact h.size, fun i sv hi hs => ?_⟩
  by_cases hid : i = d
  · subst hid
    have hl : i < t.length := by
      have := (List.getElem?_eq_some_iff.1 hi).1
      simpa using this
    rw [List.getElem?_set_self hl] at hi
    injection hi with hi
    subst hi
    have hti : t[i]? = some (.b e) := by
      rw [List.getD_eq_getElem?_getD] at hd
      rw [List.getElem?_eq_getElem hl] at hd ⊢
      simpa using hd
    obtain ⟨_, h2⟩ := h.slot i _ hti rfl
    exact ⟨rfl, by rw [h2]; simp [den, he]⟩
  · rw [List.getElem?_set_ne (by omega)] at hi
    exact h.slot i sv hi hs

theorem yielded_of {ρ : Nat → Value} {n : Nat} {t : List SV} {a : Act} (h : RelT ρ n t a) {ops : Array Oper} {j d : Nat} (hj : (ops.toList[j]?).bind (·.dst) = some d) {e : Bool} (hd : t.getD d .any = .b e) : yielded ops a.tmps j = some e := by
  have hl : d < t.length := by
    rcases Nat.lt_or_ge d t.length with h' | h'
    · exact h'
    · rw [List.getD_eq_getElem?_getD, List.getElem?_eq_none h'] at hd; cases hd
  have htd : t[d]? = some (.b e) := by
    rw [List.getD_eq_getElem?_getD] at hd
    rw [List.getElem?_eq_getElem hl] at hd ⊢
    simpa using hd
  obtain ⟨_, h2⟩ := h.slot d _ htd rfl
  rw [Array.getElem?_toList] at hj
  simp [yielded, hj, h2, den]

theorem yielded_undef {ρ : Nat → Value} {n : Nat} {t : List SV} {a : Act} (h : RelT ρ n t a) {ops : Array Oper} {j d : Nat} (hj : (ops.toList[j]?).bind (·.dst) = some d) (hd : t.getD d .any = .undef) : yielded ops a.tmps j = none := by
  have hl : d < t.length := by
    rcases Nat.lt_or_ge d t.length with h' | h'
    · exact h'
    · rw [List.getD_eq_getElem?_getD, List.getElem?_eq_none h'] at hd; cases hd
  have htd : t[d]? = some .undef := by
    rw [List.getD_eq_getElem?_getD] at hd
    rw [List.getElem?_eq_getElem hl] at hd ⊢
    simpa using hd
  obtain ⟨_, h2⟩ := h.slot d _ htd rfl
  rw [Array.getElem?_toList] at hj
  simp [yielded, hj, h2, den, Go.undef]


theorem both_some {a b : Option X} {x : X} (h : both a b = some x) : a = some x ∧ b = some x := by
  unfold both at h
  split at h
  · rename_i he; exact ⟨h, he ▸ h⟩
  · cases h
theorem nilB_zero {a b : Option X} {x : X} (h : nilB 0 a b = some x) : a = some x ∧ b = some x := both_some h
theorem nilB_some {n : Nat} {a b : Option X} {x : X} (h : nilB n a b = some x) : (n = 0 ∧ a = some x ∧ b = some x) ∨ b = some x := by
  cases n with
  | zero => exact .inl ⟨rfl, both_some h⟩
  | succ n => exact .inr h
theorem run_equal_slice {t e : TypeId} (hd : P.underlying t = some (.slice e)) (A : Option Addr) (n c : Nat) (w : World) : (Op.equal t (.slice A n c) (.slice none 0 0)).run P w = .ok A.isNone w := by
  have h : ∀ d : Nat, (Op.equalIn (d + 1) t (.slice A n c) (.slice none 0 0)).run P w = .ok A.isNone w := fun d => by
    cases A <;> simp [Op.equalIn, run_underlying hd]
  exact h 9999
theorem opnc_ok (hT : TOk P E.T) {ρ : Nat → Value} {m : Mem} {a : Act} {o : Oper} {t : List SV} {w : World} (ht : RelT ρ m.length t a) (hm : RelM W ρ m w) {neg : Bool} {c : C} (h : opnc E.T t m o.op = some (neg, c)) :
    ∃ b, (execOp a.eval o).run P w = .ok (.value (.bool b)) w ∧ (b = neg ∨ (b = !neg ∧ c.n = 0)) := by
  unfold opnc at h
  split at h
  · rename_i bo ty x yt hop
    split at h
    · rename_i j hk hkd hx
      split at h
      · rename_i c' bt own hj
        obtain ⟨_, A, cap, hρ, _, hnone, _⟩ := RelM.row hm hj
        have hxv := (ht.ev x (by rw [hx]; rfl)).2
        rw [hx] at hxv
        simp only [den, hρ, sliceVal] at hxv
        obtain ⟨ti, d, z0, hti, hd, hz, g1, g2, g3, g4, g5, g6, g7, g8, g9⟩ := (hT.ty ty hk).ex
        have := g7 hkd; subst this
        have heq := run_equal_slice (P := P) hd A c'.n cap w
        have hnil : a.eval (.const (.slice none 0 0)) = .slice none 0 0 := rfl
        split at h
        · rename_i hb
          have : bo = .eql := by cases bo <;> simp_all [isEql]
          subst this
          cases h
          refine ⟨A.isNone, by simp [execOp, hop, hxv, hnil, eqGuard, binOp, heq], ?_⟩
          cases A with
          | none => exact .inr ⟨rfl, hnone rfl⟩
          | some _ => exact .inl rfl
        · split at h
          · rename_i hb
            have : bo = .neq := by cases bo <;> simp_all [isNeq]
            subst this
            cases h
            refine ⟨!A.isNone, by simp [execOp, hop, hxv, hnil, eqGuard, binOp, heq], ?_⟩
            cases A with
            | none => exact .inr ⟨rfl, hnone rfl⟩
            | some _ => exact .inl rfl
          · cases h
      · cases h
    · cases h
  · cases h

theorem opsx_ok (hE : EnvOkW P E W) {ops : Array Oper} {Q : Exit → Act → World → Prop} {n : St → Option X} {x : X} :
    ∀ (l : List Oper) (s : St) (ρ : Nat → Value) (a : Act) (w : World), RelS W ρ s a w → opsx E (dsts ops.toList) n l s = some x →
      (∀ ρ' s' a' w', Agree s.m.length ρ ρ' → s.m.length ≤ s'.m.length → RelS W ρ' s' a' w' → n s' = some x → Q .normal a' w') → wpList P ops Q l a w
  | [], s, ρ, a, w, hs, h, hQ => hQ ρ s a w (Agree.refl _ _) (Nat.le_refl _) hs h
  | o :: r, s, ρ, a, w, hs, h, hQ => by
    -- the two things that may be done with an operation
    have run : ∀ t' : List SV, RelT ρ s.m.length t' a → opx E t' o s.m (fun v m => opsx E (dsts ops.toList) n r ⟨put t' o.dst v, m⟩) = some x → o.wp P a w (wpList P ops Q r) Q := by
      intro t' ht' hx
      refine opx_ok hE ht' hs.m hs.d hx fun ρ' v m' a' w' hag hle hs' hk => ?_
      exact opsx_ok hE r ⟨put t' o.dst v, m'⟩ ρ' a' w' hs' hk fun ρ'' s'' a'' w'' hag' hle' hs'' hn => hQ ρ'' s'' a'' w'' (hag.trans hag' hle) (Nat.le_trans hle hle') hs'' hn
    have skip : ∀ t' : List SV, RelT ρ s.m.length t' a → opsx E (dsts ops.toList) n r ⟨put t' o.dst .undef, s.m⟩ = some x → wpList P ops Q r (a.put o.dst undef) w := by
      intro t' ht' hx
      exact opsx_ok hE r ⟨put t' o.dst .undef, s.m⟩ ρ _ w ⟨ht'.put o.dst (fun _ => ⟨rfl, rfl⟩), hs.m, by rw [put_defers]; exact hs.d⟩ hx hQ
    simp only [opsx] at h
    simp only [wpList]
    cases hg : o.guard with
    | none =>
      simp only [hg] at h
      rw [if_pos (by simp [Region.wanted, hg])]
      split at h
      · rename_i neg c hnc
        left
        obtain ⟨b, hrun, hb⟩ := opnc_ok (W := W) hE.T hs.t hs.m hnc
        have hx : opsx E (dsts ops.toList) n r ⟨put s.t o.dst (.b b), s.m⟩ = some x := by
          rcases nilB_some h with ⟨hn, h1, h2⟩ | h2
          · rcases hb with rfl | ⟨rfl, _⟩
            · exact h2
            · exact h1
          · rcases hb with rfl | ⟨rfl, h0⟩
            · exact h2
            · exact (nilB_zero (h0 ▸ h)).1
        unfold Oper.wp
        rw [hrun]
        exact opsx_ok hE r ⟨put s.t o.dst (.b b), s.m⟩ ρ _ w ⟨hs.t.put o.dst (fun _ => ⟨rfl, rfl⟩), hs.m, by rw [put_defers]; exact hs.d⟩ hx hQ
      exact .inl (run s.t hs.t h)
    | some jw =>
      obtain ⟨j, want⟩ := jw
      simp only [hg, dsts_get] at h
      split at h
      · cases h
      · rename_i d hd
        split at h
        · rename_i e hb
          have hy := yielded_of hs.t hd hb
          cases want
          · simp only at h
            rcases br_some h with ⟨he, h⟩ | ⟨he, h⟩
            · rw [he] at hy
              rw [if_neg (by simp [Region.wanted, hg, hy])]
              exact skip _ (hs.t.lit hb he) h
            · rw [he] at hy
              rw [if_pos (by simp [Region.wanted, hg, hy])]
              exact .inl (run _ (hs.t.lit hb he) h)
          · simp only at h
            rcases br_some h with ⟨he, h⟩ | ⟨he, h⟩
            · rw [he] at hy
              rw [if_pos (by simp [Region.wanted, hg, hy])]
              exact .inl (run _ (hs.t.lit hb he) h)
            · rw [he] at hy
              rw [if_neg (by simp [Region.wanted, hg, hy])]
              exact skip _ (hs.t.lit hb he) h
        · rename_i hb
          have hy := yielded_undef hs.t hd hb
          rw [if_neg (by simp [Region.wanted, hg, hy])]
          exact skip s.t hs.t h
        · cases h

/-! ### Regions that draw their order. -/
theorem opxq_ok (hE : EnvOkW P E W) {ρ : Nat → Value} {m : Mem} {a : Act} {o : Oper} {t : List SV} {k : SV → Option X} {x : X} {K : Act → Prop}
    (hlt : ∀ (j : Nat) (ob : Obj), m[j]? = some ob → ob.lt m.length = true) (ht : RelT ρ m.length t a) (h : opxq E t o m k = some x) (hK : ∀ v y, (v.isAny = false → v.lt m.length = true ∧ y = den ρ v) → k v = some x → K (a.put o.dst y)) : o.quiet P a (RelM W ρ m) K := by
  have hT := hE.T
  unfold opxq at h
  split at h
  · rename_i c v hq
    obtain ⟨hc, h⟩ := req_some h
    obtain ⟨y, hy, hrun⟩ := opq_ok (W := W) hT hlt ht hq hc
    refine ⟨y, fun w hw => ?_, hK v y hy h⟩
    unfold Oper.quietAt
    rw [hrun w hw]
    exact ⟨rfl, rfl⟩
  split at h
  · rename_i r hrd
    obtain ⟨y, hy, h⟩ := Option.bind_eq_some_iff.1 h
    split at h
    · rename_i v hv
      obtain ⟨z, hz, hr⟩ := oprd_ok (W := W) hT ht hrd hy hv
      refine ⟨z, fun w hw => ?_, hK v z (fun _ => hr) h⟩
      unfold Oper.quietAt
      rw [hz w hw]
      exact ⟨rfl, rfl⟩
    · cases h
  split at h
  · rename_i g args hcall
    split at h
    · rename_i hq
      obtain ⟨f, hg, hany, hl, hrun⟩ := opcall_ok hE.toEnvOk ht hcall
      obtain ⟨r, hr, hcalls, hk⟩ := (hg.2.1 hq W hE.glob X args m k x h hany).ex hl
      refine ⟨den ρ r, fun w hw => ?_, hK r _ (fun _ => ⟨hr, rfl⟩) hk⟩
      unfold Oper.quietAt
      rw [hrun w]
      exact ⟨rfl, hcalls ρ w hw⟩
    · cases h
  · cases h

/-- An operation's list of slots leaves the others. -/
def Keeps (l : List Oper) (t t' : List SV) : Prop := ∀ i : Nat, (∀ o ∈ l, o.dst ≠ some i) → t'[i]? = t[i]?
theorem keeps_put {o : Oper} {r : List Oper} {t t' : List SV} {v : SV} (h : Keeps r (put t o.dst v) t') : Keeps (o :: r) t t' := fun i hi => by
  rw [h i (fun q hq => hi q (by simp [hq]))]
  have := hi o (by simp)
  unfold put
  cases hd : o.dst with
  | none => rfl
  | some d =>
    have hne : d ≠ i := by rintro rfl; exact this hd
    exact List.getElem?_set_ne hne
theorem keeps_lit {l : List Oper} {t t' : List SV} {d : Nat} {e b : Bool} (hd : t.getD d .any = .b e) (he : e = b) (h : Keeps l (t.set d (.b b)) t') : Keeps l t t' := by
  subst he
  have : t.set d (.b e) = t := by
    apply List.ext_getElem?
    intro i
    by_cases hid : d = i
    · subst hid
      rcases Nat.lt_or_ge d t.length with hl | hl
      · rw [List.getElem?_set_self hl]
        rw [List.getD_eq_getElem?_getD, List.getElem?_eq_getElem hl] at hd
        rw [List.getElem?_eq_getElem hl]
        simpa using hd.symm
      · rw [List.getElem?_eq_none (by simpa using hl), List.getElem?_eq_none hl]
    · rw [List.getElem?_set_ne hid]
  rw [this] at h
  exact h

theorem opsxq_ok (hE : EnvOkW P E W) {ops : Array Oper} {n : St → Option X} {x : X} {m : Mem} {ρ : Nat → Value} {Kq : Act → Prop}
    (hlt : ∀ (j : Nat) (ob : Obj), m[j]? = some ob → ob.lt m.length = true) :
    ∀ (l : List Oper) (t : List SV) (a : Act), RelT ρ m.length t a → a.defers = [] → opsxq E (dsts ops.toList) n m l t = some x →
      (∀ t' a', RelT ρ m.length t' a' → a'.defers = [] → Keeps l t t' → n ⟨t', m⟩ = some x → Kq a') → wpQuiet P ops (RelM W ρ m) Kq l a
  | [], t, a, ht, hd, h, hQ => hQ t a ht hd (fun _ _ => rfl) h
  | o :: r, t, a, ht, hd, h, hQ => by
    have run : ∀ t' : List SV, RelT ρ m.length t' a → (∀ t'', Keeps (o :: r) t' t'' → Keeps (o :: r) t t'') → opxq E t' o m (fun v => opsxq E (dsts ops.toList) n m r (put t' o.dst v)) = some x → o.quiet P a (RelM W ρ m) (wpQuiet P ops (RelM W ρ m) Kq r) := by
      intro t' ht' hkp hx
      refine opxq_ok hE hlt ht' hx fun v y hv hk => ?_
      exact opsxq_ok hE hlt r _ _ (ht'.put o.dst hv) (by rw [put_defers]; exact hd) hk fun t'' a'' h1 h2 h3 h4 => hQ t'' a'' h1 h2 (hkp _ (keeps_put h3)) h4
    have skip : ∀ t' : List SV, RelT ρ m.length t' a → (∀ t'', Keeps (o :: r) t' t'' → Keeps (o :: r) t t'') → opsxq E (dsts ops.toList) n m r (put t' o.dst .undef) = some x → wpQuiet P ops (RelM W ρ m) Kq r (a.put o.dst Go.undef) := by
      intro t' ht' hkp hx
      exact opsxq_ok hE hlt r _ _ (ht'.put o.dst (fun _ => ⟨rfl, rfl⟩)) (by rw [put_defers]; exact hd) hx fun t'' a'' h1 h2 h3 h4 => hQ t'' a'' h1 h2 (hkp _ (keeps_put h3)) h4
    simp only [opsxq] at h
    simp only [wpQuiet]
    cases hg : o.guard with
    | none =>
      simp only [hg] at h
      rw [if_pos (by simp [Region.wanted, hg])]
      exact run t ht (fun _ h => h) h
    | some jw =>
      obtain ⟨j, want⟩ := jw
      simp only [hg, dsts_get] at h
      split at h
      · cases h
      · rename_i d hdd
        split at h
        · rename_i e hb
          have hy := yielded_of ht hdd hb
          cases want
          · simp only at h
            rcases br_some h with ⟨he, h⟩ | ⟨he, h⟩
            · rw [he] at hy
              rw [if_neg (by simp [Region.wanted, hg, hy])]
              exact skip _ (ht.lit hb he) (fun _ => keeps_lit hb he) h
            · rw [he] at hy
              rw [if_pos (by simp [Region.wanted, hg, hy])]
              exact run _ (ht.lit hb he) (fun _ => keeps_lit hb he) h
          · simp only at h
            rcases br_some h with ⟨he, h⟩ | ⟨he, h⟩
            · rw [he] at hy
              rw [if_pos (by simp [Region.wanted, hg, hy])]
              exact run _ (ht.lit hb he) (fun _ => keeps_lit hb he) h
            · rw [he] at hy
              rw [if_neg (by simp [Region.wanted, hg, hy])]
              exact skip _ (ht.lit hb he) (fun _ => keeps_lit hb he) h
        · rename_i hb
          have hy := yielded_undef ht hdd hb
          rw [if_neg (by simp [Region.wanted, hg, hy])]
          exact skip t ht (fun _ h => h) h
        · cases h

/-! ### Joins. -/
theorem clear_get : ∀ (l : List (Option Nat)) (t : List SV) (i : Nat) (sv : SV), (clearL l t)[i]? = some sv → sv.isAny = false → t[i]? = some sv ∧ some i ∉ l
  | [], t, i, sv, h, _ => ⟨h, by simp⟩
  | none :: r, t, i, sv, h, hs => by
    obtain ⟨h1, h2⟩ := clear_get r t i sv h hs
    exact ⟨h1, by simpa using h2⟩
  | some d :: r, t, i, sv, h, hs => by
    obtain ⟨h1, h2⟩ := clear_get r (t.set d .any) i sv h hs
    by_cases hid : d = i
    · subst hid
      have hl : d < t.length := by have := (List.getElem?_eq_some_iff.1 h1).1; simpa using this
      rw [List.getElem?_set_self hl] at h1
      injection h1 with h1
      subst h1
      cases hs
    · rw [List.getElem?_set_ne hid] at h1
      exact ⟨h1, by simp only [List.mem_cons, Option.some.injEq, not_or]; exact ⟨fun h => hid h.symm, h2⟩⟩
theorem clear_len : ∀ (l : List (Option Nat)) (t : List SV), (clearL l t).length = t.length
  | [], t => rfl
  | none :: r, t => clear_len r t
  | some d :: r, t => by rw [clearL, clear_len r, List.length_set]
/-- Behind guarded operations: what they came to is known, their other slots aren't. -/
theorem RelT.join {ρ : Nat → Value} {n : Nat} {t t' : List SV} {a' : Act} {m : Mem} {l : List Oper} {d : Nat} {b : Bool} (hlen : t.length = t'.length) (h : RelT ρ n t' a') (hk : Keeps l t t') (hb : slotB d ⟨t', m⟩ = some b) :
    RelT ρ n ((clearL (dsts l) t).set d (.b b)) a' := by
  refine ⟨by rw [List.length_set, clear_len, hlen]; exact h.size, fun i sv hi hs => ?_⟩
  by_cases hid : d = i
  · subst hid
    have hl : d < (clearL (dsts l) t).length := by have := (List.getElem?_eq_some_iff.1 hi).1; simpa using this
    rw [List.getElem?_set_self hl] at hi
    injection hi with hi
    subst hi
    unfold slotB at hb
    split at hb
    · rename_i e he
      injection hb with hb
      subst hb
      have hl' : d < t'.length := by rw [clear_len] at hl; omega
      have hti : t'[d]? = some (.b e) := by
        have he : t'.getD d .any = .b e := he
        rw [List.getD_eq_getElem?_getD, List.getElem?_eq_getElem hl'] at he
        rw [List.getElem?_eq_getElem hl']
        simpa using he
      exact h.slot d _ hti rfl
    · cases hb
  · rw [List.getElem?_set_ne hid] at hi
    obtain ⟨h1, h2⟩ := clear_get _ _ _ _ hi hs
    refine h.slot i sv ?_ hs
    rw [hk i (fun o ho hd => h2 (by rw [← hd]; exact List.mem_map.2 ⟨o, ho, rfl⟩))]
    exact h1
theorem wpQuiet_app {P : Program} {ops : Array Oper} {C : World → Prop} {K K' : Act → Prop} : ∀ (l1 l2 : List Oper) (a : Act), wpQuiet P ops C K l1 a → (∀ a', K a' → wpQuiet P ops C K' l2 a') → wpQuiet P ops C K' (l1 ++ l2) a
  | [], l2, a, h, hk => hk a h
  | o :: r, l2, a, h, hk => by
    simp only [List.cons_append, wpQuiet] at h ⊢
    split
    · rename_i hw
      rw [if_pos hw] at h
      obtain ⟨v, h1, h2⟩ := h
      exact ⟨v, h1, wpQuiet_app r l2 _ h2 hk⟩
    · rename_i hw
      rw [if_neg hw] at h
      exact wpQuiet_app r l2 _ h hk
theorem quiet_wp {P : Program} {o : Oper} {a : Act} {C : World → Prop} {w : World} {Q : Exit → Act → World → Prop} {N : Act → World → Prop} {v : Value} (h : o.quietAt P a C w v) (hw : C w) (hN : ∀ w', C w' → N (a.put o.dst v) w') : o.wp P a w N Q := by
  unfold Oper.quietAt at h
  unfold Oper.wp
  cases hr : (execOp a.eval o).run P w with
  | ok n w' =>
    rw [hr] at h
    cases n with
    | value u =>
      simp only [Oper.quietUpon] at h
      obtain ⟨rfl, rfl⟩ := h
      exact hN _ hw
    | skip =>
      simp only [Oper.quietUpon] at h
      obtain ⟨rfl, rfl⟩ := h
      exact hN _ hw
    | enter f args =>
      simp only [Oper.quietUpon] at h
      obtain ⟨rfl, h⟩ := h
      rw [Oper.upon_enter]
      refine h.mono ?_
      rintro e w'' ⟨rfl, hc⟩
      exact hN _ hc
    | _ => exact h.elim
  | _ => rw [hr] at h; exact h.elim
theorem wpList_of_quiet {P : Program} {ops : Array Oper} {C : World → Prop} {K : Act → Prop} {Q : Exit → Act → World → Prop} : ∀ (l1 l2 : List Oper) (a : Act) (w : World), wpQuiet P ops C K l1 a → C w → (∀ a' w', C w' → K a' → wpList P ops Q l2 a' w') → wpList P ops Q (l1 ++ l2) a w
  | [], l2, a, w, h, hw, hk => hk a w hw h
  | o :: r, l2, a, w, h, hw, hk => by
    simp only [List.cons_append, wpQuiet, wpList] at h ⊢
    split
    · rename_i hq
      rw [if_pos hq] at h
      obtain ⟨v, h1, h2⟩ := h
      exact .inl (quiet_wp (h1 w hw) hw fun w' hw' => wpList_of_quiet r l2 _ w' h2 hw' hk)
    · rename_i hq
      rw [if_neg hq] at h
      exact wpList_of_quiet r l2 _ w h hw hk
theorem segOf_app {E : Env} {l l1 l2 : List Oper} {d : Nat} (h : segOf E l = some (l1, d, l2)) : l = l1 ++ l2 := by
  unfold segOf at h
  split at h
  · split at h
    · injection h with h
      injection h with h1 h
      injection h with h2 h3
      rw [← h1, ← h3, List.take_append_drop]
    · cases h
  · cases h
theorem tlen {ρ ρ' : Nat → Value} {n n' : Nat} {t t' : List SV} {a a' : Act} (h : RelT ρ n t a) (h' : RelT ρ' n' t' a') (hs : a'.tmps.size = a.tmps.size) : t.length = t'.length := by rw [← h.size, ← h'.size, hs]
/-- The frame keeps its size. -/
theorem opsxq_len (hE : EnvOkW P E W) {ops : Array Oper} {n : St → Option X} {x : X} {m : Mem} {ρ : Nat → Value} {Kq : Act → Prop}
    (hlt : ∀ (j : Nat) (ob : Obj), m[j]? = some ob → ob.lt m.length = true) (l : List Oper) (t : List SV) (a : Act) (ht : RelT ρ m.length t a) (hd : a.defers = []) (h : opsxq E (dsts ops.toList) n m l t = some x)
    (hQ : ∀ t' a', RelT ρ m.length t' a' → a'.defers = [] → Keeps l t t' → a'.tmps.size = a.tmps.size → n ⟨t', m⟩ = some x → Kq a') : wpQuiet P ops (RelM W ρ m) Kq l a := by
  have h1 : ∀ (l : List Oper) (a : Act) (K K' : Act → Prop), wpQuiet P ops (RelM W ρ m) K l a → (∀ a', a'.tmps.size = a.tmps.size → K a' → K' a') → wpQuiet P ops (RelM W ρ m) K' l a := by
    intro l
    induction l with
    | nil => exact fun a K K' h hk => hk a rfl h
    | cons o r ih =>
      intro a K K' h hk
      simp only [wpQuiet] at h ⊢
      have hsz : ∀ v, (a.put o.dst v).tmps.size = a.tmps.size := fun v => by unfold Act.put; split <;> simp
      split
      · rename_i hw
        rw [if_pos hw] at h
        obtain ⟨v, h1, h2⟩ := h
        exact ⟨v, h1, ih _ _ _ h2 fun a' ha' => hk a' (ha'.trans (hsz v))⟩
      · rename_i hw
        rw [if_neg hw] at h
        exact ih _ _ _ h fun a' ha' => hk a' (ha'.trans (hsz _))
  refine h1 l a (fun a' => ∃ t', RelT ρ m.length t' a' ∧ a'.defers = [] ∧ Keeps l t t' ∧ n ⟨t', m⟩ = some x) Kq (opsxq_ok hE hlt l t a ht hd h fun t' a' g1 g2 g3 g4 => ⟨t', g1, g2, g3, g4⟩) ?_
  rintro a' hs ⟨t', g1, g2, g3, g4⟩
  exact hQ t' a' g1 g2 g3 hs g4
theorem opsxqj_ok (hE : EnvOkW P E W) {ops : Array Oper} {n : St → Option X} {x : X} {m : Mem} {ρ : Nat → Value} {Kq : Act → Prop}
    (hlt : ∀ (j : Nat) (ob : Obj), m[j]? = some ob → ob.lt m.length = true) :
    ∀ (f : Nat) (l : List Oper) (t : List SV) (a : Act), RelT ρ m.length t a → a.defers = [] → opsxqj E (dsts ops.toList) n m f l t = some x →
      (∀ t' a', RelT ρ m.length t' a' → a'.defers = [] → n ⟨t', m⟩ = some x → Kq a') → wpQuiet P ops (RelM W ρ m) Kq l a
  | 0, l, t, a, ht, hd, h, hQ => opsxq_ok hE hlt l t a ht hd h fun t' a' h1 h2 _ h3 => hQ t' a' h1 h2 h3
  | f + 1, [], t, a, ht, hd, h, hQ => hQ t a ht hd h
  | f + 1, o :: r, t, a, ht, hd, h, hQ => by
    simp only [opsxqj] at h
    cases hg : o.guard with
    | none =>
      simp only [hg] at h
      simp only [wpQuiet]
      rw [if_pos (by simp [Region.wanted, hg])]
      refine opxq_ok hE hlt ht h fun v y hv hk => ?_
      exact opsxqj_ok hE hlt f r _ _ (ht.put o.dst hv) (by rw [put_defers]; exact hd) hk hQ
    | some jw =>
      simp only [hg] at h
      split at h
      · rename_i l1 d l2 hs
        obtain ⟨b, hb, h⟩ := Option.bind_eq_some_iff.1 h
        rw [segOf_app hs]
        refine wpQuiet_app l1 l2 a (opsxq_len hE hlt l1 t a ht hd hb (Kq := fun a' => wpQuiet P ops (RelM W ρ m) Kq l2 a') fun t' a' g1 g2 g3 g4 g5 => ?_) fun a' h => h
        exact opsxqj_ok hE hlt f l2 _ a' (g1.join (tlen ht g1 g4) g3 g5) g2 h hQ
      · exact opsxq_ok hE hlt _ t a ht hd h fun t' a' h1 h2 _ h3 => hQ t' a' h1 h2 h3
theorem opsxj_ok (hE : EnvOkW P E W) {ops : Array Oper} {Q : Exit → Act → World → Prop} {n : St → Option X} {x : X} :
    ∀ (f : Nat) (l : List Oper) (s : St) (ρ : Nat → Value) (a : Act) (w : World), RelS W ρ s a w → opsxj E (dsts ops.toList) n f l s = some x →
      (∀ ρ' s' a' w', Agree s.m.length ρ ρ' → s.m.length ≤ s'.m.length → RelS W ρ' s' a' w' → n s' = some x → Q .normal a' w') → wpList P ops Q l a w
  | 0, l, s, ρ, a, w, hs, h, hQ => opsx_ok hE l s ρ a w hs h hQ
  | f + 1, [], s, ρ, a, w, hs, h, hQ => hQ ρ s a w (Agree.refl _ _) (Nat.le_refl _) hs h
  | f + 1, o :: r, s, ρ, a, w, hs, h, hQ => by
    simp only [opsxj] at h
    cases hg : o.guard with
    | none =>
      simp only [hg] at h
      simp only [wpList]
      rw [if_pos (by simp [Region.wanted, hg])]
      left
      split at h
      · rename_i c hcl
        obtain ⟨hok, h⟩ := req_some h
        obtain ⟨o', r', y, w', rfl, hg', hdst', hr1, hr2, hm', hlen⟩ := opcl_ok (W := W) hE.T hs.t hs.m hcl hok
        unfold Oper.wp
        rw [hr1]
        simp only [Oper.upon, wpList]
        rw [if_pos (by simp [Region.wanted, hg'])]
        left
        unfold Oper.wp
        rw [hr2]
        simp only [Oper.upon, hdst']
        refine opsxj_ok hE f r' ⟨put s.t o.dst .any, c.mem s.m⟩ ρ _ w' ⟨?_, hm', by show (a.put o.dst y).defers = []; rw [put_defers]; exact hs.d⟩ h fun ρ' s' a' w' hag hle => hQ ρ' s' a' w' (by rw [hlen] at hag; exact hag) (by rw [hlen] at hle; exact hle)
        show RelT ρ (c.mem s.m).length _ (a.put o.dst y)
        rw [hlen]
        exact hs.t.put o.dst (fun h => by cases h)
      split at h
      · rename_i neg c hnc
        obtain ⟨b, hrun, hb⟩ := opnc_ok (W := W) hE.T hs.t hs.m hnc
        have hx : opsxj E (dsts ops.toList) n f r ⟨put s.t o.dst (.b b), s.m⟩ = some x := by
          rcases nilB_some h with ⟨hn, h1, h2⟩ | h2
          · rcases hb with rfl | ⟨rfl, _⟩
            · exact h2
            · exact h1
          · rcases hb with rfl | ⟨rfl, h0⟩
            · exact h2
            · exact (nilB_zero (h0 ▸ h)).1
        unfold Oper.wp
        rw [hrun]
        exact opsxj_ok hE f r ⟨put s.t o.dst (.b b), s.m⟩ ρ _ w ⟨hs.t.put o.dst (fun _ => ⟨rfl, rfl⟩), hs.m, by rw [put_defers]; exact hs.d⟩ hx hQ
      · refine opx_ok hE hs.t hs.m hs.d h fun ρ' v m' a' w' hag hle hs' hk => ?_
        exact opsxj_ok hE f r ⟨put s.t o.dst v, m'⟩ ρ' a' w' hs' hk fun ρ'' s'' a'' w'' hag' hle' hs'' hn => hQ ρ'' s'' a'' w'' (hag.trans hag' hle) (Nat.le_trans hle hle') hs'' hn
    | some jw =>
      simp only [hg] at h
      split at h
      · rename_i l1 d l2 hsg
        obtain ⟨b, hb, h⟩ := Option.bind_eq_some_iff.1 h
        rw [segOf_app hsg]
        refine wpList_of_quiet (C := RelM W ρ s.m) l1 l2 a w (opsxq_len hE hs.m.lt l1 s.t a hs.t hs.d hb (Kq := fun a' => ∃ t', RelT ρ s.m.length t' a' ∧ a'.defers = [] ∧ Keeps l1 s.t t' ∧ a'.tmps.size = a.tmps.size ∧ slotB d ⟨t', s.m⟩ = some b) fun t' a' g1 g2 g3 g4 g5 => ⟨t', g1, g2, g3, g4, g5⟩) hs.m ?_
        rintro a' w' hw' ⟨t', g1, g2, g3, g4, g5⟩
        exact opsxj_ok hE f l2 ⟨_, s.m⟩ ρ a' w' ⟨g1.join (tlen hs.t g1 g4) g3 g5, hw', g2⟩ h hQ
      · exact opsx_ok hE _ s ρ a w hs h hQ

end
end Go.Ma
