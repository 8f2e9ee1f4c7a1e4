/-
  THE MACHINE, part I: regions that draw their order and hold operations that are not quiet; and whatever the machine comes to holds of the code.
-/
import Derived.Test.YtihapikjcifbaaaDoorMaN
namespace Go.Ma
open Go Go.RowKit

/-! ### What an operation looks at. -/
section
variable {T : Nat → TI} {E : Env} {t t' : List SV} {m : Mem}
theorem map_ev {l : List Operand} (h : ∀ x ∈ l, ev t x = ev t' x) : l.map (ev t) = l.map (ev t') := List.map_congr_left h
theorem buildS_congr {fs : List (Nat × TypeId)} : ∀ (ps : List (Nat × Operand)) (cs : List SV), (∀ p ∈ ps, ev t p.2 = ev t' p.2) → buildS T t fs ps cs = buildS T t' fs ps cs
  | [], _, _ => rfl
  | (i, x) :: r, cs, h => by
    have hx : ev t x = ev t' x := h (i, x) (by simp)
    simp only [buildS, hx]
    cases fs[i]? with
    | none => rfl
    | some q =>
      simp only
      split
      · rfl
      · exact buildS_congr r _ fun p hp => h p (by simp [hp])
theorem litCells_congr {sz n : Nat} : ∀ (ps : List (Nat × Operand)) (cs : List SV), (∀ p ∈ ps, ev t p.2 = ev t' p.2) → litCells t sz n ps cs = litCells t' sz n ps cs
  | [], _, _ => rfl
  | (i, x) :: r, cs, h => by
    have hx : ev t x = ev t' x := h (i, x) (by simp)
    simp only [litCells, hx]
    split
    · rfl
    · exact litCells_congr r _ fun p hp => h p (by simp [hp])
theorem opq_congr (op : Op) (h : ∀ x ∈ op.operands, ev t x = ev t' x) : opq T t m op = opq T t' m op := by
  cases op <;> simp only [Op.operands] at h <;> simp only [opq]
  case move x => rw [h x (by simp)]
  case assign x => rw [h x (by simp)]
  case pick c a b => rw [h c (by simp), h a (by simp), h b (by simp)]
  case load ty a => rw [h a (by simp)]
  case fieldAddr ty x f => rw [h x (by simp)]
  case field ty x f => rw [h x (by simp)]
  case build ty ps => rw [buildS_congr ps.toList _ (fun p hp => h p.2 (by simp; exact ⟨p.1, by simpa using hp⟩))]
  case binOp o ty x y yt => rw [h x (by simp), h y (by simp)]
  case unOp o ty x => cases o <;> simp only [opq] <;> first | rfl | rw [h x (by simp)]
  case convert a b x => rw [h x (by simp)]
  case extract x i => rw [h x (by simp)]
  case nilCheck x => rw [h x (by simp)]
  case makeFunc fn first caps =>
    have hc : caps.toList.map (ev t) = caps.toList.map (ev t') := map_ev fun x hx => h x (by simp at hx ⊢; exact .inr hx)
    have ha : caps.toList.all (fun x => !(ev t x).isAny) = caps.toList.all (fun x => !(ev t' x).isAny) := by
      have := congrArg (fun l => List.all l (fun s : SV => !s.isAny)) hc
      simpa [List.all_map, Function.comp_def] using this
    cases fn <;> simp only [opq, hc, ha]
  case index ty x i => rw [h x (by simp), h i (by simp)]
  case indexAddr ty x i => rw [h x (by simp), h i (by simp)]
  case slice ty x lo hi mx =>
    have hx := h x (by simp)
    cases mx with
    | some _ => simp only [opq]
    | none => cases lo <;> cases hi <;> simp only [opq, hx] <;> simp_all
  case call c =>
    split
    · rename_i x at_ hc hargs hat
      have hx := h x (by simp [Call.operands]; exact .inr (by rw [← Array.mem_toList_iff, hargs]; simp))
      rw [hx]
    · rename_i x y hc hargs
      have hx := h x (by simp [Call.operands]; exact .inr (by rw [← Array.mem_toList_iff, hargs]; simp))
      have hy := h y (by simp [Call.operands]; exact .inr (by rw [← Array.mem_toList_iff, hargs]; simp))
      rw [hx, hy]
    · rfl
theorem opa_congr (op : Op) (h : ∀ x ∈ op.operands, ev t x = ev t' x) : opa T t op = opa T t' op := by
  cases op <;> simp only [Op.operands] at h <;> simp only [opa]
  case box ty x => rw [h x (by simp)]
  case buildSlice ty n ps => rw [litCells_congr ps.toList _ (fun p hp => h p.2 (by simp; exact ⟨p.1, by simpa using hp⟩))]
theorem opst_congr (op : Op) (h : ∀ x ∈ op.operands, ev t x = ev t' x) : opst T t m op = opst T t' m op := by
  cases op <;> simp only [Op.operands] at h <;> simp only [opst]
  case store ty a x => rw [h a (by simp), h x (by simp)]
theorem oprd_congr (op : Op) (h : ∀ x ∈ op.operands, ev t x = ev t' x) : oprd T t m op = oprd T t' m op := by
  cases op <;> simp only [Op.operands] at h <;> simp only [oprd]
  case load ty a => rw [h a (by simp)]
theorem bndE_congr {x : Option Operand} {d : Int} (h : ∀ y, x = some y → ev t y = ev t' y) : bndE t x d = bndE t' x d := by
  cases x with
  | none => rfl
  | some y => simp only [bndE, h y rfl]
theorem opsl_congr (op : Op) (h : ∀ x ∈ op.operands, ev t x = ev t' x) : opsl T t m op = opsl T t' m op := by
  cases op <;> simp only [Op.operands] at h <;> simp only [opsl]
  case slice ty x lo hi mx =>
    cases mx with
    | some _ => simp only [opsl]
    | none =>
      have hx := h x (by simp)
      have hlo : ∀ d, bndE t lo d = bndE t' lo d := fun d => bndE_congr fun y hy => h y (by simp [hy])
      have hhi : ∀ d, bndE t hi d = bndE t' hi d := fun d => bndE_congr fun y hy => h y (by simp [hy])
      simp only [opsl, hx, hlo, hhi]
theorem opsr_congr (op : Op) (h : ∀ x ∈ op.operands, ev t x = ev t' x) : opsr T t m op = opsr T t' m op := by
  cases op <;> simp only [Op.operands] at h <;> simp only [opsr]
  case store ty a x => rw [h a (by simp), h x (by simp)]
theorem opap_congr (op : Op) (h : ∀ x ∈ op.operands, ev t x = ev t' x) : opap T t m op = opap T t' m op := by
  cases op <;> simp only [Op.operands] at h <;> simp only [opap]
  case call c =>
    split
    · rename_i x y ty ty' hc hargs hat
      have hx := h x (by simp [Call.operands]; exact .inr (by rw [← Array.mem_toList_iff, hargs]; simp))
      have hy := h y (by simp [Call.operands]; exact .inr (by rw [← Array.mem_toList_iff, hargs]; simp))
      simp only [ownRow, srcRow, hx, hy]
    · rfl
theorem opcall_congr (op : Op) (h : ∀ x ∈ op.operands, ev t x = ev t' x) : opcall E t op = opcall E t' op := by
  cases op <;> simp only [Op.operands] at h <;> simp only [opcall]
  case call c =>
    split
    · rename_i f hf
      have h1 := h f (by simp [Call.operands, hf])
      have h2 : c.args.toList.map (ev t) = c.args.toList.map (ev t') := map_ev fun x hx => h x (by simp [Call.operands]; exact .inr (by simpa using hx))
      simp only [h1, h2]
    · rfl
theorem opx_congr {X : Type} (o : Oper) (k : SV → Mem → Option X) (h : ∀ x ∈ o.op.operands, ev t x = ev t' x) : opx E t o m k = opx E t' o m k := by
  unfold opx
  rw [opq_congr o.op h, opa_congr o.op h, opst_congr o.op h, opap_congr o.op h, opsl_congr o.op h, oprd_congr o.op h, opsr_congr o.op h, opcall_congr o.op h]
end

/-! ### The operations that leave the elder objects as they are. -/
/-- Its callees are contracts. -/
def LawEnv (E : Env) : Prop := ∀ f g, E.call f = some g → g.det = true
/-- An operation, as a step: its value and the memory behind it. -/
def runO (E : Env) (t : List SV) (o : Oper) (m : Mem) : Option (SV × Mem) := opx E t o m fun v m' => some (v, m')
section
variable {P : Program} {E : Env} {t : List SV} {m : Mem} {o : Oper}
theorem opx_law (hE : EnvOk P E) {X : Type} {k : SV → Mem → Option X} {x : X} (hg : growOp E o.op = true ∨ (∃ v m', runO E t o m = some (v, m')) ∨ True) (hl : ∀ g args, opcall E t o.op = some (g, args) → g.det = true) (h : opx E t o m k = some x) :
    ∃ v m', runO E t o m = some (v, m') ∧ k v m' = some x := by
  unfold runO
  unfold opx at h ⊢
  split at h
  · exact ⟨_, _, rfl, h⟩
  split at h
  · obtain ⟨hc, h⟩ := req_some h
    subst hc
    exact ⟨_, _, rfl, h⟩
  split at h
  · exact ⟨_, _, rfl, h⟩
  split at h
  · split at h
    · rename_i hd
      exact ⟨_, _, by rw [if_pos hd], h⟩
    · cases h
  split at h
  · obtain ⟨hc, h⟩ := req_some h
    subst hc
    exact ⟨_, _, rfl, h⟩
  split at h
  · obtain ⟨hc, h⟩ := req_some h
    subst hc
    exact ⟨_, _, rfl, h⟩
  split at h
  · obtain ⟨y, hy, h⟩ := Option.bind_eq_some_iff.1 h
    split at h
    · rename_i v hv
      exact ⟨v, m, by simp only [hy, Option.bind_some, hv], h⟩
    · cases h
  split at h
  · split at h
    · rename_i hd
      obtain ⟨y, hy, h⟩ := Option.bind_eq_some_iff.1 h
      split at h
      · rename_i b hb
        exact ⟨.any, _, by rw [if_pos hd, hy, Option.bind_some, hb], h⟩
      · cases h
    · cases h
  split at h
  · rename_i g args hcall
    obtain ⟨f, hf⟩ : ∃ f, TrOk P f g := by
      unfold opcall at hcall
      split at hcall
      · split at hcall
        · split at hcall
          · rename_i n _ _
            split at hcall
            · obtain ⟨g', hg', he⟩ := Option.map_eq_some_iff.1 hcall
              cases he
              exact ⟨n, hE.call n _ hg'⟩
            · cases hcall
          · cases hcall
        · cases hcall
      · cases hcall
    obtain ⟨r, m', h1, h2, _⟩ := hf.2.2 (hl g args hcall) X args m k x h
    exact ⟨r, m', h1, h2⟩
  · cases h
/-- .. and one that leaves the elder objects as they are only adds to them. -/
theorem grow_run (hE : EnvOk P E) (hL : LawEnv E) (hg : growOp E o.op = true) {v : SV} {m' : Mem} (h : runO E t o m = some (v, m')) : ∃ os, m' = m ++ os := by
  unfold runO opx at h
  split at h
  · cases h; exact ⟨_, rfl⟩
  split at h
  · obtain ⟨_, h⟩ := req_some h
    cases h; exact ⟨[], by simp⟩
  split at h
  · cases h; exact ⟨_, rfl⟩
  split at h
  · rename_i hst
    cases hop : o.op <;> rw [hop] at hst hg <;> simp [opst, growOp] at hst hg
  split at h
  · rename_i hap
    cases hop : o.op <;> rw [hop] at hap hg <;> simp only [opap] at hap <;> try (cases hap; done)
    rename_i c
    split at hap
    · rename_i hc _ _
      simp [growOp, hc] at hg
    · cases hap
  split at h
  · rename_i hsl
    cases hop : o.op <;> rw [hop] at hsl hg <;> simp only [opsl] at hsl <;> try (cases hsl; done)
    rename_i ty x lo hi mx
    cases mx with
    | some _ => simp only [opsl] at hsl; cases hsl
    | none =>
      simp only [opsl] at hsl
      split at hsl
      · rename_i hk hkd _
        simp [growOp, hkd] at hg
      · cases hsl
  split at h
  · obtain ⟨y, hy, h⟩ := Option.bind_eq_some_iff.1 h
    split at h
    · cases h; exact ⟨[], by simp⟩
    · cases h
  split at h
  · rename_i hsr
    cases hop : o.op <;> rw [hop] at hsr hg <;> simp [opsr, growOp] at hsr hg
  split at h
  · rename_i g args hcall
    unfold opcall at hcall
    split at hcall
    · rename_i c hop
      split at hcall
      · rename_i f hc
        split at hcall
        · rename_i n caps hf
          split at hcall
          · obtain ⟨g', hg', he⟩ := Option.map_eq_some_iff.1 hcall
            cases he
            have hlaw : g.law = true := by
              rw [hop] at hg
              cases f <;> simp only [growOp, hc] at hg <;> try (cases hg; done)
              rename_i ff
              have : n = ff := by
                simp only [ev] at hf
                cases hf
                rfl
              subst this
              rw [hg'] at hg
              exact hg
            obtain ⟨r, m1, h1, h2, h3⟩ := (hE.call n g hg').2.2 (hL n g hg') _ _ m _ _ h
            cases h2
            exact h3 hlaw
          · cases hcall
        · cases hcall
      · cases hcall
    · cases hcall
  · cases h

theorem get_app {m os : Mem} {j : Nat} {ob : Obj} (h : m[j]? = some ob) : (m ++ os)[j]? = some ob := by
  rw [List.getElem?_append_left (List.getElem?_eq_some_iff.1 h).1]; exact h
/-- What a quiet operation reads stays. -/
theorem opq_app {T : Nat → TI} {op : Op} {os : Mem} {r : Bool × SV} (h : opq T t m op = some r) : opq T t (m ++ os) op = some r := by
  cases op <;> try (simp only [opq] at h ⊢; exact h)
  case unOp o ty x => cases o <;> simp only [opq] at h ⊢ <;> exact h
  case makeFunc fn first caps => cases fn <;> simp only [opq] at h ⊢ <;> exact h
  case slice ty x lo hi mx => cases mx <;> simp only [opq] at h ⊢ <;> exact h
  case load ty a =>
    simp only [opq] at h ⊢
    split at h
    · next j off hx =>
      split at h
      · next hj => rw [get_app hj]; exact h
      · cases h
    · next j n sz off hx =>
      split at h
      · next hj => rw [get_app hj]; exact h
      · cases h
    · cases h
  case fieldAddr ty x f =>
    simp only [opq] at h ⊢
    split at h
    · split at h
      · next hc =>
        rw [if_pos hc]
        split at h
        · split at h
          · next hj => rw [get_app hj]; exact h
          · cases h
        · split at h
          · next hj => rw [get_app hj]; exact h
          · cases h
        · cases h
      · cases h
    · cases h
  case convert a b x =>
    simp only [opq] at h ⊢
    split at h
    · exact h
    · split at h
      · next hj => simp only [*, get_app hj]
      · cases h
    · cases h
  case nilCheck x =>
    simp only [opq] at h ⊢
    split at h
    · split at h
      · next hj => rw [get_app hj]; exact h
      · cases h
    · cases h
  case indexAddr ty x i =>
    simp only [opq] at h ⊢
    split at h
    · split at h
      · next hj => rw [get_app hj]; exact h
      · cases h
    · cases h
  case call c =>
    simp only [opq] at h ⊢
    split at h
    · split at h
      · exact h
      · split at h
        · next hj => rw [get_app hj]; exact h
        · cases h
      · exact h
      · cases h
    · exact h
    · cases h
theorem oprd_app {T : Nat → TI} {op : Op} {os : Mem} {r : RdL} (h : oprd T t m op = some r) : oprd T t (m ++ os) op = some r := by
  cases op <;> try (simp only [oprd] at h ⊢; exact h)
  case load ty a =>
    simp only [oprd] at h ⊢
    split at h
    · split at h
      · next hj => rw [get_app hj]; exact h
      · cases h
    · cases h
end

/-! ### Steps of a region, in any order. -/
theorem lawE_ok {P : Program} {E : Env} (hE : EnvOk P E) : EnvOk P (lawE E) := ⟨hE.T, hE.B, fun f g h => by
  simp only [lawE] at h
  split at h
  · rename_i g' hg'
    split at h
    · injection h with h; subst h; exact hE.call f _ hg'
    · cases h
  · cases h⟩
theorem lawE_law (E : Env) : LawEnv (lawE E) := fun f g h => by
  simp only [lawE] at h
  split at h
  · split at h
    · rename_i hl; injection h with h; subst h; exact hl
    · cases h
  · cases h
theorem opcall_law {E : Env} (hL : LawEnv E) {t : List SV} {op : Op} {g : Con} {args : List SV} (h : opcall E t op = some (g, args)) : g.det = true := by
  unfold opcall at h
  split at h
  · split at h
    · split at h
      · split at h
        · obtain ⟨g', hg', he⟩ := Option.map_eq_some_iff.1 h
          cases he
          exact hL _ _ hg'
        · cases h
      · cases h
    · cases h
  · cases h

theorem set_same {t : List SV} {d : Nat} {b : Bool} (h : t.getD d .any = .b b) : t.set d (.b b) = t := by
  apply List.ext_getElem?
  intro k
  by_cases hk : d = k
  · subst hk
    rw [List.getD_eq_getElem?_getD] at h
    cases hx : t[d]? with
    | none => rw [hx] at h; cases h
    | some y =>
      rw [hx] at h
      simp only [Option.getD_some] at h
      rw [List.getElem?_set_self (List.getElem?_eq_some_iff.1 hx).1, h]
  · rw [List.getElem?_set_ne hk]

section
variable {P : Program} {E : Env} {ops : Array Oper}

/-- A step: an operation that runs, or is passed over. -/
inductive Ran (E : Env) (ops : Array Oper) (o : Oper) (t : List SV) (m : Mem) (v : SV) (m' : Mem) : Prop where
  | run (h : runO E t o m = some (v, m')) (hw : ∀ j want, o.guard = some (j, want) → ∃ d, (ops[j]?).bind (·.dst) = some d ∧ t.getD d .any = .b want)
  | skip (hv : v = .undef) (hm : m' = m) (j : Nat) (want : Bool) (hg : o.guard = some (j, want)) (d : Nat) (hd : (ops[j]?).bind (·.dst) = some d) (hs : t.getD d .any = .b (!want) ∨ t.getD d .any = .undef)
theorem step_ran (hE : EnvOk P E) (hL : LawEnv E) {X : Type} {i : Nat} {o : Oper} (ho : ops[i]? = some o) {s : St} {k : St → Option X} {x : X} (h : stepC E ops i s k = some x) :
    ∃ v m', Ran E ops o s.t s.m v m' ∧ k ⟨put s.t o.dst v, m'⟩ = some x := by
  unfold stepC at h
  simp only [ho] at h
  have law := fun t => opx_law (t := t) (m := s.m) (o := o) hE (k := fun v m => k ⟨put t o.dst v, m⟩) (x := x) (.inr (.inr trivial)) (fun g args hc => opcall_law hL hc)
  split at h
  · rename_i hg
    obtain ⟨v, m', h1, h2⟩ := law s.t h
    exact ⟨v, m', .run h1 (fun j want he => by rw [hg] at he; cases he), h2⟩
  · rename_i j want hg
    split at h
    · cases h
    · rename_i d hd
      split at h
      · rename_i e he
        cases want
        · simp only at h
          rcases br_some h with ⟨rfl, h⟩ | ⟨rfl, h⟩
          · rw [set_same he] at h
            exact ⟨.undef, s.m, .skip rfl rfl j false hg d hd (.inl he), h⟩
          · rw [set_same he] at h
            obtain ⟨v, m', h1, h2⟩ := law s.t h
            exact ⟨v, m', .run h1 (fun j' want' hg' => by rw [hg] at hg'; cases hg'; exact ⟨d, hd, he⟩), h2⟩
        · simp only at h
          rcases br_some h with ⟨rfl, h⟩ | ⟨rfl, h⟩
          · rw [set_same he] at h
            obtain ⟨v, m', h1, h2⟩ := law s.t h
            exact ⟨v, m', .run h1 (fun j' want' hg' => by rw [hg] at hg'; cases hg'; exact ⟨d, hd, he⟩), h2⟩
          · rw [set_same he] at h
            exact ⟨.undef, s.m, .skip rfl rfl j true hg d hd (.inl he), h⟩
      · rename_i he
        exact ⟨.undef, s.m, .skip rfl rfl j want hg d hd (.inr he), h⟩
      · cases h

theorem getD_put {t : List SV} {dst : Option Nat} {v : SV} {d : Nat} (h : dst ≠ some d) : (put t dst v).getD d .any = t.getD d .any := by
  cases dst with
  | none => rfl
  | some e =>
    simp only [put, List.getD_eq_getElem?_getD]
    rw [List.getElem?_set_ne (by rintro rfl; exact h rfl)]
theorem ev_put {t : List SV} {dst : Option Nat} {v : SV} {x : Operand} (h : ∀ d, dst = some d → x ≠ .tmp d) : ev (put t dst v) x = ev t x := by
  cases x with
  | tmp d => exact getD_put (by intro he; exact h d he rfl)
  | _ => rfl
theorem put_comm' (t : List SV) {a b : Option Nat} (v u : SV) (h : ∀ d, a = some d → b ≠ some d) : put (put t a v) b u = put (put t b u) a v := by
  cases a with
  | none => rfl
  | some d =>
    cases b with
    | none => rfl
    | some e =>
      have hne : d ≠ e := fun he => h d rfl (he ▸ rfl)
      exact List.set_comm _ _ hne

/-- The slots that an operation looks at are the same in both. -/
def SameAt (ops : Array Oper) (o : Oper) (t t' : List SV) : Prop := ∀ d ∈ o.looksAt ops, t'.getD d .any = t.getD d .any
theorem SameAt.ev {o : Oper} {t t' : List SV} (h : SameAt ops o t t') : ∀ x ∈ o.op.operands, Ma.ev t' x = Ma.ev t x := by
  intro x hx
  cases x with
  | tmp d => exact h d (List.mem_append_left _ (List.mem_filterMap.2 ⟨.tmp d, by simpa using hx, rfl⟩))
  | _ => rfl
theorem SameAt.guard {o : Oper} {t t' : List SV} (h : SameAt ops o t t') {j d : Nat} {want : Bool} (hg : o.guard = some (j, want)) (hd : (ops[j]?).bind (·.dst) = some d) : t'.getD d .any = t.getD d .any :=
  h d (List.mem_append_right _ (by simp [hg, hd]))
theorem Ran.same {o : Oper} {t t' : List SV} {m m' : Mem} {v : SV} (h : Ran E ops o t m v m') (hs : SameAt ops o t t') : Ran E ops o t' m v m' := by
  cases h with
  | run hr hw =>
    refine .run ?_ (fun j want hg => ?_)
    · unfold runO at hr ⊢
      rw [opx_congr o _ hs.ev]
      exact hr
    · obtain ⟨d, hd, he⟩ := hw j want hg
      exact ⟨d, hd, by rw [hs.guard hg hd]; exact he⟩
  | skip hv hm j want hg d hd hss =>
    refine .skip hv hm j want hg d hd ?_
    rw [hs.guard hg hd]
    exact hss
/-- A quiet step: whatever is added to the memory. -/
def QRan (E : Env) (ops : Array Oper) (o : Oper) (t : List SV) (m : Mem) (v : SV) : Prop := ∀ os, Ran E ops o t (m ++ os) v (m ++ os)
theorem qran_of {o : Oper} {t : List SV} {m m' : Mem} {v : SV} (h : Ran E ops o t m v m') (hn : (opnil E.T o.type o.op).isNone = true) (hq : (opq E.T t m o.op).isSome = true ∨ (oprd E.T t m o.op).isSome = true) : m' = m ∧ QRan E ops o t m v := by
  cases h with
  | skip hv hm j want hg d hd hs => exact ⟨hm, fun os => .skip hv rfl j want hg d hd hs⟩
  | run hr hw =>
    have hn' : opnil E.T o.type o.op = none := by simpa using hn
    cases hqv : opq E.T t m o.op with
    | some cv =>
      obtain ⟨c, u⟩ := cv
      have hr' := hr
      unfold runO opx at hr'
      simp only [hn', hqv] at hr'
      obtain ⟨hc, hr'⟩ := req_some hr'
      cases hr'
      subst hc
      refine ⟨rfl, fun os => .run ?_ hw⟩
      unfold runO opx
      simp only [hn', opq_app hqv]
      rfl
    | none =>
      rcases hq with hq | hq
      · rw [hqv] at hq; cases hq
      · obtain ⟨r, hrd⟩ := Option.isSome_iff_exists.1 hq
        obtain ⟨ty, ad, hop⟩ : ∃ ty ad, o.op = .load ty ad := by
          cases hop : o.op <;> rw [hop] at hrd <;> simp only [oprd] at hrd <;> first | exact ⟨_, _, rfl⟩ | cases hrd
        have hq0 : ∀ os, opq E.T t (m ++ os) o.op = none := by
          intro os
          rw [hop] at hrd hqv ⊢
          simp only [oprd] at hrd
          split at hrd
          · next heq =>
            split at hrd
            · next hj => simp only [opq, heq, get_app hj]
            · cases hrd
          · cases hrd
        have hrest : ∀ os, opa E.T t o.op = none ∧ opst E.T t (m ++ os) o.op = none ∧ opap E.T t (m ++ os) o.op = none ∧ opsl E.T t (m ++ os) o.op = none := by
          intro os
          rw [hop]
          exact ⟨rfl, rfl, rfl, rfl⟩
        have key : ∀ os, runO E t o (m ++ os) = ((geti r.l r.i).bind fun a => match r.val a with | some v => some (v, m ++ os) | none => none) := by
          intro os
          obtain ⟨h1, h2, h3, h4⟩ := hrest os
          unfold runO opx
          simp only [hn', hq0 os, h1, h2, h3, h4, oprd_app hrd]
          rfl
        have hr0 := hr
        have k0 := key []
        rw [List.append_nil] at k0
        rw [k0] at hr0
        obtain ⟨y, hy, hr0⟩ := Option.bind_eq_some_iff.1 hr0
        split at hr0
        · rename_i u hu
          cases hr0
          refine ⟨rfl, fun os => .run ?_ hw⟩
          rw [key os, hy, Option.bind_some, hu]
        · cases hr0

/-! Waiting. -/
inductive Waits (ops : Array Oper) : Nat → Nat → Prop where
  | here {j i : Nat} {o : Oper} {e : Edge} (ho : ops[j]? = some o) (he : e ∈ o.after) (hb : Region.binds .any e = true) (hi : e.on = i) : Waits ops j i
  | there {j i : Nat} {o : Oper} {e : Edge} (ho : ops[j]? = some o) (he : e ∈ o.after) (hb : Region.binds .any e = true) (hi : Waits ops e.on i) : Waits ops j i
/-- What is listed waits for nothing that isn't. -/
def Closed (ops : Array Oper) (listed : Array Bool) : Prop := ∀ j o, ops[j]? = some o → listed.getD j false = true → ∀ e ∈ o.after, Region.binds .any e = true → listed.getD e.on false = true
theorem waits_listed {listed : Array Bool} (hc : Closed ops listed) {j i : Nat} (h : Waits ops j i) : (∀ o, ops[j]? = some o → ∀ e ∈ o.after, Region.binds .any e = true → listed.getD e.on false = true) → listed.getD i false = true := by
  induction h with
  | here ho he hb hi => intro hl; subst hi; exact hl _ ho _ he hb
  | there ho he hb _ ih => intro hl; exact ih fun o' ho' => hc _ o' ho' (hl _ ho _ he hb)
theorem mask_ok (i : Nat) (acc : List Nat) : ∀ (es : List Edge) (s : Nat), (es.foldl (fun s e => if Region.binds .any e then s ||| 2 ^ e.on ||| acc.getD e.on 0 else s) s).testBit i = true →
    s.testBit i = true ∨ ∃ e ∈ es, Region.binds .any e = true ∧ (e.on = i ∨ (acc.getD e.on 0).testBit i = true)
  | [], s, h => .inl h
  | e :: r, s, h => by
    simp only [List.foldl_cons] at h
    rcases mask_ok i acc r _ h with h | ⟨e', he', h⟩
    · split at h
      · rename_i hb
        simp only [Nat.testBit_or, Bool.or_eq_true, Nat.testBit_two_pow, decide_eq_true_eq] at h
        rcases h with (h | h) | h
        · exact .inl h
        · exact .inr ⟨e, by simp, hb, .inl h⟩
        · exact .inr ⟨e, by simp, hb, .inr h⟩
      · exact .inl h
    · exact .inr ⟨e', by simp [he'], h⟩
theorem waitL_ok (i : Nat) : ∀ (l : List Oper) (acc : List Nat), (∀ k, l[k]? = ops[acc.length + k]?) → (∀ j, (acc.getD j 0).testBit i = true → Waits ops j i) → ∀ j, ((waitL l acc).getD j 0).testBit i = true → Waits ops j i
  | [], acc, _, h, j, hj => h j hj
  | o :: r, acc, hl, h, j, hj => by
    simp only [waitL] at hj
    refine waitL_ok i r (acc ++ [waitMask acc o]) (fun k => ?_) (fun j hj => ?_) j hj
    · have := hl (k + 1)
      simpa [Nat.add_assoc, Nat.add_comm 1 k] using this
    · by_cases hjl : j < acc.length
      · rw [List.getD_eq_getElem?_getD, List.getElem?_append_left hjl, ← List.getD_eq_getElem?_getD] at hj
        exact h j hj
      · by_cases hje : j = acc.length
        · subst hje
          have e1 : (acc ++ [waitMask acc o]).getD acc.length 0 = waitMask acc o := by simp
          rw [e1] at hj
          have ho : ops[acc.length]? = some o := by simpa using (hl 0).symm
          unfold waitMask at hj
          rcases mask_ok i acc _ 0 hj with hj | ⟨e, he, hb, hj⟩
          · simp at hj
          · rcases hj with hj | hj
            · exact .here ho (by simpa using he) hb hj
            · exact .there ho (by simpa using he) hb (h _ hj)
        · rw [List.getD_eq_getElem?_getD, List.getElem?_eq_none (by simp; omega)] at hj
          simp at hj
theorem wait_bit {j i : Nat} (h : ((waitL ops.toList []).getD j 0).testBit i = true) : Waits ops j i :=
  waitL_ok i ops.toList [] (fun k => by simp) (fun j hj => by simp at hj) j h

/-- Whatever order is taken from here on. -/
def AnyS (E : Env) (ops : Array Oper) {X : Type} (n : St → Option X) (x : X) : Nat → Array Bool → St → Prop
  | 0, listed, s => Region.ready .any ops listed = [] ∧ n s = some x
  | f + 1, listed, s => (Region.ready .any ops listed = [] → n s = some x) ∧ ∀ i ∈ Region.ready .any ops listed, ∃ o v m', ops[i]? = some o ∧ Ran E ops o s.t s.m v m' ∧ AnyS E ops n x f (listed.setIfInBounds i true) ⟨put s.t o.dst v, m'⟩
theorem getD_tf {listed : Array Bool} {i : Nat} (h : listed.getD i true = false) : listed.getD i false = false := by
  by_cases hi : i < listed.size
  · simp [hi] at h ⊢; exact h
  · simp [hi] at h
theorem Closed.step {listed : Array Bool} (hc : Closed ops listed) {i : Nat} (hi : i ∈ Region.ready .any ops listed) : Closed ops (listed.setIfInBounds i true) := by
  intro j o ho hj e he hb
  by_cases hji : j = i
  · subst hji
    obtain ⟨_, o', ho', hall⟩ := mem_ready.1 hi
    rw [ho] at ho'
    cases ho'
    exact getD_set_true (hall e he hb)
  · rw [getD_set_ne false (Ne.symm hji)] at hj
    exact getD_set_true (hc j o ho hj e he hb)
/-- What looks at no memory yields the same in whatever memory. -/
theorem opq_reg {T : Nat → TI} {t : List SV} {m m' : Mem} {op : Op} (h : regOp op = true) : opq T t m op = opq T t m' op := by
  cases op <;> first | rfl | (simp [regOp] at h; done) | skip
  · rename_i o _ _
    cases o <;> rfl
  · rename_i f _ _
    cases f <;> rfl
theorem regran_of {o : Oper} {t : List SV} {m m' : Mem} {v : SV} (h : Ran E ops o t m v m') (hn : (opnil E.T o.type o.op).isNone = true) (hreg : regOp o.op = true) (hq : (opq E.T t m o.op).isSome = true) : m' = m ∧ ∀ mm, Ran E ops o t mm v mm := by
  cases h with
  | skip hv hm j want hg d hd hs => exact ⟨hm, fun mm => .skip hv rfl j want hg d hd hs⟩
  | run hr hw =>
    have hn' : opnil E.T o.type o.op = none := by simpa using hn
    obtain ⟨⟨c, u⟩, hqv⟩ := Option.isSome_iff_exists.1 hq
    have hr' := hr
    unfold runO opx at hr'
    simp only [hn', hqv] at hr'
    obtain ⟨hc, hr'⟩ := req_some hr'
    cases hr'
    subst hc
    refine ⟨rfl, fun mm => .run ?_ hw⟩
    unfold runO opx
    simp only [hn', opq_reg (m' := mm) hreg ▸ hqv]
    rfl
theorem anyS_first (hE : EnvOk P E) {X : Type} {n : St → Option X} {x : X} {i : Nat} {oi : Oper} (hi : ops[i]? = some oi) {v : SV} (I : Mem → Prop) :
    ∀ (fuel : Nat) (listed : Array Bool) (s : St), Closed ops listed → I s.m →
      (∀ j oj, ops[j]? = some oj → j ≠ i → listed.getD j true = false → Waits ops j i ∨ ((∀ (t : List SV) (mm : Mem) (u : SV) (m' : Mem), I mm → Ran E ops oj t mm u m' → I m') ∧ oi.apart ops oj = true)) →
      i ∈ Region.ready .any ops listed → (∀ mm, I mm → Ran E ops oi s.t mm v mm) →
      AnyS E ops n x fuel (listed.setIfInBounds i true) ⟨put s.t oi.dst v, s.m⟩ → AnyS E ops n x (fuel + 1) listed s := by
  intro fuel
  induction fuel with
  | zero =>
    intro listed s hc hI _ hr hq H
    refine ⟨fun h => (by rw [h] at hr; cases hr), fun j hj => ?_⟩
    by_cases hji : j = i
    · subst hji
      exact ⟨oi, v, s.m, hi, hq s.m hI, H⟩
    · have := ready_mono hj hji
      rw [H.1] at this
      cases this
  | succ fuel ih =>
    intro listed s hc hI hfree hr hq H
    refine ⟨fun h => (by rw [h] at hr; cases hr), fun j hj => ?_⟩
    by_cases hji : j = i
    · subst hji
      exact ⟨oi, v, s.m, hi, hq s.m hI, H⟩
    · obtain ⟨oj, u, m', hoj, hran, hrest⟩ := H.2 j (ready_mono hj hji)
      obtain ⟨hjun, oj', hoj', hall⟩ := mem_ready.1 hj
      rw [hoj] at hoj'
      cases hoj'
      have hiun := getD_tf (mem_ready.1 hr).1
      have hnw : ¬ Waits ops j i := fun hw => by
        have := waits_listed hc hw (fun o ho => by rw [hoj] at ho; cases ho; exact hall)
        rw [hiun] at this
        cases this
      obtain ⟨hgrow, hap⟩ := (hfree j oj hoj hji hjun).resolve_left hnw
      obtain ⟨a1, a2, a3⟩ := Oper.apart_spec hap
      -- j, ahead of i
      have hsame : SameAt ops oj (put s.t oi.dst v) s.t := fun d hd => (getD_put (by intro he; exact a1 d he hd)).symm
      have hran' := hran.same hsame
      refine ⟨oj, u, m', hoj, hran', ?_⟩
      have hsame2 : SameAt ops oi s.t (put s.t oj.dst u) := fun d hd => getD_put (by intro he; exact a3 d he hd)
      refine ih (listed.setIfInBounds j true) ⟨put s.t oj.dst u, m'⟩ (hc.step hj) (hgrow _ _ _ _ hI hran') (fun k ok hk hki hun => ?_) (ready_mono hr (Ne.symm hji)) (fun mm hmm => ?_) ?_
      · refine hfree k ok hk hki ?_
        by_cases hjk : j = k
        · subst hjk; exact hjun
        · rw [getD_set_ne true hjk] at hun; exact hun
      · exact (hq mm hmm).same hsame2
      · have e : put (put s.t oj.dst u) oi.dst v = put (put s.t oi.dst v) oj.dst u := (put_comm' s.t v u a2).symm
        show AnyS E ops n x fuel _ ⟨put (put s.t oj.dst u) oi.dst v, m'⟩
        rw [e, Array.setIfInBounds_comm _ _ hji]
        exact hrest
theorem allB_some {X : Type} {f : Nat → Option X} {x : X} : ∀ {l : List Nat}, allB l f = some x → ∀ i ∈ l, f i = some x
  | [], h, _, _ => by cases h
  | [i], h, j, hj => by simp only [List.mem_singleton] at hj; subst hj; exact h
  | i :: k :: r, h, j, hj => by
    simp only [allB, both] at h
    split at h
    · rename_i he
      rcases List.mem_cons.1 hj with rfl | hj
      · exact h
      · rw [he] at h; exact allB_some h j hj
    · cases h
theorem anyS_of (hE : EnvOk P E) (hL : LawEnv E) {X : Type} {n : St → Option X} {x : X} : ∀ (f : Nat) (listed : Array Bool) (s : St), Closed ops listed → anyX E ops n (f + 1) listed s = some x → AnyS E ops n x f listed s := by
  intro f
  induction f with
  | zero =>
    intro listed s hc h
    simp only [anyX] at h
    split at h
    · rename_i hr; exact ⟨hr, h⟩
    · rename_i i r hr
      have hop : ∀ j ∈ i :: r, ∃ o, ops[j]? = some o := fun j hj => by
        rw [← hr] at hj
        obtain ⟨_, o, ho, _⟩ := mem_ready.1 hj
        exact ⟨o, ho⟩
      split at h
      · rename_i j hj
        obtain ⟨o, ho⟩ := hop j (List.mem_of_find?_eq_some hj)
        obtain ⟨_, _, _, hk⟩ := step_ran hE hL ho h
        cases hk
      · obtain ⟨o, ho⟩ := hop i (by simp)
        obtain ⟨_, _, _, hk⟩ := step_ran hE hL ho (allB_some h i (by simp))
        cases hk
  | succ f ih =>
    intro listed s hc h
    rw [anyX] at h
    split at h
    · rename_i hr
      exact ⟨fun _ => h, fun i hi => by rw [hr] at hi; cases hi⟩
    · rename_i i r hr
      have hop : ∀ j ∈ i :: r, j ∈ Region.ready .any ops listed ∧ ∃ o, ops[j]? = some o := fun j hj => by
        rw [← hr] at hj
        obtain ⟨_, o, ho, _⟩ := mem_ready.1 hj
        exact ⟨hj, o, ho⟩
      split at h
      · rename_i j hj
        obtain ⟨hjr, o, ho⟩ := hop j (List.mem_of_find?_eq_some hj)
        have hp := List.find?_some hj
        simp only [Bool.and_eq_true] at hp
        obtain ⟨hstat, hquiet⟩ := hp
        obtain ⟨v, m', hran, hk⟩ := step_ran hE hL ho h
        unfold isQuiet at hquiet
        simp only [ho, Bool.and_eq_true, Bool.or_eq_true] at hquiet
        have hfree : ∀ (I : Mem → Prop), (∀ (k : Nat) (ok : Oper), ops[k]? = some ok → (regOp o.op = true ∨ growOp E ok.op = true) → ∀ (t : List SV) (mm : Mem) (u : SV) (m' : Mem), I mm → Ran E ops ok t mm u m' → I m') →
            ∀ (k : Nat) (ok : Oper), ops[k]? = some ok → k ≠ j → listed.getD k true = false → Waits ops k j ∨ ((∀ (t : List SV) (mm : Mem) (u : SV) (m' : Mem), I mm → Ran E ops ok t mm u m' → I m') ∧ o.apart ops ok = true) := by
          intro I hI k ok hk hki hun
          unfold statOk at hstat
          simp only [ho, List.all_eq_true, List.mem_range] at hstat
          have h1 := hstat k (Array.getElem?_eq_some_iff.1 hk).1
          simp only [hk, Bool.or_eq_true, beq_iff_eq, Bool.and_eq_true] at h1
          rcases h1 with ((h1 | h1) | h1) | h1
          · exact absurd h1 hki
          · exact .inl (wait_bit h1)
          · exfalso
            obtain ⟨_, o', ho', hall⟩ := mem_ready.1 hjr
            have := waits_listed hc (wait_bit h1) (fun o2 ho2 => by rw [ho'] at ho2; cases ho2; exact hall)
            have h3 := getD_tf hun
            rw [h3] at this
            cases this
          · exact .inr ⟨hI k ok hk h1.1, h1.2⟩
        by_cases hreg : regOp o.op = true
        · have hq1 : (opq E.T s.t s.m o.op).isSome = true := by
            rcases hquiet.2 with h | h
            · exact h
            · rw [hreg] at h; simp at h
          obtain ⟨hm, hq⟩ := regran_of hran hquiet.1 hreg hq1
          subst hm
          exact anyS_first hE ho (fun _ => True) f listed s hc trivial (hfree _ fun _ _ _ _ _ _ _ _ _ _ => trivial) hjr (fun mm _ => hq mm) (ih _ _ (hc.step hjr) hk)
        · obtain ⟨hm, hq⟩ := qran_of hran hquiet.1 (hquiet.2.imp id fun h => h.2)
          subst hm
          refine anyS_first hE ho (fun mm => ∃ os, mm = s.m ++ os) f listed s hc ⟨[], by simp⟩ (hfree _ fun k ok hk hg t mm u m' => ?_) hjr (fun mm ⟨os, e⟩ => e ▸ hq os) (ih _ _ (hc.step hjr) hk)
          rintro ⟨os, rfl⟩ hran2
          have hgrow := hg.resolve_left hreg
          cases hran2 with
          | run hr0 _ =>
            obtain ⟨os', e⟩ := grow_run hE hL hgrow hr0
            exact ⟨os ++ os', by rw [e, List.append_assoc]⟩
          | skip _ hm => exact ⟨os, hm⟩
      · refine ⟨fun h0 => (by rw [hr] at h0; cases h0), fun j hj => ?_⟩
        rw [hr] at hj
        obtain ⟨hjr, o, ho⟩ := hop j hj
        obtain ⟨v, m', hran, hk⟩ := step_ran hE hL ho (allB_some h j hj)
        exact ⟨o, v, m', ho, hran, ih _ _ (hc.step hjr) hk⟩

variable {W : World} {X : Type}
theorem ran_wp (hE : EnvOkW P E W) {i : Nat} {o : Oper} (ho : ops[i]? = some o) {Q : Exit → Act → World → Prop} {s : St} {ρ : Nat → Value} {a : Act} {w : World} (hs : RelS W ρ s a w) {v : SV} {m' : Mem} (h : Ran E ops o s.t s.m v m') {K : Act → World → Prop}
    (hK : ∀ ρ' a' w', Agree s.m.length ρ ρ' → s.m.length ≤ m'.length → RelS W ρ' ⟨put s.t o.dst v, m'⟩ a' w' → K a' w') : wpOp P ops Q i K a w := by
  unfold wpOp
  simp only [ho]
  cases h with
  | run hr hw =>
    have hwant : Region.wanted o (yielded ops a.tmps) = true := by
      cases hg : o.guard with
      | none => simp [Region.wanted, hg]
      | some jw =>
        obtain ⟨j, want⟩ := jw
        obtain ⟨d, hd, he⟩ := hw j want hg
        have hy := yielded_of hs.t (ops := ops) (j := j) (d := d) (by rw [Array.getElem?_toList]; exact hd) he
        simp [Region.wanted, hg, hy]
    rw [if_pos hwant]
    refine .inl (opx_ok hE hs.t hs.m hs.d hr fun ρ' u m2 a' w' hag hle hs' hk => ?_)
    cases hk
    exact hK ρ' a' w' hag hle hs'
  | skip hv hm j want hg d hd hss =>
    subst hv hm
    have hwant : Region.wanted o (yielded ops a.tmps) = false := by
      rcases hss with he | he
      · have hy := yielded_of hs.t (ops := ops) (j := j) (d := d) (by rw [Array.getElem?_toList]; exact hd) he
        cases want <;> simp [Region.wanted, hg, hy]
      · have hy := yielded_undef hs.t (ops := ops) (j := j) (d := d) (by rw [Array.getElem?_toList]; exact hd) he
        simp [Region.wanted, hg, hy]
    rw [if_neg (by simp [hwant])]
    exact hK ρ _ w (Agree.refl _ _) (Nat.le_refl _) ⟨hs.t.put o.dst (fun _ => ⟨rfl, rfl⟩), hs.m, by rw [put_defers]; exact hs.d⟩
theorem anyS_wp (hE : EnvOkW P E W) {n : St → Option X} {x : X} {Q : Exit → Act → World → Prop} : ∀ (f : Nat) (listed : Array Bool) (s : St) (ρ : Nat → Value) (a : Act) (w : World), RelS W ρ s a w → AnyS E ops n x f listed s →
    (∀ ρ' s' a' w', Agree s.m.length ρ ρ' → s.m.length ≤ s'.m.length → RelS W ρ' s' a' w' → n s' = some x → Q .normal a' w') → wpAny P .any ops Q f listed a w
  | 0, listed, s, ρ, a, w, hs, h, hQ => ⟨h.1, hQ ρ s a w (Agree.refl _ _) (Nat.le_refl _) hs h.2⟩
  | f + 1, listed, s, ρ, a, w, hs, h, hQ => by
    refine ⟨fun hr => hQ ρ s a w (Agree.refl _ _) (Nat.le_refl _) hs (h.1 hr), fun i hi => ?_⟩
    obtain ⟨o, v, m', ho, hran, hrest⟩ := h.2 i hi
    refine ran_wp hE ho hs hran fun ρ' a' w' hag hle hs' => ?_
    exact anyS_wp hE f _ _ ρ' a' w' hs' hrest fun ρ'' s'' a'' w'' hag' hle' hs'' hn => hQ ρ'' s'' a'' w'' (hag.trans hag' hle) (Nat.le_trans hle hle') hs'' hn
theorem any_code (hE : EnvOkW P E W) {id base : Nat} {s : St} {n : St → Option X} {e : Nat → St → Option X} {r : St → Option X} {x : X} (h : anyX (lawE E) ops n (ops.size + 1) (Array.replicate ops.size false) s = some x) :
    CodeN ⟨P, W⟩ base (.region id ops true) s (fun s' => n s' = some x) (fun i s' => e i s' = some x) (fun s' => r s' = some x) := by
  refine ⟨fun hb ρ a w Q hs hn _ _ => ?_⟩
  have hS := anyS_of (lawE_ok hE.toEnvOk) (lawE_law E) ops.size _ s (fun j o ho hj => by
    exfalso
    simp only [Array.getD_eq_getD_getElem?, Array.getElem?_replicate] at hj
    split at hj <;> simp at hj) h
  refine wp_region_any hE.T.mixed ?_
  exact anyS_wp ⟨lawE_ok hE.toEnvOk, hE.glob⟩ _ _ s ρ a _ ⟨hs.t, hs.m.drawn _, hs.d⟩ hS fun ρ' s' a' w' hag hle hs' hk => hn ρ' s' a' w' (hag.mono hb) (Nat.le_trans hb hle) hs' hk
end

section
variable {P : Program} {W : World} {E : Env}
theorem join_code {X : Type} {x : X} {base : Nat} {cc : Code} {s : St} {n : St → Option X} {e : Nat → St → Option X} {r : St → Option X} {js : JoinS} {y0 : OutT js.exits}
    (hc : CodeN ⟨P, W⟩ base cc s (fun s' => outF js.n base js.exits (some BIG) s' = some y0) (fun i s' => (bif Nat.beq i BIG then none else outF js.n base js.exits (some i) s') = some y0) (fun s' => outF js.n base js.exits none s' = some y0))
    (hgo : goOn js.n (joinE n e) r js.exits y0 = some x) (hb : base ≤ s.m.length) {ρ : Nat → Value} {a : Act} {w : World} {Q : Exit → Act → World → Prop} (hs : RelS W ρ s a w)
    (hn : ∀ ρ' s' a' w', Agree base ρ ρ' → base ≤ s'.m.length → RelS W ρ' s' a' w' → n s' = some x → Q .normal a' w')
    (he : ∀ i ρ' s' a' w', Agree base ρ ρ' → base ≤ s'.m.length → RelS W ρ' s' a' w' → e i s' = some x → Q (.exit i) a' w')
    (hr : ∀ ρ' s' a' w', Agree base ρ ρ' → base ≤ s'.m.length → RelS W ρ' s' a' w' → r s' = some x → Q .ret a' w') : Code.wp P cc Q a w :=
  hc.code hb ρ a w Q hs
    (fun ρ'' s'' a'' w'' hag' hle' hs'' hk => by
      obtain ⟨f, u, hf, hgo'⟩ := out_go js.exits (some BIG) s'' y0 hk hgo
      obtain ⟨ρ3, hs3, hag3, hle3⟩ := hs''.form hf
      exact hn ρ3 _ a'' w'' (hag'.trans hag3 (Nat.le_refl _)) hle3 hs3 hgo')
    (fun i ρ'' s'' a'' w'' hag' hle' hs'' hk => by
      cases hi : Nat.beq i BIG
      · rw [hi] at hk
        obtain ⟨f, u, hf, hgo'⟩ := out_go js.exits (some i) s'' y0 hk hgo
        obtain ⟨ρ3, hs3, hag3, hle3⟩ := hs''.form hf
        have hgo2 : joinE n e i (stF js.n f u) = some x := hgo'
        unfold joinE at hgo2
        rw [hi] at hgo2
        exact he i ρ3 _ a'' w'' (hag'.trans hag3 (Nat.le_refl _)) hle3 hs3 hgo2
      · rw [hi] at hk
        cases hk)
    (fun ρ'' s'' a'' w'' hag' hle' hs'' hk => by
      obtain ⟨f, u, hf, hgo'⟩ := out_go js.exits none s'' y0 hk hgo
      obtain ⟨ρ3, hs3, hag3, hle3⟩ := hs''.form hf
      exact hr ρ3 _ a'' w'' (hag'.trans hag3 (Nat.le_refl _)) hle3 hs3 hgo')
/-- **WHAT THE MACHINE COMES TO HOLDS OF THE CODE.** -/
theorem ix_ok {X : Type} (hE : EnvOkW P E W) {x : X} {base : Nat} : ∀ (c : Code) (s : St) (n : St → Option X) (e : Nat → St → Option X) (r : St → Option X), LoopsOk P E c → ix E base c s n e r = some x →
    CodeN ⟨P, W⟩ base c s (fun s' => n s' = some x) (fun i s' => e i s' = some x) (fun s' => r s' = some x)
  | .skip, s, n, e, r, _, h => ⟨fun hb ρ a w Q hs hn _ _ => wp_skip (hn ρ s a w (Agree.refl _ _) hb hs h)⟩
  | .region i ops false, s, n, e, r, _, h => ⟨fun hb ρ a w Q hs hn _ _ => wp_region_list (opsxj_ok hE _ ops.toList s ρ a w hs h fun ρ' s' a' w' hag hle => hn ρ' s' a' w' (hag.mono hb) (Nat.le_trans hb hle))⟩
  | .region i ops true, s, n, e, r, _, h => by
      simp only [ix] at h
      cases hqb : ops.toList.all (fun o => quietB E o.op)
      · rw [hqb] at h
        simp only [cond_false] at h
        cases hns : Region.noSelect ops
        · rw [hns] at h; cases h
        · rw [hns] at h
          simp only [cond_true] at h
          exact any_code hE h
      rw [hqb] at h
      simp only [cond_true] at h
      split at h
      · rename_i hlex
        refine ⟨fun hb ρ a w Q hs hn _ _ => ?_⟩
        refine wp_region_quiet (C := RelM W ρ s.m) hE.T.mixed hlex (hs.m.drawn _) ?_
        refine opsxqj_ok hE hs.m.lt _ ops.toList s.t a hs.t hs.d h fun t' a' ht' hd' hk w' hw' => ?_
        exact hn ρ ⟨t', s.m⟩ a' w' (Agree.refl _ _) hb ⟨ht', hw', hd'⟩ hk
      · cases h
  | .seq y z, s, n, e, r, hl, h => ⟨fun hb ρ a w Q hs hn he hr => by
      have hl1 : LoopsOk P E y := fun b hb => hl b (by simp [loopsOf, hb])
      have hl2 : LoopsOk P E z := fun b hb => hl b (by simp [loopsOf, hb])
      refine wp_seq ((ix_ok hE y s _ e r hl1 h).code hb ρ a w _ hs (fun ρ' s' a' w' hag hle hs' hk => ?_) he hr)
      exact (ix_ok hE z s' n e r hl2 hk).code hle ρ' a' w' Q hs' (fun ρ'' s'' a'' w'' hag' hle' hs'' hn' => hn ρ'' s'' a'' w'' (hag.trans hag' (Nat.le_refl _)) hle' hs'' hn')
        (fun i ρ'' s'' a'' w'' hag' hle' hs'' hn' => he i ρ'' s'' a'' w'' (hag.trans hag' (Nat.le_refl _)) hle' hs'' hn')
        (fun ρ'' s'' a'' w'' hag' hle' hs'' hn' => hr ρ'' s'' a'' w'' (hag.trans hag' (Nat.le_refl _)) hle' hs'' hn')⟩
  | .cond c y z, s, n, e, r, hl, h => ⟨fun hb ρ a w Q hs hn he hr => by
      have hl1 : LoopsOk P E y := fun b hb => hl b (by simp [loopsOf, hb])
      have hl2 : LoopsOk P E z := fun b hb => hl b (by simp [loopsOf, hb])
      simp only [ix] at h
      split at h
      · rename_i ex hc
        have := (hs.t.ev c (by rw [hc]; rfl)).2
        rw [hc] at this
        simp only [den] at this
        refine wp_cond this ?_
        split at h
        · rename_i js _
          obtain ⟨y0, hy, hgo⟩ := Option.bind_eq_some_iff.1 h
          rcases br_some hy with ⟨hx, hy⟩ | ⟨hx, hy⟩
          · subst hx
            simp only [if_true]
            exact join_code (ix_ok hE y s _ _ _ hl1 hy) hgo hb hs hn he hr
          · subst hx
            simp only [Bool.false_eq_true, if_false]
            exact join_code (ix_ok hE z s _ _ _ hl2 hy) hgo hb hs hn he hr
        rcases br_some h with ⟨hx, h⟩ | ⟨hx, h⟩
        · subst hx
          simp only [if_true]
          exact (ix_ok hE y s n e r hl1 h).code hb ρ a w Q hs hn he hr
        · subst hx
          simp only [Bool.false_eq_true, if_false]
          exact (ix_ok hE z s n e r hl2 h).code hb ρ a w Q hs hn he hr
      · cases h⟩
  | .block i y, s, n, e, r, hl, h => ⟨fun hb ρ a w Q hs hn he hr => by
      refine wp_block ((ix_ok hE y s n _ r (fun b hb => hl b (by simp [loopsOf, hb])) h).code hb ρ a w _ hs hn (fun j ρ' s' a' w' hag hle hs' hk => ?_) hr)
      simp only [Exit.inBlock]
      cases hji : (j == i)
      · rw [hji] at hk
        rw [if_neg (by simpa using hji)]
        exact he j ρ' s' a' w' hag hle hs' hk
      · rw [hji] at hk
        rw [if_pos (by simpa using hji)]
        exact hn ρ' s' a' w' hag hle hs' hk⟩
  | .loop b, s, n, e, r, hl, h => by
      simp only [ix] at h
      split at h
      · rename_i l hb
        have := hl b (by simp [loopsOf]) l hb W hE.glob X base s e r x h
        exact ⟨fun hb ρ a w Q hs _ he hr => this.code hb ρ a w Q hs (fun _ _ _ _ _ _ _ hf => hf.elim) he hr⟩
      · cases h
  | .exit i, s, n, e, r, _, h => ⟨fun hb ρ a w Q hs _ he _ => wp_exit (he i ρ s a w (Agree.refl _ _) hb hs h)⟩
  | .ret, s, n, e, r, _, h => ⟨fun hb ρ a w Q hs _ _ hr => wp_ret (hr ρ s a w (Agree.refl _ _) hb hs h)⟩
  | .rangeFunc .., _, _, _, _, _, h => by simp only [ix] at h; cases h
  | .scope _, _, _, _, _, _, h => by simp only [ix] at h; cases h
  | .label _, _, _, _, _, _, h => by simp only [ix] at h; cases h
  | .goto _, _, _, _, _, _, h => by simp only [ix] at h; cases h
  | .refuse _, _, _, _, _, _, h => by simp only [ix] at h; cases h
end
end Go.Ma
