/-
  Parts: MaI MaF MaG MaR MaH MaJ Pa Va Vb Pb MaS MaO MaT MaW.
-/
import Derived.ProofKit
import Derived.Deep.Slices
import Derived.Below
import Derived.LoopN
import Derived.Deep.LoopGhost
import Derived.Laws.StructEq
import Derived.IntWalk
import Derived.Test.YtfkfpgoicmfpkaaGreatDoorZz1
set_option linter.unusedVariables false
set_option linter.unusedSimpArgs false
namespace Go.Ma
open Go Go.RowKit
section
variable {T : Nat → TI} {E : Env} {t t' : List SV} {m : Mem}
theorem map_ev {l : List Operand} (h : ∀ x ∈ l, ev t x = ev t' x) : l.map (ev t) = l.map (ev t') := List.map_congr_left h
theorem buildS_congr {fs : List (Nat × TypeId)} : ∀ (ps : List (Nat × Operand)) (cs : List SV), (∀ p ∈ ps, ev t p.2 = ev t' p.2) → buildS T t fs ps cs = buildS T t' fs ps cs
 | [], _, _ => rfl
 | (i, x) :: r, cs, h => by
  have hx : ev t x = ev t' x := h (i, x) (by simp)
  simp only [buildS, hx]
  cases fs[i]? with
  | none => rfl
  | some q =>
   simp only
   split
   ·rfl
   ·exact buildS_congr r _ fun p hp => h p (by simp [hp])
theorem litCells_congr {sz n : Nat} : ∀ (ps : List (Nat × Operand)) (cs : List SV), (∀ p ∈ ps, ev t p.2 = ev t' p.2) → litCells t sz n ps cs = litCells t' sz n ps cs
 | [], _, _ => rfl
 | (i, x) :: r, cs, h => by
  have hx : ev t x = ev t' x := h (i, x) (by simp)
  simp only [litCells, hx]
  split
  ·rfl
  ·exact litCells_congr r _ fun p hp => h p (by simp [hp])
theorem opq_congr (op : Op) (h : ∀ x ∈ op.operands, ev t x = ev t' x) : opq T t m op = opq T t' m op := by
 cases op <;> simp only [Op.operands] at h <;> simp only [opq]
 case move x => rw [h x (by simp)]
 case assign x => rw [h x (by simp)]
 case pick c a b => rw [h c (by simp), h a (by simp), h b (by simp)]
 case load ty a => rw [h a (by simp)]
 case fieldAddr ty x f => rw [h x (by simp)]
 case field ty x f => rw [h x (by simp)]
 case build ty ps => rw [buildS_congr ps.toList _ (fun p hp => h p.2 (by simp; exact ⟨p.1, by simpa using hp⟩))]
 case binOp o ty x y yt => rw [h x (by simp), h y (by simp)]
 case unOp o ty x => cases o <;> simp only [opq] <;> first | rfl | rw [h x (by simp)]
 case convert a b x => rw [h x (by simp)]
 case extract x i => rw [h x (by simp)]
 case nilCheck x => rw [h x (by simp)]
 case makeFunc fn first caps =>
  have hc : caps.toList.map (ev t) = caps.toList.map (ev t') := map_ev fun x hx => h x (by simp at hx ⊢; exact .inr hx)
  have ha : caps.toList.all (fun x => !(ev t x).isAny) = caps.toList.all (fun x => !(ev t' x).isAny) := by
   have := congrArg (fun l => List.all l (fun s : SV => !s.isAny)) hc
   simpa [List.all_map, Function.comp_def] using this
  cases fn <;> simp only [opq, hc, ha]
 case index ty x i => rw [h x (by simp), h i (by simp)]
 case indexAddr ty x i => rw [h x (by simp), h i (by simp)]
 case slice ty x lo hi mx =>
  have hx := h x (by simp)
  cases mx with
  | some _ => simp only [opq]
  | none => cases lo <;> cases hi <;> simp only [opq, hx] <;> simp_all
 case call c =>
  split
  ·rename_i x at_ hc hargs hat
   have hx := h x (by simp [Call.operands]; exact .inr (by rw [← Array.mem_toList_iff, hargs]; simp))
   rw [hx]
  ·rename_i x y hc hargs
   have hx := h x (by simp [Call.operands]; exact .inr (by rw [← Array.mem_toList_iff, hargs]; simp))
   have hy := h y (by simp [Call.operands]; exact .inr (by rw [← Array.mem_toList_iff, hargs]; simp))
   rw [hx, hy]
  ·rfl
theorem opa_congr (op : Op) (h : ∀ x ∈ op.operands, ev t x = ev t' x) : opa T t op = opa T t' op := by
 cases op <;> simp only [Op.operands] at h <;> simp only [opa]
 case box ty x => rw [h x (by simp)]
 case buildSlice ty n ps => rw [litCells_congr ps.toList _ (fun p hp => h p.2 (by simp; exact ⟨p.1, by simpa using hp⟩))]
theorem opst_congr (op : Op) (h : ∀ x ∈ op.operands, ev t x = ev t' x) : opst T t m op = opst T t' m op := by
 cases op <;> simp only [Op.operands] at h <;> simp only [opst]
 case store ty a x => rw [h a (by simp), h x (by simp)]
theorem oprd_congr (op : Op) (h : ∀ x ∈ op.operands, ev t x = ev t' x) : oprd T t m op = oprd T t' m op := by
 cases op <;> simp only [Op.operands] at h <;> simp only [oprd]
 case load ty a => rw [h a (by simp)]
theorem bndE_congr {x : Option Operand} {d : Int} (h : ∀ y, x = some y → ev t y = ev t' y) : bndE t x d = bndE t' x d := by
 cases x with
 | none => rfl
 | some y => simp only [bndE, h y rfl]
theorem opsl_congr (op : Op) (h : ∀ x ∈ op.operands, ev t x = ev t' x) : opsl T t m op = opsl T t' m op := by
 cases op <;> simp only [Op.operands] at h <;> simp only [opsl]
 case slice ty x lo hi mx =>
  cases mx with
  | some _ => simp only [opsl]
  | none =>
   have hx := h x (by simp)
   have hlo : ∀ d, bndE t lo d = bndE t' lo d := fun d => bndE_congr fun y hy => h y (by simp [hy])
   have hhi : ∀ d, bndE t hi d = bndE t' hi d := fun d => bndE_congr fun y hy => h y (by simp [hy])
   simp only [opsl, hx, hlo, hhi]
theorem opsr_congr (op : Op) (h : ∀ x ∈ op.operands, ev t x = ev t' x) : opsr T t m op = opsr T t' m op := by
 cases op <;> simp only [Op.operands] at h <;> simp only [opsr]
 case store ty a x => rw [h a (by simp), h x (by simp)]
theorem opap_congr (op : Op) (h : ∀ x ∈ op.operands, ev t x = ev t' x) : opap T t m op = opap T t' m op := by
 cases op <;> simp only [Op.operands] at h <;> simp only [opap]
 case call c =>
  split
  ·rename_i x y ty ty' hc hargs hat
   have hx := h x (by simp [Call.operands]; exact .inr (by rw [← Array.mem_toList_iff, hargs]; simp))
   have hy := h y (by simp [Call.operands]; exact .inr (by rw [← Array.mem_toList_iff, hargs]; simp))
   simp only [ownRow, srcRow, hx, hy]
  ·rfl
theorem opcall_congr (op : Op) (h : ∀ x ∈ op.operands, ev t x = ev t' x) : opcall E t op = opcall E t' op := by
 cases op <;> simp only [Op.operands] at h <;> simp only [opcall]
 case call c =>
  split
  ·rename_i f hf
   have h1 := h f (by simp [Call.operands, hf])
   have h2 : c.args.toList.map (ev t) = c.args.toList.map (ev t') := map_ev fun x hx => h x (by simp [Call.operands]; exact .inr (by simpa using hx))
   simp only [h1, h2]
  ·rfl
theorem opnl_congr (oty : TypeId) (op : Op) (h : ∀ x ∈ op.operands, ev t x = ev t' x) : opnl T t m oty op = opnl T t' m oty op := by
 cases op
 case buildSlice ty n ps =>
  simp only [Op.operands] at h
  have : ∀ cs, litCells t (T (T ty).elem).size n ps.toList cs = litCells t' (T (T ty).elem).size n ps.toList cs := fun cs => litCells_congr _ _ fun p hp => h p.2 (by simp; exact ⟨p.1, by simpa using hp⟩)
  simp only [opnl, this]
 all_goals rfl
theorem opan_congr (op : Op) (h : ∀ x ∈ op.operands, ev t x = ev t' x) : opan T t m op = opan T t' m op := by
 cases op <;> simp only [Op.operands] at h <;> simp only [opan]
 case call c =>
  split
  ·rename_i x y ty ty' hc hargs hat
   have h1 := h x (by simp [Call.operands]; exact .inr (by rw [← Array.mem_toList_iff, hargs]; simp))
   have h2 := h y (by simp [Call.operands]; exact .inr (by rw [← Array.mem_toList_iff, hargs]; simp))
   rw [h1, h2]
  ·rfl
theorem opsn_congr (op : Op) (h : ∀ x ∈ op.operands, ev t x = ev t' x) : opsn T t m op = opsn T t' m op := by
 cases op <;> simp only [Op.operands] at h <;> simp only [opsn]
 case store ty a x => rw [h a (by simp), h x (by simp)]
theorem opx0_congr {X : Type} (o : Oper) (k : SV → Mem → Option X) (h : ∀ x ∈ o.op.operands, ev t x = ev t' x) : opx0 E t o m k = opx0 E t' o m k := by
 unfold opx0
 rw [opnl_congr o.type o.op h, opq_congr o.op h, opa_congr o.op h, opst_congr o.op h, opap_congr o.op h, opan_congr o.op h, opsl_congr o.op h, oprd_congr o.op h, opsr_congr o.op h, opsn_congr o.op h, opcall_congr o.op h]
theorem post_congr {T : Nat → TI} (op : Op) (h : ∀ x ∈ op.operands, ev t x = ev t' x) (n : Nat) (m : Mem) : post T t n op m = post T t' n op m := by
 cases op <;> simp only [Op.operands] at h <;> simp only [post]
 case store ty a x => rw [h a (by simp)]
theorem pre_congr (op : Op) (h : ∀ x ∈ op.operands, ev t x = ev t' x) (m : Mem) : pre t m op = pre t' m op := by
 cases op <;> simp only [Op.operands] at h <;> simp only [pre]
 case call c =>
  split
  ·rename_i s r hc hargs
   have := h (.tmp s) (by simp [Call.operands]; exact .inr (by rw [← Array.mem_toList_iff, hargs]; simp))
   simp only [ev] at this
   rw [this]
  ·rfl
theorem pre_some {m : Mem} {op : Op} {c : Bool} {s : Nat} {m' : Mem} (h : pre t m op = some (c, s, m')) : ∃ cl r jb i, op = .call cl ∧ cl.callee = .builtin .append ∧ cl.args.toList = .tmp s :: r ∧ t.getD s .any = .inn jb i := by
 unfold pre at h
 split at h
 rotate_left
 ·cases h
 rename_i cl
 split at h
 rotate_left
 ·cases h
 rename_i s0 r hc hargs
 split at h
 rotate_left
 ·cases h
 rename_i jb i hs
 obtain ⟨m2, hm2, he⟩ := Option.map_eq_some_iff.1 h
 simp only [Prod.mk.injEq] at he
 obtain ⟨_, rfl, _⟩ := he
 exact ⟨cl, r, jb, i, rfl, hc, hargs, hs⟩
theorem opx_congr {X : Type} (o : Oper) (k : SV → Mem → Option X) (h : ∀ x ∈ o.op.operands, ev t x = ev t' x) : opx E t o m k = opx E t' o m k := by
 unfold opx
 rw [pre_congr o.op h]
 simp only [post_congr o.op h]
 cases hp : pre t' m o.op with
 | none => exact opx0_congr o _ h
 | some z =>
  obtain ⟨c, s, m'⟩ := z
  simp only
  congr 1
  obtain ⟨cl, r, jb, i, hop, hc, hargs, hs⟩ := pre_some hp
  have hs' : t.getD s .any = .inn jb i := by
   have := h (.tmp s) (by rw [hop]; simp [Op.operands, Call.operands]; exact .inr (by rw [← Array.mem_toList_iff, hargs]; simp))
   simp only [ev] at this
   rw [this, hs]
  have hlt : ∀ {u : List SV}, u.getD s .any = .inn jb i → s < u.length := fun {u} hu => by
   rcases Nat.lt_or_ge s u.length with h | h
   ·exact h
   ·rw [List.getD_eq_getElem?_getD, List.getElem?_eq_none h] at hu; cases hu
  refine opx0_congr o _ fun x hx => ?_
  have := h x hx
  cases x with
  | tmp q =>
   simp only [ev, List.getD_eq_getElem?_getD] at this ⊢
   by_cases hq : q = s
   ·subst hq
    rw [List.getElem?_set_self (hlt hs'), List.getElem?_set_self (hlt hs)]
   ·rw [List.getElem?_set_ne (fun e => hq e.symm), List.getElem?_set_ne (fun e => hq e.symm)]
    exact this
  | _ => rfl
end
def LawEnv (E : Env) : Prop := ∀ f g, E.call f = some g → g.det = true
def runO (E : Env) (t : List SV) (o : Oper) (m : Mem) : Option (SV × Mem) := opx E t o m fun v m' => some (v, m')
section
variable {P : Program} {E : Env} {t : List SV} {m : Mem} {o : Oper}
theorem opx0_law (hE : EnvOk P E) {X : Type} {k : SV → Mem → Option X} {x : X} (hl : ∀ g args, opcall E t o.op = some (g, args) → g.det = true) (h : opx0 E t o m k = some x) :
  ∃ v m', opx0 E t o m (fun v m' => some (v, m')) = some (v, m') ∧ k v m' = some x := by
 unfold opx0 at h ⊢
 split at h
 ·exact ⟨_, _, rfl, h⟩
 split at h
 ·exact ⟨_, _, rfl, h⟩
 split at h
 ·obtain ⟨hc, h⟩ := req_some h
  subst hc
  exact ⟨_, _, rfl, h⟩
 split at h
 ·exact ⟨_, _, rfl, h⟩
 split at h
 ·split at h
  ·rename_i hd
   exact ⟨_, _, by rw [if_pos hd], h⟩
  ·cases h
 split at h
 ·obtain ⟨hc, h⟩ := req_some h
  subst hc
  exact ⟨_, _, rfl, h⟩
 split at h
 ·obtain ⟨hc, h⟩ := req_some h
  subst hc
  exact ⟨_, _, rfl, h⟩
 split at h
 ·obtain ⟨hc, h⟩ := req_some h
  subst hc
  exact ⟨_, _, rfl, h⟩
 split at h
 ·obtain ⟨y, hy, h⟩ := Option.bind_eq_some_iff.1 h
  split at h
  ·rename_i v hv
   exact ⟨v, m, by simp only [hy, Option.bind_some, hv], h⟩
  ·cases h
 split at h
 ·split at h
  ·rename_i hd
   obtain ⟨y, hy, h⟩ := Option.bind_eq_some_iff.1 h
   split at h
   ·rename_i b hb
    exact ⟨.any, _, by rw [if_pos hd, hy, Option.bind_some, hb], h⟩
   ·cases h
  ·cases h
 split at h
 ·split at h
  ·rename_i hd
   obtain ⟨hcr, h⟩ := req_some h
   obtain ⟨y, hy, h⟩ := Option.bind_eq_some_iff.1 h
   split at h
   ·rename_i b hb
    exact ⟨.any, _, by rw [if_pos hd, hcr, hy, Option.bind_some, hb]; rfl, h⟩
   ·cases h
  ·cases h
 split at h
 ·rename_i g args hcall
  obtain ⟨f, hf⟩ : ∃ f, TrOk P f g := by
   unfold opcall at hcall
   split at hcall
   ·split at hcall
    ·split at hcall
     ·rename_i n _ _
      split at hcall
      ·obtain ⟨g', hg', he⟩ := Option.map_eq_some_iff.1 hcall
       cases he
       exact ⟨n, hE.call n _ hg'⟩
      ·cases hcall
     ·cases hcall
    ·cases hcall
   ·cases hcall
  obtain ⟨r, m', h1, h2, _⟩ := hf.2.2 (hl g args hcall) X args m k x h
  exact ⟨r, m', h1, h2⟩
 ·cases h
theorem opx0_nat {X : Type} {k : SV → Mem → Option X} {x : X} (hc : opcall E t o.op = none) {v : SV} {m' : Mem} (h : opx0 E t o m (fun v m' => some (v, m')) = some (v, m')) : opx0 E t o m k = k v m' := by
 unfold opx0 at h ⊢
 split at h
 ·cases h; rfl
 split at h
 ·cases h; rfl
 split at h
 ·obtain ⟨hc, h⟩ := req_some h
  cases h; subst hc; rfl
 split at h
 ·cases h; rfl
 split at h
 ·split at h
  ·rename_i hd; cases h; rw [if_pos hd]
  ·cases h
 split at h
 ·obtain ⟨hc, h⟩ := req_some h
  cases h; subst hc; rfl
 split at h
 ·obtain ⟨hc, h⟩ := req_some h
  cases h; subst hc; rfl
 split at h
 ·obtain ⟨hc, h⟩ := req_some h
  cases h; subst hc; rfl
 split at h
 ·obtain ⟨y, hy, h⟩ := Option.bind_eq_some_iff.1 h
  split at h
  ·rename_i v hv
   cases h
   simp only [hy, Option.bind_some, hv]
  ·cases h
 split at h
 ·split at h
  ·rename_i hd
   obtain ⟨y, hy, h⟩ := Option.bind_eq_some_iff.1 h
   split at h
   ·rename_i b hb
    cases h
    rw [if_pos hd, hy, Option.bind_some, hb]
   ·cases h
  ·cases h
 split at h
 ·split at h
  ·rename_i hd
   obtain ⟨hcr, h⟩ := req_some h
   obtain ⟨y, hy, h⟩ := Option.bind_eq_some_iff.1 h
   split at h
   ·rename_i b hb
    cases h
    rw [if_pos hd, hcr, hy, Option.bind_some, hb]
    rfl
   ·cases h
  ·cases h
 split at h
 ·rename_i hcall
  rw [hc] at hcall
  cases hcall
 ·cases h
theorem call_plain {op : Op} {g : Con} {args : List SV} (h : opcall E t op = some (g, args)) (T : Nat → TI) (m : Mem) : pre t m op = none ∧ ∀ n m, post T t n op m = m := by
 unfold opcall at h
 split at h
 ·split at h
  ·rename_i c _ hc
   refine ⟨?_, fun n m => rfl⟩
   simp only [pre, hc]
  ·cases h
 ·cases h
theorem opx_law (hE : EnvOk P E) {X : Type} {k : SV → Mem → Option X} {x : X} (hg : growOp E o.op = true ∨ (∃ v m', runO E t o m = some (v, m')) ∨ True) (hl : ∀ g args, opcall E t o.op = some (g, args) → g.det = true) (h : opx E t o m k = some x) :
  ∃ v m', runO E t o m = some (v, m') ∧ k v m' = some x := by
 cases hc : opcall E t o.op with
 | some z =>
  obtain ⟨g, args⟩ := z
  obtain ⟨hp, hq⟩ := call_plain hc E.T m
  unfold runO
  unfold opx at h ⊢
  simp only [hp, hq] at h ⊢
  exact opx0_law hE hl h
 | none =>
  unfold runO
  unfold opx at h ⊢
  cases hp : pre t m o.op with
  | none =>
   simp only [hp] at h ⊢
   obtain ⟨v, m', h1, h2⟩ := opx0_law hE hl h
   exact ⟨v, _, opx0_nat (x := (v, m')) hc h1, h2⟩
  | some z =>
   obtain ⟨c, s, m1⟩ := z
   simp only [hp] at h ⊢
   obtain ⟨hcc, h⟩ := req_some h
   rw [hcc]
   simp only [req]
   obtain ⟨cl, r, jb, i, hop, hcl, _⟩ := pre_some hp
   have hc' : opcall E (t.set s (.row (m1.length - 1))) o.op = none := by
    rw [hop]
    simp only [opcall, hcl]
   obtain ⟨v, m', h1, h2⟩ := opx0_law hE (fun g args h => by rw [hc'] at h; cases h) h
   exact ⟨v, _, opx0_nat (x := (v, m')) hc' h1, h2⟩
theorem grow_run (hE : EnvOk P E) (hL : LawEnv E) (hg : growOp E o.op = true) {v : SV} {m' : Mem} (h : runO E t o m = some (v, m')) : ∃ os, m' = m ++ os := by
 have hpre : pre t m o.op = none := by
  cases hp : pre t m o.op with
  | none => rfl
  | some z =>
   obtain ⟨c, s, m1⟩ := z
   obtain ⟨cl, r, jb, i, hop, hcl, _⟩ := pre_some hp
   rw [hop] at hg
   simp [growOp, hcl] at hg
 have hpost : ∀ os, ∃ os', post E.T t m.length o.op (m ++ os) = m ++ os' := fun os => by
  cases hop : o.op <;> rw [hop] at hg <;> first | exact lay_app _ _ _ m os (Nat.le_refl _) | exact ⟨os, rfl⟩ | (simp [growOp] at hg; done)
 have hpost0 : ∃ os', post E.T t m.length o.op m = m ++ os' := by simpa using hpost []
 unfold runO opx at h
 simp only [hpre] at h
 unfold opx0 at h
 split at h
 ·cases h; exact hpost _
 split at h
 ·rename_i m1 hnl
  cases h
  suffices hx : ∃ os, m1 = m ++ os by
   obtain ⟨os, rfl⟩ := hx
   exact hpost os
  have nilc : ∀ {op : Op}, opnlN E.T m o.type op = some m1 → ∃ os, m1 = m ++ os := fun {op} hnl => by
   unfold opnlN at hnl
   split at hnl
   ·split at hnl
    ·split at hnl
     ·injection hnl with hnl; exact ⟨_, hnl.symm⟩
     ·cases hnl
    ·cases hnl
   ·split at hnl
    ·split at hnl
     ·injection hnl with hnl; exact ⟨_, hnl.symm⟩
     ·cases hnl
    ·cases hnl
   ·obtain ⟨f, _, rfl⟩ := Option.map_eq_some_iff.1 hnl
    exact ⟨_, rfl⟩
   ·cases hnl
  unfold opnl at hnl
  split at hnl
  ·rename_i hop
   rw [hop] at hg
   simp only [growOp] at hg
   split at hnl
   ·rename_i hnk
    rw [hnk] at hg
    cases hg
   ·cases hnl
  ·exact nilc hnl
 split at h
 ·obtain ⟨_, h⟩ := req_some h
  cases h; exact hpost0
 split at h
 ·cases h; exact hpost _
 split at h
 ·rename_i hst
  cases hop : o.op <;> rw [hop] at hst hg <;> simp [opst, growOp] at hst hg
 split at h
 ·rename_i hap
  cases hop : o.op <;> rw [hop] at hap hg <;> simp only [opap] at hap <;> try (cases hap; done)
  rename_i c
  split at hap
  ·rename_i hc _ _
   simp [growOp, hc] at hg
  ·cases hap
 split at h
 ·rename_i hap
  cases hop : o.op <;> rw [hop] at hap hg <;> simp only [opan] at hap <;> try (cases hap; done)
  rename_i c
  split at hap
  ·rename_i hc _ _
   simp [growOp, hc] at hg
  ·cases hap
 split at h
 ·rename_i hsl
  cases hop : o.op <;> rw [hop] at hsl hg <;> simp only [opsl] at hsl <;> try (cases hsl; done)
  rename_i ty x lo hi mx
  cases mx with
  | some _ => simp only [opsl] at hsl; cases hsl
  | none =>
   simp only [opsl] at hsl
   split at hsl
   ·rename_i hk hkd _
    simp [growOp, hkd] at hg
   ·cases hsl
 split at h
 ·obtain ⟨y, hy, h⟩ := Option.bind_eq_some_iff.1 h
  split at h
  ·cases h; exact hpost0
  ·cases h
 split at h
 ·rename_i hsr
  cases hop : o.op <;> rw [hop] at hsr hg <;> simp [opsr, growOp] at hsr hg
 split at h
 ·rename_i hsr
  cases hop : o.op <;> rw [hop] at hsr hg <;> simp [opsn, growOp] at hsr hg
 split at h
 ·rename_i g args hcall
  unfold opcall at hcall
  split at hcall
  ·rename_i c hop
   split at hcall
   ·rename_i f hc
    split at hcall
    ·rename_i n caps hf
     split at hcall
     ·obtain ⟨g', hg', he⟩ := Option.map_eq_some_iff.1 hcall
      cases he
      have hlaw : g.law = true := by
       rw [hop] at hg
       cases f <;> simp only [growOp, hc] at hg <;> try (cases hg; done)
       rename_i ff
       have : n = ff := by
        simp only [ev] at hf
        cases hf
        rfl
       subst this
       rw [hg'] at hg
       exact hg
      obtain ⟨r, m1, h1, h2, h3⟩ := (hE.call n g hg').2.2 (hL n g hg') _ _ m _ _ h
      cases h2
      obtain ⟨os, rfl⟩ := h3 hlaw
      exact hpost os
     ·cases hcall
    ·cases hcall
   ·cases hcall
  ·cases hcall
 ·cases h
theorem get_app {m os : Mem} {j : Nat} {ob : Obj} (h : m[j]? = some ob) : (m ++ os)[j]? = some ob := by
 rw [List.getElem?_append_left (List.getElem?_eq_some_iff.1 h).1]; exact h
theorem opq_app {T : Nat → TI} {op : Op} {os : Mem} {r : Bool × SV} (h : opq T t m op = some r) : opq T t (m ++ os) op = some r := by
 cases op <;> try (simp only [opq] at h ⊢; exact h)
 case unOp o ty x => cases o <;> simp only [opq] at h ⊢ <;> exact h
 case makeFunc fn first caps => cases fn <;> simp only [opq] at h ⊢ <;> exact h
 case slice ty x lo hi mx => cases mx <;> simp only [opq] at h ⊢ <;> exact h
 case load ty a =>
  simp only [opq] at h ⊢
  split at h
  ·next j off hx =>
   split at h
   ·next hj => rw [get_app hj]; exact h
   ·cases h
  ·next j n sz off hx =>
   split at h
   ·next hj => rw [get_app hj]; exact h
   ·cases h
  ·cases h
 case fieldAddr ty x f =>
  simp only [opq] at h ⊢
  split at h
  ·split at h
   ·next hc =>
    rw [if_pos hc]
    split at h
    ·split at h
     ·next hj => rw [get_app hj]; exact h
     ·cases h
    ·split at h
     ·next hj => rw [get_app hj]; exact h
     ·cases h
    ·split at h
     ·next hj => rw [get_app hj]; exact h
     ·cases h
    ·cases h
   ·cases h
  ·cases h
 case convert a b x =>
  simp only [opq] at h ⊢
  split at h
  ·exact h
  ·split at h
   ·next hj => simp only [*, get_app hj]
   ·cases h
  ·cases h
 case nilCheck x =>
  simp only [opq] at h ⊢
  split at h
  ·split at h
   ·next hj => rw [get_app hj]; exact h
   ·cases h
  ·split at h
   ·next hj => rw [get_app hj]; exact h
   ·cases h
  ·cases h
 case indexAddr ty x i =>
  simp only [opq] at h ⊢
  split at h
  ·split at h
   ·next hj => rw [get_app hj]; exact h
   ·cases h
  ·split at h
   ·next hj => rw [get_app hj]; exact h
   ·cases h
  ·cases h
 case call c =>
  simp only [opq] at h ⊢
  split at h
  ·split at h
   ·exact h
   ·split at h
    ·next hj => rw [get_app hj]; exact h
    ·cases h
   ·split at h
    ·next hj => rw [get_app hj]; exact h
    ·cases h
   ·exact h
   ·cases h
  ·exact h
  ·cases h
theorem oprd_app {T : Nat → TI} {op : Op} {os : Mem} {r : RdL} (h : oprd T t m op = some r) : oprd T t (m ++ os) op = some r := by
 cases op <;> try (simp only [oprd] at h ⊢; exact h)
 case load ty a =>
  simp only [oprd] at h ⊢
  split at h
  ·split at h
   ·next hj => rw [get_app hj]; exact h
   ·next hj => rw [get_app hj]; exact h
   ·cases h
  ·split at h
   ·next hj => rw [get_app hj]; exact h
   ·cases h
  ·cases h
theorem opnlN_none {T : Nat → TI} {m m' : Mem} {oty : TypeId} {op : Op} (h : opnlN T m oty op = none) : opnlN T m' oty op = none := by
 unfold opnlN at h ⊢
 split at h
 ·split at h
  ·split at h
   ·cases h
   ·rename_i hc
    rw [if_neg hc]
  ·rfl
 ·split at h
  ·split at h
   ·cases h
   ·rename_i hc
    rw [if_neg hc]
  ·rfl
 ·rw [Option.map_eq_none_iff] at h ⊢; exact h
 ·rfl
theorem opnl_none {T : Nat → TI} {t t' : List SV} {m m' : Mem} {oty : TypeId} {op : Op} (hq : (opq T t m op).isSome = true ∨ (oprd T t m op).isSome = true) (h : (opnl T [] [] oty op).isNone = true) : opnl T t' m' oty op = none := by
 have h' : opnl T [] [] oty op = none := by simpa using h
 cases op
 case buildSlice ty n ps => rcases hq with hq | hq <;> cases hq
 case makeSlice ty x y => rcases hq with hq | hq <;> cases hq
 case move x => exact opnlN_none (m := []) (op := .move x) h'
 case assign x => exact opnlN_none (m := []) (op := .assign x) h'
 all_goals rfl
end
theorem lawE_ok {P : Program} {E : Env} (hE : EnvOk P E) : EnvOk P (lawE E) := ⟨hE.T, hE.B, fun f g h => by
 simp only [lawE] at h
 split at h
 ·rename_i g' hg'
  split at h
  ·injection h with h; subst h; exact hE.call f _ hg'
  ·cases h
 ·cases h⟩
theorem lawE_law (E : Env) : LawEnv (lawE E) := fun f g h => by
 simp only [lawE] at h
 split at h
 ·split at h
  ·rename_i hl; injection h with h; subst h; exact hl
  ·cases h
 ·cases h
theorem opcall_law {E : Env} (hL : LawEnv E) {t : List SV} {op : Op} {g : Con} {args : List SV} (h : opcall E t op = some (g, args)) : g.det = true := by
 unfold opcall at h
 split at h
 ·split at h
  ·split at h
   ·split at h
    ·obtain ⟨g', hg', he⟩ := Option.map_eq_some_iff.1 h
     cases he
     exact hL _ _ hg'
    ·cases h
   ·cases h
  ·cases h
 ·cases h
theorem set_same {t : List SV} {d : Nat} {b : Bool} (h : t.getD d .any = .b b) : t.set d (.b b) = t := by
 apply List.ext_getElem?
 intro k
 by_cases hk : d = k
 ·subst hk
  rw [List.getD_eq_getElem?_getD] at h
  cases hx : t[d]? with
  | none => rw [hx] at h; cases h
  | some y =>
   rw [hx] at h
   simp only [Option.getD_some] at h
   rw [List.getElem?_set_self (List.getElem?_eq_some_iff.1 hx).1, h]
 ·rw [List.getElem?_set_ne hk]
section
variable {P : Program} {E : Env} {ops : Array Oper}
inductive Ran (E : Env) (ops : Array Oper) (o : Oper) (t : List SV) (m : Mem) (v : SV) (m' : Mem) : Prop where
 | run (h : runO E t o m = some (v, m')) (hw : ∀ j want, o.guard = some (j, want) → ∃ d, (ops[j]?).bind (·.dst) = some d ∧ t.getD d .any = .b want)
 | skip (hv : v = .undef) (hm : m' = m) (j : Nat) (want : Bool) (hg : o.guard = some (j, want)) (d : Nat) (hd : (ops[j]?).bind (·.dst) = some d) (hs : t.getD d .any = .b (!want) ∨ t.getD d .any = .undef)
theorem step_ran (hE : EnvOk P E) (hL : LawEnv E) {X : Type} {i : Nat} {o : Oper} (ho : ops[i]? = some o) {s : St} {k : St → Option X} {x : X} (h : stepC E ops i s k = some x) :
  ∃ v m', Ran E ops o s.t s.m v m' ∧ k ⟨put s.t o.dst v, m'⟩ = some x := by
 unfold stepC at h
 simp only [ho] at h
 have law := fun t => opx_law (t := t) (m := s.m) (o := o) hE (k := fun v m => k ⟨put t o.dst v, m⟩) (x := x) (.inr (.inr trivial)) (fun g args hc => opcall_law hL hc)
 split at h
 ·rename_i hg
  obtain ⟨v, m', h1, h2⟩ := law s.t h
  exact ⟨v, m', .run h1 (fun j want he => by rw [hg] at he; cases he), h2⟩
 ·rename_i j want hg
  split at h
  ·cases h
  ·rename_i d hd
   split at h
   ·rename_i e he
    cases want
    ·simp only at h
     rcases br_some h with ⟨rfl, h⟩ | ⟨rfl, h⟩
     ·rw [set_same he] at h
      exact ⟨.undef, s.m, .skip rfl rfl j false hg d hd (.inl he), h⟩
     ·rw [set_same he] at h
      obtain ⟨v, m', h1, h2⟩ := law s.t h
      exact ⟨v, m', .run h1 (fun j' want' hg' => by rw [hg] at hg'; cases hg'; exact ⟨d, hd, he⟩), h2⟩
    ·simp only at h
     rcases br_some h with ⟨rfl, h⟩ | ⟨rfl, h⟩
     ·rw [set_same he] at h
      obtain ⟨v, m', h1, h2⟩ := law s.t h
      exact ⟨v, m', .run h1 (fun j' want' hg' => by rw [hg] at hg'; cases hg'; exact ⟨d, hd, he⟩), h2⟩
     ·rw [set_same he] at h
      exact ⟨.undef, s.m, .skip rfl rfl j true hg d hd (.inl he), h⟩
   ·rename_i he
    exact ⟨.undef, s.m, .skip rfl rfl j want hg d hd (.inr he), h⟩
   ·cases h
theorem getD_put {t : List SV} {dst : Option Nat} {v : SV} {d : Nat} (h : dst ≠ some d) : (put t dst v).getD d .any = t.getD d .any := by
 cases dst with
 | none => rfl
 | some e =>
  simp only [put, List.getD_eq_getElem?_getD]
  rw [List.getElem?_set_ne (by rintro rfl; exact h rfl)]
theorem put_comm' (t : List SV) {a b : Option Nat} (v u : SV) (h : ∀ d, a = some d → b ≠ some d) : put (put t a v) b u = put (put t b u) a v := by
 cases a with
 | none => rfl
 | some d =>
  cases b with
  | none => rfl
  | some e =>
   have hne : d ≠ e := fun he => h d rfl (he ▸ rfl)
   exact List.set_comm _ _ hne
def SameAt (ops : Array Oper) (o : Oper) (t t' : List SV) : Prop := ∀ d ∈ o.looksAt ops, t'.getD d .any = t.getD d .any
theorem SameAt.ev {o : Oper} {t t' : List SV} (h : SameAt ops o t t') : ∀ x ∈ o.op.operands, Ma.ev t' x = Ma.ev t x := by
 intro x hx
 cases x with
 | tmp d => exact h d (List.mem_append_left _ (List.mem_filterMap.2 ⟨.tmp d, by simpa using hx, rfl⟩))
 | _ => rfl
theorem SameAt.guard {o : Oper} {t t' : List SV} (h : SameAt ops o t t') {j d : Nat} {want : Bool} (hg : o.guard = some (j, want)) (hd : (ops[j]?).bind (·.dst) = some d) : t'.getD d .any = t.getD d .any :=
 h d (List.mem_append_right _ (by simp [hg, hd]))
theorem Ran.same {o : Oper} {t t' : List SV} {m m' : Mem} {v : SV} (h : Ran E ops o t m v m') (hs : SameAt ops o t t') : Ran E ops o t' m v m' := by
 cases h with
 | run hr hw =>
  refine .run ?_ (fun j want hg => ?_)
  ·unfold runO at hr ⊢
   rw [opx_congr o _ hs.ev]
   exact hr
  ·obtain ⟨d, hd, he⟩ := hw j want hg
   exact ⟨d, hd, by rw [hs.guard hg hd]; exact he⟩
 | skip hv hm j want hg d hd hss =>
  refine .skip hv hm j want hg d hd ?_
  rw [hs.guard hg hd]
  exact hss
def QRan (E : Env) (ops : Array Oper) (o : Oper) (t : List SV) (m : Mem) (v : SV) : Prop := ∀ os, Ran E ops o t (m ++ os) v (m ++ os)
theorem quiet_plain {T : Nat → TI} {t0 : List SV} {m0 : Mem} {op : Op} (h : (opq T t0 m0 op).isSome = true ∨ (oprd T t0 m0 op).isSome = true) (t : List SV) (m : Mem) : pre t m op = none ∧ ∀ n m, post T t n op m = m := by
 cases op <;> first | exact ⟨rfl, fun _ _ => rfl⟩ | (exfalso; rcases h with h | h <;> cases h; done) | skip
 rename_i c
 refine ⟨?_, fun _ _ => rfl⟩
 unfold pre
 simp only
 split
 ·rename_i hc _
  exfalso
  rcases h with h | h
  ·simp [opq, hc] at h
  ·cases h
 ·rfl
theorem opx_quiet {X : Type} {t0 : List SV} {m0 : Mem} {o : Oper} (h : (opq E.T t0 m0 o.op).isSome = true ∨ (oprd E.T t0 m0 o.op).isSome = true) (t : List SV) (m : Mem) (k : SV → Mem → Option X) : opx E t o m k = opx0 E t o m k := by
 obtain ⟨h1, h2⟩ := quiet_plain h t m
 unfold opx
 rw [h1]
 simp only [h2]
theorem qran_of {o : Oper} {t : List SV} {m m' : Mem} {v : SV} (h : Ran E ops o t m v m') (hn : (opnil E.T o.type o.op).isNone = true) (hn2 : (opnl E.T [] [] o.type o.op).isNone = true) (hq : (opq E.T t m o.op).isSome = true ∨ (oprd E.T t m o.op).isSome = true) : m' = m ∧ QRan E ops o t m v := by
 cases h with
 | skip hv hm j want hg d hd hs => exact ⟨hm, fun os => .skip hv rfl j want hg d hd hs⟩
 | run hr hw =>
  have hn' : opnil E.T o.type o.op = none := by simpa using hn
  have hnl : ∀ m', opnl E.T t m' o.type o.op = none := fun m' => opnl_none hq hn2
  cases hqv : opq E.T t m o.op with
  | some cv =>
   obtain ⟨c, u⟩ := cv
   have hr' := hr
   unfold runO at hr'
   rw [opx_quiet hq] at hr'
   unfold opx0 at hr'
   simp only [hn', hnl, hqv] at hr'
   obtain ⟨hc, hr'⟩ := req_some hr'
   cases hr'
   subst hc
   refine ⟨rfl, fun os => .run ?_ hw⟩
   unfold runO
   rw [opx_quiet hq]
   unfold opx0
   simp only [hn', hnl, opq_app hqv]
   rfl
  | none =>
   rcases hq with hq | hq
   ·rw [hqv] at hq; cases hq
   ·obtain ⟨r, hrd⟩ := Option.isSome_iff_exists.1 hq
    obtain ⟨ty, ad, hop⟩ : ∃ ty ad, o.op = .load ty ad := by
     cases hop : o.op <;> rw [hop] at hrd <;> simp only [oprd] at hrd <;> first | exact ⟨_, _, rfl⟩ | cases hrd
    have hq0 : ∀ os, opq E.T t (m ++ os) o.op = none := by
     intro os
     rw [hop] at hrd hqv ⊢
     simp only [oprd] at hrd
     split at hrd
     ·next heq =>
      split at hrd
      ·next hj => simp only [opq, heq, get_app hj]
      ·next hj => simp only [opq, heq, get_app hj]
      ·cases hrd
     ·next heq => simp only [opq, heq]
     ·cases hrd
    have hrest : ∀ os, opa E.T t o.op = none ∧ opst E.T t (m ++ os) o.op = none ∧ opap E.T t (m ++ os) o.op = none ∧ opan E.T t (m ++ os) o.op = none ∧ opsl E.T t (m ++ os) o.op = none := by
     intro os
     rw [hop]
     exact ⟨rfl, rfl, rfl, rfl, rfl⟩
    have key : ∀ os, runO E t o (m ++ os) = ((geti r.l r.i).bind fun a => match r.val a with | some v => some (v, m ++ os) | none => none) := by
     intro os
     obtain ⟨h1, h2, h3, h3n, h4⟩ := hrest os
     unfold runO
     rw [opx_quiet (m0 := m) (t0 := t) (.inr hq)]
     unfold opx0
     simp only [hn', hnl, hq0 os, h1, h2, h3, h3n, h4, oprd_app hrd]
     rfl
    have hr0 := hr
    have k0 := key []
    rw [List.append_nil] at k0
    rw [k0] at hr0
    obtain ⟨y, hy, hr0⟩ := Option.bind_eq_some_iff.1 hr0
    split at hr0
    ·rename_i u hu
     cases hr0
     refine ⟨rfl, fun os => .run ?_ hw⟩
     rw [key os, hy, Option.bind_some, hu]
    ·cases hr0
theorem opq_at {T : Nat → TI} {t : List SV} {m m' : Mem} {op : Op} {r : Bool × SV} (hR : ∀ q ∈ refsAt t op, m'[q]? = m[q]?) (h : opq T t m op = some r) : opq T t m' op = some r := by
 have get : ∀ {x : Operand} {j : Nat}, x ∈ op.operands.toList → j ∈ (ev t x).refs → m'[j]? = m[j]? := fun {x j} hx hj => hR j (by
  unfold refsAt
  have : ∀ (l : List Operand), x ∈ l → j ∈ refsL (l.map (ev t)) := by
   intro l hl
   induction l with
   | nil => cases hl
   | cons y r ih =>
    simp only [List.map_cons, refsL, List.mem_append]
    rcases List.mem_cons.1 hl with rfl | hl
    ·exact .inl hj
    ·exact .inr (ih hl)
  exact this _ hx)
 cases op <;> try (simp only [opq] at h ⊢; exact h)
 case unOp o ty x => cases o <;> simp only [opq] at h ⊢ <;> exact h
 case makeFunc fn first caps => cases fn <;> simp only [opq] at h ⊢ <;> exact h
 case slice ty x lo hi mx => cases mx <;> simp only [opq] at h ⊢ <;> exact h
 case load ty a =>
  simp only [opq] at h ⊢
  split at h
  ·next j off hx => rw [get (x := a) (by simp [Op.operands]) (by rw [hx]; simp [SV.refs])]; exact h
  ·next j n sz off hx => rw [get (x := a) (by simp [Op.operands]) (by rw [hx]; simp [SV.refs])]; exact h
  ·cases h
 case fieldAddr ty x f =>
  simp only [opq] at h ⊢
  split at h
  ·split at h
   ·next hc =>
    rw [if_pos hc]
    split at h
    ·next j off hx => rw [get (x := x) (by simp [Op.operands]) (by rw [hx]; simp [SV.refs])]; exact h
    ·next j n sz off hx => rw [get (x := x) (by simp [Op.operands]) (by rw [hx]; simp [SV.refs])]; exact h
    ·next j n e sz off hx => rw [get (x := x) (by simp [Op.operands]) (by rw [hx]; simp [SV.refs])]; exact h
    ·cases h
   ·cases h
  ·cases h
 case convert a b x =>
  simp only [opq] at h ⊢
  split at h
  ·exact h
  ·next hx =>
   rw [get (x := x) (by simp [Op.operands]) (by rw [hx]; simp [SV.refs])]
   exact h
  ·cases h
 case nilCheck x =>
  simp only [opq] at h ⊢
  split at h
  ·next j off hx => rw [get (x := x) (by simp [Op.operands]) (by rw [hx]; simp [SV.refs])]; exact h
  ·next j n sz off hx => rw [get (x := x) (by simp [Op.operands]) (by rw [hx]; simp [SV.refs])]; exact h
  ·cases h
 case indexAddr ty x i =>
  simp only [opq] at h ⊢
  split at h
  ·next hx _ => rw [get (x := x) (by simp [Op.operands]) (by rw [hx]; simp [SV.refs])]; exact h
  ·next hx _ => rw [get (x := x) (by simp [Op.operands]) (by rw [hx]; simp [SV.refs])]; exact h
  ·cases h
 case call c =>
  simp only [opq] at h ⊢
  split at h
  ·next x at_ hc hargs hat =>
   have hmem : x ∈ (Op.call c).operands.toList := by simp [Op.operands, Call.operands]; exact .inr (by rw [← Array.mem_toList_iff, hargs]; simp)
   split at h
   ·exact h
   ·next hx => rw [get hmem (by rw [hx]; simp [SV.refs])]; exact h
   ·next hx => rw [get hmem (by rw [hx]; simp [SV.refs])]; exact h
   ·exact h
   ·cases h
  ·exact h
  ·cases h
theorem oprd_at {T : Nat → TI} {t : List SV} {m m' : Mem} {op : Op} {r : RdL} (hR : ∀ q ∈ refsAt t op, m'[q]? = m[q]?) (h : oprd T t m op = some r) : oprd T t m' op = some r := by
 cases op <;> try (simp only [oprd] at h ⊢; exact h)
 case load ty a =>
  simp only [oprd] at h ⊢
  split at h
  ·next hx => rw [hR _ (by simp [refsAt, Op.operands, hx, refsL, SV.refs])]; exact h
  ·next hx => rw [hR _ (by simp [refsAt, Op.operands, hx, refsL, SV.refs])]; exact h
  ·cases h
theorem lay_keep (j off : Nat) : ∀ (l : List (Nat × (K ⊕ (K × K × TypeId)) × TypeId)) (m : Mem) (q : Nat), q ≠ j → q < m.length → (layB j off l m)[q]? = m[q]?
 | [], _, _, _, _ => rfl
 | (o, kd, e) :: r, m, q, hq, hl => by
  unfold layB
  split
  ·split
   ·cases kd with
    | inl k => simp only; rw [lay_keep j off r _ q hq (by simp; omega), List.getElem?_set_ne (Ne.symm hq), List.getElem?_append_left hl]
    | inr x =>
     obtain ⟨hk, ik, ity⟩ := x
     simp only
     rw [lay_keep j off r _ q hq (by simp; omega), List.getElem?_set_ne (Ne.symm hq), List.getElem?_append_left hl]
   ·exact lay_keep j off r m q hq hl
  ·exact lay_keep j off r m q hq hl
theorem store_keep {E : Env} {t : List SV} {m : Mem} {o : Oper} {ty : TypeId} {a x : Operand} {j off : Nat} (hop : o.op = .store ty a x) (ha : ev t a = .ptr j off) {v : SV} {m' : Mem} (h : runO E t o m = some (v, m')) {q : Nat} (hq : q ≠ j) (hl : q < m.length) : m'[q]? = m[q]? := by
 unfold runO opx at h
 simp only [hop, pre] at h
 unfold opx0 at h
 simp only [hop, opnil, opnl, opnlN, opq, opa] at h
 split at h
 ·rename_i m1 hst
  split at h
  ·simp only [Option.some.injEq, Prod.mk.injEq] at h
   obtain ⟨_, rfl⟩ := h
   simp only [opst, ha] at hst
   split at hst
   ·split at hst
    ·injection hst with hst
     subst hst
     simp only [post, ha]
     rw [lay_keep _ _ _ _ _ hq (by simpa using hl), List.getElem?_set_ne (Ne.symm hq)]
    ·cases hst
   ·cases hst
  ·cases h
 ·simp [opap, opan, opsl, oprd, opsr, opsn, ha, opcall] at h
theorem goneL_len {own : Bool} : ∀ {js : List Nat} {m : Mem}, (goneL own js m).length = m.length := by
 intro js
 cases own
 ·simp only [goneL, Bool.false_eq_true, if_false]
  induction js with
  | nil => intro m; rfl
  | cons j r ih => intro m; rw [shutL, ih, List.length_set]
 ·simp only [goneL, if_true]
  induction js with
  | nil => intro m; rfl
  | cons j r ih => intro m; rw [killL, ih, List.length_set]
theorem killO_len (m : Mem) (j : Option Nat) : (killO m j).length = m.length := by cases j <;> simp [killO]
theorem killO_blk {m : Mem} {j : Option Nat} {q : Nat} {cs : List SV} {ty : TypeId} {own : Bool} (hq : m[q]? = some (.blk cs ty own)) (hj : ∀ k, j = some k → k ≠ q) : (killO m j)[q]? = m[q]? := by
 cases j with
 | none => rfl
 | some k => simp only [killO]; rw [List.getElem?_set_ne (hj k rfl)]
theorem goneL_blk {own : Bool} : ∀ {js : List Nat} {m : Mem} {q : Nat}, q ∉ js → (goneL own js m)[q]? = m[q]? := by
 intro js
 cases own
 ·simp only [goneL, Bool.false_eq_true, if_false]
  induction js with
  | nil => intro m q _; rfl
  | cons j r ih => intro m q h; simp only [List.mem_cons, not_or] at h; rw [shutL, ih h.2, List.getElem?_set_ne (Ne.symm h.1)]
 ·simp only [goneL, if_true]
  induction js with
  | nil => intro m q _; rfl
  | cons j r ih => intro m q h; simp only [List.mem_cons, not_or] at h; rw [killL, ih h.2, List.getElem?_set_ne (Ne.symm h.1)]
theorem slice_keep {E : Env} {t : List SV} {m : Mem} {o : Oper} {ty : TypeId} {x : Operand} {lo hi mx : Option Operand} (hop : o.op = .slice ty x lo hi mx) {v : SV} {m' : Mem} (h : runO E t o m = some (v, m')) {q : Nat} {cs : List SV} {bt : TypeId} {own : Bool} (hq : m[q]? = some (.blk cs bt own)) : m'[q]? = m[q]? := by
 have hql : q < m.length := (List.getElem?_eq_some_iff.1 hq).1
 unfold runO opx at h
 simp only [hop, pre, post] at h
 unfold opx0 at h
 simp only [hop, opnil, opnl, opnlN] at h
 split at h
 ·obtain ⟨_, h⟩ := req_some h
  simp only [Option.some.injEq, Prod.mk.injEq] at h
  rw [h.2]
 ·simp only [opa, opst, opap, opan] at h
  split at h
  ·rename_i e m1 hsl
   obtain ⟨_, h⟩ := req_some h
   simp only [Option.some.injEq, Prod.mk.injEq] at h
   obtain ⟨_, rfl⟩ := h
   cases mx with
   | some _ => simp only [opsl] at hsl; cases hsl
   | none =>
    simp only [opsl] at hsl
    split at hsl
    ·split at hsl
     ·rename_i hj
      split at hsl
      ·split at hsl
       ·simp only [Option.some.injEq, Prod.mk.injEq] at hsl
        obtain ⟨_, rfl⟩ := hsl
        rw [List.getElem?_append_left (by split <;> simp [killO] <;> exact hql)]
        refine killO_blk hq fun k hk e => ?_
        split at hk
        ·cases hk; rw [e, hq] at hj; cases hj
        ·cases hk
       ·cases hsl
      ·cases hsl
     ·cases hsl
    ·cases hsl
  ·simp [oprd, opsr, opsn, opcall] at h
theorem append_keep0 {E : Env} {t : List SV} {m : Mem} {o : Oper} {c : Call} (hop : o.op = .call c) (hc : c.callee = .builtin .append) {v : SV} {m' : Mem} (h : opx0 E t o m (fun v m' => some (v, m')) = some (v, m')) {q : Nat} {cs : List SV} {bt : TypeId} {own : Bool} (hq : m[q]? = some (.blk cs bt own)) : m'[q]? = m[q]? := by
 have hql : q < m.length := (List.getElem?_eq_some_iff.1 hq).1
 unfold opx0 at h
 simp only [hop, opnil, opnl, opnlN, opq, hc, opa, opst] at h
 split at h
 ·rename_i e m1 hap
  obtain ⟨_, h⟩ := req_some h
  simp only [Option.some.injEq, Prod.mk.injEq] at h
  obtain ⟨_, rfl⟩ := h
  simp only [opap, hc] at hap
  split at hap
  ·split at hap
   ·split at hap
    ·rename_i j c1 j' c2 hown _
     split at hap
     ·cases hap
     ·split at hap
      ·simp only [Option.some.injEq, Prod.mk.injEq] at hap
       obtain ⟨_, rfl⟩ := hap
       rw [List.getElem?_append_left (by rw [killO_len]; exact hql)]
       refine killO_blk hq fun k hk e => ?_
       subst hk
       unfold ownRow at hown
       split at hown
       ·simp at hown
       ·split at hown
        ·rename_i hj
         split at hown
         ·simp only [Option.some.injEq, Prod.mk.injEq] at hown
          rw [hown.1, e, hq] at hj; cases hj
         ·cases hown
        ·cases hown
       ·cases hown
      ·cases hap
    ·cases hap
   ·cases hap
  ·cases hap
 ·split at h
  ·rename_i e m1 han
   obtain ⟨_, h⟩ := req_some h
   simp only [Option.some.injEq, Prod.mk.injEq] at h
   obtain ⟨_, rfl⟩ := h
   simp only [opan, hc] at han
   split at han
   ·split at han
    ·split at han
     ·split at han
      ·rename_i bt1 a1 b1 bt2 b2 _ hna hnb
       split at han
       ·split at han
        ·simp only [Option.some.injEq, Prod.mk.injEq] at han
         obtain ⟨_, rfl⟩ := han
         obtain ⟨_, _, p1, p2⟩ := nstAt_ok hna
         obtain ⟨_, _, p3, p4⟩ := nstAt_ok hnb
         have hne : q ∉ [a1.jb, b2.jb] := by
          simp only [List.mem_cons, List.not_mem_nil, or_false, not_or]
          exact ⟨fun e => (by rw [e, p2] at hq; cases hq), fun e => (by rw [e, p4] at hq; cases hq)⟩
         rw [List.getElem?_append_left (by rw [killO_len, List.length_append, goneL_len]; omega)]
         simp only [killO]
         rw [List.getElem?_set_ne (fun e => by rw [e, hq] at p1; cases p1), List.getElem?_append_left (by rw [goneL_len]; exact hql), goneL_blk hne]
        ·cases han
       ·cases han
      ·cases han
     ·cases han
    ·cases han
   ·cases han
  ·simp [opsl, oprd, opsr, opsn, opcall, hc] at h
theorem append_keep {E : Env} {t : List SV} {m : Mem} {o : Oper} {c : Call} (hop : o.op = .call c) (hc : c.callee = .builtin .append) {v : SV} {m' : Mem} (h : runO E t o m = some (v, m')) {q : Nat} {cs : List SV} {bt : TypeId} {own : Bool} (hq : m[q]? = some (.blk cs bt own)) : m'[q]? = m[q]? := by
 unfold runO opx at h
 simp only [hop, post] at h
 split at h
 ·rename_i c1 s m1 hp
  obtain ⟨_, h⟩ := req_some h
  have hm1 : m1[q]? = m[q]? := by
   have hql : q < m.length := (List.getElem?_eq_some_iff.1 hq).1
   unfold pre at hp
   simp only [hc] at hp
   split at hp
   ·split at hp
    ·obtain ⟨m2, hm2, he⟩ := Option.map_eq_some_iff.1 hp
     simp only [Prod.mk.injEq] at he
     obtain ⟨_, _, rfl⟩ := he
     unfold takeM at hm2
     split at hm2
     ·rename_i hj
      injection hm2 with hm2
      subst hm2
      rw [List.getElem?_append_left (by simpa using hql), List.getElem?_set_ne (fun e => by rw [e, hq] at hj; cases hj)]
     ·cases hm2
    ·cases hp
   ·cases hp
  rw [append_keep0 hop hc h (by rw [hm1]; exact hq), hm1]
 ·exact append_keep0 hop hc h hq
theorem row_keep {E : Env} {t : List SV} {m : Mem} {o : Oper} (hop : rowOp o.op = true) {v : SV} {m' : Mem} (h : runO E t o m = some (v, m')) {q : Nat} {cs : List SV} {bt : TypeId} {own : Bool} (hq : m[q]? = some (.blk cs bt own)) : m'[q]? = m[q]? := by
 cases ho : o.op <;> rw [ho] at hop <;> simp only [rowOp] at hop <;> first | (cases hop; done) | exact slice_keep ho h hq | skip
 split at hop
 ·rename_i hc; exact append_keep ho hc h hq
 ·cases hop
inductive Waits (ops : Array Oper) : Nat → Nat → Prop where
 | here {j i : Nat} {o : Oper} {e : Edge} (ho : ops[j]? = some o) (he : e ∈ o.after) (hb : Region.binds .any e = true) (hi : e.on = i) : Waits ops j i
 | there {j i : Nat} {o : Oper} {e : Edge} (ho : ops[j]? = some o) (he : e ∈ o.after) (hb : Region.binds .any e = true) (hi : Waits ops e.on i) : Waits ops j i
def Closed (ops : Array Oper) (listed : Array Bool) : Prop := ∀ j o, ops[j]? = some o → listed.getD j false = true → ∀ e ∈ o.after, Region.binds .any e = true → listed.getD e.on false = true
theorem waits_listed {listed : Array Bool} (hc : Closed ops listed) {j i : Nat} (h : Waits ops j i) : (∀ o, ops[j]? = some o → ∀ e ∈ o.after, Region.binds .any e = true → listed.getD e.on false = true) → listed.getD i false = true := by
 induction h with
 | here ho he hb hi => intro hl; subst hi; exact hl _ ho _ he hb
 | there ho he hb _ ih => intro hl; exact ih fun o' ho' => hc _ o' ho' (hl _ ho _ he hb)
theorem mask_ok (i : Nat) (acc : List Nat) : ∀ (es : List Edge) (s : Nat), (es.foldl (fun s e => if Region.binds .any e then s ||| 2 ^ e.on ||| acc.getD e.on 0 else s) s).testBit i = true →
  s.testBit i = true ∨ ∃ e ∈ es, Region.binds .any e = true ∧ (e.on = i ∨ (acc.getD e.on 0).testBit i = true)
 | [], s, h => .inl h
 | e :: r, s, h => by
  simp only [List.foldl_cons] at h
  rcases mask_ok i acc r _ h with h | ⟨e', he', h⟩
  ·split at h
   ·rename_i hb
    simp only [Nat.testBit_or, Bool.or_eq_true, Nat.testBit_two_pow, decide_eq_true_eq] at h
    rcases h with (h | h) | h
    ·exact .inl h
    ·exact .inr ⟨e, by simp, hb, .inl h⟩
    ·exact .inr ⟨e, by simp, hb, .inr h⟩
   ·exact .inl h
  ·exact .inr ⟨e', by simp [he'], h⟩
theorem waitL_ok (i : Nat) : ∀ (l : List Oper) (acc : List Nat), (∀ k, l[k]? = ops[acc.length + k]?) → (∀ j, (acc.getD j 0).testBit i = true → Waits ops j i) → ∀ j, ((waitL l acc).getD j 0).testBit i = true → Waits ops j i
 | [], acc, _, h, j, hj => h j hj
 | o :: r, acc, hl, h, j, hj => by
  simp only [waitL] at hj
  refine waitL_ok i r (acc ++ [waitMask acc o]) (fun k => ?_) (fun j hj => ?_) j hj
  ·have := hl (k + 1)
   simpa [Nat.add_assoc, Nat.add_comm 1 k] using this
  ·by_cases hjl : j < acc.length
   ·rw [List.getD_eq_getElem?_getD, List.getElem?_append_left hjl, ← List.getD_eq_getElem?_getD] at hj
    exact h j hj
   ·by_cases hje : j = acc.length
    ·subst hje
     have e1 : (acc ++ [waitMask acc o]).getD acc.length 0 = waitMask acc o := by simp
     rw [e1] at hj
     have ho : ops[acc.length]? = some o := by simpa using (hl 0).symm
     unfold waitMask at hj
     rcases mask_ok i acc _ 0 hj with hj | ⟨e, he, hb, hj⟩
     ·simp at hj
     ·rcases hj with hj | hj
      ·exact .here ho (by simpa using he) hb hj
      ·exact .there ho (by simpa using he) hb (h _ hj)
    ·rw [List.getD_eq_getElem?_getD, List.getElem?_eq_none (by simp; omega)] at hj
     simp at hj
theorem wait_bit {j i : Nat} (h : ((waitL ops.toList []).getD j 0).testBit i = true) : Waits ops j i :=
 waitL_ok i ops.toList [] (fun k => by simp) (fun j hj => by simp at hj) j h
def AnyS (E : Env) (ops : Array Oper) {X : Type} (n : St → Option X) (x : X) : Nat → Array Bool → St → Prop
 | 0, listed, s => Region.ready .any ops listed = [] ∧ n s = some x
 | f + 1, listed, s => (Region.ready .any ops listed = [] → n s = some x) ∧ ∀ i ∈ Region.ready .any ops listed, ∃ o v m', ops[i]? = some o ∧ Ran E ops o s.t s.m v m' ∧ AnyS E ops n x f (listed.setIfInBounds i true) ⟨put s.t o.dst v, m'⟩
theorem getD_tf {listed : Array Bool} {i : Nat} (h : listed.getD i true = false) : listed.getD i false = false := by
 by_cases hi : i < listed.size
 ·simp [hi] at h ⊢; exact h
 ·simp [hi] at h
theorem Closed.step {listed : Array Bool} (hc : Closed ops listed) {i : Nat} (hi : i ∈ Region.ready .any ops listed) : Closed ops (listed.setIfInBounds i true) := by
 intro j o ho hj e he hb
 by_cases hji : j = i
 ·subst hji
  obtain ⟨_, o', ho', hall⟩ := mem_ready.1 hi
  rw [ho] at ho'
  cases ho'
  exact getD_set_true (hall e he hb)
 ·rw [getD_set_ne false (Ne.symm hji)] at hj
  exact getD_set_true (hc j o ho hj e he hb)
theorem opq_reg {T : Nat → TI} {t : List SV} {m m' : Mem} {op : Op} (h : regOp op = true) : opq T t m op = opq T t m' op := by
 cases op <;> first | rfl | (simp [regOp] at h; done) | skip
 ·rename_i o _ _
  cases o <;> rfl
 ·rename_i f _ _
  cases f <;> rfl
theorem regran_of {o : Oper} {t : List SV} {m m' : Mem} {v : SV} (h : Ran E ops o t m v m') (hn : (opnil E.T o.type o.op).isNone = true) (hn2 : (opnl E.T [] [] o.type o.op).isNone = true) (hreg : regOp o.op = true) (hq : (opq E.T t m o.op).isSome = true) : m' = m ∧ ∀ mm, Ran E ops o t mm v mm := by
 cases h with
 | skip hv hm j want hg d hd hs => exact ⟨hm, fun mm => .skip hv rfl j want hg d hd hs⟩
 | run hr hw =>
  have hn' : opnil E.T o.type o.op = none := by simpa using hn
  have hnl : ∀ m', opnl E.T t m' o.type o.op = none := fun m' => opnl_none (.inl hq) hn2
  obtain ⟨⟨c, u⟩, hqv⟩ := Option.isSome_iff_exists.1 hq
  have hr' := hr
  unfold runO at hr'
  rw [opx_quiet (.inl hq)] at hr'
  unfold opx0 at hr'
  simp only [hn', hnl, hqv] at hr'
  obtain ⟨hc, hr'⟩ := req_some hr'
  cases hr'
  subst hc
  refine ⟨rfl, fun mm => .run ?_ hw⟩
  unfold runO
  rw [opx_quiet (.inl hq)]
  unfold opx0
  simp only [hn', hnl, opq_reg (m' := mm) hreg ▸ hqv]
  rfl
theorem anyS_first (hE : EnvOk P E) {X : Type} {n : St → Option X} {x : X} {i : Nat} {oi : Oper} (hi : ops[i]? = some oi) {v : SV} (A : List SV → Prop) (I : Mem → Prop) :
  ∀ (fuel : Nat) (listed : Array Bool) (s : St), Closed ops listed → A s.t → I s.m →
   (∀ j oj, ops[j]? = some oj → j ≠ i → listed.getD j true = false → Waits ops j i ∨ ((∀ (t : List SV) (mm : Mem) (u : SV) (m' : Mem), A t → I mm → Ran E ops oj t mm u m' → A (put t oj.dst u) ∧ I m') ∧ oi.apart ops oj = true)) →
   i ∈ Region.ready .any ops listed → (∀ mm, I mm → Ran E ops oi s.t mm v mm) →
   AnyS E ops n x fuel (listed.setIfInBounds i true) ⟨put s.t oi.dst v, s.m⟩ → AnyS E ops n x (fuel + 1) listed s := by
 intro fuel
 induction fuel with
 | zero =>
  intro listed s hc hA hI _ hr hq H
  refine ⟨fun h => (by rw [h] at hr; cases hr), fun j hj => ?_⟩
  by_cases hji : j = i
  ·subst hji
   exact ⟨oi, v, s.m, hi, hq s.m hI, H⟩
  ·have := ready_mono hj hji
   rw [H.1] at this
   cases this
 | succ fuel ih =>
  intro listed s hc hA hI hfree hr hq H
  refine ⟨fun h => (by rw [h] at hr; cases hr), fun j hj => ?_⟩
  by_cases hji : j = i
  ·subst hji
   exact ⟨oi, v, s.m, hi, hq s.m hI, H⟩
  ·obtain ⟨oj, u, m', hoj, hran, hrest⟩ := H.2 j (ready_mono hj hji)
   obtain ⟨hjun, oj', hoj', hall⟩ := mem_ready.1 hj
   rw [hoj] at hoj'
   cases hoj'
   have hiun := getD_tf (mem_ready.1 hr).1
   have hnw : ¬ Waits ops j i := fun hw => by
    have := waits_listed hc hw (fun o ho => by rw [hoj] at ho; cases ho; exact hall)
    rw [hiun] at this
    cases this
   obtain ⟨hgrow, hap⟩ := (hfree j oj hoj hji hjun).resolve_left hnw
   obtain ⟨a1, a2, a3⟩ := Oper.apart_spec hap
   -- j, ahead of i
   have hsame : SameAt ops oj (put s.t oi.dst v) s.t := fun d hd => (getD_put (by intro he; exact a1 d he hd)).symm
   have hran' := hran.same hsame
   refine ⟨oj, u, m', hoj, hran', ?_⟩
   have hsame2 : SameAt ops oi s.t (put s.t oj.dst u) := fun d hd => getD_put (by intro he; exact a3 d he hd)
   obtain ⟨hA', hI'⟩ := hgrow _ _ _ _ hA hI hran'
   refine ih (listed.setIfInBounds j true) ⟨put s.t oj.dst u, m'⟩ (hc.step hj) hA' hI' (fun k ok hk hki hun => ?_) (ready_mono hr (Ne.symm hji)) (fun mm hmm => ?_) ?_
   ·refine hfree k ok hk hki ?_
    by_cases hjk : j = k
    ·subst hjk; exact hjun
    ·rw [getD_set_ne true hjk] at hun; exact hun
   ·exact (hq mm hmm).same hsame2
   ·have e : put (put s.t oj.dst u) oi.dst v = put (put s.t oi.dst v) oj.dst u := (put_comm' s.t v u a2).symm
    show AnyS E ops n x fuel _ ⟨put (put s.t oj.dst u) oi.dst v, m'⟩
    rw [e, Array.setIfInBounds_comm _ _ hji]
    exact hrest
theorem allB_some {X : Type} {f : Nat → Option X} {x : X} : ∀ {l : List Nat}, allB l f = some x → ∀ i ∈ l, f i = some x
 | [], h, _, _ => by cases h
 | [i], h, j, hj => by simp only [List.mem_singleton] at hj; subst hj; exact h
 | i :: k :: r, h, j, hj => by
  simp only [allB, both] at h
  split at h
  ·rename_i he
   rcases List.mem_cons.1 hj with rfl | hj
   ·exact h
   ·rw [he] at h; exact allB_some h j hj
  ·cases h
theorem anyS_at (hE : EnvOk P E) (hL : LawEnv E) {X : Type} {n : St → Option X} {x : X} {f : Nat} {listed : Array Bool} {s : St} (hc : Closed ops listed) {j : Nat} {o : Oper} (hjr : j ∈ Region.ready .any ops listed) (ho : ops[j]? = some o) (hstat : statAt E ops listed s j = true)
  (hquiet : ((opnil E.T o.type o.op).isNone = true ∧ (opnl E.T [] [] o.type o.op).isNone = true) ∧ ((opq E.T s.t s.m o.op).isSome = true ∨ ((!regOp o.op) = true ∧ (oprd E.T s.t s.m o.op).isSome = true))) {v : SV} {m' : Mem} (hran : Ran E ops o s.t s.m v m')
  (hS : AnyS E ops n x f (listed.setIfInBounds j true) ⟨put s.t o.dst v, s.m⟩) : AnyS E ops n x (f + 1) listed s := by
 have hq0 := hquiet.2.imp id fun h => h.2
 unfold statAt at hstat
 simp only [ho, Bool.and_eq_true, List.all_eq_true, List.mem_range, decide_eq_true_eq] at hstat
 obtain ⟨hlt, hall⟩ := hstat
 obtain ⟨rfl, _⟩ := qran_of hran hquiet.1.1 hquiet.1.2 hq0
 -- the slots of the addresses of what is stored
 let D : Nat → Prop := fun d => ∃ (k : Nat) (ok : Oper) (ty : TypeId) (y : Operand), ops[k]? = some ok ∧ listed.getD k true = false ∧ ok.op = .store ty (.tmp d) y ∧ storeFree s.t (refsAt s.t o.op) ok.op = true ∧ slotFree ops listed ok.op = true
 refine anyS_first hE ho (fun t => ∀ d, D d → t.getD d .any = s.t.getD d .any) (fun mm => ∀ q ∈ refsAt s.t o.op, mm[q]? = s.m[q]?) f listed s hc (fun _ _ => rfl) (fun _ _ => rfl) (fun k ok hk hki hun => ?_) hjr (fun mm hmm => ?_) hS
 ·have h1 := hall k (Array.getElem?_eq_some_iff.1 hk).1
  simp only [hk, Bool.or_eq_true, beq_iff_eq, Bool.and_eq_true] at h1
  rcases h1 with (((h1 | h1) | h1) | h1) | h1
  ·exact absurd h1 hki
  ·exfalso
   rw [getD_tf hun] at h1
   cases h1
  ·exact .inl (wait_bit h1)
  ·exfalso
   obtain ⟨_, o', ho', hal⟩ := mem_ready.1 hjr
   have := waits_listed hc (wait_bit h1) (fun o2 ho2 => by rw [ho'] at ho2; cases ho2; exact hal)
   have h3 := getD_tf hun
   rw [h3] at this
   cases this
  ·refine .inr ⟨fun t mm u m' hA hI hr => ⟨fun d hd => ?_, fun q hq => ?_⟩, h1.2⟩
   ·have hne : ok.dst ≠ some d := fun he => by
     obtain ⟨k', ok', ty, y, _, _, hop', _, hsl⟩ := hd
     rw [hop'] at hsl
     simp only [slotFree, List.all_eq_true, List.mem_range, Bool.or_eq_true] at hsl
     rcases hsl k (Array.getElem?_eq_some_iff.1 hk).1 with h | h
     ·rw [getD_tf hun] at h; cases h
     ·rw [hk] at h
      simp [he] at h
    rw [getD_put (by intro he; exact hne he)]
    exact hA d hd
   ·have hmq := hI q hq
    have hql := hlt q hq
    have hlm : q < mm.length := by
     rcases Nat.lt_or_ge q mm.length with h | h
     ·exact h
     ·rw [List.getElem?_eq_none h, List.getElem?_eq_getElem hql] at hmq; cases hmq
    rw [← hmq]
    cases hr with
    | skip _ hm => rw [hm]
    | run hr0 _ =>
     rcases h1.1 with (hg | ⟨hst, hsl⟩) | ⟨hb, hro⟩
     ·obtain ⟨os, rfl⟩ := grow_run hE hL hg hr0
      rw [List.getElem?_append_left hlm]
     ·have hst0 := hst
      unfold storeFree at hst
      split at hst
      ·rename_i ty d y hop
       split at hst
       ·rename_i jb off hd
        have hDd : D d := ⟨k, ok, ty, y, hk, hun, hop, hst0, hsl⟩
        refine store_keep hop (j := jb) (off := off) (by simp only [ev]; rw [hA d hDd]; exact hd) hr0 (fun e => ?_) hlm
        subst e
        simp [hq] at hst
       ·cases hst
      ·cases hst
     ·have hbq := List.all_eq_true.1 hb q hq
      split at hbq
      ·rename_i hblk
       exact row_keep hro hr0 (by rw [hmq]; exact hblk)
      ·cases hbq
 ·cases hran with
  | skip hv hm i want hg d hd hs => exact .skip hv rfl i want hg d hd hs
  | run hr hw =>
   refine .run ?_ hw
   have hn' : opnil E.T o.type o.op = none := by simpa using hquiet.1.1
   have hnl : ∀ m', opnl E.T s.t m' o.type o.op = none := fun m' => opnl_none hq0 hquiet.1.2
   unfold runO at hr ⊢
   rw [opx_quiet hq0] at hr ⊢
   unfold opx0 at hr ⊢
   simp only [hn', hnl] at hr ⊢
   cases hqv : opq E.T s.t s.m o.op with
   | some cv =>
    rw [opq_at hmm hqv]
    simp only [hqv] at hr ⊢
    obtain ⟨hc', hr⟩ := req_some hr
    cases hr
    rw [hc']
    rfl
   | none =>
    rcases hq0 with h | h
    ·rw [hqv] at h; cases h
    ·obtain ⟨r, hrd⟩ := Option.isSome_iff_exists.1 h
     obtain ⟨ty, ad, hop⟩ : ∃ ty ad, o.op = .load ty ad := by
      cases hop : o.op <;> rw [hop] at hrd <;> simp only [oprd] at hrd <;> first | exact ⟨_, _, rfl⟩ | cases hrd
     have hqn : opq E.T s.t mm o.op = none := by
      cases hx : opq E.T s.t mm o.op with
      | none => rfl
      | some cv => rw [opq_at (m := mm) (m' := s.m) (fun q hq => (hmm q hq).symm) hx] at hqv; cases hqv
     simp only [hqv, hqn] at hr ⊢
     rw [hop] at hr hrd ⊢
     have hrd' := oprd_at (m' := mm) (by rw [← hop]; exact hmm) hrd
     simp only [opa, opst, opap, opan, opsl, hrd, hrd'] at hr ⊢
     obtain ⟨y, hy, hr⟩ := Option.bind_eq_some_iff.1 hr
     rw [hy, Option.bind_some]
     split at hr
     ·rename_i u hu
      simp only [Option.some.injEq, Prod.mk.injEq] at hr
      obtain ⟨rfl, _⟩ := hr
      rfl
     ·cases hr
theorem anyS_of (hE : EnvOk P E) (hL : LawEnv E) {X : Type} {n : St → Option X} {x : X} : ∀ (f : Nat) (listed : Array Bool) (s : St), Closed ops listed → anyX E ops n (f + 1) listed s = some x → AnyS E ops n x f listed s := by
 intro f
 induction f with
 | zero =>
  intro listed s hc h
  simp only [anyX] at h
  split at h
  ·rename_i hr; exact ⟨hr, h⟩
  ·rename_i i r hr
   have hop : ∀ j ∈ i :: r, ∃ o, ops[j]? = some o := fun j hj => by
    rw [← hr] at hj
    obtain ⟨_, o, ho, _⟩ := mem_ready.1 hj
    exact ⟨o, ho⟩
   split at h
   ·rename_i j hj
    obtain ⟨o, ho⟩ := hop j (List.mem_of_find?_eq_some hj)
    obtain ⟨_, _, _, hk⟩ := step_ran hE hL ho h
    cases hk
   ·obtain ⟨o, ho⟩ := hop i (by simp)
    obtain ⟨_, _, _, hk⟩ := step_ran hE hL ho (allB_some h i (by simp))
    cases hk
 | succ f ih =>
  intro listed s hc h
  rw [anyX] at h
  split at h
  ·rename_i hr
   exact ⟨fun _ => h, fun i hi => by rw [hr] at hi; cases hi⟩
  ·rename_i i r hr
   have hop : ∀ j ∈ i :: r, j ∈ Region.ready .any ops listed ∧ ∃ o, ops[j]? = some o := fun j hj => by
    rw [← hr] at hj
    obtain ⟨_, o, ho, _⟩ := mem_ready.1 hj
    exact ⟨hj, o, ho⟩
   split at h
   ·rename_i j hj
    obtain ⟨hjr, o, ho⟩ := hop j (List.mem_of_find?_eq_some hj)
    have hp := List.find?_some hj
    simp only [Bool.and_eq_true] at hp
    obtain ⟨hstat, hquiet⟩ := hp
    obtain ⟨v, m', hran, hk⟩ := step_ran hE hL ho h
    unfold isQuiet at hquiet
    simp only [ho, Bool.and_eq_true, Bool.or_eq_true] at hquiet hstat
    rcases hstat with hstat | hstat
    rotate_left
    ·exact anyS_at hE hL hc hjr ho hstat hquiet hran (ih _ _ (hc.step hjr) (by obtain ⟨hm, _⟩ := qran_of hran hquiet.1.1 hquiet.1.2 (hquiet.2.imp id fun h => h.2); subst hm; exact hk))
    have hfree : ∀ (I : Mem → Prop), (∀ (k : Nat) (ok : Oper), ops[k]? = some ok → (regOp o.op = true ∨ growOp E ok.op = true) → ∀ (t : List SV) (mm : Mem) (u : SV) (m' : Mem), I mm → Ran E ops ok t mm u m' → I m') →
      ∀ (k : Nat) (ok : Oper), ops[k]? = some ok → k ≠ j → listed.getD k true = false → Waits ops k j ∨ ((∀ (t : List SV) (mm : Mem) (u : SV) (m' : Mem), True → I mm → Ran E ops ok t mm u m' → True ∧ I m') ∧ o.apart ops ok = true) := by
     intro I hI k ok hk hki hun
     unfold statOk at hstat
     simp only [ho, List.all_eq_true, List.mem_range] at hstat
     have h1 := hstat k (Array.getElem?_eq_some_iff.1 hk).1
     simp only [hk, Bool.or_eq_true, beq_iff_eq, Bool.and_eq_true] at h1
     rcases h1 with ((h1 | h1) | h1) | h1
     ·exact absurd h1 hki
     ·exact .inl (wait_bit h1)
     ·exfalso
      obtain ⟨_, o', ho', hall⟩ := mem_ready.1 hjr
      have := waits_listed hc (wait_bit h1) (fun o2 ho2 => by rw [ho'] at ho2; cases ho2; exact hall)
      have h3 := getD_tf hun
      rw [h3] at this
      cases this
     ·exact .inr ⟨fun t mm u m' _ hi hr => ⟨trivial, hI k ok hk h1.1 t mm u m' hi hr⟩, h1.2⟩
    by_cases hreg : regOp o.op = true
    ·have hq1 : (opq E.T s.t s.m o.op).isSome = true := by
      rcases hquiet.2 with h | h
      ·exact h
      ·rw [hreg] at h; simp at h
     obtain ⟨hm, hq⟩ := regran_of hran hquiet.1.1 hquiet.1.2 hreg hq1
     subst hm
     exact anyS_first hE ho (fun _ => True) (fun _ => True) f listed s hc trivial trivial (hfree _ fun _ _ _ _ _ _ _ _ _ _ => trivial) hjr (fun mm _ => hq mm) (ih _ _ (hc.step hjr) hk)
    ·obtain ⟨hm, hq⟩ := qran_of hran hquiet.1.1 hquiet.1.2 (hquiet.2.imp id fun h => h.2)
     subst hm
     refine anyS_first hE ho (fun _ => True) (fun mm => ∃ os, mm = s.m ++ os) f listed s hc trivial ⟨[], by simp⟩ (hfree _ fun k ok hk hg t mm u m' => ?_) hjr (fun mm ⟨os, e⟩ => e ▸ hq os) (ih _ _ (hc.step hjr) hk)
     rintro ⟨os, rfl⟩ hran2
     have hgrow := hg.resolve_left hreg
     cases hran2 with
     | run hr0 _ =>
      obtain ⟨os', e⟩ := grow_run hE hL hgrow hr0
      exact ⟨os ++ os', by rw [e, List.append_assoc]⟩
     | skip _ hm => exact ⟨os, hm⟩
   ·refine ⟨fun h0 => (by rw [hr] at h0; cases h0), fun j hj => ?_⟩
    rw [hr] at hj
    obtain ⟨hjr, o, ho⟩ := hop j hj
    obtain ⟨v, m', hran, hk⟩ := step_ran hE hL ho (allB_some h j hj)
    exact ⟨o, v, m', ho, hran, ih _ _ (hc.step hjr) hk⟩
variable {W : World} {X : Type}
theorem ran_wp (hE : EnvOkW P E W) {i : Nat} {o : Oper} (ho : ops[i]? = some o) {Q : Exit → Act → World → Prop} {s : St} {ρ : Nat → Value} {a : Act} {w : World} (hs : RelS W ρ s a w) {v : SV} {m' : Mem} (h : Ran E ops o s.t s.m v m') {K : Act → World → Prop}
  (hK : ∀ ρ' a' w', Agree s.m.length ρ ρ' → s.m.length ≤ m'.length → RelS W ρ' ⟨put s.t o.dst v, m'⟩ a' w' → K a' w') : wpOp P ops Q i K a w := by
 unfold wpOp
 simp only [ho]
 cases h with
 | run hr hw =>
  have hwant : Region.wanted o (yielded ops a.tmps) = true := by
   cases hg : o.guard with
   | none => simp [Region.wanted, hg]
   | some jw =>
    obtain ⟨j, want⟩ := jw
    obtain ⟨d, hd, he⟩ := hw j want hg
    have hy := yielded_of hs.t (ops := ops) (j := j) (d := d) (by rw [Array.getElem?_toList]; exact hd) he
    simp [Region.wanted, hg, hy]
  rw [if_pos hwant]
  refine .inl (opx_ok hE hs.t hs.m hs.d hr fun ρ' u m2 a' w' hag hle hs' hk => ?_)
  cases hk
  exact hK ρ' a' w' hag hle hs'
 | skip hv hm j want hg d hd hss =>
  subst hv hm
  have hwant : Region.wanted o (yielded ops a.tmps) = false := by
   rcases hss with he | he
   ·have hy := yielded_of hs.t (ops := ops) (j := j) (d := d) (by rw [Array.getElem?_toList]; exact hd) he
    cases want <;> simp [Region.wanted, hg, hy]
   ·have hy := yielded_undef hs.t (ops := ops) (j := j) (d := d) (by rw [Array.getElem?_toList]; exact hd) he
    simp [Region.wanted, hg, hy]
  rw [if_neg (by simp [hwant])]
  exact hK ρ _ w (Agree.refl _ _) (Nat.le_refl _) ⟨hs.t.put o.dst (fun _ => ⟨rfl, rfl⟩), hs.m, by rw [put_defers]; exact hs.d⟩
theorem anyS_wp (hE : EnvOkW P E W) {n : St → Option X} {x : X} {Q : Exit → Act → World → Prop} : ∀ (f : Nat) (listed : Array Bool) (s : St) (ρ : Nat → Value) (a : Act) (w : World), RelS W ρ s a w → AnyS E ops n x f listed s →
  (∀ ρ' s' a' w', Agree s.m.length ρ ρ' → s.m.length ≤ s'.m.length → RelS W ρ' s' a' w' → n s' = some x → Q .normal a' w') → wpAny P .any ops Q f listed a w
 | 0, listed, s, ρ, a, w, hs, h, hQ => ⟨h.1, hQ ρ s a w (Agree.refl _ _) (Nat.le_refl _) hs h.2⟩
 | f + 1, listed, s, ρ, a, w, hs, h, hQ => by
  refine ⟨fun hr => hQ ρ s a w (Agree.refl _ _) (Nat.le_refl _) hs (h.1 hr), fun i hi => ?_⟩
  obtain ⟨o, v, m', ho, hran, hrest⟩ := h.2 i hi
  refine ran_wp hE ho hs hran fun ρ' a' w' hag hle hs' => ?_
  exact anyS_wp hE f _ _ ρ' a' w' hs' hrest fun ρ'' s'' a'' w'' hag' hle' hs'' hn => hQ ρ'' s'' a'' w'' (hag.trans hag' hle) (Nat.le_trans hle hle') hs'' hn
theorem any_code (hE : EnvOkW P E W) {id base : Nat} {s : St} {n : St → Option X} {e : Nat → St → Option X} {r : St → Option X} {x : X} (h : anyX (lawE E) ops n (ops.size + 1) (Array.replicate ops.size false) s = some x) :
  CodeN ⟨P, W⟩ base (.region id ops true) s (fun s' => n s' = some x) (fun i s' => e i s' = some x) (fun s' => r s' = some x) := by
 refine ⟨fun hb ρ a w Q hs hn _ _ => ?_⟩
 have hS := anyS_of (lawE_ok hE.toEnvOk) (lawE_law E) ops.size _ s (fun j o ho hj => by
  exfalso
  simp only [Array.getD_eq_getD_getElem?, Array.getElem?_replicate] at hj
  split at hj <;> simp at hj) h
 refine wp_region_any hE.T.mixed ?_
 exact anyS_wp ⟨lawE_ok hE.toEnvOk, hE.glob⟩ _ _ s ρ a _ ⟨hs.t, hs.m.drawn _, hs.d⟩ hS fun ρ' s' a' w' hag hle hs' hk => hn ρ' s' a' w' (hag.mono hb) (Nat.le_trans hb hle) hs' hk
end
section
variable {P : Program} {W : World} {E : Env}
theorem join_code {X : Type} {x : X} {base : Nat} {cc : Code} {s : St} {n : St → Option X} {e : Nat → St → Option X} {r : St → Option X} {js : JoinS} {y0 : OutT js.exits}
  (hc : CodeN ⟨P, W⟩ base cc s (fun s' => outF js.n base js.exits (some BIG) s' = some y0) (fun i s' => (bif Nat.beq i BIG then none else outF js.n base js.exits (some i) s') = some y0) (fun s' => outF js.n base js.exits none s' = some y0))
  (hgo : goOn js.n (joinE n e) r js.exits y0 = some x) (hb : base ≤ s.m.length) {ρ : Nat → Value} {a : Act} {w : World} {Q : Exit → Act → World → Prop} (hs : RelS W ρ s a w)
  (hn : ∀ ρ' s' a' w', Agree base ρ ρ' → base ≤ s'.m.length → RelS W ρ' s' a' w' → n s' = some x → Q .normal a' w')
  (he : ∀ i ρ' s' a' w', Agree base ρ ρ' → base ≤ s'.m.length → RelS W ρ' s' a' w' → e i s' = some x → Q (.exit i) a' w')
  (hr : ∀ ρ' s' a' w', Agree base ρ ρ' → base ≤ s'.m.length → RelS W ρ' s' a' w' → r s' = some x → Q .ret a' w') : Code.wp P cc Q a w :=
 hc.code hb ρ a w Q hs
  (fun ρ'' s'' a'' w'' hag' hle' hs'' hk => by
   obtain ⟨f, u, hf, hgo'⟩ := out_go js.exits (some BIG) s'' y0 hk hgo
   obtain ⟨ρ3, hs3, hag3, hle3⟩ := hs''.form hf
   exact hn ρ3 _ a'' w'' (hag'.trans hag3 (Nat.le_refl _)) hle3 hs3 hgo')
  (fun i ρ'' s'' a'' w'' hag' hle' hs'' hk => by
   cases hi : Nat.beq i BIG
   ·rw [hi] at hk
    obtain ⟨f, u, hf, hgo'⟩ := out_go js.exits (some i) s'' y0 hk hgo
    obtain ⟨ρ3, hs3, hag3, hle3⟩ := hs''.form hf
    have hgo2 : joinE n e i (stF js.n f u) = some x := hgo'
    unfold joinE at hgo2
    rw [hi] at hgo2
    exact he i ρ3 _ a'' w'' (hag'.trans hag3 (Nat.le_refl _)) hle3 hs3 hgo2
   ·rw [hi] at hk
    cases hk)
  (fun ρ'' s'' a'' w'' hag' hle' hs'' hk => by
   obtain ⟨f, u, hf, hgo'⟩ := out_go js.exits none s'' y0 hk hgo
   obtain ⟨ρ3, hs3, hag3, hle3⟩ := hs''.form hf
   exact hr ρ3 _ a'' w'' (hag'.trans hag3 (Nat.le_refl _)) hle3 hs3 hgo')
theorem ix_ok {X : Type} (hE : EnvOkW P E W) {x : X} {base : Nat} : ∀ (c : Code) (s : St) (n : St → Option X) (e : Nat → St → Option X) (r : St → Option X), LoopsOk P E c → ix E base c s n e r = some x →
  CodeN ⟨P, W⟩ base c s (fun s' => n s' = some x) (fun i s' => e i s' = some x) (fun s' => r s' = some x)
 | .skip, s, n, e, r, _, h => ⟨fun hb ρ a w Q hs hn _ _ => wp_skip (hn ρ s a w (Agree.refl _ _) hb hs h)⟩
 | .region i ops false, s, n, e, r, _, h => ⟨fun hb ρ a w Q hs hn _ _ => wp_region_list (opsxj_ok hE _ ops.toList s ρ a w hs h fun ρ' s' a' w' hag hle => hn ρ' s' a' w' (hag.mono hb) (Nat.le_trans hb hle))⟩
 | .region i ops true, s, n, e, r, _, h => by
   simp only [ix] at h
   cases hqb : ops.toList.all (fun o => quietB E o.op)
   ·rw [hqb] at h
    simp only [cond_false] at h
    cases hns : Region.noSelect ops
    ·rw [hns] at h; cases h
    ·rw [hns] at h
     simp only [cond_true] at h
     exact any_code hE h
   rw [hqb] at h
   simp only [cond_true] at h
   split at h
   ·rename_i hlex
    refine ⟨fun hb ρ a w Q hs hn _ _ => ?_⟩
    refine wp_region_quiet (C := RelM W ρ s.m) hE.T.mixed hlex (hs.m.drawn _) ?_
    refine opsxqj_ok hE hs.m.lt _ ops.toList s.t a hs.t hs.d h fun t' a' ht' hd' hk w' hw' => ?_
    exact hn ρ ⟨t', s.m⟩ a' w' (Agree.refl _ _) hb ⟨ht', hw', hd'⟩ hk
   ·cases h
 | .seq y z, s, n, e, r, hl, h => ⟨fun hb ρ a w Q hs hn he hr => by
   have hl1 : LoopsOk P E y := fun b hb => hl b (by simp [loopsOf, hb])
   have hl2 : LoopsOk P E z := fun b hb => hl b (by simp [loopsOf, hb])
   refine wp_seq ((ix_ok hE y s _ e r hl1 h).code hb ρ a w _ hs (fun ρ' s' a' w' hag hle hs' hk => ?_) he hr)
   exact (ix_ok hE z s' n e r hl2 hk).code hle ρ' a' w' Q hs' (fun ρ'' s'' a'' w'' hag' hle' hs'' hn' => hn ρ'' s'' a'' w'' (hag.trans hag' (Nat.le_refl _)) hle' hs'' hn')
    (fun i ρ'' s'' a'' w'' hag' hle' hs'' hn' => he i ρ'' s'' a'' w'' (hag.trans hag' (Nat.le_refl _)) hle' hs'' hn')
    (fun ρ'' s'' a'' w'' hag' hle' hs'' hn' => hr ρ'' s'' a'' w'' (hag.trans hag' (Nat.le_refl _)) hle' hs'' hn')⟩
 | .cond c y z, s, n, e, r, hl, h => ⟨fun hb ρ a w Q hs hn he hr => by
   have hl1 : LoopsOk P E y := fun b hb => hl b (by simp [loopsOf, hb])
   have hl2 : LoopsOk P E z := fun b hb => hl b (by simp [loopsOf, hb])
   simp only [ix] at h
   split at h
   ·rename_i ex hc
    have := (hs.t.ev c (by rw [hc]; rfl)).2
    rw [hc] at this
    simp only [den] at this
    refine wp_cond this ?_
    split at h
    ·rename_i js _
     obtain ⟨y0, hy, hgo⟩ := Option.bind_eq_some_iff.1 h
     rcases br_some hy with ⟨hx, hy⟩ | ⟨hx, hy⟩
     ·subst hx
      simp only [if_true]
      exact join_code (ix_ok hE y s _ _ _ hl1 hy) hgo hb hs hn he hr
     ·subst hx
      simp only [Bool.false_eq_true, if_false]
      exact join_code (ix_ok hE z s _ _ _ hl2 hy) hgo hb hs hn he hr
    rcases br_some h with ⟨hx, h⟩ | ⟨hx, h⟩
    ·subst hx
     simp only [if_true]
     exact (ix_ok hE y s n e r hl1 h).code hb ρ a w Q hs hn he hr
    ·subst hx
     simp only [Bool.false_eq_true, if_false]
     exact (ix_ok hE z s n e r hl2 h).code hb ρ a w Q hs hn he hr
   ·cases h⟩
 | .block i y, s, n, e, r, hl, h => ⟨fun hb ρ a w Q hs hn he hr => by
   refine wp_block ((ix_ok hE y s n _ r (fun b hb => hl b (by simp [loopsOf, hb])) h).code hb ρ a w _ hs hn (fun j ρ' s' a' w' hag hle hs' hk => ?_) hr)
   simp only [Exit.inBlock]
   cases hji : (j == i)
   ·rw [hji] at hk
    rw [if_neg (by simpa using hji)]
    exact he j ρ' s' a' w' hag hle hs' hk
   ·rw [hji] at hk
    rw [if_pos (by simpa using hji)]
    exact hn ρ' s' a' w' hag hle hs' hk⟩
 | .loop b, s, n, e, r, hl, h => by
   simp only [ix] at h
   split at h
   ·rename_i l hb
    have := hl b (by simp [loopsOf]) l hb W hE.glob X base s e r x h
    exact ⟨fun hb ρ a w Q hs _ he hr => this.code hb ρ a w Q hs (fun _ _ _ _ _ _ _ hf => hf.elim) he hr⟩
   ·cases h
 | .exit i, s, n, e, r, _, h => ⟨fun hb ρ a w Q hs _ he _ => wp_exit (he i ρ s a w (Agree.refl _ _) hb hs h)⟩
 | .ret, s, n, e, r, _, h => ⟨fun hb ρ a w Q hs _ _ hr => wp_ret (hr ρ s a w (Agree.refl _ _) hb hs h)⟩
 | .rangeFunc .., _, _, _, _, _, h => by simp only [ix] at h; cases h
 | .scope _, _, _, _, _, _, h => by simp only [ix] at h; cases h
 | .label _, _, _, _, _, _, h => by simp only [ix] at h; cases h
 | .goto _, _, _, _, _, _, h => by simp only [ix] at h; cases h
 | .refuse _, _, _, _, _, _, h => by simp only [ix] at h; cases h
end
end Go.Ma
namespace Go.Ma
open Go Go.RowKit
section
variable {T : Nat → TI}
theorem lt_of_take {n : Nat} {cs l : List SV} {off k : Nat} (h : takeCells cs off k = some l) {ty : TypeId} {own : Bool} (hb : (Obj.blk cs ty own).lt n = true) : ltL n l = true := by
 obtain ⟨rfl, _, _, hone⟩ := takeCells_spec h
 simp only [Obj.lt, List.all_eq_true, Bool.or_eq_true] at hb
 rw [ltL_all, List.all_eq_true]
 exact fun c hc => (hb c (List.mem_of_mem_drop (List.mem_of_mem_take hc))).resolve_left (by simp [one_any (hone c hc)])
theorem valOf_lt {n : Nat} {ti : TI} {l : List SV} {v : SV} (h : valOf ti l = some v) (hl : ltL n l = true) : v.lt n = true := by
 unfold valOf at h
 split at h
 ·injection h with h; subst h; simpa [SV.lt] using hl
 ·split at h
  ·injection h with h; subst h; simpa [ltL] using hl
  ·cases h
def resRun (tmps : Array Value) : ResultVar → Sem Value
 | .tmp t => pure (tmps.getD t undef)
 | .cell a t => do loadVar t (← asAddr (tmps.getD a undef))
theorem results_eq (fn : Func) (tmps : Array Value) : results fn tmps = (do let vs ← fn.results.mapM (resRun tmps); pure (if h : vs.size = 1 then vs[0] else .tuple vs)) := by
 unfold results resRun
 rfl
theorem resC_ok {P : Program} (hT : TOk P T) {W : World} {ρ : Nat → Value} {s : St} {a : Act} {w : World} (hs : RelS W ρ s a w) {r : ResultVar} {v : SV} (h : resC T s r = some v) :
  (resRun a.tmps r).run P w = .ok (den ρ v) w ∧ v.lt s.m.length = true := by
 cases r with
 | tmp t =>
  simp only [resC] at h
  split at h
  ·cases h
  ·rename_i hany
   injection h with h
   subst h
   obtain ⟨h1, h2⟩ := hs.t.ev (.tmp t) (by simpa [ev] using hany)
   simp only [ev, Act.eval] at h1 h2
   exact ⟨by simp [resRun, h2], h1⟩
 | cell ad ty =>
  simp only [resC] at h
  split at h
  ·rename_i j off hj
   split at h
   ·rename_i cs bt own hm
    split at h
    ·rename_i hk
     obtain ⟨l, hl, hv⟩ := Option.bind_eq_some_iff.1 h
     have h2 := (hs.t.ev (.tmp ad) (by simp only [ev]; rw [hj]; rfl)).2
     simp only [ev, Act.eval, hj] at h2
     obtain ⟨b, arr, hb, hh, _, hc⟩ := hs.m.blk hm
     simp only [den, hb, ptrOff, add_zero_addr, Nat.zero_add] at h2
     obtain ⟨_, hlen, hget, hone⟩ := takeCells_spec hl
     have hrun := run_loadVar (hT.ty ty hk) (w := w) (a := ⟨b, off, none⟩) (ρ := ρ) hlen hv (fun i c hi => by
      rw [add_zero_addr, cells_of_blk hh]
      have hil : i < (T ty).size := by rw [← hlen]; exact (List.getElem?_eq_some_iff.1 hi).1
      have := hget i hil
      rw [hi] at this
      exact hc _ c this (one_any (hone c (List.mem_of_getElem? hi))))
     exact ⟨by simp [resRun, h2, asAddr, hrun], valOf_lt hv (lt_of_take hl (hs.m.lt j _ hm))⟩
    ·cases h
   ·cases h
  ·cases h
theorem resL_ok {P : Program} (hT : TOk P T) {W : World} {ρ : Nat → Value} {s : St} {a : Act} {w : World} (hs : RelS W ρ s a w) : ∀ {rs : List ResultVar} {l : List SV}, resL T s rs = some l →
  (rs.mapM (resRun a.tmps)).run P w = .ok (denL ρ l) w ∧ ltL s.m.length l = true
 | [], l, h => by simp only [resL, Option.some.injEq] at h; subst h; exact ⟨by simp [denL], rfl⟩
 | r :: rs, l, h => by
  simp only [resL] at h
  split at h
  ·rename_i v l' hv hl
   injection h with h
   subst h
   obtain ⟨h1, h2⟩ := resC_ok hT hs hv
   obtain ⟨h3, h4⟩ := resL_ok hT hs hl
   refine ⟨?_, by simp [ltL, h2, h4]⟩
   rw [List.mapM_cons, Sem.run_bind, h1]
   simp only [Result.andThen_ok, Sem.run_bind, h3, Sem.run_pure, denL]
  ·cases h
end
theorem calls_of_ix {P : Program} {W : World} {E : Env} {X : Type} (hE : EnvOkW P E W) {f : FuncId} {fn : Func} {args : List SV} {m : Mem} {k : SV → Mem → Option X} {x : X} (hf : P.funcs[f]? = some fn)
  (hl : ∀ c, fn.body = some c → LoopsOk P E c) (hlt : ltL m.length args = true) (h : ixF E fn args m k = some x) {ρ : Nat → Value} {w : World} (hm : RelM W ρ m w) :
  Calls P f (denL ρ args).toArray w fun e w' => ∃ ρ' r m', e = .returned (den ρ' r) ∧ RelM W ρ' m' w' ∧ Agree m.length ρ ρ' ∧ m.length ≤ m'.length ∧ (r.isAny = false → r.lt m'.length = true) ∧ k r m' = some x := by
 have hT := hE.T
 have hend : ∀ ρ' (s' : St) a' w', Agree m.length ρ ρ' → m.length ≤ s'.m.length → RelS W ρ' s' a' w' → fin E.T fn.results.toList k s' = some x →
   a'.defers = [] ∧ ∃ v, (results fn a'.tmps).run P w' = .ok v w' ∧ ∃ ρ'' r m', Ending.returned v = .returned (den ρ'' r) ∧ RelM W ρ'' m' w' ∧ Agree m.length ρ ρ'' ∧ m.length ≤ m'.length ∧ (r.isAny = false → r.lt m'.length = true) ∧ k r m' = some x := by
  intro ρ' s' a' w' hag hle hs' hfin
  refine ⟨hs'.d, ?_⟩
  unfold fin at hfin
  have hrun : ∀ l, resL E.T s' fn.results.toList = some l → (results fn a'.tmps).run P w' = .ok (if h : (denL ρ' l).toArray.size = 1 then (denL ρ' l).toArray[0] else .tuple (denL ρ' l).toArray) w' ∧ ltL s'.m.length l = true := by
   intro l hl
   obtain ⟨h1, h2⟩ := resL_ok hT hs' hl
   refine ⟨?_, h2⟩
   rw [results_eq, Sem.run_bind, Array.mapM_eq_mapM_toList, Sem.run_map, h1]
   rfl
  split at hfin
  ·rename_i v hv
   obtain ⟨h1, h2⟩ := hrun _ hv
   refine ⟨_, h1, ρ', v, s'.m, ?_, hs'.m, hag, hle, fun _ => by simpa [ltL] using h2, hfin⟩
   simp [denL]
  ·rename_i l hne hl
   obtain ⟨h1, h2⟩ := hrun _ hl
   refine ⟨_, h1, ρ', .tup l, s'.m, ?_, hs'.m, hag, hle, fun _ => by simpa [SV.lt] using h2, hfin⟩
   have : l.length ≠ 1 := by
    intro h
    match l, h with
    | [v], _ => exact hne v rfl
   simp [zq5, this, den]
  ·cases hfin
 unfold ixF at h
 split at h
 ·rename_i c hb
  refine calls_of_wp hf hb ?_
  refine (ix_ok hE c _ _ _ _ (hl c hb) h).code (Nat.le_refl _) ρ _ w _ ⟨⟨?_, ?_⟩, hm, rfl⟩ (fun ρ' s' a' w' hag hle hs' hk => hend ρ' s' a' w' hag hle hs' hk) (fun i ρ' s' a' w' _ _ _ hk => by cases hk) (fun ρ' s' a' w' hag hle hs' hk => hend ρ' s' a' w' hag hle hs' hk)
  ·simp
  ·intro i sv hi hs
   rw [List.getElem?_append] at hi
   split at hi
   ·rename_i hil
    rw [ltL_all, List.all_eq_true] at hlt
    refine ⟨hlt sv (List.mem_of_getElem? hi), ?_⟩
    rw [Array.getElem?_append_left (by simpa using hil), List.getElem?_toArray, denL_map, List.getElem?_map, hi]
    rfl
   ·have := List.mem_of_getElem? hi
    simp only [List.mem_replicate] at this
    rw [this.2] at hs
    cases hs
 ·cases h
noncomputable def inlCon (E : Env) (fn : Func) : Con := { tr := fun _ args m k => ixF E fn args m k, q := false, law := false }
theorem inl_ok {P : Program} {E : Env} (hE : EnvOk P E) {f : FuncId} {fn : Func} (hf : P.funcs[f]? = some fn) (hl : ∀ c, fn.body = some c → LoopsOk P E c) : TrOk P f (inlCon E fn) :=
 ⟨fun _ hG _ _ _ _ _ h _ => ⟨fun hlt _ _ hm => calls_of_ix ⟨hE, hG⟩ hf hl hlt h hm⟩, fun h => (by cases h), fun h => by cases h⟩
inductive Seg where
 | fl (k : K)
 | row (k : K) (ty : TypeId)
 /-- A row of elements that have a slice each; of a result: are the slices the caller's own? -/
 | nest (hk ik : K) (ty ity : TypeId) (bo : Bool)
def Seg.T : Seg → Type
 | .fl k => k.T
 | .row k _ => List k.T
 | .nest hk ik _ _ _ => List hk.T × List (List ik.T)
def SegsT : List Seg → Type
 | [] => Unit
 | s :: r => s.T × SegsT r
inductive PS where
 | one (s : Seg)
 | agg (l : List Seg)
 | ref (l : List Seg) (ty : TypeId)
def PS.T : PS → Type
 | .one s => s.T
 | .agg l => SegsT l
 | .ref l _ => SegsT l
def PsT : List PS → Type
 | [] => Unit
 | p :: r => p.T × PsT r
def rdRow (m : Mem) (k : K) : SV → Option (List k.T)
 | .row j => (match m[j]? with | some (.row (.ty k' l) _ _) => if h : k' = k then some (castL h l) else none | _ => none)
 | .inn j i => (match m[j]? with | some (.bag k' ls _ _ _) => if h : k' = k then some (castL h (getL ls i)) else none | _ => none)
 | .v (.slice none 0 0) => some []
 | _ => none
def rdNest (m : Mem) (hk ik : K) : SV → Option (List hk.T × List (List ik.T))
 | .row j => (match m[j]? with
  | some (.row (.nest k l jb) _ _) => (match m[jb]? with | some (.bag k' ls _ _ _) => if h : k = hk ∧ k' = ik then some (castL h.1 l, castLL h.2 ls) else none | _ => none)
  | _ => none)
 | .v (.slice none 0 0) => some ([], [])
 | _ => none
def decSegs (m : Mem) : (l : List Seg) → List SV → Option (SegsT l)
 | [], [] => some ()
 | [], _ :: _ => none
 | .fl k :: r, cs => match k.dec (cs.take k.sz), decSegs m r (cs.drop k.sz) with | some a, some b => some (a, b) | _, _ => none
 | .row _ _ :: _, [] => none
 | .row k _ :: r, c :: cs => match rdRow m k c, decSegs m r cs with | some a, some b => some (a, b) | _, _ => none
 | .nest _ _ _ _ _ :: _, [] => none
 | .nest hk ik _ _ _ :: r, c :: cs => match rdNest m hk ik c, decSegs m r cs with | some a, some b => some (a, b) | _, _ => none
def decFl (k : K) (v : SV) : Option k.T := bif k.isAgg then v.parts.bind k.dec else k.dec [v]
def decSeg (m : Mem) : (s : Seg) → SV → Option s.T
 | .fl k, v => decFl k v
 | .row k _, v => rdRow m k v
 | .nest hk ik _ _ _, v => rdNest m hk ik v
def blkOf (m : Mem) (ty : TypeId) : SV → Option (List SV)
 | .ptr j 0 => (match m[j]? with | some (.blk cs bt _) => if bt == ty && cs.all (fun c => !c.isAny) then some cs else none | _ => none)
 | _ => none
def decP (m : Mem) : (p : PS) → SV → Option p.T
 | .one s, v => decSeg m s v
 | .agg l, v => v.parts.bind (decSegs m l)
 | .ref l ty, v => (blkOf m ty v).bind (decSegs m l)
def decA (m : Mem) : (ps : List PS) → List SV → Option (PsT ps)
 | [], [] => some ()
 | p :: r, v :: vs => match decP m p v, decA m r vs with | some a, some b => some (a, b) | _, _ => none
 | _, _ => none
def encSegs (own : Bool) : (l : List Seg) → SegsT l → Nat → List SV × Mem
 | [], _, _ => ([], [])
 | .fl k :: r, x, n => (k.enc x.1 ++ (encSegs own r x.2 n).1, (encSegs own r x.2 n).2)
 | .row k ty :: r, x, n => (.row n :: (encSegs own r x.2 (n + 1)).1, .row (.ty k x.1) ty own :: (encSegs own r x.2 (n + 1)).2)
 | .nest hk ik ty ity bo :: r, x, n => (.row (n + 1) :: (encSegs own r x.2 (n + 2)).1, .bag ik x.1.2 ity (own && bo) own :: .row (.nest hk x.1.1 n) ty own :: (encSegs own r x.2 (n + 2)).2)
def flV (k : K) (a : k.T) : SV := bif k.isAgg then .agg (k.enc a) else (k.enc a).headD .any
def encSeg (own : Bool) : (s : Seg) → s.T → Nat → SV × Mem
 | .fl k, x, _ => (flV k x, [])
 | .row k ty, x, n => (.row n, [.row (.ty k x) ty own])
 | .nest hk ik ty ity bo, x, n => (.row (n + 1), [.bag ik x.2 ity (own && bo) own, .row (.nest hk x.1 n) ty own])
def encP (own : Bool) : (p : PS) → p.T → Nat → SV × Mem
 | .one s, x, n => encSeg own s x n
 | .agg l, x, n => (.agg (encSegs own l x n).1, (encSegs own l x n).2)
 | .ref l ty, x, n => (.ptr n 0, .blk (encSegs own l x (n + 1)).1 ty own :: (encSegs own l x (n + 1)).2)
def encA (own : Bool) : (ps : List PS) → PsT ps → Nat → List SV × Mem
 | [], _, _ => ([], [])
 | p :: r, x, n => ((encP own p x.1 n).1 :: (encA own r x.2 (n + (encP own p x.1 n).2.length)).1, (encP own p x.1 n).2 ++ (encA own r x.2 (n + (encP own p x.1 n).2.length)).2)
theorem fl_den (ρ ρ' : Nat → Value) {k : K} {v : SV} {a : k.T} (h : decFl k v = some a) : den ρ' (flV k a) = den ρ v ∧ ∀ n, (flV k a).lt n = true := by
 have hd := denL_enc ρ ρ' k a
 have hl : ∀ n, ltL n (k.enc a) = true := fun n => by cases k <;> rfl
 unfold decFl at h
 unfold flV
 cases hk : k.isAgg
 ·rw [hk] at h
  simp only [cond_false] at h ⊢
  obtain ⟨h1, _⟩ := dec_enc k _ a h
  rw [← h1] at hd hl ⊢
  simp only [denL, List.cons.injEq, and_true] at hd
  exact ⟨hd, fun n => by simpa [ltL] using hl n⟩
 ·rw [hk] at h
  simp only [cond_true] at h ⊢
  obtain ⟨l, hv, h⟩ := Option.bind_eq_some_iff.1 h
  obtain ⟨h1, _⟩ := dec_enc k _ a h
  unfold SV.parts at hv
  split at hv
  ·injection hv with hv
   subst hv
   refine ⟨?_, fun n => hl n⟩
   simp only [den]
   rw [hd, h1]
  ·cases hv
def Gives (ρ : Nat → Value) (n : Nat) (vs : List Value) : Prop := ∀ i v, vs[i]? = some v → ρ (n + i) = v
theorem Gives.tail {ρ : Nat → Value} {n : Nat} {v : Value} {vs : List Value} (h : Gives ρ n (v :: vs)) : Gives ρ (n + 1) vs := fun i u hu => by
 have := h (i + 1) u (by simpa using hu)
 rw [show n + 1 + i = n + (i + 1) by omega]
 exact this
theorem Gives.head {ρ : Nat → Value} {n : Nat} {v : Value} {vs : List Value} (h : Gives ρ n (v :: vs)) : ρ n = v := h 0 v rfl
theorem Gives.left {ρ : Nat → Value} {n : Nat} {vs us : List Value} (h : Gives ρ n (vs ++ us)) : Gives ρ n vs := fun i u hu => h i u (by
 have := (List.getElem?_eq_some_iff.1 hu).1
 rw [List.getElem?_append_left this]; exact hu)
theorem Gives.right {ρ : Nat → Value} {n : Nat} {vs us : List Value} (h : Gives ρ n (vs ++ us)) : Gives ρ (n + vs.length) us := fun i u hu => by
 rw [Nat.add_assoc]
 exact h (vs.length + i) u (by rw [List.getElem?_append_right (by omega)]; simpa using hu)
theorem rdRow_ok {W : World} {ρ : Nat → Value} {m : Mem} {w : World} (hm : RelM W ρ m w) {k : K} {v : SV} {l : List k.T} (h : rdRow m k v = some l) : RowIs w (den ρ v) l.length k.sz (l.flatMap fun a => denL ρ (k.enc a)) ∧ (∃ A n c, den ρ v = .slice A n c) := by
 unfold rdRow at h
 split at h
 ·rename_i j
  split at h
  ·rename_i k' l' ty own hj
   split at h
   ·rename_i hk
    subst hk
    injection h with h
    subst h
    have hr := hm.rowIs hj
    have hv := row_val hm hj
    rw [hv]
    obtain ⟨_, A, cap, hρ, _⟩ := id hr
    exact ⟨hr, A, _, cap, hρ⟩
   ·cases h
  ·cases h
 ·rename_i j i
  split at h
  ·rename_i k' ls ty own fr hj
   split at h
   ·rename_i hk
    subst hk
    injection h with h
    subst h
    have hr := hm.inn hj i
    obtain ⟨_, A, cap, hρ, _⟩ := id hr
    exact ⟨hr, A, _, cap, hρ⟩
   ·cases h
  ·cases h
 ·injection h with h
  subst h
  refine ⟨⟨by simp, none, 0, rfl, Nat.le_refl _, by unfold maxLen; omega, fun _ => rfl, fun a ha => by cases ha⟩, none, 0, 0, rfl⟩
 ·cases h
theorem flat_one (ρ : Nat → Value) (k : K) (l : List k.T) : ∀ u ∈ (l.flatMap fun a => denL ρ (k.enc a)), oneC u = true := by
 intro u hu
 simp only [List.mem_flatMap, denL_map, List.mem_map] at hu
 obtain ⟨a, _, c, hc, rfl⟩ := hu
 exact one_den (enc_one k a c hc)
theorem row_obj {W w : World} {ρ ρ' : Nat → Value} {v : Value} {k : K} {l : List k.T} (ty : TypeId) (h : RowIs w v l.length k.sz (l.flatMap fun a => denL ρ (k.enc a))) : ObjIs W w ρ' v (.row (.ty k l) ty false) := by
 have e : (C.ty k l).den ρ' = (l.flatMap fun a => denL ρ (k.enc a)) := by simp only [C.den]; congr 1; funext a; exact denL_enc ρ ρ' k a
 refine ⟨(sz_pos k : 0 < k.sz), fun u hu => ?_, ?_⟩
 ·rw [e] at hu; exact flat_one ρ k l u hu
 ·rw [if_neg (by simp), e]; exact h
theorem enc_lt (k : K) (a : k.T) (n : Nat) : ltL n (k.enc a) = true := by cases k <;> rfl
structure ArgsOk (w : World) (ρ : Nat → Value) (n : Nat) (vals : List Value) (svs : List SV) (os : Mem) (vs : List Value) : Prop where
 len : vs.length = os.length
 den : ∀ ρ', Gives ρ' n vs → denL ρ' svs = vals
 obj : ∀ W ρ', Gives ρ' n vs → ∀ (i : Nat) (o : Obj) (v : Value), os[i]? = some o → vs[i]? = some v → ObjIs W w ρ' v o ∧ o.mutB = false
 lt : ltL (n + os.length) svs = true ∧ ∀ o ∈ os, o.lt (n + os.length) = true
theorem ArgsOk.nil (w : World) (ρ : Nat → Value) (n : Nat) : ArgsOk w ρ n [] [] [] [] := ⟨rfl, fun _ _ => rfl, fun _ _ _ i o v h => by simp at h, rfl, fun o h => by cases h⟩
theorem ArgsOk.app {w : World} {ρ : Nat → Value} {n : Nat} {vals vals' : List Value} {svs svs' : List SV} {os os' : Mem} {vs vs' : List Value} (h : ArgsOk w ρ n vals svs os vs) (h' : ArgsOk w ρ (n + os.length) vals' svs' os' vs') :
  ArgsOk w ρ n (vals ++ vals') (svs ++ svs') (os ++ os') (vs ++ vs') := by
 refine ⟨by simp [h.len, h'.len], fun ρ' hg => ?_, fun W ρ' hg i o v hi hv => ?_, ?_, ?_⟩
 ·rw [denL_map, List.map_append, ← denL_map, ← denL_map, h.den ρ' hg.left, h'.den ρ' (by rw [← h.len]; exact hg.right)]
 ·by_cases hil : i < os.length
  ·rw [List.getElem?_append_left hil] at hi
   rw [List.getElem?_append_left (by rw [h.len]; exact hil)] at hv
   exact h.obj W ρ' hg.left i o v hi hv
  ·rw [List.getElem?_append_right (by omega)] at hi
   rw [List.getElem?_append_right (by rw [h.len]; omega), h.len] at hv
   exact h'.obj W ρ' (by rw [← h.len]; exact hg.right) _ o v hi hv
 ·have h1 := ltL_mono (show n + os.length ≤ n + (os ++ os').length by simp) svs h.lt.1
  have h2 := ltL_mono (show n + os.length + os'.length ≤ n + (os ++ os').length by simp; omega) svs' h'.lt.1
  simp only [ltL_all, List.all_append, Bool.and_eq_true] at *
  exact ⟨h1, h2⟩
 ·intro o ho
  rcases List.mem_append.1 ho with ho | ho
  ·exact Obj.lt_mono (by simp) o (h.lt.2 o ho)
  ·exact Obj.lt_mono (by simp; omega) o (h'.lt.2 o ho)
section
variable {W : World} {ρ : Nat → Value} {m : Mem} {w : World} (hm : RelM W ρ m w)
include hm
theorem nest_arg {hk ik : K} (ty ity : TypeId) (bo : Bool) {c : SV} {a : List hk.T × List (List ik.T)} (h : rdNest m hk ik c = some a) (n : Nat) : ∃ vs, ArgsOk w ρ n [den ρ c] [.row (n + 1)] [.bag ik a.2 ity (false && bo) false, .row (.nest hk a.1 n) ty false] vs := by
 have gen : ∀ (vb v : Value) (l : List hk.T) (ls : List (List ik.T)), den ρ c = v → sliceVal v = v → (∀ (W' : World) (ρ' : Nat → Value), ObjIs W' w ρ' vb (.bag ik ls ity false false)) → RowIs w v l.length (hk.sz + 1) (nestDen ρ hk vb l 0) →
   ∃ vs, ArgsOk w ρ n [den ρ c] [.row (n + 1)] [.bag ik ls ity (false && bo) false, .row (.nest hk l n) ty false] vs := by
  intro vb v l ls hc hs hb hr
  refine ⟨[vb, v], rfl, fun ρ' hg => ?_, fun W' ρ' hg i o u hi hu => ?_, by simp [ltL, SV.lt], fun o ho => ?_⟩
  ·have := hg.tail.head
   simp only [denL, den, this, hs, hc]
  ·have h0 := hg.head
   have h1 := hg.tail.head
   match i with
   | 0 =>
    simp only [List.getElem?_cons_zero, Option.some.injEq] at hi hu
    subst hi hu
    exact ⟨hb W' ρ', rfl⟩
   | 1 =>
    simp only [List.getElem?_cons_succ, List.getElem?_cons_zero, Option.some.injEq] at hi hu
    subst hi hu
    refine ⟨⟨by simp [C.sz], fun u hu => ?_, ?_⟩, rfl⟩
    ·exact nest_one _ _ _ _ _ u hu
    ·rw [if_neg (by simp)]
     simp only [C.den, h0, C.n, C.sz]
     rw [nestDen_enc ρ ρ']
     exact hr
   | i + 2 => simp at hi
  ·simp only [List.mem_cons, List.not_mem_nil, or_false] at ho
   rcases ho with rfl | rfl
   ·rfl
   ·simp [Obj.lt, C.lt]
 unfold rdNest at h
 split at h
 ·rename_i j
  split at h
  ·rename_i k l jb ty' own hj
   split at h
   ·rename_i k' ls ity' own' fr' hjb
    split at h
    ·rename_i hh
     obtain ⟨h1, h2⟩ := hh
     subst h1 h2
     injection h with h
     subst h
     obtain ⟨_, A, cap, hρ, _⟩ := RelM.row hm hj
     refine gen (ρ jb) (ρ j) l ls (row_val hm hj) (by rw [hρ]; rfl) (fun W' ρ' => ?_) ?_
     ·obtain ⟨vs, g1, g2, g3, g4, _⟩ := (hm.obj jb _ hjb).shut
      refine ⟨vs, g1, g2, fun i x l' hi hl => ?_, (fun h => by cases h), fun h => by cases h⟩
      have e : (C.ty k' l').den ρ' = (C.ty k' l').den ρ := by simp only [C.den]; congr 1; funext a; exact denL_enc ρ ρ' k' a
      rw [e]
      exact g3 i x l' hi hl
     ·exact hm.rowIs hj
    ·cases h
   ·cases h
  ·cases h
 ·injection h with h
  subst h
  exact gen (.tuple #[]) (.slice none 0 0) [] [] rfl rfl (fun W' ρ' => ⟨[], rfl, rfl, (fun i x l' h => by simp at h), (fun h => by cases h), fun h => by cases h⟩) ⟨by simp [nestDen], none, 0, rfl, Nat.le_refl _, by unfold maxLen; omega, fun _ => rfl, fun _ h => by cases h⟩
 ·cases h
theorem decSegs_ok : ∀ (l : List Seg) (cs : List SV) (x : SegsT l) (n : Nat), decSegs m l cs = some x → ∃ vs, ArgsOk w ρ n (denL ρ cs) (encSegs false l x n).1 (encSegs false l x n).2 vs
 | [], [], x, n, _ => ⟨[], ArgsOk.nil w ρ n⟩
 | [], _ :: _, x, n, h => by simp [decSegs] at h
 | .fl k :: r, cs, x, n, h => by
  simp only [decSegs] at h
  split at h
  ·rename_i a b ha hb
   injection h with h
   subst h
   obtain ⟨h1, _⟩ := dec_enc k _ a ha
   obtain ⟨vs, hv⟩ := decSegs_ok r _ b n hb
   have h0 : ArgsOk w ρ n (denL ρ (cs.take k.sz)) (k.enc a) [] [] := ⟨rfl, fun ρ' _ => by rw [h1]; exact denL_enc ρ ρ' k a, fun _ _ _ i o v h => by simp at h, enc_lt k a _, fun o h => by cases h⟩
   refine ⟨vs, ?_⟩
   have this := h0.app hv
   have e : denL ρ (cs.take k.sz) ++ denL ρ (cs.drop k.sz) = denL ρ cs := by
    rw [denL_map, denL_map, ← List.map_append, List.take_append_drop, ← denL_map]
   rw [e] at this
   exact this
  ·cases h
 | .row _ _ :: _, [], x, n, h => by simp [decSegs] at h
 | .row k ty :: r, c :: cs, x, n, h => by
  simp only [decSegs] at h
  split at h
  ·rename_i a b ha hb
   injection h with h
   subst h
   obtain ⟨hrow, A, N, cap, hs⟩ := rdRow_ok hm ha
   obtain ⟨vs, hv⟩ := decSegs_ok r _ b (n + 1) hb
   refine ⟨den ρ c :: vs, ?_⟩
   have h0 : ArgsOk w ρ n [den ρ c] [.row n] [.row (.ty k a) ty false] [den ρ c] := by
    refine ⟨rfl, fun ρ' hg => by simp [denL, den, hg.head, hs, sliceVal], fun W' ρ' hg i o v hi hv => ?_, by simp [ltL, SV.lt], fun o ho => by simp at ho; subst ho; rfl⟩
    cases i with
    | zero =>
     simp only [List.getElem?_cons_zero, Option.some.injEq] at hi hv
     subst hi hv
     exact ⟨row_obj ty hrow, rfl⟩
    | succ i => simp at hi
   exact h0.app hv
  ·cases h
 | .nest _ _ _ _ _ :: _, [], x, n, h => by simp [decSegs] at h
 | .nest hk ik ty ity bo :: r, c :: cs, x, n, h => by
  simp only [decSegs] at h
  split at h
  ·rename_i a b ha hb
   injection h with h
   subst h
   obtain ⟨vs0, h0⟩ := nest_arg hm ty ity bo ha n
   obtain ⟨vs, hv⟩ := decSegs_ok r _ b (n + 2) hb
   exact ⟨vs0 ++ vs, h0.app hv⟩
  ·cases h
theorem decP_ok (p : PS) (v : SV) (x : p.T) (n : Nat) (h : decP m p v = some x) : ∃ vs, ArgsOk w ρ n [den ρ v] [(encP false p x n).1] (encP false p x n).2 vs := by
 cases p with
 | one s =>
  cases s with
  | fl k =>
   have hx : decFl k v = some x := h
   refine ⟨[], rfl, fun ρ' _ => ?_, fun _ _ _ i o v h => ?_, ?_, fun o ho => ?_⟩
   ·have := (fl_den ρ ρ' hx).1
    show [den ρ' (flV k x)] = [den ρ v]
    rw [this]
   ·have h : ([] : Mem)[i]? = some o := h
    simp at h
   ·have := (fl_den ρ ρ hx).2 (n + 0)
    show (SV.lt (n + 0) (flV k x) && true) = true
    rw [this]
    rfl
   ·have ho : o ∈ ([] : Mem) := ho
    cases ho
  | row k ty =>
   have hx : rdRow m k v = some x := h
   obtain ⟨hrow, A, N, cap, hs⟩ := rdRow_ok hm hx
   refine ⟨[den ρ v], rfl, fun ρ' hg => by simp [encP, encSeg, denL, den, hg.head, hs, sliceVal], fun W' ρ' hg i o u hi hv => ?_, by simp [encP, encSeg, ltL, SV.lt], fun o ho => ?_⟩
   rotate_left
   ·have ho : o ∈ [Obj.row (.ty k x) ty false] := ho
    simp only [List.mem_singleton] at ho
    subst ho
    rfl
   have hi : [Obj.row (.ty k x) ty false][i]? = some o := hi
   cases i with
   | zero =>
    simp only [List.getElem?_cons_zero, Option.some.injEq] at hi hv
    subst hi hv
    exact ⟨row_obj ty hrow, rfl⟩
   | succ i => simp at hi
  | nest hk ik ty ity bo =>
   have hx : rdNest m hk ik v = some x := h
   exact nest_arg hm ty ity bo hx n
 | agg l =>
  have hx : v.parts.bind (decSegs m l) = some x := h
  obtain ⟨cs, hp, hx⟩ := Option.bind_eq_some_iff.1 hx
  unfold SV.parts at hp
  split at hp
  ·injection hp with hp
   subst hp
   obtain ⟨vs, hv⟩ := decSegs_ok hm _ _ _ n hx
   refine ⟨vs, hv.len, fun ρ' hg => ?_, hv.obj, ?_, hv.lt.2⟩
   ·have := hv.den ρ' hg
    simp only [encP, denL, den, this]
   ·simpa [encP, ltL, SV.lt] using hv.lt.1
  ·cases hp
 | ref l ty =>
  have hx : (blkOf m ty v).bind (decSegs m l) = some x := h
  obtain ⟨cs, hp, hx⟩ := Option.bind_eq_some_iff.1 hx
  unfold blkOf at hp
  split at hp
  ·rename_i j
   split at hp
   ·rename_i cs' bt own hj
    split at hp
    ·rename_i hknown
     simp only [Bool.and_eq_true, beq_iff_eq] at hknown
     obtain ⟨rfl, hknown⟩ := hknown
     injection hp with hp
     subst hp
     obtain ⟨vs, hv⟩ := decSegs_ok hm _ _ _ (n + 1) hx
     obtain ⟨b, arr, hb, hh, hs, hcell⟩ := hm.blk hj
     have hdl : ∀ ρ', Gives ρ' (n + 1) vs → ∀ (i : Nat) (sv : SV), (encSegs false l x (n + 1)).1[i]? = some sv → arr[i]? = some (den ρ' sv) := by
      intro ρ' hg i sv hi
      have h1 := hv.den ρ' hg
      have h2 : (denL ρ' (encSegs false l x (n + 1)).1)[i]? = some (den ρ' sv) := by rw [denL_map, List.getElem?_map, hi]; rfl
      rw [h1, denL_map, List.getElem?_map] at h2
      obtain ⟨c, hc, hce⟩ := Option.map_eq_some_iff.1 h2
      rw [← hce]
      refine hcell i c hc ?_
      simpa using List.all_eq_true.1 hknown c (List.mem_of_getElem? hc)
     have hsl : arr.size = (encSegs false l x (n + 1)).1.length := by
      have h1 := hv.den (fun j => if j < n + 1 then Go.undef else vs.getD (j - (n + 1)) Go.undef) (fun i v hi => by
       show (if n + 1 + i < n + 1 then Go.undef else vs.getD (n + 1 + i - (n + 1)) Go.undef) = v
       rw [if_neg (by omega), show n + 1 + i - (n + 1) = i by omega, List.getD_eq_getElem?_getD, hi]; rfl)
      have h2 := congrArg List.length h1
      rw [zq5, zq5] at h2
      rw [hs, h2]
     have hvp : den ρ (.ptr j 0) = .pointer (some ⟨b, 0, none⟩) := by simp [den, hb, ptrOff, Addr.add]
     have hl1 : n + 1 + (encSegs false l x (n + 1)).2.length = n + ((encSegs false l x (n + 1)).2.length + 1) := by omega
     refine ⟨den ρ (.ptr j 0) :: vs, by simp [encP, hv.len], fun ρ' hg => ?_, fun W' ρ' hg i o u hi hu => ?_, ?_, fun o ho => ?_⟩
     ·have := hg.head
      simp only [encP, denL, den, this, hb]
      simp [ptrOff, Addr.add]
     ·have hi : (Obj.blk (encSegs false l x (n + 1)).1 bt false :: (encSegs false l x (n + 1)).2)[i]? = some o := hi
      cases i with
      | zero =>
       simp only [List.getElem?_cons_zero, Option.some.injEq] at hi hu
       subst hi hu
       exact ⟨⟨b, arr, hvp, fun h => Bool.noConfusion h, hh, hsl, fun i sv hi _ => hdl ρ' hg.tail i sv hi⟩, rfl⟩
      | succ i =>
       exact hv.obj W' ρ' hg.tail i o u (by simpa using hi) (by simpa using hu)
     ·have : (n : Nat) < n + ((encSegs false l x (n + 1)).2.length + 1) := by omega
      simp [encP, ltL, SV.lt]
     ·have ho : o ∈ (Obj.blk (encSegs false l x (n + 1)).1 bt false :: (encSegs false l x (n + 1)).2) := ho
      have hlen : n + (encP false (PS.ref l bt) x n).2.length = n + 1 + (encSegs false l x (n + 1)).2.length := by simp [encP]; omega
      rw [hlen]
      rcases List.mem_cons.1 ho with rfl | ho
      ·have := hv.lt.1
       simp only [Obj.lt, List.all_eq_true, Bool.or_eq_true]
       rw [ltL_all, List.all_eq_true] at this
       exact fun c hc => .inr (this c hc)
      ·exact hv.lt.2 o ho
    ·cases hp
   ·cases hp
  ·cases hp
end
end Go.Ma
namespace Go.Ma
open Go Go.RowKit
section
variable {W : World} {ρ : Nat → Value} {m : Mem} {w : World} (hm : RelM W ρ m w)
include hm
theorem decA_ok : ∀ (ps : List PS) (vs : List SV) (x : PsT ps) (n : Nat), decA m ps vs = some x → ∃ us, ArgsOk w ρ n (denL ρ vs) (encA false ps x n).1 (encA false ps x n).2 us
 | [], [], x, n, _ => ⟨[], ArgsOk.nil w ρ n⟩
 | [], _ :: _, x, n, h => by simp [decA] at h
 | _ :: _, [], x, n, h => by simp [decA] at h
 | p :: r, v :: vs, x, n, h => by
  simp only [decA] at h
  split at h
  ·rename_i a b ha hb
   injection h with h
   subst h
   obtain ⟨us, hu⟩ := decP_ok hm p v a n ha
   obtain ⟨us', hu'⟩ := decA_ok r vs b (n + (encP false p a n).2.length) hb
   exact ⟨us ++ us', hu.app hu'⟩
  ·cases h
end
def nameOf (us : List Value) (j : Nat) : Value := us.getD j Go.undef
theorem gives_nameOf (us : List Value) : Gives (nameOf us) 0 us := fun i v h => by simp [nameOf, List.getD_eq_getElem?_getD, h]
theorem ArgsOk.rel {w : World} {ρ : Nat → Value} {vals : List Value} {svs : List SV} {os : Mem} {us : List Value} (h : ArgsOk w ρ 0 vals svs os us) : RelM w (nameOf us) os w := by
 refine ⟨Below.refl _ _, fun j o hj => ?_, fun i j o o' _ hi _ hmu => ?_, fun j o hj => by have := h.lt.2 o (List.mem_of_getElem? hj); simpa using this⟩
 ·obtain ⟨v, hv⟩ : ∃ v, us[j]? = some v := by
   have hl := (List.getElem?_eq_some_iff.1 hj).1
   exact ⟨us[j]'(by rw [h.len]; exact hl), List.getElem?_eq_getElem _⟩
  have := (h.obj w (nameOf us) (gives_nameOf us) j o v hj hv).1
  rw [show nameOf us j = v by simp [nameOf, List.getD_eq_getElem?_getD, hv]]
  exact this
 ·obtain ⟨v, hv⟩ : ∃ v, us[i]? = some v := by
   have hl := (List.getElem?_eq_some_iff.1 hi).1
   exact ⟨us[i]'(by rw [h.len]; exact hl), List.getElem?_eq_getElem _⟩
  have := (h.obj w (nameOf us) (gives_nameOf us) i o v hi hv).2
  rw [this] at hmu
  cases hmu
def ownRowOf (m : Mem) (k : K) (ty : TypeId) : SV → Option (List k.T)
 | .row j => (match m[j]? with | some (.row (.ty k' l) ty' true) => if h : k' = k then (if ty' == ty then some (castL h l) else none) else none | _ => none)
 | .v (.slice none 0 0) => some []
 | _ => none
def rowNo : SV → List Nat
 | .row j => [j]
 | _ => []
def ownNestOf (m : Mem) (hk ik : K) (ty ity : TypeId) (bo : Bool) : SV → Option ((List hk.T × List (List ik.T)) × List Nat)
 | .row j => (match m[j]? with
  | some (.row (.nest k l jb) ty' true) => (match m[jb]? with
   | some (.bag k' ls ity' own fr) => if h : k = hk ∧ k' = ik then (if ty' == ty && ity' == ity && (own || (!bo && fr)) then some ((castL h.1 l, castLL h.2 ls), [jb, j]) else none) else none
   | _ => none)
  | _ => none)
 | .v (.slice none 0 0) => some (([], []), [])
 | _ => none
def resSegs (m : Mem) : (l : List Seg) → List SV → Option (SegsT l × List Nat)
 | [], [] => some ((), [])
 | [], _ :: _ => none
 | .fl k :: r, cs => match k.dec (cs.take k.sz), resSegs m r (cs.drop k.sz) with | some a, some (b, js) => some ((a, b), js) | _, _ => none
 | .row _ _ :: _, [] => none
 | .row k ty :: r, c :: cs => match ownRowOf m k ty c, resSegs m r cs with | some a, some (b, js) => some ((a, b), rowNo c ++ js) | _, _ => none
 | .nest _ _ _ _ _ :: _, [] => none
 | .nest hk ik ty ity bo :: r, c :: cs => match ownNestOf m hk ik ty ity bo c, resSegs m r cs with | some (a, js), some (b, js') => some ((a, b), js ++ js') | _, _ => none
def resP (m : Mem) : (p : PS) → SV → Option (p.T × List Nat)
 | .one (.fl k), v => (decFl k v).map fun a => (a, [])
 | .one (.row k ty), v => (ownRowOf m k ty v).map fun a => (a, rowNo v)
 | .one (.nest hk ik ty ity bo), v => ownNestOf m hk ik ty ity bo v
 | .agg l, v => v.parts.bind (resSegs m l)
 | .ref _ _, _ => none
def resA (m : Mem) : (ps : List PS) → List SV → Option (PsT ps × List Nat)
 | [], [] => some ((), [])
 | p :: r, v :: vs => match resP m p v, resA m r vs with | some (a, js), some (b, js') => some ((a, b), js ++ js') | _, _ => none
 | _, _ => none
def tupOf : SV → Option (List SV)
 | .tup l => some l
 | _ => none
def distinct : List Nat → Bool
 | [] => true
 | x :: r => !r.contains x && distinct r
def resR (ps : List PS) (v : SV) (m : Mem) : Option (PsT ps) :=
 match (bif ps.length == 1 then resA m ps [v] else (tupOf v).bind (resA m ps)) with
 | some (a, js) => bif distinct js then some a else none
 | none => none
def encR (ps : List PS) (y : PsT ps) (n : Nat) : SV := bif ps.length == 1 then ((encA true ps y n).1).headD .any else .tup (encA true ps y n).1
def SrcIs (ρ : Nat → Value) (m : Mem) (v : Value) (o : Option Obj) : Option Nat → Prop
 | none => valBlocks v = []
 | some j => v = ρ j ∧ ∃ ob, m[j]? = some ob ∧ ob.live' = true ∧ ((o.map Obj.mutB).getD false = true → ob.mutB = true)
structure ResOk (w : World) (base : Nat) (ρ : Nat → Value) (m : Mem) (n : Nat) (vals : List Value) (svs : List SV) (os : Mem) (us : List Value) (js : List Nat) : Prop where
 len : us.length = os.length
 den : ∀ ρ', Gives ρ' n us → denL ρ' svs = vals
 obj : ∀ (i : Nat) (o : Obj) (v : Value), os[i]? = some o → us[i]? = some v → (∀ W ρ', W.heap.size ≤ base → Gives ρ' n us → ObjIs W w ρ' v o) ∧ (∀ b, b ∈ valBlocks v → base ≤ b) ∧ o.lt (n + os.length) = true
 src : ∃ idx : List (Option Nat), idx.length = us.length ∧ idx.filterMap id = js ∧ ∀ (i : Nat) (v : Value) (q : Option Nat), us[i]? = some v → idx[i]? = some q → SrcIs ρ m v os[i]? q
 lt : ltL (n + os.length) svs = true
theorem distinct_idx : ∀ {idx : List (Option Nat)}, distinct (idx.filterMap id) = true → ∀ {i j a b : Nat}, i ≠ j → idx[i]? = some (some a) → idx[j]? = some (some b) → a ≠ b
 | [], _, i, j, a, b, _, h, _ => by simp at h
 | none :: r, hd, i, j, a, b, hij, hi, hj => by
  match i, j with
  | 0, _ => simp at hi
  | _ + 1, 0 => simp at hj
  | i + 1, j + 1 => exact distinct_idx (idx := r) (i := i) (j := j) (by simpa using hd) (by omega) (by simpa using hi) (by simpa using hj)
 | some c :: r, hd, i, j, a, b, hij, hi, hj => by
  have hd : distinct (c :: r.filterMap id) = true := by simpa using hd
  simp only [distinct, Bool.and_eq_true, Bool.not_eq_true', List.contains_eq_mem, decide_eq_false_iff_not] at hd
  have hin : ∀ {k x : Nat}, r[k]? = some (some x) → x ∈ r.filterMap id := fun {k x} h => List.mem_filterMap.2 ⟨some x, List.mem_of_getElem? h, rfl⟩
  match i, j with
  | 0, 0 => exact absurd rfl hij
  | 0, j + 1 =>
   simp only [List.getElem?_cons_zero, Option.some.injEq] at hi
   subst hi
   rintro rfl
   exact hd.1 (hin (by simpa using hj))
  | i + 1, 0 =>
   simp only [List.getElem?_cons_zero, Option.some.injEq] at hj
   subst hj
   rintro rfl
   exact hd.1 (hin (by simpa using hi))
  | i + 1, j + 1 => exact distinct_idx (idx := r) (i := i) (j := j) hd.2 (by omega) (by simpa using hi) (by simpa using hj)
theorem ResOk.nil (w : World) (base : Nat) (ρ : Nat → Value) (m : Mem) (n : Nat) : ResOk w base ρ m n [] [] [] [] [] :=
 ⟨rfl, fun _ _ => rfl, fun i o v h => by simp at h, ⟨[], rfl, rfl, fun i v q h => by simp at h⟩, rfl⟩
theorem ResOk.app {w : World} {base : Nat} {ρ : Nat → Value} {m : Mem} {n : Nat} {vals vals' : List Value} {svs svs' : List SV} {os os' : Mem} {us us' : List Value} {js js' : List Nat}
  (h : ResOk w base ρ m n vals svs os us js) (h' : ResOk w base ρ m (n + os.length) vals' svs' os' us' js') : ResOk w base ρ m n (vals ++ vals') (svs ++ svs') (os ++ os') (us ++ us') (js ++ js') := by
 refine ⟨by simp [h.len, h'.len], fun ρ' hg => ?_, fun i o v hi hv => ?_, ?_, ?_⟩
 ·rw [denL_map, List.map_append, ← denL_map, ← denL_map, h.den ρ' hg.left, h'.den ρ' (by rw [← h.len]; exact hg.right)]
 ·by_cases hil : i < os.length
  ·rw [List.getElem?_append_left hil] at hi
   rw [List.getElem?_append_left (by rw [h.len]; exact hil)] at hv
   obtain ⟨h1, h2, h3⟩ := h.obj i o v hi hv
   exact ⟨fun W ρ' hW hg => h1 W ρ' hW hg.left, h2, Obj.lt_mono (by simp) o h3⟩
  ·rw [List.getElem?_append_right (by omega)] at hi
   rw [List.getElem?_append_right (by rw [h.len]; omega), h.len] at hv
   obtain ⟨h1, h2, h3⟩ := h'.obj _ o v hi hv
   exact ⟨fun W ρ' hW hg => h1 W ρ' hW (by rw [← h.len]; exact hg.right), h2, Obj.lt_mono (by simp; omega) o h3⟩
 ·obtain ⟨idx, i1, i2, i3⟩ := h.src
  obtain ⟨idx', i1', i2', i3'⟩ := h'.src
  refine ⟨idx ++ idx', by simp [i1, i1'], by rw [List.filterMap_append, i2, i2'], fun i v q hv hq => ?_⟩
  by_cases hil : i < us.length
  ·rw [List.getElem?_append_left hil] at hv
   rw [List.getElem?_append_left (by rw [i1]; exact hil)] at hq
   rw [List.getElem?_append_left (by rw [← h.len]; exact hil)]
   exact i3 i v q hv hq
  ·rw [List.getElem?_append_right (by omega)] at hv
   rw [List.getElem?_append_right (by rw [i1]; omega), i1] at hq
   rw [List.getElem?_append_right (by rw [← h.len]; omega), ← h.len]
   exact i3' _ v q hv hq
 ·have h1 := ltL_mono (show n + os.length ≤ n + (os ++ os').length by simp) svs h.lt
  have h2 := ltL_mono (show n + os.length + os'.length ≤ n + (os ++ os').length by simp; omega) svs' h'.lt
  simp only [ltL_all, List.all_append, Bool.and_eq_true] at *
  exact ⟨h1, h2⟩
theorem ResOk.apart {W w : World} {base : Nat} {ρ : Nat → Value} {m : Mem} {n : Nat} {vals : List Value} {svs : List SV} {os : Mem} {us : List Value} {js : List Nat} (h : ResOk w base ρ m n vals svs os us js) (hm : RelM W ρ m w) (hd : distinct js = true)
  {i j : Nat} {v v' : Value} {o o' : Obj} (hij : i ≠ j) (hi : us[i]? = some v) (hj : us[j]? = some v') (ho : os[i]? = some o) (ho' : os[j]? = some o') (hmu : o.mutB = true) : ∀ b, b ∈ valBlocks v → b ∉ o'.blocks v' := by
 intro b hb hb'
 obtain ⟨idx, i1, i2, i3⟩ := h.src
 have hil : i < idx.length := by rw [i1]; exact (List.getElem?_eq_some_iff.1 hi).1
 have hjl : j < idx.length := by rw [i1]; exact (List.getElem?_eq_some_iff.1 hj).1
 have hq := i3 i v _ hi (List.getElem?_eq_getElem hil)
 have hq' := i3 j v' _ hj (List.getElem?_eq_getElem hjl)
 cases hqi : idx[i] with
 | none => rw [hqi] at hq; rw [show valBlocks v = [] from hq] at hb; cases hb
 | some p =>
  cases hqj : idx[j] with
  | none => rw [hqj] at hq'; have hb' := blocks_sub hb'; rw [show valBlocks v' = [] from hq'] at hb'; cases hb'
  | some p' =>
   rw [hqi] at hq
   rw [hqj] at hq'
   obtain ⟨rfl, ob, a1, a2, a3⟩ := hq
   obtain ⟨rfl, ob', a1', a2', a3'⟩ := hq'
   have hne := distinct_idx (idx := idx) (by rw [i2]; exact hd) hij (by rw [List.getElem?_eq_getElem hil, hqi]) (by rw [List.getElem?_eq_getElem hjl, hqj])
   exact hm.sep p p' ob ob' hne a1 a1' (a3 (by rw [ho]; exact hmu)) (live'_iff.2 a2') b hb (by
    cases hmo : o'.mutB
    ·exact rd_blocks (by simpa [Obj.blocks, hmo] using hb')
    ·rw [blocks_mut (a3' (by rw [ho']; exact hmo))]; exact blocks_sub hb')
section
variable {W : World} {ρ : Nat → Value} {m : Mem} {w : World} (hm : RelM W ρ m w)
include hm
theorem ownRow_res {k : K} {ty : TypeId} {v : SV} {l : List k.T} (h : ownRowOf m k ty v = some l) (n : Nat) :
  ResOk w W.heap.size ρ m n [den ρ v] [.row n] [.row (.ty k l) ty true] [den ρ v] (rowNo v) := by
 have one : ∀ {u : Value} {q : Option Nat}, SrcIs ρ m u (some (.row (.ty k l) ty true)) q → q.toList = rowNo v → den ρ v = u → sliceVal u = u → (∀ W' : World, W'.heap.size ≤ W.heap.size → w.ownsRow W'.heap.size ty k.sz u l.length ((C.ty k l).den ρ)) → (∀ b, b ∈ valBlocks u → W.heap.size ≤ b) → ResOk w W.heap.size ρ m n [den ρ v] [.row n] [.row (.ty k l) ty true] [den ρ v] (rowNo v) := by
  intro u q hsrc hq hu hs hown hblk
  refine ⟨rfl, fun ρ' hg => by simp [denL, den, hg.head, hu, hs], fun i o x hi hx => ?_, ⟨[q], rfl, by rw [← hq]; cases q <;> rfl, fun i x q' hx hq' => ?_⟩, by simp [ltL, SV.lt]⟩
  ·cases i with
   | succ i => simp at hi
   | zero =>
    simp only [List.getElem?_cons_zero, Option.some.injEq] at hi hx
    subst hi hx
    refine ⟨fun W' ρ' hW _ => ⟨(sz_pos k : 0 < k.sz), ?_, ?_⟩, by rw [hu]; exact hblk, rfl⟩
    ·exact flat_one ρ' k l
    ·rw [if_pos rfl, hu]
     have e : (C.ty k l).den ρ' = (C.ty k l).den ρ := by simp only [C.den]; congr 1; funext a; exact denL_enc ρ ρ' k a
     rw [e]
     exact hown W' hW
  ·cases i with
   | succ i => simp at hx
   | zero =>
    simp only [List.getElem?_cons_zero, Option.some.injEq] at hx hq'
    subst hx hq'
    rw [hu]
    exact hsrc
 unfold ownRowOf at h
 split at h
 ·rename_i j
  split at h
  ·rename_i k' l' ty' hj
   split at h
   ·rename_i hk
    subst hk
    split at h
    ·rename_i hty
     simp only [beq_iff_eq] at hty
     subst hty
     injection h with h
     subst h
     obtain ⟨g1, g2, g3⟩ := hm.obj j _ hj
     simp only [if_true] at g3
     have hv := row_val hm hj
     have hsl : sliceVal (ρ j) = ρ j := by
      obtain ⟨_, A, cap, hρ, _⟩ := RelM.row hm hj
      rw [hρ]; rfl
     refine one (u := ρ j) (q := some j) ⟨rfl, _, hj, rfl, fun _ => rfl⟩ rfl hv hsl (fun W' hW => ⟨g3.1, g3.2.imp id ?_⟩) (fun b hb => ?_)
     ·rintro ⟨g, cap, cur, h1, h2, h3⟩
      exact ⟨g, cap, cur, h1, by omega, h3⟩
     ·exact (ownsRow_lt g3 ((blocks_one (fun vs e => by rw [e] at hsl; simp [sliceVal] at hsl)).1 hb)).1
    ·cases h
   ·cases h
  ·cases h
 ·injection h with h
  subst h
  exact one (u := .slice none 0 0) (q := none) rfl rfl rfl rfl (fun W' _ => World.ownsRow_nil w _ ty k.sz) (fun b hb => by simp [valBlocks, valBlock] at hb)
 ·cases h
theorem ownNest_res {hk ik : K} {ty ity : TypeId} {bo : Bool} {v : SV} {a : List hk.T × List (List ik.T)} {js : List Nat} (h : ownNestOf m hk ik ty ity bo v = some (a, js)) (n : Nat) :
  ∃ us, ResOk w W.heap.size ρ m n [den ρ v] [.row (n + 1)] [.bag ik a.2 ity (true && bo) true, .row (.nest hk a.1 n) ty true] us js := by
 have gen : ∀ (vb u : Value) (l : List hk.T) (ls : List (List ik.T)) (q q' : Option Nat), SrcIs ρ m vb (some (.bag ik ls ity bo true)) q → SrcIs ρ m u (some (.row (.nest hk l n) ty true)) q' → q.toList ++ q'.toList = js → den ρ v = u → sliceVal u = u →
   (∀ (W' : World) (ρ' : Nat → Value), W'.heap.size ≤ W.heap.size → ObjIs W' w ρ' vb (.bag ik ls ity bo true)) → (∀ b, b ∈ valBlocks vb → W.heap.size ≤ b) → (∀ W' : World, W'.heap.size ≤ W.heap.size → w.ownsRow W'.heap.size ty (hk.sz + 1) u l.length (nestDen ρ hk vb l 0)) → (∀ b, b ∈ valBlocks u → W.heap.size ≤ b) →
   ∃ us, ResOk w W.heap.size ρ m n [den ρ v] [.row (n + 1)] [.bag ik ls ity (true && bo) true, .row (.nest hk l n) ty true] us js := by
  intro vb u l ls q q' h1 h2 hq hu hs hb hbb hr hrb
  refine ⟨[vb, u], rfl, fun ρ' hg => ?_, fun i o x hi hx => ?_, ⟨[q, q'], rfl, by rw [← hq]; cases q <;> cases q' <;> rfl, fun i x p hx hp => ?_⟩, by simp [ltL, SV.lt]⟩
  ·have := hg.tail.head
   simp only [denL, den, this, hs, hu]
  ·match i with
   | 0 =>
    simp only [List.getElem?_cons_zero, Option.some.injEq] at hi hx
    subst hi hx
    exact ⟨fun W' ρ' hW _ => by rw [Bool.true_and]; exact hb W' ρ' hW, hbb, rfl⟩
   | 1 =>
    simp only [List.getElem?_cons_succ, List.getElem?_cons_zero, Option.some.injEq] at hi hx
    subst hi hx
    refine ⟨fun W' ρ' hW hg => ⟨by simp [C.sz], fun u hu => nest_one _ _ _ _ _ u hu, ?_⟩, hrb, by simp [Obj.lt, C.lt]⟩
    rw [if_pos rfl]
    simp only [C.den, hg.head, C.n, C.sz]
    rw [nestDen_enc ρ ρ']
    exact hr W' hW
   | i + 2 => simp at hi
  ·match i with
   | 0 =>
    simp only [List.getElem?_cons_zero, Option.some.injEq] at hx hp
    subst hx hp
    rw [Bool.true_and]
    exact h1
   | 1 =>
    simp only [List.getElem?_cons_succ, List.getElem?_cons_zero, Option.some.injEq] at hx hp
    subst hx hp
    exact h2
   | i + 2 => simp at hx
 unfold ownNestOf at h
 split at h
 ·rename_i j
  split at h
  ·rename_i k l jb ty' hj
   split at h
   ·rename_i k' ls ity' own fr hjb
    split at h
    ·rename_i hh
     obtain ⟨h1, h2⟩ := hh
     subst h1 h2
     split at h
     ·rename_i hc
      simp only [Bool.and_eq_true, beq_iff_eq, Bool.or_eq_true, Bool.not_eq_true'] at hc
      obtain ⟨⟨rfl, rfl⟩, hof⟩ := hc
      simp only [Option.some.injEq, Prod.mk.injEq] at h
      obtain ⟨rfl, rfl⟩ := h
      obtain ⟨g1, g2, g3⟩ := hm.obj j _ hj
      simp only [if_true] at g3
      have hv := row_val hm hj
      have hsl : sliceVal (ρ j) = ρ j := by
       obtain ⟨_, A, cap, hρ, _⟩ := RelM.row hm hj
       rw [hρ]; rfl
      have hbo : bo = true → own = true := fun hb => by rcases hof with h | ⟨h, _⟩; exact h; rw [hb] at h; cases h
      obtain ⟨vs, b1, b2, b3, b4, b5⟩ := hm.obj jb _ hjb
      obtain ⟨vs', c1, c2, c3, _, c5⟩ := (hm.obj jb _ hjb).shut
      have hfresh : ∀ x ∈ vs, ∀ b, valBlock x = some b → W.heap.size ≤ b := by
       rw [b1] at c1
       injection c1 with c1
       have : vs = vs' := by simpa using c1
       subst this
       exact c5 (by rcases hof with h | ⟨_, h⟩ <;> simp [h])
      have hvs : vs' = vs := by
       rw [b1] at c1
       injection c1 with c1
       exact (by simpa using c1 : vs = vs').symm
      subst hvs
      refine gen (ρ jb) (ρ j) l ls (some jb) (some j) ⟨rfl, _, hjb, rfl, fun h => hbo h⟩ ⟨rfl, _, hj, rfl, fun _ => rfl⟩ rfl hv hsl (fun W' ρ' hW => ?_) (fun b hb => ?_) (fun W' hW => ⟨g3.1, g3.2.imp id ?_⟩) (fun b hb => ?_)
      ·have e : ∀ l : List k'.T, (C.ty k' l).den ρ' = (C.ty k' l).den ρ := fun l => by simp only [C.den]; congr 1; funext a; exact denL_enc ρ ρ' k' a
       refine ⟨vs', b1, b2, fun i x l' hi hl => ?_, fun hb => b4 (hbo hb), fun _ x hx b hb => by have := hfresh x hx b hb; omega⟩
       rw [e]
       cases hb : bo
       ·have := c3 i x l' hi hl
        simpa using this
       ·have := b3 i x l' hi hl
        rw [hbo hb] at this
        simp only [if_true] at this ⊢
        refine ⟨this.1, this.2.imp id ?_⟩
        rintro ⟨g, cap, cur, h1, h2, h3⟩
        exact ⟨g, cap, cur, h1, by omega, h3⟩
      ·rw [b1] at hb
       simp only [valBlocks, List.mem_filterMap] at hb
       obtain ⟨x, hx, hxb⟩ := hb
       exact hfresh x (by simpa using hx) b hxb
      ·rintro ⟨g, cap, cur, h1, h2, h3⟩
       exact ⟨g, cap, cur, h1, by omega, h3⟩
      ·exact (ownsRow_lt g3 ((blocks_one (fun vs e => by rw [e] at hsl; simp [sliceVal] at hsl)).1 hb)).1
     ·cases h
    ·cases h
   ·cases h
  ·cases h
 ·simp only [Option.some.injEq, Prod.mk.injEq] at h
  obtain ⟨rfl, rfl⟩ := h
  exact gen (.tuple #[]) (.slice none 0 0) [] [] none none (by simp [SrcIs, valBlocks]) (by simp [SrcIs, valBlocks, valBlock]) rfl rfl rfl (fun W' ρ' _ => ⟨[], rfl, rfl, (fun i x l' h => by simp at h), (fun _ i j x y b _ h => by simp at h), fun _ x h => by cases h⟩) (fun b hb => by simp [valBlocks] at hb) (fun W' _ => World.ownsRow_nil w _ ty _) (fun b hb => by simp [valBlocks, valBlock] at hb)
 ·cases h
theorem fl_res {k : K} {vals : List Value} {a : k.T} (h : ∀ ρ', denL ρ' (k.enc a) = vals) (n : Nat) : ResOk w W.heap.size ρ m n vals (k.enc a) [] [] [] :=
 have _hs := hm
 ⟨rfl, fun ρ' _ => h ρ', fun i o v h => by simp at h, ⟨[], rfl, rfl, fun i v q h => by simp at h⟩, enc_lt k a _⟩
theorem resSegs_ok : ∀ (l : List Seg) (cs : List SV) (x : SegsT l) (js : List Nat) (n : Nat), resSegs m l cs = some (x, js) → ∃ us, ResOk w W.heap.size ρ m n (denL ρ cs) (encSegs true l x n).1 (encSegs true l x n).2 us js
 | [], [], x, js, n, h => by simp only [resSegs, Option.some.injEq, Prod.mk.injEq] at h; obtain ⟨_, rfl⟩ := h; exact ⟨[], ResOk.nil w _ ρ _ n⟩
 | [], _ :: _, x, js, n, h => by simp [resSegs] at h
 | .fl k :: r, cs, x, js, n, h => by
  simp only [resSegs] at h
  split at h
  ·rename_i a b js' ha hb
   simp only [Option.some.injEq, Prod.mk.injEq] at h
   obtain ⟨rfl, rfl⟩ := h
   obtain ⟨h1, _⟩ := dec_enc k _ a ha
   obtain ⟨us, hu⟩ := resSegs_ok r _ b _ n hb
   have h0 : ResOk w W.heap.size ρ m n (denL ρ (cs.take k.sz)) (k.enc a) [] [] [] := fl_res hm (fun ρ' => by rw [h1]; exact denL_enc ρ ρ' k a) n
   have this := h0.app hu
   have e : denL ρ (cs.take k.sz) ++ denL ρ (cs.drop k.sz) = denL ρ cs := by
    rw [denL_map, denL_map, ← List.map_append, List.take_append_drop, ← denL_map]
   rw [e] at this
   exact ⟨us, this⟩
  ·cases h
 | .row _ _ :: _, [], x, js, n, h => by simp [resSegs] at h
 | .row k ty :: r, c :: cs, x, js, n, h => by
  simp only [resSegs] at h
  split at h
  ·rename_i a b js' ha hb
   simp only [Option.some.injEq, Prod.mk.injEq] at h
   obtain ⟨rfl, rfl⟩ := h
   have h0 := ownRow_res hm ha n
   obtain ⟨us, hu⟩ := resSegs_ok r _ b _ (n + 1) hb
   exact ⟨_, h0.app hu⟩
  ·cases h
 | .nest _ _ _ _ _ :: _, [], x, js, n, h => by simp [resSegs] at h
 | .nest hk ik ty ity bo :: r, c :: cs, x, js, n, h => by
  simp only [resSegs] at h
  split at h
  ·rename_i a js1 b js2 ha hb
   simp only [Option.some.injEq, Prod.mk.injEq] at h
   obtain ⟨rfl, rfl⟩ := h
   obtain ⟨us0, h0⟩ := ownNest_res hm ha n
   obtain ⟨us, hu⟩ := resSegs_ok r _ b _ (n + 2) hb
   exact ⟨_, h0.app hu⟩
  ·cases h
theorem resP_ok (p : PS) (v : SV) (x : p.T) (js : List Nat) (n : Nat) (h : resP m p v = some (x, js)) : ∃ us, ResOk w W.heap.size ρ m n [den ρ v] [(encP true p x n).1] (encP true p x n).2 us js := by
 cases p with
 | one s =>
  cases s with
  | fl k =>
   have hx : (decFl k v).map (fun a => (a, ([] : List Nat))) = some (x, js) := h
   obtain ⟨a, ha, hx⟩ := Option.map_eq_some_iff.1 hx
   cases hx
   refine ⟨[], rfl, fun ρ' _ => ?_, fun i o v h => ?_, ⟨[], rfl, rfl, fun i v q h => by simp at h⟩, ?_⟩
   ·have := (fl_den ρ ρ' ha).1
    show [den ρ' (flV k x)] = [den ρ v]
    rw [this]
   ·have h : ([] : Mem)[i]? = some o := h
    simp at h
   ·have := (fl_den ρ ρ ha).2 (n + 0)
    show (SV.lt (n + 0) (flV k x) && true) = true
    rw [this]
    rfl
  | row k ty =>
   have hx : (ownRowOf m k ty v).map (fun a => (a, rowNo v)) = some (x, js) := h
   obtain ⟨a, ha, hx⟩ := Option.map_eq_some_iff.1 hx
   cases hx
   exact ⟨_, ownRow_res hm ha n⟩
  | nest hk ik ty ity bo =>
   have hx : ownNestOf m hk ik ty ity bo v = some (x, js) := h
   exact ownNest_res hm hx n
 | agg l =>
  have hx : v.parts.bind (resSegs m l) = some (x, js) := h
  obtain ⟨cs, hp, hx⟩ := Option.bind_eq_some_iff.1 hx
  unfold SV.parts at hp
  split at hp
  ·injection hp with hp
   subst hp
   obtain ⟨us, hv⟩ := resSegs_ok hm _ _ _ _ n hx
   refine ⟨us, hv.len, fun ρ' hg => ?_, hv.obj, hv.src, ?_⟩
   ·have := hv.den ρ' hg
    simp only [encP, denL, den, this]
   ·simpa [encP, ltL, SV.lt] using hv.lt
  ·cases hp
 | ref l ty =>
  have hx : (none : Option (SegsT l × List Nat)) = some (x, js) := h
  cases hx
theorem resA_ok : ∀ (ps : List PS) (vs : List SV) (x : PsT ps) (js : List Nat) (n : Nat), resA m ps vs = some (x, js) → ∃ us, ResOk w W.heap.size ρ m n (denL ρ vs) (encA true ps x n).1 (encA true ps x n).2 us js
 | [], [], x, js, n, h => by simp only [resA, Option.some.injEq, Prod.mk.injEq] at h; obtain ⟨_, rfl⟩ := h; exact ⟨[], ResOk.nil w _ ρ _ n⟩
 | [], _ :: _, x, js, n, h => by simp [resA] at h
 | _ :: _, [], x, js, n, h => by simp [resA] at h
 | p :: r, v :: vs, x, js, n, h => by
  simp only [resA] at h
  split at h
  ·rename_i a js1 b js2 ha hb
   simp only [Option.some.injEq, Prod.mk.injEq] at h
   obtain ⟨rfl, rfl⟩ := h
   obtain ⟨us, hu⟩ := resP_ok hm p v a js1 n ha
   obtain ⟨us', hu'⟩ := resA_ok r vs b js2 (n + (encP true p a n).2.length) hb
   exact ⟨us ++ us', hu.app hu'⟩
  ·cases h
end
theorem RelM.pushL {W : World} {ρ : Nat → Value} {m : Mem} {w w' : World} (h : RelM W ρ m w) (hb : Below w.heap.size w w') {os : Mem} {us : List Value} (hlen : us.length = os.length)
  (ho : ∀ (i : Nat) (o : Obj) (v : Value), os[i]? = some o → us[i]? = some v → (∀ ρ', Gives ρ' m.length us → ObjIs W w' ρ' v o) ∧ (∀ b, b ∈ valBlocks v → w.heap.size ≤ b) ∧ o.lt (m.length + os.length) = true)
  (hd : ∀ (i j : Nat) (v v' : Value) (o o' : Obj), i ≠ j → us[i]? = some v → us[j]? = some v' → os[i]? = some o → os[j]? = some o' → o.mutB = true → ∀ b, b ∈ valBlocks v → b ∉ o'.blocks v') :
  ∃ ρ', Agree m.length ρ ρ' ∧ Gives ρ' m.length us ∧ RelM W ρ' (m ++ os) w' := by
 obtain ⟨ρ', hρ'⟩ : ∃ ρ' : Nat → Value, ρ' = fun j => if j < m.length then ρ j else us.getD (j - m.length) Go.undef := ⟨_, rfl⟩
 have ha : Agree m.length ρ ρ' := fun j hj => by rw [hρ']; simp [hj]
 have hg : Gives ρ' m.length us := fun i v hi => by
  rw [hρ']
  show (if m.length + i < m.length then _ else us.getD (m.length + i - m.length) Go.undef) = v
  rw [if_neg (by omega), show m.length + i - m.length = i by omega, List.getD_eq_getElem?_getD, hi]
  rfl
 have hk := h.later hb
 have key : ∀ {k : Nat} {o : Obj}, (m ++ os)[k]? = some o → (k < m.length ∧ m[k]? = some o) ∨ (∃ i v, k = m.length + i ∧ os[i]? = some o ∧ us[i]? = some v ∧ ρ' k = v) := by
  intro k o hk
  by_cases hlt : k < m.length
  ·rw [List.getElem?_append_left hlt] at hk; exact .inl ⟨hlt, hk⟩
  ·rw [List.getElem?_append_right (by omega)] at hk
   have hl := (List.getElem?_eq_some_iff.1 hk).1
   have hv : us[k - m.length]? = some (us[k - m.length]'(by rw [hlen]; exact hl)) := List.getElem?_eq_getElem _
   have := hg _ _ hv
   rw [show m.length + (k - m.length) = k by omega] at this
   exact .inr ⟨k - m.length, _, by omega, hk, hv, this⟩
 refine ⟨ρ', ha, hg, hk.below, fun j o hj => ?_, fun i j o1 o2 hij hi hj hmu hdd b hbi hbj => ?_, fun j o hj => ?_⟩
 ·rcases key hj with ⟨hlt, hj⟩ | ⟨i, v, rfl, hi, hv, hr⟩
  ·rw [ha j hlt]
   exact (hk.obj j o hj).agree ha (h.lt j o hj)
  ·rw [hr]
   exact (ho i o v hi hv).1 ρ' hg
 ·rcases key hi with ⟨hil, hi⟩ | ⟨i', v, rfl, hi, hv, hr⟩ <;> rcases key hj with ⟨hjl, hj⟩ | ⟨j', v', rfl, hj, hv', hr'⟩
  ·rw [ha i hil] at hbi
   rw [ha j hjl] at hbj
   exact h.sep i j o1 o2 hij hi hj hmu hdd b hbi hbj
  ·rw [ha i hil] at hbi
   rw [hr'] at hbj
   have h1 := (ho j' o2 v' hj hv').2.1 b (blocks_sub hbj)
   have h2 : b < w.heap.size := ObjIs.lt_heap (by rw [blocks_mut hmu]; exact hbi) (mutB_live hmu) (h.obj i o1 hi)
   omega
  ·rw [ha j hjl] at hbj
   rw [hr] at hbi
   have h1 := (ho i' o1 v hi hv).2.1 b hbi
   have h2 : b < w.heap.size := ObjIs.lt_heap hbj hdd (h.obj j o2 hj)
   omega
  ·rw [hr] at hbi
   rw [hr'] at hbj
   exact hd i' j' v v' o1 o2 (by rintro rfl; exact hij rfl) hv hv' hi hj hmu b hbi hbj
 ·rcases key hj with ⟨hlt, hj⟩ | ⟨i, v, rfl, hi, hv, hr⟩
  ·exact Obj.lt_mono (by simp) o (h.lt j o hj)
  ·rw [List.length_append]; exact (ho i o v hi hv).2.2
def flatP : PS → Bool
 | .one (.fl _) => true
 | _ => false
def conTr (ps rs : List PS) (t : PsT ps → Option (PsT rs)) : Tr := fun _ args m k =>
 (decA m ps args).bind fun x => (t x).bind fun y => k (encR rs y m.length) (m ++ (encA true rs y m.length).2)
def con (ps rs : List PS) (t : PsT ps → Option (PsT rs)) : Con := { tr := conTr ps rs t, q := rs.all flatP, law := true }
theorem flat_os : ∀ (rs : List PS) (y : PsT rs) (n : Nat), rs.all flatP = true → (encA true rs y n).2 = []
 | [], _, _, _ => rfl
 | p :: r, y, n, h => by
  simp only [List.all_cons, Bool.and_eq_true] at h
  have h0 : (encP true p y.1 n).2 = [] := by
   cases p with
   | one s => cases s with
    | fl k => rfl
    | row k ty => simp [flatP] at h
    | nest _ _ _ _ _ => simp [flatP] at h
   | agg l => simp [flatP] at h
   | ref l ty => simp [flatP] at h
  simp only [encA, h0, List.nil_append, List.length_nil]
  exact flat_os r y.2 _ h.2
theorem flV_lt (k : K) (a : k.T) (n : Nat) : (flV k a).lt n = true := by cases k <;> rfl
theorem flat_lt : ∀ (rs : List PS) (y : PsT rs) (n k : Nat), rs.all flatP = true → ltL k (encA true rs y n).1 = true
 | [], _, _, _, _ => rfl
 | p :: r, y, n, k, h => by
  simp only [List.all_cons, Bool.and_eq_true] at h
  have h0 : (encP true p y.1 n).1.lt k = true := by
   cases p with
   | one s => cases s with
    | fl k' => exact flV_lt k' y.1 k
    | row k ty => simp [flatP] at h
    | nest _ _ _ _ _ => simp [flatP] at h
   | agg l => simp [flatP] at h
   | ref l ty => simp [flatP] at h
  simp only [encA, ltL, h0, Bool.true_and]
  exact flat_lt r y.2 _ k h.2
theorem encR_lt (rs : List PS) (y : PsT rs) (n : Nat) (h : rs.all flatP = true) : (encR rs y n).lt 0 = true := by
 have h0 := flat_lt rs y n 0 h
 unfold encR
 cases rs.length == 1
 ·simpa only [cond_false, SV.lt] using h0
 ·simp only [cond_true]
  cases hx : (encA true rs y n).1 with
  | nil => rfl
  | cons c r =>
   rw [hx] at h0
   simp only [ltL, Bool.and_eq_true] at h0
   exact h0.1
theorem RelM.back {W : World} {ρ ρ' : Nat → Value} {m : Mem} {w : World} (h : RelM W ρ' m w) (ha : Agree m.length ρ ρ') (hlt : ∀ (j : Nat) (o : Obj), m[j]? = some o → o.lt m.length = true) : RelM W ρ m w := by
 have hl : ∀ {j : Nat} {o : Obj}, m[j]? = some o → j < m.length := fun hj => (List.getElem?_eq_some_iff.1 hj).1
 refine ⟨h.below, fun j o hj => ?_, fun i j o o' hij hi hj hmu hd b hb hb' => ?_, hlt⟩
 ·have := h.obj j o hj
  rw [ha j (hl hj)] at this
  have hag : Agree m.length ρ' ρ := fun i hi => (ha i hi).symm
  exact this.agree hag (hlt j o hj)
 ·rw [← ha i (hl hi)] at hb
  rw [← ha j (hl hj)] at hb'
  exact h.sep i j o o' hij hi hj hmu hd b hb hb'
theorem encR_den {rs : List PS} {y : PsT rs} {n : Nat} {ρ' : Nat → Value} {vals : List Value} {v : Value} (hlen : (encA true rs y n).1.length = rs.length) (h : denL ρ' (encA true rs y n).1 = vals) (hv : v = if rs.length = 1 then vals.headD Go.undef else .tuple vals.toArray) : den ρ' (encR rs y n) = v := by
 unfold encR
 rw [hv]
 by_cases h1 : rs.length = 1
 ·rw [if_pos h1, show (rs.length == 1) = true by simpa using h1]
  simp only [cond_true]
  rw [h1] at hlen
  match hx : (encA true rs y n).1, hlen with
  | [c], _ =>
   rw [hx] at h
   rw [← h]
   rfl
 ·rw [if_neg h1, show (rs.length == 1) = false by simpa using h1]
  simp only [cond_false, den, h]
theorem encA_len (own : Bool) : ∀ (ps : List PS) (x : PsT ps) (n : Nat), (encA own ps x n).1.length = ps.length
 | [], _, _ => rfl
 | p :: r, x, n => by simp [encA, encA_len own r]
theorem resR_ok {W : World} {ρ : Nat → Value} {m : Mem} {w : World} (hm : RelM W ρ m w) {rs : List PS} {v : SV} {y : PsT rs} (h : resR rs v m = some y) (n : Nat) :
  ∃ vals us js, ResOk w W.heap.size ρ m n vals (encA true rs y n).1 (encA true rs y n).2 us js ∧ distinct js = true ∧ den ρ v = (if rs.length = 1 then vals.headD Go.undef else .tuple vals.toArray) := by
 unfold resR at h
 by_cases h1 : rs.length = 1
 ·rw [show (rs.length == 1) = true by simpa using h1] at h
  simp only [cond_true] at h
  split at h
  ·rename_i a js ha
   cases hd : distinct js
   ·rw [hd] at h; cases h
   ·rw [hd] at h
    injection h with h
    subst h
    obtain ⟨us, hu⟩ := resA_ok hm rs [v] a js n ha
    exact ⟨_, us, js, hu, hd, by rw [if_pos h1]; rfl⟩
  ·cases h
 ·rw [show (rs.length == 1) = false by simpa using h1] at h
  simp only [cond_false] at h
  split at h
  ·rename_i a js ha
   obtain ⟨l, hl, ha⟩ := Option.bind_eq_some_iff.1 ha
   cases hd : distinct js
   ·rw [hd] at h; cases h
   ·rw [hd] at h
    injection h with h
    subst h
    unfold tupOf at hl
    split at hl
    ·injection hl with hl
     subst hl
     obtain ⟨us, hu⟩ := resA_ok hm rs _ a js n ha
     exact ⟨_, us, js, hu, hd, by rw [if_neg h1]; rfl⟩
    ·cases hl
  ·cases h
theorem con_of {P : Program} {f : FuncId} (ps rs : List PS) (t : PsT ps → Option (PsT rs))
  (hc : ∀ (x : PsT ps) (y : PsT rs), t x = some y → ∀ (ρ : Nat → Value) (us vals : List Value) (w : World), Glob P w → ArgsOk w ρ 0 vals (encA false ps x 0).1 (encA false ps x 0).2 us →
   Calls P f vals.toArray w fun e w' => ∃ ρc r m', e = .returned (den ρc r) ∧ RelM w ρc m' w' ∧ resR rs r m' = some y) : TrOk P f (con ps rs t) := by
 -- a call, from the caller's world on
 have main : ∀ {W : World}, Glob P W → ∀ {args : List SV} {m : Mem} {x : PsT ps} {y : PsT rs}, decA m ps args = some x → t x = some y → ∀ ρ w, RelM W ρ m w →
   Calls P f (denL ρ args).toArray w fun e w' => ∃ ρ', e = .returned (den ρ' (encR rs y m.length)) ∧ RelM W ρ' (m ++ (encA true rs y m.length).2) w' ∧ Agree m.length ρ ρ' ∧ (encR rs y m.length).lt (m ++ (encA true rs y m.length).2).length = true := by
  intro W hG args m x y hx hy ρ w hm
  obtain ⟨us, hu⟩ := decA_ok hm ps args x 0 hx
  refine (hc x y hy ρ us _ w (hG.mono hm.below) hu).mono ?_
  rintro e w' ⟨ρc, r, m', rfl, hm', hres⟩
  obtain ⟨vals, vs, js, hr, hd, hv⟩ := resR_ok hm' hres m.length
  obtain ⟨ρ', hag, hg, hpush⟩ := hm.pushL hm'.below hr.len (fun i o v hi hv => by
    obtain ⟨h1, h2, h3⟩ := hr.obj i o v hi hv
    exact ⟨fun ρ' hg => h1 W ρ' hm.below.size hg, h2, h3⟩) (fun i j v v' o o' hij hi hj ho ho' hmu => hr.apart hm' hd hij hi hj ho ho' hmu)
  refine ⟨ρ', ?_, hpush, hag, ?_⟩
  ·rw [encR_den (encA_len true rs y _) (hr.den ρ' hg) hv]
  ·have hlt := hr.lt
   rw [List.length_append]
   unfold encR
   by_cases h1 : rs.length = 1
   ·rw [show (rs.length == 1) = true by simpa using h1]
    simp only [cond_true]
    have hlen := encA_len true rs y m.length
    rw [h1] at hlen
    match hx : (encA true rs y m.length).1, hlen with
    | [c], _ =>
     rw [hx] at hlt
     simpa [ltL] using hlt
   ·rw [show (rs.length == 1) = false by simpa using h1]
    simpa only [cond_false, SV.lt] using hlt
 refine ⟨fun W hG X args m k x hk hany => ⟨fun hlt ρ w hm => ?_⟩, fun hq W hG X args m k x hk hany => ⟨fun hlt => ?_⟩, fun _ X args m k x hk => ?_⟩
 ·simp only [con, conTr] at hk
  obtain ⟨a, ha, hk⟩ := Option.bind_eq_some_iff.1 hk
  obtain ⟨y, hy, hk⟩ := Option.bind_eq_some_iff.1 hk
  refine (main hG ha hy ρ w hm).mono ?_
  rintro e w' ⟨ρ', rfl, hm', hag, hl'⟩
  exact ⟨ρ', _, _, rfl, hm', hag, by simp, fun _ => hl', hk⟩
 ·simp only [con, conTr] at hk hq
  obtain ⟨a, ha, hk⟩ := Option.bind_eq_some_iff.1 hk
  obtain ⟨y, hy, hk⟩ := Option.bind_eq_some_iff.1 hk
  have hos := flat_os rs y m.length hq
  have hcl : (encR rs y m.length).lt 0 = true := encR_lt rs y _ hq
  refine ⟨encR rs y m.length, lt_mono (Nat.zero_le _) _ hcl, fun ρ w hm => (main hG ha hy ρ w hm).mono ?_, hk⟩
  rintro e w' ⟨ρ', rfl, hm', hag, hl'⟩
  rw [hos, List.append_nil] at hm'
  refine ⟨?_, ?_⟩
  ·rw [den_agree (n := 0) (fun i hi => absurd hi (by omega)) _ hcl]
  ·exact hm'.back hag hm.lt
 ·simp only [con, conTr] at hk ⊢
  obtain ⟨a, ha, hk⟩ := Option.bind_eq_some_iff.1 hk
  obtain ⟨y, hy, hk⟩ := Option.bind_eq_some_iff.1 hk
  exact ⟨_, _, by rw [ha, Option.bind_some, hy, Option.bind_some], hk, fun _ => ⟨_, rfl⟩⟩
theorem con_ok {P : Program} {E : Env} (hE : EnvOk P E) {f : FuncId} {fn : Func} (hf : P.funcs[f]? = some fn) (hl : ∀ c, fn.body = some c → LoopsOk P E c) (ps rs : List PS) (t : PsT ps → Option (PsT rs))
  (h : ∀ x, ixF E fn (encA false ps x 0).1 (encA false ps x 0).2 (resR rs) = t x) : TrOk P f (con ps rs t) := by
 refine con_of ps rs t fun x y hy ρ us vals w hG hu => ?_
 have hrel := hu.rel
 have hden := hu.den _ (gives_nameOf us)
 have hcall := calls_of_ix (m := (encA false ps x 0).2) (W := w) ⟨hE, hG⟩ hf hl (by have := hu.lt.1; simpa using this) ((h x).trans hy) hrel
 rw [hden] at hcall
 refine hcall.mono ?_
 rintro e w' ⟨ρc, r, m', rfl, hm', _, _, _, hres⟩
 exact ⟨ρc, r, m', rfl, hm', hres⟩
theorem con_none (P : Program) (f : FuncId) (ps rs : List PS) : TrOk P f (con ps rs fun _ => none) := con_of ps rs _ fun _ _ hy => by cases hy
def RECN : Nat := 300
end Go.Ma
namespace Go.Ma
open Go Go.RowKit
def i64In (x : Int) : Prop := -9223372036854775808 ≤ x ∧ x < 9223372036854775808
def u64In (x : Int) : Prop := 0 ≤ x ∧ x < 18446744073709551616
def u8In (x : Int) : Prop := 0 ≤ x ∧ x < 256
def strIn (s : ByteArray) : Prop := s.size ≤ maxLen
def Ad.In (a : Ad) : Prop := u64In a.hi ∧ u64In a.lo
def Pf.In (p : Pf) : Prop := p.ad.In ∧ i64In p.bits
def Ls.In (x : Ls) : Prop := x.ad.In ∧ strIn x.who ∧ i64In x.upto
def Oq.In (o : Oq) : Prop := i64In o.kind ∧ o.pf.In ∧ o.ad.In ∧ strIn o.who ∧ i64In o.of_ ∧ i64In o.n
def En.In (e : En) : Prop := i64In e.num ∧ i64In e.epoch ∧ e.op.In
def Ev.In (e : Ev) : Prop := i64In e.kind ∧ i64In e.who ∧ i64In e.n ∧ e.op.In
def K.In : (k : K) → k.T → Prop
 | .int => i64In | .u64 => u64In | .u8 => u8In | .bool => fun _ => True | .str => strIn
 | .addr => Ad.In | .pfx => Pf.In | .lease => Ls.In | .op => Oq.In | .entry => En.In | .event => Ev.In
def rowIn (k : K) (l : List k.T) : Prop := l.length ≤ maxLen ∧ ∀ a ∈ l, k.In a
def Seg.In : (s : Seg) → s.T → Prop
 | .fl k, x => k.In x
 | .row k _, l => rowIn k l
 | .nest hk ik _ _ _, x => rowIn hk x.1 ∧ x.2.length = x.1.length ∧ ∀ l ∈ x.2, rowIn ik l
def SegsIn : (l : List Seg) → SegsT l → Prop
 | [], _ => True
 | s :: r, x => s.In x.1 ∧ SegsIn r x.2
def PS.In : (p : PS) → p.T → Prop
 | .one s, x => s.In x
 | .agg l, x => SegsIn l x
 | .ref l _, x => SegsIn l x
def PsIn : (ps : List PS) → PsT ps → Prop
 | [], _ => True
 | p :: r, x => p.In x.1 ∧ PsIn r x.2
def K.Le (M : Nat) : (k : K) → k.T → Prop
 | .str, (s : ByteArray) => s.size ≤ M
 | _, _ => True
def Seg.Le (M : Nat) : (s : Seg) → s.T → Prop
 | .fl k, x => k.Le M x
 | .row _ _, l => l.length ≤ M
 | .nest _ _ _ _ _, x => x.1.length ≤ M
def SegsLe (M : Nat) : (l : List Seg) → SegsT l → Prop
 | [], _ => True
 | s :: r, x => s.Le M x.1 ∧ SegsLe M r x.2
def PS.Le (M : Nat) : (p : PS) → p.T → Prop
 | .one s, x => s.Le M x
 | .agg l, x => SegsLe M l x
 | .ref l _, x => SegsLe M l x
def PsLe (M : Nat) : (ps : List PS) → PsT ps → Prop
 | [], _ => True
 | p :: r, x => p.Le M x.1 ∧ PsLe M r x.2
inductive Lf where
 | bool | int (k : IntKind) | str | row (e : TypeId)
 deriving DecidableEq
def adL : List Lf := [.bool, .int .u64, .int .u64]
def pfL : List Lf := adL ++ [.int .i64]
def opL : List Lf := [.int .i64] ++ pfL ++ adL ++ [.str, .int .i64, .int .i64]
def K.leaves : K → List Lf
 | .int => [.int .i64] | .u64 => [.int .u64] | .u8 => [.int .u8] | .bool => [.bool] | .str => [.str]
 | .addr => adL | .pfx => pfL | .lease => adL ++ [.str, .int .i64] | .op => opL
 | .entry => [.int .i64, .int .i64] ++ opL | .event => [.int .i64, .int .i64, .int .i64] ++ opL
def shapeFs (P : Program) (rec : TypeId → Option (List Lf)) : List Field → Nat → Option (List Lf)
 | [], _ => some []
 | f :: r, off =>
  match rec f.type, shapeFs P rec r (off + P.cellsOf f.type) with
  | some l, some l' => if f.offset = off ∧ P.cellsOf f.type = l.length then some (l ++ l') else none
  | _, _ => none
def shapeOf (P : Program) : Nat → TypeId → Option (List Lf)
 | 0, _ => none
 | n + 1, t =>
  match P.underlying t with
  | some .bool => some [.bool]
  | some (.int k) => some [.int k]
  | some .string => some [.str]
  | some (.slice e) => some [.row e]
  | some (.struct fs) => match shapeFs P (shapeOf P n) fs.toList 0 with | some l => if P.cellsOf t = l.length then some l else none | none => none
  | _ => none
section
variable {H : Type} {enc : TypeId × Value → H} {P : Program} {W : World} {M : Nat}
def LfIs (M : Nat) (enc : TypeId × Value → H) (P : Program) (W : World) : Lf → Value → Prop
 | .bool, v => ∃ b, v = .bool b
 | .int k, v => ∃ n, v = .int k n ∧ (Lit.int k n).wf = true
 | .str, v => ∃ s, v = .string s ∧ s.size ≤ maxLen ∧ s.size ≤ M
 | .row e, v => v = .slice none 0 0 ∨ ∃ a len cap, v = .slice (some a) len cap ∧ len ≤ cap ∧ cap ≤ maxLen ∧ len ≤ M ∧ ∀ i, i < cap → ∃ cs n y, W.cells? 0 (a.add (i * P.cellsOf e)) (P.cellsOf e) = some cs ∧ DataW.trod enc P W 0 (fun _ => true) true n e cs = some y
def LfsIs (M : Nat) (enc : TypeId × Value → H) (P : Program) (W : World) : List Lf → List Value → Prop
 | [], [] => True
 | l :: ls, v :: vs => LfIs M enc P W l v ∧ LfsIs M enc P W ls vs
 | _, _ => False
structure Small (M : Nat) (S : DataW H → Prop) : Prop where
 slice : ∀ es sp, es.length ≤ maxLen → S (.slice es sp) → es.length ≤ M
 agg : ∀ ps p, p ∈ ps → S (.agg ps) → S p
 str : ∀ s, s.length ≤ maxLen → S (.lit (.string s)) → s.length ≤ M
variable {S : DataW H → Prop} (hS : Small M S)
theorem small_true : Small (H := H) maxLen (fun _ => True) := ⟨fun _ _ h _ => h, fun _ _ _ _ => trivial, fun _ h _ => h⟩
theorem LfsIs.app : ∀ {l l' : List Lf} {vs vs' : List Value}, LfsIs M enc P W l vs → LfsIs M enc P W l' vs' → LfsIs M enc P W (l ++ l') (vs ++ vs')
 | [], _, [], _, _, h' => h'
 | [], _, _ :: _, _, h, _ => h.elim
 | _ :: _, _, [], _, h, _ => h.elim
 | _ :: _, _, _ :: _, _, h, h' => ⟨h.1, LfsIs.app h.2 h'⟩
theorem shapeFs_ok {n m : Nat} {cs : List Value}
  (ih : ∀ (t : TypeId) (ls : List Lf) (cs : List Value) x, shapeOf P n t = some ls → DataW.trod enc P W 0 (fun _ => true) true m t cs = some x → S x.1 → LfsIs M enc P W ls cs) :
  ∀ (fl : List Field) (off : Nat) (l : List Lf), (∀ f ∈ fl, ∃ y, DataW.trod enc P W 0 (fun _ => true) true m f.type ((cs.drop f.offset).take (P.cellsOf f.type)) = some y ∧ S y.1) →
   shapeFs P (shapeOf P n) fl off = some l → LfsIs M enc P W l ((cs.drop off).take l.length)
 | [], _, l, _, h => by
  simp only [shapeFs, Option.some.injEq] at h
  subst h
  simp [LfsIs]
 | f :: r, off, l, hf, h => by
  simp only [shapeFs] at h
  split at h
  ·rename_i l1 l2 h1 h2
   split at h
   ·rename_i hc
    obtain ⟨hoff, hlen⟩ := hc
    injection h with h
    subst h
    obtain ⟨y, hy, hsy⟩ := hf f (by simp)
    have a1 := ih _ _ _ _ h1 hy hsy
    have a2 := shapeFs_ok ih r _ l2 (fun g hg => hf g (by simp [hg])) h2
    rw [hoff, hlen] at a1
    rw [hlen, ← List.drop_drop] at a2
    rw [List.length_append, List.take_add]
    exact a1.app a2
   ·cases h
  ·cases h
include hS in
theorem shape_ok : ∀ (n m : Nat) (t : TypeId) (ls : List Lf) (cs : List Value) x, shapeOf P n t = some ls → DataW.trod enc P W 0 (fun _ => true) true m t cs = some x → S x.1 → LfsIs M enc P W ls cs
 | 0, _, _, _, _, _, h, _, _ => by simp [shapeOf] at h
 | n + 1, m, t, ls, cs, x, h, hx, hsx => by
  unfold shapeOf at h
  split at h
  ·rename_i hu
   injection h with h
   subst h
   cases m with
   | zero => simp [DataW.trod] at hx
   | succ m =>
    unfold DataW.trod at hx
    rw [hu] at hx
    split at hx <;> simp_all [LfsIs, LfIs]
  ·rename_i k hu
   injection h with h
   subst h
   cases m with
   | zero => simp [DataW.trod] at hx
   | succ m =>
    unfold DataW.trod at hx
    rw [hu] at hx
    split at hx <;> simp_all [LfsIs, LfIs]
  ·rename_i hu
   injection h with h
   subst h
   cases m with
   | zero => simp [DataW.trod] at hx
   | succ m =>
    have hstr := fun s => hS.str s
    unfold DataW.trod at hx
    rw [hu] at hx
    split at hx <;> simp_all [LfsIs, LfIs]
    obtain ⟨hx1, rfl⟩ := hx
    have := hstr _ (by simpa using hx1) hsx
    simpa using this
  ·rename_i e hu
   injection h with h
   subst h
   rcases Go.Deep.open_slice hu hx with ⟨rfl, _⟩ | ⟨a, len, cap, k, q, D, Pl, rfl, _, hl, hm, hk, hxe, hi⟩
   ·exact ⟨.inl rfl, trivial⟩
   ·have hlen : len ≤ M := by
     rw [hxe] at hsx
     have := hS.slice _ _ (by simp; omega) hsx
     simpa using this
    refine ⟨.inr ⟨a, len, cap, rfl, hl, hm, hlen, fun i hil => ?_⟩, trivial⟩
    obtain ⟨cs', h1, h2⟩ := hi i (by simp at hk; omega)
    exact ⟨cs', q, _, h1, h2⟩
  ·rename_i fs hu
   split at h
   ·rename_i l hl
    split at h
    ·rename_i hlen
     injection h with h
     subst h
     obtain ⟨xs, q, rfl, hxe, hc, hxs, hf⟩ := DataW.trod_struct hu hx
     rw [hxe] at hsx
     have := shapeFs_ok (enc := enc) (W := W) (cs := cs) (fun t ls cs x => shape_ok n q t ls cs x) fs.toList 0 l (fun f hfm => by
      obtain ⟨i, hi⟩ := List.mem_iff_getElem?.1 hfm
      have hi' : fs[i]? = some f := by simpa using hi
      have := hf i f hi'
      have hil : i < xs.length := by rw [hxs]; exact (Array.getElem?_eq_some_iff.1 hi').1
      exact ⟨_, this.trans (List.getElem?_eq_getElem hil), hS.agg _ _ (List.mem_map.2 ⟨_, List.getElem_mem hil, rfl⟩) hsx⟩) hl
     rw [List.drop_zero, List.take_of_length_le (by omega)] at this
     exact this
    ·cases h
   ·cases h
  ·cases h
theorem u64_wf {n : Int} (h : (Lit.int .u64 n).wf = true) : u64In n := by
 simp only [Lit.wf, IntKind.min, IntKind.max, IntKind.signed, IntKind.bits, Bool.and_eq_true, decide_eq_true_eq] at h
 unfold u64In
 obtain ⟨h1, h2⟩ := h
 have h1' : (0 : Int) ≤ n := by simpa using h1
 have h2' : n ≤ 18446744073709551615 := by simpa using h2
 omega
theorem i64_wf {n : Int} (h : (Lit.int .i64 n).wf = true) : i64In n := by
 simp only [Lit.wf, IntKind.min, IntKind.max, IntKind.signed, IntKind.bits, Bool.and_eq_true, decide_eq_true_eq] at h
 unfold i64In
 obtain ⟨h1, h2⟩ := h
 have h1' : (-9223372036854775808 : Int) ≤ n := by simpa using h1
 have h2' : n ≤ 9223372036854775807 := by simpa using h2
 omega
theorem u8_wf {n : Int} (h : (Lit.int .u8 n).wf = true) : u8In n := by
 simp only [Lit.wf, IntKind.min, IntKind.max, IntKind.signed, IntKind.bits, Bool.and_eq_true, decide_eq_true_eq] at h
 unfold u8In
 obtain ⟨h1, h2⟩ := h
 have h1' : (0 : Int) ≤ n := by simpa using h1
 have h2' : n ≤ 255 := by simpa using h2
 omega
theorem lfs_nil {cs : List Value} (h : LfsIs M enc P W [] cs) : cs = [] := by
 cases cs with
 | nil => rfl
 | cons c r => exact h.elim
theorem lfs_cons {l : Lf} {ls : List Lf} {cs : List Value} (h : LfsIs M enc P W (l :: ls) cs) : ∃ c r, cs = c :: r ∧ LfIs M enc P W l c ∧ LfsIs M enc P W ls r := by
 cases cs with
 | nil => exact h.elim
 | cons c r => exact ⟨c, r, rfl, h.1, h.2⟩
theorem ad_read {ls : List Lf} {cs : List Value} (h : LfsIs M enc P W (adL ++ ls) cs) : ∃ (a : Ad) (r : List Value), cs = [.bool a.v6, .int .u64 a.hi, .int .u64 a.lo] ++ r ∧ a.In ∧ LfsIs M enc P W ls r := by
 obtain ⟨c, r, rfl, ⟨b, rfl⟩, h_1⟩ := lfs_cons h
 obtain ⟨c, r, rfl, ⟨x, rfl, hx⟩, h_2⟩ := lfs_cons h_1
 obtain ⟨c, r, rfl, ⟨y, rfl, hy⟩, h_3⟩ := lfs_cons h_2
 exact ⟨⟨b, x, y⟩, r, rfl, ⟨u64_wf hx, u64_wf hy⟩, h_3⟩
theorem int_read {ls : List Lf} {cs : List Value} (h : LfsIs M enc P W (.int .i64 :: ls) cs) : ∃ (n : Int) (r : List Value), cs = [.int .i64 n] ++ r ∧ i64In n ∧ LfsIs M enc P W ls r := by
 obtain ⟨c, r, rfl, ⟨x, rfl, hx⟩, h_1⟩ := lfs_cons h
 exact ⟨x, r, rfl, i64_wf hx, h_1⟩
theorem str_read {ls : List Lf} {cs : List Value} (h : LfsIs M enc P W (.str :: ls) cs) : ∃ (n : ByteArray) (r : List Value), cs = [.string n] ++ r ∧ strIn n ∧ LfsIs M enc P W ls r := by
 obtain ⟨c, r, rfl, ⟨x, rfl, hx⟩, h_1⟩ := lfs_cons h
 exact ⟨x, r, rfl, hx.1, h_1⟩
theorem pf_read {ls : List Lf} {cs : List Value} (h : LfsIs M enc P W (pfL ++ ls) cs) : ∃ (a : Pf) (r : List Value), cs = [.bool a.ad.v6, .int .u64 a.ad.hi, .int .u64 a.ad.lo, .int .i64 a.bits] ++ r ∧ a.In ∧ LfsIs M enc P W ls r := by
 obtain ⟨a, r, rfl, ha, h⟩ := ad_read (ls := .int .i64 :: ls) h
 obtain ⟨n, r, rfl, hn, h_1⟩ := int_read h
 exact ⟨⟨a, n⟩, r, rfl, ⟨ha, hn⟩, h_1⟩
theorem op_read {ls : List Lf} {cs : List Value} (h : LfsIs M enc P W (opL ++ ls) cs) : ∃ (o : Oq) (r : List Value), (∀ ρ, cs = denL ρ (K.enc .op o) ++ r) ∧ o.In ∧ LfsIs M enc P W ls r := by
 obtain ⟨k, r, rfl, hk, h⟩ := int_read (ls := pfL ++ (adL ++ (.str :: .int .i64 :: .int .i64 :: ls))) h
 obtain ⟨p, r, rfl, hp, h_1⟩ := pf_read h
 obtain ⟨a, r, rfl, ha, h_2⟩ := ad_read h_1
 obtain ⟨s, r, rfl, hs, h_3⟩ := str_read h_2
 obtain ⟨x, r, rfl, hx, h_4⟩ := int_read h_3
 obtain ⟨y, r, rfl, hy, h_5⟩ := int_read h_4
 exact ⟨⟨k, p, a, s, x, y⟩, r, fun ρ => rfl, ⟨hk, hp, ha, hs, hx, hy⟩, h_5⟩
theorem k_read (k : K) {ls : List Lf} {cs : List Value} (h : LfsIs M enc P W (k.leaves ++ ls) cs) : ∃ (a : k.T) (r : List Value), (∀ ρ, cs = denL ρ (k.enc a) ++ r) ∧ k.In a ∧ LfsIs M enc P W ls r ∧ k.Le M a := by
 cases k with
 | int => obtain ⟨n, r, rfl, hn, h'⟩ := int_read h; exact ⟨n, r, fun ρ => rfl, hn, h', trivial⟩
 | u64 => obtain ⟨c, r, rfl, ⟨x, rfl, hx⟩, h'⟩ := lfs_cons h; exact ⟨x, r, fun ρ => rfl, u64_wf hx, h', trivial⟩
 | u8 => obtain ⟨c, r, rfl, ⟨x, rfl, hx⟩, h'⟩ := lfs_cons h; exact ⟨x, r, fun ρ => rfl, u8_wf hx, h', trivial⟩
 | bool => obtain ⟨c, r, rfl, ⟨x, rfl⟩, h'⟩ := lfs_cons h; exact ⟨x, r, fun ρ => rfl, trivial, h', trivial⟩
 | str => obtain ⟨c, r, rfl, ⟨x, rfl, hx, hM⟩, h'⟩ := lfs_cons h; exact ⟨x, r, fun ρ => rfl, hx, h', hM⟩
 | addr => obtain ⟨n, r, rfl, hn, h'⟩ := ad_read h; exact ⟨n, r, fun ρ => rfl, hn, h', trivial⟩
 | pfx => obtain ⟨n, r, rfl, hn, h'⟩ := pf_read h; exact ⟨n, r, fun ρ => rfl, hn, h', trivial⟩
 | lease =>
  obtain ⟨a, r, rfl, ha, h⟩ := ad_read (ls := .str :: .int .i64 :: ls) h
  obtain ⟨s, r, rfl, hs, h_1⟩ := str_read h
  obtain ⟨n, r, rfl, hn, h_2⟩ := int_read h_1
  exact ⟨(⟨a, s, n⟩ : Ls), r, fun ρ => rfl, ⟨ha, hs, hn⟩, h_2, trivial⟩
 | op =>
  obtain ⟨o, r, h1, h2, h_3⟩ := op_read h
  exact ⟨o, r, h1, h2, h_3, trivial⟩
 | entry =>
  obtain ⟨x, r, rfl, hx, h⟩ := int_read (ls := .int .i64 :: (opL ++ ls)) h
  obtain ⟨y, r, rfl, hy, h_4⟩ := int_read h
  obtain ⟨o, r, h1, h2, h_5⟩ := op_read h_4
  exact ⟨(⟨x, y, o⟩ : En), r, fun ρ => by rw [h1 ρ]; rfl, ⟨hx, hy, h2⟩, h_5, trivial⟩
 | event =>
  obtain ⟨x, r, rfl, hx, h⟩ := int_read (ls := .int .i64 :: .int .i64 :: (opL ++ ls)) h
  obtain ⟨y, r, rfl, hy, h_6⟩ := int_read h
  obtain ⟨z, r, rfl, hz, h_7⟩ := int_read h_6
  obtain ⟨o, r, h1, h2, h_8⟩ := op_read h_7
  exact ⟨(⟨x, y, z, o⟩ : Ev), r, fun ρ => by rw [h1 ρ]; rfl, ⟨hx, hy, hz, h2⟩, h_8, trivial⟩
theorem k_read1 (k : K) {cs : List Value} (h : LfsIs M enc P W k.leaves cs) : ∃ a : k.T, (∀ ρ, cs = denL ρ (k.enc a)) ∧ k.In a ∧ k.Le M a := by
 obtain ⟨a, r, h1, h2, h3, h4⟩ := k_read (ls := []) k (by simpa using h)
 rw [lfs_nil h3] at h1
 exact ⟨a, fun ρ => by simpa using h1 ρ, h2, h4⟩
theorem row_read (k : K) (a0 : Addr) (e : TypeId) (d : Nat) (hsh : shapeOf P d e = some k.leaves) (hsz : P.cellsOf e = k.sz) :
  ∀ n, (∀ i, i < n → ∃ cs q y, W.cells? 0 (a0.add (i * P.cellsOf e)) (P.cellsOf e) = some cs ∧ DataW.trod enc P W 0 (fun _ => true) true q e cs = some y) →
   ∃ l : List k.T, l.length = n ∧ (∀ a ∈ l, k.In a) ∧ ∀ ρ (j : Nat) (u : Value), (l.flatMap fun a => denL ρ (k.enc a))[j]? = some u → W.cell? (a0.add j) = some u
 | 0, _ => ⟨[], rfl, (fun a h => by cases h), fun ρ j u h => by simp at h⟩
 | n + 1, h => by
  obtain ⟨l, h1, h2, h3⟩ := row_read k a0 e d hsh hsz n (fun i hi => h i (by omega))
  obtain ⟨cs, q, y, hc, hy⟩ := h n (by omega)
  obtain ⟨a, ha, hin, _⟩ := k_read1 k (shape_ok (M := maxLen) (S := fun _ => True) small_true d q e _ cs y hsh hy trivial)
  obtain ⟨_, hcl, hcc⟩ := World.cells?_some hc
  refine ⟨l ++ [a], by simp [h1], fun b hb => ?_, fun ρ j u hj => ?_⟩
  ·rcases List.mem_append.1 hb with hb | hb
   ·exact h2 b hb
   ·simp only [List.mem_singleton] at hb; subst hb; exact hin
  ·have hfl : (l.flatMap fun a => denL ρ (k.enc a)).length = n * k.sz := by
    have : ∀ l : List k.T, (l.flatMap fun a => denL ρ (k.enc a)).length = l.length * k.sz := by
     intro l
     induction l with
     | nil => simp
     | cons b r ih => rw [List.flatMap_cons, List.length_append, ih, zq5, enc_len, List.length_cons, Nat.succ_mul, Nat.add_comm]
    rw [this, h1]
   rw [List.flatMap_append] at hj
   by_cases hjn : j < n * k.sz
   ·rw [List.getElem?_append_left (by rw [hfl]; exact hjn)] at hj
    exact h3 ρ j u hj
   ·rw [List.getElem?_append_right (by rw [hfl]; omega), hfl] at hj
    have hj' : cs[j - n * k.sz]? = some u := by simpa [ha ρ] using hj
    have hjl : j - n * k.sz < P.cellsOf e := by rw [← hcl]; exact (List.getElem?_eq_some_iff.1 hj').1
    have := hcc _ hjl
    rw [Go.Deep.add_add, hsz, show n * k.sz + (j - n * k.sz) = j by omega] at this
    rw [this, hj']
def segLfs : List Seg → List Lf
 | [] => []
 | .fl k :: r => k.leaves ++ segLfs r
 | .row _ e :: r => .row e :: segLfs r
 | .nest _ _ e _ _ :: r => .row e :: segLfs r
def segsFit (P : Program) : List Seg → Bool
 | [] => true
 | .fl _ :: r => segsFit P r
 | .row k e :: r => decide (shapeOf P 9 e = some k.leaves) && decide (P.cellsOf e = k.sz) && segsFit P r
 | .nest hk ik e ie _ :: r => decide (shapeOf P 9 e = some (hk.leaves ++ [.row ie])) && decide (P.cellsOf e = hk.sz + 1) && decide (shapeOf P 9 ie = some ik.leaves) && decide (P.cellsOf ie = ik.sz) && segsFit P r
def isStructT (P : Program) (t : TypeId) : Bool := match P.underlying t with | some (.struct _) => true | _ => false
def plainT (P : Program) (t : TypeId) : Bool := match P.underlying t with | some .bool => true | some (.int _) => true | some .string => true | some (.slice _) => true | _ => false
def psFit (P : Program) : PS → TypeId → Bool
 | .one (.fl k), t => (bif k.isAgg then isStructT P t else plainT P t) && decide (shapeOf P 9 t = some k.leaves)
 | .one (.row k e), t => plainT P t && decide (shapeOf P 9 t = some [.row e]) && segsFit P [.row k e]
 | .one (.nest hk ik e ie bo), t => plainT P t && decide (shapeOf P 9 t = some [.row e]) && segsFit P [.nest hk ik e ie bo]
 | .agg l, t => isStructT P t && decide (shapeOf P 9 t = some (segLfs l)) && segsFit P l
 | .ref _ _, _ => false
def allFit (P : Program) : List PS → List TypeId → Bool
 | [], [] => true
 | p :: r, t :: ts => psFit P p t && allFit P r ts
 | _, _ => false
theorem cells_lie {w : World} {a : Addr} {n : Nat} {cs : List Value} (h : w.cells? 0 a n = some cs) (hn : 0 < n) : a.block < w.heap.size := by
 obtain ⟨_, hcl, hcc⟩ := World.cells?_some h
 have h0 := hcc 0 hn
 rw [List.getElem?_eq_getElem (by omega)] at h0
 unfold World.cell? at h0
 rw [block_add] at h0
 cases hb : w.heap[a.block]? with
 | none => rw [hb] at h0; simp at h0
 | some o => exact (Array.getElem?_eq_some_iff.1 hb).1
theorem row_is (w : World) (k : K) (e : TypeId) (v : Value) (h : LfIs M enc P w (.row e) v) (hsh : shapeOf P 9 e = some k.leaves) (hsz : P.cellsOf e = k.sz) :
  ∃ l : List k.T, rowIn k l ∧ l.length ≤ M ∧ ∀ ρ, RowIs w v l.length k.sz (l.flatMap fun a => denL ρ (k.enc a)) := by
 rcases h with hv | ⟨a, len, cap, hv, hle, hm, hM, hi⟩
 ·exact ⟨[], ⟨Nat.zero_le _, fun a h => by cases h⟩, Nat.zero_le _, fun ρ => ⟨by simp, none, 0, hv, Nat.le_refl _, Nat.zero_le _, fun _ => rfl, fun a h => by cases h⟩⟩
 ·obtain ⟨l, h1, h2, h3⟩ := row_read (enc := enc) k a e 9 hsh hsz len (fun i h => hi i (by omega))
  refine ⟨l, ⟨by omega, h2⟩, by omega, fun ρ => ⟨?_, some a, cap, by rw [hv, h1], by omega, hm, (fun h => by cases h), fun b hb => ?_⟩⟩
  ·have : ∀ l : List k.T, (l.flatMap fun a => denL ρ (k.enc a)).length = l.length * k.sz := by
    intro l
    induction l with
    | nil => simp
    | cons b r ih => rw [List.flatMap_cons, List.length_append, ih, zq5, enc_len, List.length_cons, Nat.succ_mul, Nat.add_comm]
   exact this l
  ·cases hb
   refine ⟨fun hc => ?_, fun j u hj => h3 ρ j u hj⟩
   obtain ⟨cs, q, y, h4, _⟩ := hi 0 hc
   have := cells_lie h4 (by rw [hsz]; exact sz_pos k)
   rw [block_add] at this
   exact this
theorem innV_app {vs : List Value} {x : Value} {i : Nat} (h : i < vs.length) : innV (.tuple (vs ++ [x]).toArray) (i : Int) = innV (.tuple vs.toArray) (i : Int) := by
 rw [innV_tup, innV_tup, List.getD_eq_getElem?_getD, List.getD_eq_getElem?_getD, List.getElem?_append_left h]
theorem nest_read (hk ik : K) (a0 : Addr) (e ie : TypeId) (d : Nat) (hsh : shapeOf P d e = some (hk.leaves ++ [.row ie])) (hsz : P.cellsOf e = hk.sz + 1) (hsi : shapeOf P 9 ie = some ik.leaves) (hzi : P.cellsOf ie = ik.sz) :
  ∀ n, (∀ i, i < n → ∃ cs q y, W.cells? 0 (a0.add (i * P.cellsOf e)) (P.cellsOf e) = some cs ∧ DataW.trod enc P W 0 (fun _ => true) true q e cs = some y) →
   ∃ (l : List hk.T) (ls : List (List ik.T)) (vs : List Value), l.length = n ∧ ls.length = n ∧ vs.length = n ∧ (∀ a ∈ l, hk.In a) ∧ (∀ x ∈ ls, rowIn ik x) ∧
    (∀ (i : Nat) (x : Value) (y : List ik.T), vs[i]? = some x → ls[i]? = some y → ∀ ρ, RowIs W x y.length ik.sz (y.flatMap fun a => denL ρ (ik.enc a))) ∧
    ∀ ρ (j : Nat) (u : Value), (nestDen ρ hk (.tuple vs.toArray) l 0)[j]? = some u → W.cell? (a0.add j) = some u
 | 0, _ => ⟨[], [], [], rfl, rfl, rfl, (fun a h => by cases h), (fun a h => by cases h), (fun i x y h => by simp at h), fun ρ j u h => by simp [nestDen] at h⟩
 | n + 1, h => by
  obtain ⟨l, ls, vs, h1, h2, h3, h4, h5, h6, h7⟩ := nest_read hk ik a0 e ie d hsh hsz hsi hzi n (fun i hi => h i (by omega))
  obtain ⟨cs, q, y, hc, hy⟩ := h n (by omega)
  obtain ⟨a, r, ha, hin, hr, _⟩ := k_read hk (shape_ok (M := maxLen) (S := fun _ => True) small_true d q e _ cs y hsh hy trivial)
  obtain ⟨v, r', rfl, hv, hr'⟩ := lfs_cons hr
  have := lfs_nil hr'
  subst this
  obtain ⟨x, hx1, _, hx3⟩ := row_is W ik ie v hv hsi hzi
  obtain ⟨_, hcl, hcc⟩ := World.cells?_some hc
  have hvs : sliceVal v = v := by obtain ⟨_, A, cap, hv, _⟩ := hx3 (fun _ => Go.undef); rw [hv]; rfl
  refine ⟨l ++ [a], ls ++ [x], vs ++ [v], by simp [h1], by simp [h2], by simp [h3], fun b hb => ?_, fun b hb => ?_, fun i x' y' hi hl => ?_, fun ρ j u hj => ?_⟩
  ·rcases List.mem_append.1 hb with hb | hb
   ·exact h4 b hb
   ·simp only [List.mem_singleton] at hb; subst hb; exact hin
  ·rcases List.mem_append.1 hb with hb | hb
   ·exact h5 b hb
   ·simp only [List.mem_singleton] at hb; subst hb; exact hx1
  ·by_cases hin : i < n
   ·rw [List.getElem?_append_left (by omega)] at hi hl
    exact h6 i x' y' hi hl
   ·have hi0 : i = n := by
     have := (List.getElem?_eq_some_iff.1 hi).1
     simp at this
     omega
    subst hi0
    rw [List.getElem?_append_right (by omega), h3] at hi
    rw [List.getElem?_append_right (by omega), h2] at hl
    simp only [Nat.sub_self, List.getElem?_cons_zero, Option.some.injEq] at hi hl
    subst hi hl
    exact hx3
  ·have hfl := nest_len ρ hk (.tuple vs.toArray) l 0
   rw [h1] at hfl
   rw [nestDen_app, Nat.zero_add, nestDen_congr ρ hk (.tuple (vs ++ [v]).toArray) (.tuple vs.toArray) l 0 0 (fun i hi => by rw [Nat.zero_add]; exact innV_app (by omega))] at hj
   by_cases hjn : j < n * (hk.sz + 1)
   ·rw [List.getElem?_append_left (by rw [hfl]; exact hjn)] at hj
    exact h7 ρ j u hj
   ·rw [List.getElem?_append_right (by rw [hfl]; omega), hfl, h1] at hj
    have hlast : innV (.tuple (vs ++ [v]).toArray) (n : Int) = v := by
     rw [innV_tup, List.getD_eq_getElem?_getD, List.getElem?_append_right (by omega), h3, Nat.sub_self]
     exact hvs
    have hj' : cs[j - n * (hk.sz + 1)]? = some u := by
     rw [ha ρ]
     simpa [nestDen, hlast] using hj
    have hjl : j - n * (hk.sz + 1) < P.cellsOf e := by rw [← hcl]; exact (List.getElem?_eq_some_iff.1 hj').1
    have := hcc _ hjl
    rw [Go.Deep.add_add, hsz, show n * (hk.sz + 1) + (j - n * (hk.sz + 1)) = j by omega] at this
    rw [this, hj']
theorem nest_seg (w : World) (ρ : Nat → Value) (hk ik : K) (e ie : TypeId) (bo : Bool) (v : Value) (n : Nat) (h : LfIs M enc P w (.row e) v) (hsh : shapeOf P 9 e = some (hk.leaves ++ [.row ie])) (hsz : P.cellsOf e = hk.sz + 1) (hsi : shapeOf P 9 ie = some ik.leaves) (hzi : P.cellsOf ie = ik.sz) :
  ∃ x : List hk.T × List (List ik.T), ((rowIn hk x.1 ∧ x.2.length = x.1.length ∧ ∀ l ∈ x.2, rowIn ik l) ∧ x.1.length ≤ M) ∧ ∃ us, ArgsOk w ρ n [v] [.row (n + 1)] [.bag ik x.2 ie (false && bo) false, .row (.nest hk x.1 n) e false] us := by
 have gen : ∀ (l : List hk.T) (ls : List (List ik.T)) (vs : List Value), sliceVal v = v → vs.length = ls.length → (∀ (i : Nat) (x : Value) (y : List ik.T), vs[i]? = some x → ls[i]? = some y → ∀ ρ, RowIs w x y.length ik.sz (y.flatMap fun a => denL ρ (ik.enc a))) →
   (∀ ρ, RowIs w v l.length (hk.sz + 1) (nestDen ρ hk (.tuple vs.toArray) l 0)) → ∃ us, ArgsOk w ρ n [v] [.row (n + 1)] [.bag ik ls ie (false && bo) false, .row (.nest hk l n) e false] us := by
  intro l ls vs hs hl hb hr
  refine ⟨[.tuple vs.toArray, v], rfl, fun ρ' hg => ?_, fun W' ρ' hg i o u hi hu => ?_, by simp [ltL, SV.lt], fun o ho => ?_⟩
  ·have := hg.tail.head
   simp only [denL, den, this, hs]
  ·have h0 := hg.head
   match i with
   | 0 =>
    simp only [List.getElem?_cons_zero, Option.some.injEq] at hi hu
    subst hi hu
    exact ⟨⟨vs, rfl, hl, fun i x l hx hl => by simp only [Bool.false_and, Bool.false_eq_true, if_false]; exact hb i x l hx hl ρ', (fun h => by cases h), fun h => by cases h⟩, rfl⟩
   | 1 =>
    simp only [List.getElem?_cons_succ, List.getElem?_cons_zero, Option.some.injEq] at hi hu
    subst hi hu
    refine ⟨⟨by simp [C.sz], fun u hu => nest_one _ _ _ _ _ u hu, ?_⟩, rfl⟩
    rw [if_neg (by simp)]
    simp only [C.den, h0, C.n, C.sz]
    exact hr ρ'
   | i + 2 => simp at hi
  ·simp only [List.mem_cons, List.not_mem_nil, or_false] at ho
   rcases ho with rfl | rfl
   ·rfl
   ·simp [Obj.lt, C.lt]
 rcases h with hv | ⟨a, len, cap, hv, hle, hm, hM, hi⟩
 ·refine ⟨([], []), ⟨⟨⟨Nat.zero_le _, fun a h => by cases h⟩, rfl, fun l h => by cases h⟩, Nat.zero_le _⟩, gen [] [] [] (by rw [hv]; rfl) rfl (fun i x y h => by simp at h) fun ρ => ⟨by simp [nestDen], none, 0, hv, Nat.le_refl _, Nat.zero_le _, fun _ => rfl, fun a h => by cases h⟩⟩
 ·obtain ⟨l, ls, vs, h1, h2, h3, h4, h5, h6, h7⟩ := nest_read (enc := enc) hk ik a e ie 9 hsh hsz hsi hzi len (fun i h => hi i (by omega))
  refine ⟨(l, ls), ⟨⟨⟨by show l.length ≤ maxLen; omega, h4⟩, by show ls.length = l.length; omega, h5⟩, by show l.length ≤ M; omega⟩, gen l ls vs (by rw [hv]; rfl) (by omega) h6 fun ρ => ⟨nest_len _ _ _ _ _, some a, cap, by rw [hv, h1], by omega, hm, (fun h => by cases h), fun b hb => ?_⟩⟩
  cases hb
  refine ⟨fun hc => ?_, fun j u hj => h7 ρ j u hj⟩
  obtain ⟨cs, q, y, h4, _⟩ := hi 0 hc
  have := cells_lie h4 (by rw [hsz]; omega)
  rw [block_add] at this
  exact this
theorem row_seg (w : World) (ρ : Nat → Value) (k : K) (e : TypeId) (v : Value) (n : Nat) (h : LfIs M enc P w (.row e) v)
  (hsh : shapeOf P 9 e = some k.leaves) (hsz : P.cellsOf e = k.sz) : ∃ l : List k.T, (rowIn k l ∧ l.length ≤ M) ∧ ArgsOk w ρ n [v] [.row n] [.row (.ty k l) e false] [v] := by
 obtain ⟨l, h1, h2, h3⟩ := row_is w k e v h hsh hsz
 obtain ⟨_, A, cap, hv, _⟩ := h3 ρ
 refine ⟨l, ⟨h1, h2⟩, rfl, fun ρ' hg => by simp [denL, den, hg.head, hv, sliceVal], fun W' ρ' hg i o u hi hu => ?_, by simp [ltL, SV.lt], fun o ho => by simp at ho; subst ho; rfl⟩
 cases i with
 | zero =>
  simp only [List.getElem?_cons_zero, Option.some.injEq] at hi hu
  subst hi hu
  exact ⟨row_obj e (h3 ρ), rfl⟩
 | succ i => simp at hi
theorem fl_seg (w : World) (ρ : Nat → Value) (k : K) (a : k.T) (cs : List Value) (n : Nat) (h : ∀ ρ, cs = denL ρ (k.enc a)) : ArgsOk w ρ n cs (k.enc a) [] [] :=
 ⟨rfl, fun ρ' _ => (h ρ').symm, fun _ _ _ i o v h => by simp at h, enc_lt k a _, fun o h => by cases h⟩
theorem segs_read (w : World) (ρ : Nat → Value) : ∀ (l : List Seg) (cs : List Value) (n : Nat), segsFit P l = true → LfsIs M enc P w (segLfs l) cs →
  ∃ x : SegsT l, (SegsIn l x ∧ SegsLe M l x) ∧ ∃ us, ArgsOk w ρ n cs (encSegs false l x n).1 (encSegs false l x n).2 us
 | [], cs, n, _, h => by
  rw [lfs_nil h]
  exact ⟨(), ⟨trivial, trivial⟩, [], ArgsOk.nil w ρ n⟩
 | .fl k :: r, cs, n, hf, h => by
  obtain ⟨a, cs', h1, h2, h3, h4⟩ := k_read k h
  have e1 := h1 ρ
  obtain ⟨x, hx, us, hu⟩ := segs_read w ρ r cs' n hf h3
  refine ⟨(a, x), ⟨⟨h2, hx.1⟩, h4, hx.2⟩, us, ?_⟩
  have h0 := fl_seg w ρ k a (denL ρ (k.enc a)) n (fun ρ' => denL_enc ρ' ρ k a)
  have := h0.app hu
  rw [← e1] at this
  exact this
 | .row k e :: r, cs, n, hf, h => by
  obtain ⟨v, cs', rfl, h1, h2⟩ := lfs_cons h
  simp only [segsFit, Bool.and_eq_true, decide_eq_true_eq] at hf
  obtain ⟨l, hl, hrow⟩ := row_seg w ρ k e v n h1 hf.1.1 hf.1.2
  obtain ⟨x, hx, us, hu⟩ := segs_read w ρ r cs' (n + 1) hf.2 h2
  exact ⟨(l, x), ⟨⟨hl.1, hx.1⟩, hl.2, hx.2⟩, _, hrow.app hu⟩
 | .nest hk ik e ie bo :: r, cs, n, hf, h => by
  obtain ⟨v, cs', rfl, h1, h2⟩ := lfs_cons h
  simp only [segsFit, Bool.and_eq_true, decide_eq_true_eq] at hf
  obtain ⟨l, hl, us0, hrow⟩ := nest_seg w ρ hk ik e ie bo v n h1 hf.1.1.1.1 hf.1.1.1.2 hf.1.1.2 hf.1.2
  obtain ⟨x, hx, us, hu⟩ := segs_read w ρ r cs' (n + 2) hf.2 h2
  exact ⟨(l, x), ⟨⟨hl.1, hx.1⟩, hl.2, hx.2⟩, _, hrow.app hu⟩
theorem okStruct {t : TypeId} {v : Value} {r : Reach} {b : Nat} (h : isStructT P t = true) (hv : Value.okWide P W r b t v) : ∃ cs, v = .agg cs := by
 unfold isStructT at h
 split at h
 ·rename_i fs hu
  simp only [Value.okWide, hu] at hv
  obtain ⟨cs, rfl, _⟩ := hv
  exact ⟨cs, rfl⟩
 ·cases h
theorem okPlain {t : TypeId} {v : Value} {r : Reach} {b : Nat} (h : plainT P t = true) (hv : Value.okWide P W r b t v) : v.cells.toList = [v] := by
 have hc : Cell.okWide P W r b t v := by
  unfold plainT at h
  split at h <;> first | (cases h; done) | simp_all [Value.okWide]
 unfold plainT at h
 cases v <;> first | rfl | skip
 all_goals (exfalso; unfold Cell.okWide Cell.ok at hc; split at h <;> simp_all)
include hS in
theorem p_read (w : World) (ρ : Nat → Value) (p : PS) (t : TypeId) (v : Value) (d : DataW H) (q : List MemPlace) {r : Reach} {b : Nat} (n : Nat) (hf : psFit P p t = true) (hv : Value.okWide P w r b t v) (h : DataW.Trod enc P w 0 (fun _ => true) true t v d q) (hsd : S d) :
  ∃ x : p.T, (p.In x ∧ p.Le M x) ∧ ∃ us, ArgsOk w ρ n [v] [(encP false p x n).1] (encP false p x n).2 us := by
 obtain ⟨fuel, h⟩ := h
 cases p with
 | one s =>
  cases s with
  | fl k =>
   simp only [psFit, Bool.and_eq_true, decide_eq_true_eq] at hf
   obtain ⟨a, ha, hin, hle⟩ := k_read1 k (shape_ok hS 9 fuel t _ _ _ hf.2 h hsd)
   refine ⟨a, ⟨hin, hle⟩, [], rfl, fun ρ' _ => ?_, fun _ _ _ i o v h => ?_, ?_, fun o ho => ?_⟩
   ·show [den ρ' (flV k a)] = [v]
    cases hk : k.isAgg
    ·rw [hk] at hf
     have hc := okPlain hf.1 hv
     have e := ha ρ'
     rw [hc] at e
     unfold flV
     rw [hk]
     have hlen := enc_len k a
     simp only [cond_false]
     match hx : k.enc a, hlen with
     | [], _ => rw [hx] at e; simp [denL] at e
     | [c], _ => rw [hx] at e; simpa [denL] using e.symm
     | c :: c' :: r, _ => rw [hx] at e; simp [denL] at e
    ·rw [hk] at hf
     obtain ⟨cs, rfl⟩ := okStruct hf.1 hv
     have e := ha ρ'
     unfold flV
     rw [hk]
     simp only [cond_true, den]
     rw [← e]
     rfl
   ·have h : ([] : Mem)[i]? = some o := h
    simp at h
   ·show (SV.lt (n + 0) (flV k a) && true) = true
    rw [flV_lt]
    rfl
   ·have ho : o ∈ ([] : Mem) := ho
    cases ho
  | row k e =>
   simp only [psFit, segsFit, Bool.and_eq_true, decide_eq_true_eq] at hf
   have hc := okPlain hf.1.1 hv
   have h1 := shape_ok hS 9 fuel t _ _ _ hf.1.2 h hsd
   rw [hc] at h1
   obtain ⟨l, hl, hrow⟩ := row_seg w ρ k e v n h1.1 hf.2.1.1 hf.2.1.2
   exact ⟨l, hl, _, hrow⟩
  | nest hk ik e ie bo =>
   simp only [psFit, segsFit, Bool.and_eq_true, decide_eq_true_eq] at hf
   have hc := okPlain hf.1.1 hv
   have h1 := shape_ok hS 9 fuel t _ _ _ hf.1.2 h hsd
   rw [hc] at h1
   obtain ⟨l, hl, us, hrow⟩ := nest_seg w ρ hk ik e ie bo v n h1.1 hf.2.1.1.1.1 hf.2.1.1.1.2 hf.2.1.1.2 hf.2.1.2
   exact ⟨l, hl, us, hrow⟩
 | agg l =>
  simp only [psFit, Bool.and_eq_true, decide_eq_true_eq] at hf
  obtain ⟨cs, rfl⟩ := okStruct hf.1.1 hv
  obtain ⟨x, hx, us, hu⟩ := segs_read w ρ l cs.toList n hf.2 (shape_ok hS 9 fuel t _ _ _ hf.1.2 h hsd)
  refine ⟨x, hx, us, hu.len, fun ρ' hg => ?_, hu.obj, ?_, hu.lt.2⟩
  ·have := hu.den ρ' hg
   simp only [encP, denL, den, this]
  ·simpa [encP, ltL, SV.lt] using hu.lt.1
 | ref l ty => simp [psFit] at hf
include hS in
theorem all_read (w : World) (ρ : Nat → Value) {r : Reach} {b : Nat} : ∀ (ps : List PS) (ts : List TypeId) (vs : List Value) (ds : List (DataW H)) (q : List MemPlace) (n : Nat), allFit P ps ts = true →
  (∀ (j : Nat) t v, ts[j]? = some t → vs[j]? = some v → Value.okWide P w r b t v) → DataW.TrodAll enc P w 0 (fun _ => true) true ts vs ds q → (∀ d ∈ ds, S d) →
  ∃ x : PsT ps, (PsIn ps x ∧ PsLe M ps x) ∧ ∃ us, ArgsOk w ρ n vs (encA false ps x n).1 (encA false ps x n).2 us
 | [], [], [], _, _, n, _, _, _, _ => ⟨(), ⟨trivial, trivial⟩, [], ArgsOk.nil w ρ n⟩
 | [], [], _ :: _, _, _, _, _, _, h, _ => (by cases h)
 | [], _ :: _, _, _, _, _, hf, _, _, _ => by simp [allFit] at hf
 | _ :: _, [], _, _, _, _, hf, _, _, _ => by simp [allFit] at hf
 | _ :: _, _ :: _, [], _, _, _, _, _, h, _ => by cases h
 | _ :: _, _ :: _, _ :: _, [], _, _, _, _, h, _ => by cases h
 | p :: ps, t :: ts, v :: vs, d :: ds, q, n, hf, hv, h, hsd => by
  simp only [allFit, Bool.and_eq_true] at hf
  obtain ⟨q1, q2, h1, h2, _⟩ := h
  obtain ⟨x, hx, us, hu⟩ := p_read hS w ρ p t v d q1 n hf.1 (hv 0 t v rfl rfl) h1 (hsd d (by simp))
  obtain ⟨y, hy, us', hu'⟩ := all_read w ρ ps ts vs ds q2 (n + (encP false p x n).2.length) hf.2 (fun j t' v' h3 h4 => hv (j + 1) t' v' (by simpa using h3) (by simpa using h4)) h2 (fun d' hd => hsd d' (by simp [hd]))
  exact ⟨(x, y), ⟨⟨hx.1, hy.1⟩, hx.2, hy.2⟩, _, hu.app hu'⟩
include hS in
theorem law_calls_le (hG : Glob P W) {f : FuncId} {ps : List PS} {t : PsT ps → Option (PsT [PS.one (.fl .bool)])} (ht : TrOk P f (con ps [PS.one (.fl .bool)] t)) (hlaw : ∀ x, PsIn ps x → PsLe M ps x → t x = some ((true : Bool), ()))
  (hdec : ∀ x : PsT ps, decA (encA false ps x 0).2 ps (encA false ps x 0).1 = some x) (hany : ∀ x : PsT ps, (encA false ps x 0).1.all (fun v => !v.isAny) = true)
  {ts : List TypeId} {vs : List Value} {ds : List (DataW H)} {q : List MemPlace} {r : Reach} {b : Nat} (hf : allFit P ps ts = true)
  (hv : ∀ (j : Nat) t v, ts[j]? = some t → vs[j]? = some v → Value.okWide P W r b t v) (h : DataW.TrodAll enc P W 0 (fun _ => true) true ts vs ds q) (hsd : ∀ d ∈ ds, S d) :
  Calls P f vs.toArray W fun e W' => e = .returned (.bool true) ∧ Below W.heap.size W W' := by
 obtain ⟨x, hx, us, hu⟩ := all_read hS W (fun _ => Go.undef) ps ts vs ds q 0 hf hv h hsd
 have hrel := hu.rel
 have hden := hu.den _ (gives_nameOf us)
 have hk : conTr ps [PS.one (.fl .bool)] t (SV × Mem) (encA false ps x 0).1 (encA false ps x 0).2 (fun r m => some (r, m)) = some (SV.b true, (encA false ps x 0).2 ++ []) := by
  simp only [conTr, hdec x, hlaw x hx.1 hx.2, Option.bind_some]
  rfl
 have hc := ht.1 W hG (SV × Mem) (encA false ps x 0).1 (encA false ps x 0).2 (fun r m => some (r, m)) _ hk (hany x)
 have := hc.call (by have := hu.lt.1; simpa using this) _ W hrel
 rw [hden] at this
 refine this.mono ?_
 rintro e w' ⟨ρ', r', m', rfl, hm', _, _, _, hres⟩
 have hres : (some (r', m') : Option (SV × Mem)) = some (SV.b true, (encA false ps x 0).2 ++ []) := hres
 injection hres with hres
 injection hres with h1 h2
 refine ⟨?_, hm'.below⟩
 rw [h1]
 rfl
theorem law_calls (hG : Glob P W) {f : FuncId} {ps : List PS} {t : PsT ps → Option (PsT [PS.one (.fl .bool)])} (ht : TrOk P f (con ps [PS.one (.fl .bool)] t)) (hlaw : ∀ x, PsIn ps x → t x = some ((true : Bool), ()))
  (hdec : ∀ x : PsT ps, decA (encA false ps x 0).2 ps (encA false ps x 0).1 = some x) (hany : ∀ x : PsT ps, (encA false ps x 0).1.all (fun v => !v.isAny) = true)
  {ts : List TypeId} {vs : List Value} {ds : List (DataW H)} {q : List MemPlace} {r : Reach} {b : Nat} (hf : allFit P ps ts = true)
  (hv : ∀ (j : Nat) t v, ts[j]? = some t → vs[j]? = some v → Value.okWide P W r b t v) (h : DataW.TrodAll enc P W 0 (fun _ => true) true ts vs ds q) :
  Calls P f vs.toArray W fun e W' => e = .returned (.bool true) ∧ Below W.heap.size W W' :=
 law_calls_le small_true hG ht (fun x hx _ => hlaw x hx) hdec hany hf hv h (fun _ _ => trivial)
theorem all_back {W' : World} (hl : laidOutB P = true) (hb : Below W.heap.size W W') : ∀ (ts : List TypeId) (vs : List Value) (ds : List (DataW H)) (q : List MemPlace), (ts.all fun t => P.readableRec t && decide (t < P.types.size)) = true →
  DataW.TrodAll enc P W 0 (fun _ => true) true ts vs ds q → DataW.TrodAll enc P W' 0 (fun b => decide (b < W.heap.size)) true ts vs ds q
 | [], [], [], _, _, h => h
 | [], [], _ :: _, _, _, h => h
 | [], _ :: _, _, _, _, h => h
 | _ :: _, [], _, _, _, h => h
 | _ :: _, _ :: _, [], _, _, h => h
 | t :: ts, v :: vs, d :: ds, q, hr, h => by
  simp only [List.all_cons, Bool.and_eq_true, decide_eq_true_eq] at hr
  obtain ⟨q1, q2, h1, h2, h3⟩ := h
  have lt0 : ∀ x ∈ q1, x.block < W.heap.size := by obtain ⟨m, hm⟩ := h1; exact DataW.trod_lt m _ _ _ hm
  exact ⟨q1, q2, Below.trod hl hr.1.1 hr.1.2 h1 hb lt0, all_back hl hb ts vs ds q2 hr.2 h2, h3⟩
end
end Go.Ma
namespace Go.Ma
open Go Go.RowKit
def loopN {α Y : Type} (step : (α → Option Y) → α → Option Y) : Nat → α → Option Y
 | 0, _ => none
 | n + 1, x => step (loopN step n) x
def FUEL : Nat := 18446744073709551616
structure LoopS where
 n : Nat
 base : Nat
 head : Form
 exits : List ExitF
def loopTr (ls : LoopS) (L : ls.head.T → Option (OutT ls.exits)) : LTr := fun _ base s e r =>
 bif decide (base = ls.base) then (isF ls.n ls.base ls.head s).bind fun x => (L x).bind fun y => goOn ls.n e r ls.exits y else none
theorem loop_ok {P : Program} {E : Env} (hE : EnvOk P E) {b : Code} (hl : LoopsOk P E b) (ls : LoopS) (step : (ls.head.T → Option (OutT ls.exits)) → ls.head.T → Option (OutT ls.exits)) (N : Nat)
  (h : ∀ rec x, ix E ls.base b (stF ls.n ls.head x) (fun s => (isF ls.n ls.base ls.head s).bind rec) (fun i s => outF ls.n ls.base ls.exits (some i) s) (fun s => outF ls.n ls.base ls.exits none s) = step rec x) :
  LOk P b (loopTr ls (loopN step N)) := by
 intro W hG X base s e r x hx
 unfold loopTr at hx
 cases hb : decide (base = ls.base)
 ·rw [hb] at hx; cases hx
 rw [hb] at hx
 simp only [decide_eq_true_eq] at hb
 subst hb
 obtain ⟨x0, hx0, hx⟩ := Option.bind_eq_some_iff.1 hx
 obtain ⟨y, hy, hgo⟩ := Option.bind_eq_some_iff.1 hx
 refine ⟨fun hbase ρ a w Q hs _ he hr => ?_⟩
 obtain ⟨ρ0, hs0, hag0, hle0⟩ := hs.form hx0
 refine wp_loop_ghost (fun k a' w' => ∃ z ρ', RelS W ρ' (stF ls.n ls.head z) a' w' ∧ loopN step k z = some y ∧ Agree ls.base ρ ρ' ∧ ls.base ≤ (stF ls.n ls.head z).m.length) N ⟨x0, ρ0, hs0, hy, hag0, hle0⟩ ?_
 rintro k a' w' ⟨z, ρ', hs', hz, hag, hle⟩
 cases k with
 | zero => cases hz
 | succ k =>
  have hz : step (loopN step k) z = some y := hz
  rw [← h (loopN step k) z] at hz
  refine (ix_ok ⟨hE, hG⟩ b _ _ _ _ hl hz).code hle ρ' a' w' _ hs' (fun ρ'' s'' a'' w'' hag' hle' hs'' hk => ?_) (fun i ρ'' s'' a'' w'' hag' hle' hs'' hk => ?_) (fun ρ'' s'' a'' w'' hag' hle' hs'' hk => ?_)
  ·obtain ⟨z', hz', hk⟩ := Option.bind_eq_some_iff.1 hk
   obtain ⟨ρ3, hs3, hag3, hle3⟩ := hs''.form hz'
   exact ⟨k, by omega, z', ρ3, hs3, hk, (hag.trans hag' (Nat.le_refl _)).trans hag3 (Nat.le_refl _), hle3⟩
  ·obtain ⟨f, u, hf, hgo'⟩ := out_go ls.exits (some i) s'' y hk hgo
   obtain ⟨ρ3, hs3, hag3, hle3⟩ := hs''.form hf
   exact he i ρ3 _ a'' w'' ((hag.trans hag' (Nat.le_refl _)).trans hag3 (Nat.le_refl _)) hle3 hs3 hgo'
  ·obtain ⟨f, u, hf, hgo'⟩ := out_go ls.exits none s'' y hk hgo
   obtain ⟨ρ3, hs3, hag3, hle3⟩ := hs''.form hf
   exact hr ρ3 _ a'' w'' ((hag.trans hag' (Nat.le_refl _)).trans hag3 (Nat.le_refl _)) hle3 hs3 hgo'
def lookJ : List (Nat × JoinS) → Nat → Option JoinS
 | [], _ => none
 | (n, a) :: r, f => bif Nat.beq f n then some a else lookJ r f
def look {α : Type 1} : List (Nat × α) → Nat → Option α
 | [], _ => none
 | (n, a) :: r, f => bif Nat.beq f n then some a else look r f
def mkEnv (T : Nat → TI) (B : Nat → Bool) (calls : List (Nat × Con)) (loops : List (Nat × LTr)) (conds : List (Nat × JoinS) := []) : Env := { T := T, B := B, call := look calls, loop := look loops, cond := lookJ conds }
def CallsOk (P : Program) : List (Nat × Con) → Prop
 | [] => True
 | (f, g) :: r => TrOk P f g ∧ CallsOk P r
theorem callsNil {P : Program} : CallsOk P [] := trivial
theorem callsCons {P : Program} {f : Nat} {g : Con} {l : List (Nat × Con)} (h : TrOk P f g) (r : CallsOk P l) : CallsOk P ((f, g) :: l) := ⟨h, r⟩
theorem look_ok {P : Program} : ∀ {l : List (Nat × Con)}, CallsOk P l → ∀ f g, look l f = some g → TrOk P f g
 | [], _, f, g, h => by cases h
 | (n, a) :: r, hc, f, g, h => by
  simp only [look] at h
  cases hb : Nat.beq f n
  ·rw [hb] at h; exact look_ok hc.2 f g h
  ·rw [hb] at h
   have := Nat.eq_of_beq_eq_true hb
   subst this
   injection h with h
   subst h
   exact hc.1
theorem envOk {P : Program} {T : Nat → TI} {B : Nat → Bool} (hT : TOk P T) (hB : ∀ f, B f = true → HasBody P f) {calls : List (Nat × Con)} (hc : CallsOk P calls) (loops : List (Nat × LTr)) (conds : List (Nat × JoinS) := []) : EnvOk P (mkEnv T B calls loops conds) :=
 ⟨hT, hB, look_ok hc⟩
def codeOf (fn : Func) : Code := match fn.body with | some c => c | none => .skip
def LsOk (P : Program) (E : Env) : List Code → Prop
 | [] => True
 | b :: r => (∀ l, E.loop (regId b) = some l → LOk P b l) ∧ LsOk P E r
theorem lsNil {P : Program} {E : Env} : LsOk P E [] := trivial
theorem lsCons {P : Program} {E : Env} {b : Code} {l : List Code} (h : ∀ t, E.loop (regId b) = some t → LOk P b t) (r : LsOk P E l) : LsOk P E (b :: l) := ⟨h, r⟩
theorem ls_mem {P : Program} {E : Env} : ∀ {l : List Code}, LsOk P E l → ∀ b ∈ l, ∀ t, E.loop (regId b) = some t → LOk P b t
 | [], _, b, hb, _, _ => by cases hb
 | c :: r, h, b, hb, t, ht => by
  rcases List.mem_cons.1 hb with rfl | hb
  ·exact h.1 t ht
  ·exact ls_mem h.2 b hb t ht
theorem loopsOk {P : Program} {E : Env} {c : Code} {l : List Code} (h : loopsOf c = l) (hl : LsOk P E l) : LoopsOk P E c := fun b hb => ls_mem hl b (by rw [← h]; exact hb)
theorem one_loop {P : Program} {E : Env} {b : Code} {t : LTr} (h : E.loop (regId b) = some t) (ht : LOk P b t) : ∀ l, E.loop (regId b) = some l → LOk P b l := by
 intro l hl
 rw [h] at hl
 injection hl with hl
 subst hl
 exact ht
theorem bodyOk {P : Program} {E : Env} {fn : Func} {l : List Code} (h : loopsOf (codeOf fn) = l) (hl : LsOk P E l) : ∀ c, fn.body = some c → LoopsOk P E c := by
 intro c hc
 refine loopsOk ?_ hl
 rw [← h]
 unfold codeOf
 rw [hc]
def nthLoop (c : Code) (i : Nat) : Code := (loopsOf c).getD i .skip
def eqAd (a b : Ad) : Bool := beqB a.v6 b.v6 && (acmp .eql a.hi b.hi && acmp .eql a.lo b.lo)
def eqPf (a b : Pf) : Bool := beqB a.ad.v6 b.ad.v6 && (acmp .eql a.ad.hi b.ad.hi && (acmp .eql a.ad.lo b.ad.lo && acmp .eql a.bits b.bits))
end Go.Ma
namespace Go.Ma
open Go Go.RowKit
def fieldsOk (rec : TypeId → List Value → Bool) (T : Nat → TI) : List (Nat × TypeId) → Nat → List Value → Bool
 | [], _, z => z.isEmpty
 | (o, ft) :: r, off, z => (o == off) && decide ((T ft).size ≤ z.length) && rec ft (z.take (T ft).size) && fieldsOk rec T r (off + (T ft).size) (z.drop (T ft).size)
def shapeOk (P : Program) (T : Nat → TI) : Nat → TypeId → List Value → Bool
 | 0, _, _ => false
 | d + 1, t, z => (T t).known && match (T t).kind, z with
  | .bool, [.bool _] => !(T t).agg
  | .int _, [.int _ _] => !(T t).agg
  | .str, [.string _] => !(T t).agg
  | .struct, z => (T t).agg && !P.stoodInHeld t && (P.fieldsOf t).toList.all (fun f => f.name != "_") && fieldsOk (shapeOk P T d) T (T t).fields 0 z
  | _, _ => false
def valL (ti : TI) (xs : List Value) : Value := if ti.agg then .agg xs.toArray else xs.headD Go.undef
theorem vkinds_len : ∀ (z xs : List Value), vkinds z xs = true → xs.length = z.length
 | [], xs, h => by rw [vk_nil h]
 | v :: r, [], h => by cases v <;> simp [vkinds] at h
 | v :: r, x :: r', h => by
  have h' : vkinds r r' = true := by cases v <;> cases x <;> simp_all [vkinds]
  simp [vkinds_len r r' h']
theorem vkinds_take : ∀ {z xs : List Value} (n : Nat), vkinds z xs = true → vkinds (z.take n) (xs.take n) = true ∧ vkinds (z.drop n) (xs.drop n) = true
 | _, _, 0, h => ⟨by simp [vkinds], by simpa using h⟩
 | [], xs, n + 1, h => by rw [vk_nil h]; exact ⟨by simp [vkinds], by simp [vkinds]⟩
 | v :: r, xs, n + 1, h => by
  cases xs with
  | nil => cases v <;> simp [vkinds] at h
  | cons x r' =>
   cases v <;> cases x <;> simp only [vkinds, Bool.false_eq_true, Bool.and_eq_true] at h
   ·have := vkinds_take n h
    exact ⟨by simpa [vkinds] using this.1, by simpa using this.2⟩
   ·have := vkinds_take n h.2
    exact ⟨by simpa [vkinds, h.1] using this.1, by simpa using this.2⟩
   ·have := vkinds_take n h
    exact ⟨by simpa [vkinds] using this.1, by simpa using this.2⟩
theorem veqL_take : ∀ (n : Nat) {z xs ys : List Value}, vkinds z xs = true → vkinds z ys = true → veqL xs ys = (veqL (xs.take n) (ys.take n) && veqL (xs.drop n) (ys.drop n))
 | 0, _, _, _, _, _ => by simp [veqL]
 | n + 1, [], xs, ys, h, h' => by rw [vk_nil h, vk_nil h']; rfl
 | n + 1, v :: r, xs, ys, h, h' => by
  cases xs with
  | nil => cases v <;> simp [vkinds] at h
  | cons x rx =>
   cases ys with
   | nil => cases v <;> simp [vkinds] at h'
   | cons y ry =>
    cases v <;> cases x <;> simp only [vkinds, Bool.false_eq_true, Bool.and_eq_true] at h <;> cases y <;> simp only [vkinds, Bool.false_eq_true, Bool.and_eq_true] at h'
    ·simp [veqL, veqL_take n h h', Bool.and_assoc]
    ·simp [veqL, veqL_take n h.2 h'.2, Bool.and_assoc]
    ·simp [veqL, veqL_take n h h', Bool.and_assoc]
section
variable {P : Program} {T : Nat → TI} (hT : ∀ t, (T t).known = true → TyFact P t (T t))
include hT
theorem run_partL {ft : TypeId} (hk : (T ft).known = true) (XS : List Value) (off : Nat) (h1 : (T ft).agg = false → ∃ v, ((XS.drop off).take (T ft).size) = [v] ∧ (T ft).size = 1) (w : World) :
  (part ft XS.toArray off).run P w = .ok (valL (T ft) ((XS.drop off).take (T ft).size)) w := by
 simp only [part, Sem.run_bind, (hT ft hk).isAgg, Result.andThen_ok, valL]
 cases hagg : (T ft).agg
 ·obtain ⟨v, hv, hs⟩ := h1 hagg
  simp only [Bool.false_eq_true, if_false, hv, List.headD_cons]
  rw [hs] at hv
  have : XS[off]? = some v := by
   have := congrArg (fun l => l[0]?) hv
   simpa using this
  simp [this]
 ·simp only [if_true, Sem.run_bind, (hT ft hk).sizeOf, Result.andThen_ok, Sem.run_pure]
  congr 2
  apply Array.ext'
  simp [Array.toList_extract, List.extract_eq_drop_take']
theorem eqFields_ok {d k : Nat} (rec : ∀ t z, shapeOk P T d t z = true → ∀ (xs ys : List Value) (w : World), vkinds z xs = true → vkinds z ys = true → (Op.equalIn (d + k) t (valL (T t) xs) (valL (T t) ys)).run P w = .ok (veqL xs ys) w)
  (XS YS : List Value) : ∀ (fs : List Field) (off : Nat) (z : List Value) (w : World), fs.all (fun f => f.name != "_") = true → fieldsOk (shapeOk P T d) T (fs.map fun f => (f.offset, f.type)) off z = true →
   vkinds z (XS.drop off) = true → vkinds z (YS.drop off) = true → (Op.eqFields (d + k) XS.toArray YS.toArray fs).run P w = .ok (veqL (XS.drop off) (YS.drop off)) w
 | [], off, z, w, _, hf, hx, hy => by
  simp only [List.map_nil, fieldsOk, List.isEmpty_iff] at hf
  subst hf
  rw [vk_nil hx, vk_nil hy]
  simp [Op.eqFields, veqL]
 | f :: r, off, z, w, hn, hf, hx, hy => by
  simp only [List.map_cons, fieldsOk, Bool.and_eq_true, beq_iff_eq, decide_eq_true_eq] at hf
  obtain ⟨⟨⟨rfl, hsz⟩, hsh⟩, hrest⟩ := hf
  simp only [List.all_cons, Bool.and_eq_true, bne_iff_ne, ne_eq] at hn
  have hk : (T f.type).known = true := by
   cases d with
   | zero => simp [shapeOk] at hsh
   | succ d => simp only [shapeOk, Bool.and_eq_true] at hsh; exact hsh.1
  obtain ⟨x1, x2⟩ := vkinds_take (T f.type).size hx
  obtain ⟨y1, y2⟩ := vkinds_take (T f.type).size hy
  have one : (T f.type).agg = false → (z.take (T f.type).size).length = 1 := by
   intro ha
   cases d with
   | zero => simp [shapeOk] at hsh
   | succ d =>
    simp only [shapeOk, Bool.and_eq_true] at hsh
    have h2 := hsh.2
    split at h2
    ·rename_i h; rw [h]; rfl
    ·rename_i h; rw [h]; rfl
    ·rename_i h; rw [h]; rfl
    ·simp [ha] at h2
    ·cases h2
  have single : ∀ {l : List Value}, vkinds (z.take (T f.type).size) l = true → (T f.type).agg = false → ∃ v, l = [v] ∧ (T f.type).size = 1 := by
   intro l hl ha
   have h1 := vkinds_len _ _ hl
   have h2 := one ha
   rw [h2] at h1
   match l, h1 with
   | [v], _ => exact ⟨v, rfl, by rw [List.length_take] at h2; omega⟩
  have px := run_partL hT hk XS f.offset (single x1) w
  have py := run_partL hT hk YS f.offset (single y1) w
  have hr := rec f.type _ hsh _ _ w x1 y1
  have ih := eqFields_ok rec XS YS r (f.offset + (T f.type).size) _ w hn.2 hrest (by rw [← List.drop_drop]; exact x2) (by rw [← List.drop_drop]; exact y2)
  rw [← List.drop_drop, ← List.drop_drop] at ih
  simp only [Op.eqFields, if_pos hn.1, Sem.run_bind, px, py, hr, Result.andThen_ok]
  rw [veqL_take (T f.type).size hx hy]
  cases hv : veqL (List.take (T f.type).size (List.drop f.offset XS)) (List.take (T f.type).size (List.drop f.offset YS))
  ·simp
  ·simpa using ih
theorem eqIn_ok : ∀ (d k : Nat) (t : TypeId) (z : List Value), shapeOk P T d t z = true → ∀ (xs ys : List Value) (w : World), vkinds z xs = true → vkinds z ys = true →
  (Op.equalIn (d + k) t (valL (T t) xs) (valL (T t) ys)).run P w = .ok (veqL xs ys) w
 | 0, _, _, _, h, _, _, _, _, _ => by simp [shapeOk] at h
 | d + 1, k, t, z, h, xs, ys, w, hx, hy => by
  simp only [shapeOk, Bool.and_eq_true] at h
  obtain ⟨hk, h⟩ := h
  obtain ⟨ti, ds, z0, hti, hd, hz, g1, g2, g3, g4, g5, g6, g7, g8, _⟩ := (hT t hk).ex
  have e : d + 1 + k = (d + k) + 1 := by omega
  rw [e]
  split at h
  ·rename_i hkd
   have := g5 hkd; subst this
   obtain ⟨a, r, rfl, hr⟩ := vk_bool hx
   obtain ⟨b, r', rfl, hr'⟩ := vk_bool hy
   rw [vk_nil hr, vk_nil hr']
   have ha : (T t).agg = false := by simpa using h
   simp only [valL, ha, Bool.false_eq_true, if_false, List.headD_cons]
   rw [run_equalIn_bool' _ _ _ _ _ hd]
   simp [veqL]
  ·rename_i k0 _ _ hkd
   have := g4 _ hkd; subst this
   obtain ⟨a, r, rfl, hr⟩ := vk_int hx
   obtain ⟨b, r', rfl, hr'⟩ := vk_int hy
   rw [vk_nil hr, vk_nil hr']
   have ha : (T t).agg = false := by simpa using h
   simp only [valL, ha, Bool.false_eq_true, if_false, List.headD_cons]
   rw [run_equalIn_int _ _ _ _ _ _ _ hd]
   simp [veqL]
  ·rename_i hkd
   have := g6 hkd; subst this
   obtain ⟨a, r, rfl, hr⟩ := vk_str hx
   obtain ⟨b, r', rfl, hr'⟩ := vk_str hy
   rw [vk_nil hr, vk_nil hr']
   have ha : (T t).agg = false := by simpa using h
   simp only [valL, ha, Bool.false_eq_true, if_false, List.headD_cons]
   rw [run_equalIn_string _ _ _ _ _ hd]
   simp [veqL]
  ·rename_i hkd
   simp only [Bool.and_eq_true, Bool.not_eq_true'] at h
   obtain ⟨⟨⟨ha, hst⟩, hnm⟩, hf⟩ := h
   obtain ⟨fs, rfl, hfs⟩ := g8 hkd
   have hfo : P.fieldsOf t = fs := by simp [Program.fieldsOf, hd]
   simp only [valL, ha, if_true]
   rw [run_equalIn_struct _ _ _ _ _ (by rw [hfo]; exact hd) hst, hfo]
   rw [hfo] at hnm
   rw [hfs] at hf
   have := eqFields_ok hT (d := d) (k := k) (fun t z h => eqIn_ok d k t z h) xs ys fs.toList 0 _ w hnm hf (by simpa using hx) (by simpa using hy)
   simpa using this
  ·cases h
theorem structEq (t : TypeId) (z : List Value) (h : shapeOk P T 8 t z = true) (hg : P.eqGuardType P.depth t = false) (ha : (T t).agg = true) : StructEq P t z := by
 intro xs ys x y w hx hy
 have h1 : (Op.equal t (.agg xs.toArray) (.agg ys.toArray)).run P w = .ok (veqL xs ys) w := by
  have := eqIn_ok hT 8 9992 t z h xs ys w hx hy
  simp only [valL, ha, if_true] at this
  exact this
 constructor
 ·simp [eqGuard, binOp, hg, h1]
 ·simp [eqGuard, binOp, hg, h1]
end
end Go.Ma
namespace Go.Ma
open Go
section
variable {X Y : Type}
theorem br_ss (c : Bool) (x y : X) : br c (some x) (some y) = some (bif c then x else y) := by cases c <;> rfl
theorem br_sb (c x y : Bool) : br c (some x) (some y) = some (bif c then x else y) := br_ss c x y
theorem br_true (a b : Option X) : br true a b = a := rfl
theorem br_false (a b : Option X) : br false a b = b := rfl
theorem br_same (c : Bool) (a : Option X) : br c a a = a := by cases c <;> rfl
theorem req_true (a : Option X) : req true a = a := rfl
theorem req_of {c : Bool} (h : c = true) (a : Option X) : req c a = a := by rw [h]; rfl
theorem both_self (a : Option X) : both a a = a := by unfold both; exact if_pos rfl
theorem dup_eq (n : Nat) (a : Option X) : dup n a = a := by
 induction n with
 | zero => rfl
 | succ n ih => rw [dup, ih, both_self]
theorem bind_s (x : X) (f : X → Option Y) : (some x).bind f = f x := rfl
end
def betw (x a b : Int) : Bool := decide (a ≤ x) && decide (x ≤ b)
theorem i64ok_of {x : Int} (h : -9223372036854775808 ≤ x) (h' : x < 9223372036854775808) : i64ok x = true := i64ok_iff.2 ⟨h, h'⟩
theorem inRange_of {i n : Int} (h : 0 ≤ i) (h' : i < n) : inRange i n = true := by simp [inRange, h, h']
theorem room_of {a b : Int} (h0 : 0 ≤ a) (h1 : 0 ≤ b) (h : a + b ≤ 274877906944) : room a b = true := by
 unfold room
 rw [Nat.ble_eq]
 omega
section
variable {α : Type}
theorem zq11 (l : List α) : 0 ≤ lenL l := by unfold lenL; omega
theorem geti_nat (l : List α) (i : Nat) : geti l (i : Int) = l[i]? := by
 unfold geti
 rw [if_pos (by omega)]
 rfl
theorem geti_at {l : List α} {i : Nat} {a : α} (h : l[i]? = some a) : geti l (i : Int) = some a := (geti_nat l i).trans h
end
theorem loopN_succ {α Y : Type} (step : (α → Option Y) → α → Option Y) (n : Nat) (x : α) : loopN step (n + 1) x = step (loopN step n) x := rfl
theorem loop_up {α Y : Type} {step : (α → Option Y) → α → Option Y} (mk : Nat → α) (n : Nat) (f : Nat → Option Y)
  (h : ∀ (rec : α → Option Y) i, i < n → rec (mk (i + 1)) = f (i + 1) → step rec (mk i) = f i) (hend : ∀ rec, step rec (mk n) = f n) : ∀ (N i : Nat), i ≤ n → n - i < N → loopN step N (mk i) = f i := by
 intro N
 induction N with
 | zero => intro i _ hx; omega
 | succ N ih =>
  intro i hi hx
  rw [loopN_succ]
  by_cases he : i = n
  ·subst he; exact hend _
  ·exact h _ i (by omega) (ih (i + 1) (by omega) (by omega))
theorem fuel_gt {n : Nat} (h : n < 18446744073709551616) : n < FUEL := by unfold FUEL; exact h
theorem toList_loop (b : ByteArray) (i : Nat) (r : List UInt8) : ByteArray.toList.loop b i r = r.reverse ++ b.data.toList.drop i := by
 rw [ByteArray.toList.loop]
 split
 ·rename_i h
  rw [toList_loop b (i + 1)]
  have h' : i < b.data.toList.length := by simpa using h
  rw [List.drop_eq_getElem_cons h', List.reverse_cons, List.append_assoc]
  have e : b.get! i = b.data.toList[i] := by
   simp only [ByteArray.get!, Array.getElem_toList]
   exact getElem!_pos b.data i (by simpa using h)
  rw [e]
  rfl
 ·rename_i h
  rw [List.drop_of_length_le (by simpa using h), List.append_nil]
 termination_by b.size - i
theorem toList_data (b : ByteArray) : b.toList = b.data.toList := by
 rw [ByteArray.toList, toList_loop]; rfl
theorem beqL_iff (x y : ByteArray) : (x.toList == y.toList) = decide (x = y) := by
 have e : (x.toList = y.toList) = (x = y) := by
  rw [toList_data, toList_data]
  refine propext ⟨fun h => ByteArray.ext (Array.toList_inj.1 h), fun h => by rw [h]⟩
 simp only [← e]
 exact Bool.eq_iff_iff.2 (by simp)
theorem strcmp_eql (x y : ByteArray) : strcmp .eql x y = decide (x = y) := beqL_iff x y
theorem drop_cons {α : Type} {l : List α} {i : Nat} {a : α} (h : l[i]? = some a) : l.drop i = a :: l.drop (i + 1) := by
 obtain ⟨hl, he⟩ := List.getElem?_eq_some_iff.1 h
 rw [List.drop_eq_getElem_cons hl, he]
end Go.Ma
namespace Go.Ma
open Go
structure Bk where
 v : Bool
 f : Nat
 k : Nat
 deriving DecidableEq
def Bk.lo (b : Bk) : Nat := b.k * 2 ^ b.f
def Bk.hi (b : Bk) : Nat := (b.k + 1) * 2 ^ b.f
def Bk.has (b : Bk) (v : Bool) (n : Nat) : Prop := b.v = v ∧ b.lo ≤ n ∧ n < b.hi
def covB (l : List Bk) (v : Bool) (n : Nat) : Prop := ∃ b ∈ l, b.has v n
def sib (a b : Bk) : Prop := a.v = b.v ∧ a.f = b.f ∧ a.k % 2 = 0 ∧ b.k = a.k + 1
def befB (a b : Bk) : Prop := (a.v = false ∧ b.v = true) ∨ (a.v = b.v ∧ a.hi ≤ b.lo)
structure NormB (l : List Bk) : Prop where
 asc : l.Pairwise befB
 nos : ∀ a ∈ l, ∀ b ∈ l, ¬ sib a b
theorem Bk.lo_lt_hi (b : Bk) : b.lo < b.hi := by
 unfold Bk.lo Bk.hi
 have := Nat.two_pow_pos b.f
 rw [Nat.add_mul]
 omega
theorem NormB.sub {l m : List Bk} (h : NormB l) (hs : m.Sublist l) : NormB m := ⟨h.asc.sublist hs, fun a ha b hb => h.nos a (hs.subset ha) b (hs.subset hb)⟩
def inB (v : Bool) (F K : Nat) (b : Bk) : Prop := b.v = v ∧ b.f ≤ F ∧ b.k / 2 ^ (F - b.f) = K
theorem inB_range {v : Bool} {F K : Nat} {b : Bk} (h : inB v F K b) : K * 2 ^ F ≤ b.lo ∧ b.hi ≤ (K + 1) * 2 ^ F := by
 obtain ⟨_, h2, h3⟩ := h
 obtain ⟨d, hd⟩ : ∃ d, F = b.f + d := ⟨F - b.f, by omega⟩
 rw [hd, show b.f + d - b.f = d by omega] at h3
 rw [hd]
 unfold Bk.lo Bk.hi
 have h4 := Nat.two_pow_pos d
 have h5 := Nat.div_mul_le_self b.k (2 ^ d)
 have h6 := Nat.lt_div_mul_add (a := b.k) h4
 rw [h3] at h5 h6
 rw [Nat.pow_add, Nat.mul_comm (2 ^ b.f), ← Nat.mul_assoc, ← Nat.mul_assoc]
 refine ⟨Nat.mul_le_mul_right _ h5, Nat.mul_le_mul_right _ ?_⟩
 rw [Nat.add_mul, Nat.one_mul]
 omega
theorem filter_split {α : Type} (p : α → Bool) : ∀ {l : List α}, l.Pairwise (fun a b => p b = true → p a = true) → l = l.filter p ++ l.filter (fun x => !p x)
 | [], _ => rfl
 | a :: r, h => by
  obtain ⟨h1, h2⟩ := List.pairwise_cons.1 h
  cases hp : p a
  ·have hn : r.filter p = [] := List.filter_eq_nil_iff.2 fun b hb hpb => by rw [h1 b hb hpb] at hp; cases hp
   have ha : r.filter (fun x => !p x) = r := List.filter_eq_self.2 fun b hb => by
    cases hpb : p b
    ·rfl
    ·rw [h1 b hb hpb] at hp; cases hp
   simp [List.filter, hp, hn, ha]
  ·have := filter_split p h2
   rw [List.filter_cons_of_pos hp, List.filter_cons_of_neg (by simp [hp]), List.cons_append, ← this]
open Classical in
/-- The blocks of a kind, within the block (F, K), that have what S says. -/
noncomputable def canon (v : Bool) (S : Nat → Prop) : Nat → Nat → List Bk
 | 0, K => if S K then [⟨v, 0, K⟩] else []
 | F + 1, K => if ∀ n, K * 2 ^ (F + 1) ≤ n → n < (K + 1) * 2 ^ (F + 1) → S n then [⟨v, F + 1, K⟩] else canon v S F (2 * K) ++ canon v S F (2 * K + 1)
theorem canon_all {v : Bool} {S : Nat → Prop} : ∀ {F K : Nat}, (∀ n, K * 2 ^ F ≤ n → n < (K + 1) * 2 ^ F → S n) → canon v S F K = [⟨v, F, K⟩]
 | 0, K, h => by
  have : S K := h K (by simp) (by simp)
  unfold canon
  rw [if_pos this]
 | F + 1, K, h => by
  unfold canon
  rw [if_pos h]
theorem canon_none {v : Bool} {S : Nat → Prop} : ∀ {F K : Nat}, (∀ n, K * 2 ^ F ≤ n → n < (K + 1) * 2 ^ F → ¬ S n) → canon v S F K = []
 | 0, K, h => by
  have : ¬ S K := h K (by simp) (by simp)
  unfold canon
  rw [if_neg this]
 | F + 1, K, h => by
  have h2 := Nat.two_pow_pos (F + 1)
  unfold canon
  rw [if_neg fun hh => h (K * 2 ^ (F + 1)) (Nat.le_refl _) (by rw [Nat.add_mul]; omega) (hh _ (Nat.le_refl _) (by rw [Nat.add_mul]; omega)), canon_none fun n h3 h4 => h n ?_ ?_, canon_none fun n h3 h4 => h n ?_ ?_]
  ·rfl
  all_goals
   rw [Nat.pow_succ] at *
   have e1 : ∀ x, x * (2 ^ F * 2) = (2 * x) * 2 ^ F := fun x => by rw [Nat.mul_comm (2 ^ F) 2, ← Nat.mul_assoc, Nat.mul_comm x 2]
   simp only [e1, Nat.add_mul, Nat.mul_add, Nat.one_mul] at *
   have := Nat.two_pow_pos F
   omega
theorem dblA (K F : Nat) : K * 2 ^ (F + 1) = 2 * K * 2 ^ F := by rw [Nat.pow_succ, Nat.mul_comm (2 ^ F) 2, ← Nat.mul_assoc, Nat.mul_comm K 2]
theorem dblB (K F : Nat) : (K + 1) * 2 ^ (F + 1) = (2 * K + 1 + 1) * 2 ^ F := by rw [dblA, show 2 * (K + 1) = 2 * K + 1 + 1 by omega]
theorem dblC (K F : Nat) : (2 * K + 1) * 2 ^ F ≤ (2 * K + 1 + 1) * 2 ^ F := Nat.mul_le_mul_right _ (by omega)
theorem dblD (K F : Nat) : 2 * K * 2 ^ F ≤ (2 * K + 1) * 2 ^ F := Nat.mul_le_mul_right _ (by omega)
theorem canon_congr {v : Bool} {S T : Nat → Prop} : ∀ {F K : Nat}, (∀ n, K * 2 ^ F ≤ n → n < (K + 1) * 2 ^ F → (S n ↔ T n)) → canon v S F K = canon v T F K
 | 0, K, h => by
  have := h K (by simp) (by simp)
  unfold canon
  by_cases hs : S K
  ·rw [if_pos hs, if_pos (this.1 hs)]
  ·rw [if_neg hs, if_neg fun ht => hs (this.2 ht)]
 | F + 1, K, h => by
  have hl : canon v S F (2 * K) = canon v T F (2 * K) := canon_congr fun n h3 h4 => h n (by rw [dblA]; exact h3) (by rw [dblB]; exact Nat.lt_of_lt_of_le h4 (dblC K F))
  have hr : canon v S F (2 * K + 1) = canon v T F (2 * K + 1) := canon_congr fun n h3 h4 => h n (by rw [dblA]; exact Nat.le_trans (dblD K F) h3) (by rw [dblB]; exact h4)
  unfold canon
  by_cases hs : ∀ n, K * 2 ^ (F + 1) ≤ n → n < (K + 1) * 2 ^ (F + 1) → S n
  ·rw [if_pos hs, if_pos fun n h1 h2 => (h n h1 h2).1 (hs n h1 h2)]
  ·rw [if_neg hs, if_neg fun ht => hs fun n h1 h2 => (h n h1 h2).2 (ht n h1 h2), hl, hr]
theorem canon_uniq (v : Bool) (S : Nat → Prop) : ∀ (F K : Nat) (l : List Bk), NormB l → (∀ b ∈ l, inB v F K b) → (∀ n, K * 2 ^ F ≤ n → n < (K + 1) * 2 ^ F → (covB l v n ↔ S n)) → l = canon v S F K
 | F, K, l, hn, hin, hc => by
  by_cases htop : ∃ b ∈ l, b.f = F
  ·obtain ⟨b, hb, hf⟩ := htop
   obtain ⟨h1, h2, h3⟩ := hin b hb
   have hk : b.k = K := by rw [hf, Nat.sub_self] at h3; simpa using h3
   have hbe : b = ⟨v, F, K⟩ := by cases b; simp only at h1 hf hk; rw [h1, hf, hk]
   have hone : ∀ c ∈ l, c = b := fun c hcm => by
    obtain ⟨r1, r2⟩ := inB_range (hin c hcm)
    have hcl := c.lo_lt_hi
    by_cases hcb : c = b
    ·exact hcb
    ·exfalso
     have hpw : befB b c ∨ befB c b := by
      obtain ⟨i, hi⟩ := List.mem_iff_getElem?.1 hb
      obtain ⟨j, hj⟩ := List.mem_iff_getElem?.1 hcm
      have hasc := hn.asc
      rw [List.pairwise_iff_getElem] at hasc
      obtain ⟨i1, i2⟩ := List.getElem?_eq_some_iff.1 hi
      obtain ⟨j1, j2⟩ := List.getElem?_eq_some_iff.1 hj
      rcases Nat.lt_trichotomy i j with h | h | h
      ·exact .inl (by have := hasc i j i1 j1 h; rwa [i2, j2] at this)
      ·subst h; rw [hi] at hj; injection hj with hj; exact absurd hj.symm hcb
      ·exact .inr (by have := hasc j i j1 i1 h; rwa [i2, j2] at this)
     have hcv := (hin c hcm).1
     rw [hbe] at hpw
     unfold befB Bk.hi Bk.lo at hpw
     unfold Bk.lo at r1 hcl
     unfold Bk.hi at r2 hcl
     simp only at hpw
     rcases hpw with (⟨p1, p2⟩ | ⟨_, p2⟩) | (⟨p1, p2⟩ | ⟨_, p2⟩)
     ·rw [hcv, p1] at p2; cases p2
     ·omega
     ·rw [hcv, p2] at p1; cases p1
     ·omega
   have hl : l = [b] := by
    have hasc := hn.asc
    match l, hb, hone, hasc with
    | [x], _, hone, _ => rw [hone x (by simp)]
    | x :: y :: r, _, hone, hasc =>
     exfalso
     have := (List.pairwise_cons.1 hasc).1 y (by simp)
     rw [hone x (by simp), hone y (by simp)] at this
     have hlt := b.lo_lt_hi
     rcases this with ⟨p1, p2⟩ | ⟨_, p2⟩
     ·rw [p1] at p2; cases p2
     ·omega
   rw [hl, hbe]
   refine (canon_all fun n h4 h5 => (hc n h4 h5).1 ⟨b, hb, h1, ?_, ?_⟩).symm
   ·rw [hbe]; exact h4
   ·rw [hbe]; exact h5
  ·have hlow : ∀ b ∈ l, b.f < F := fun b hb => by
    have := (hin b hb).2.1
    rcases Nat.lt_or_ge b.f F with h | h
    ·exact h
    ·exact absurd ⟨b, hb, by omega⟩ htop
   match F, hin, hc, hlow with
   | 0, hin, hc, hlow =>
    have hl : l = [] := List.eq_nil_iff_forall_not_mem.2 fun b hb => by have := hlow b hb; omega
    subst hl
    refine (canon_none fun n h3 h4 hs => ?_).symm
    obtain ⟨b, hb, _⟩ := (hc n h3 h4).2 hs
    cases hb
   | F + 1, hin, hc, hlow =>
    have hside : ∀ b ∈ l, inB v F (2 * K) b ∨ inB v F (2 * K + 1) b := fun b hb => by
     obtain ⟨h1, h2, h3⟩ := hin b hb
     have h4 := hlow b hb
     have h5 : b.k / 2 ^ (F - b.f) / 2 = K := by
      rw [Nat.div_div_eq_div_mul, ← Nat.pow_succ, show (F - b.f).succ = F + 1 - b.f by omega]
      exact h3
     rcases Nat.mod_two_eq_zero_or_one (b.k / 2 ^ (F - b.f)) with h6 | h6
     ·exact .inl ⟨h1, by omega, by omega⟩
     ·exact .inr ⟨h1, by omega, by omega⟩
    let p : Bk → Bool := fun b => decide (b.k / 2 ^ (F - b.f) = 2 * K)
    have hsplit : l = l.filter p ++ l.filter (fun x => !p x) := filter_split p (by
     refine List.Pairwise.imp_of_mem (fun {a b} ha hb hab hpb => ?_) hn.asc
     have hpb := of_decide_eq_true hpb
     rcases hside a ha with h | h
     ·exact decide_eq_true h.2.2
     ·exfalso
      have r1 := (inB_range h).1
      have r2 := (inB_range (K := 2 * K) ⟨(hin b hb).1, by have := hlow b hb; omega, hpb⟩).2
      have q1 := a.lo_lt_hi
      have q2 := b.lo_lt_hi
      rcases hab with ⟨p1, p2⟩ | ⟨_, p2⟩
      ·rw [(hin a ha).1] at p1
       rw [(hin b hb).1, p1] at p2
       cases p2
      ·omega)
    have hL : ∀ b ∈ l.filter p, inB v F (2 * K) b := fun b hb => by
     obtain ⟨h1, h2⟩ := List.mem_filter.1 hb
     exact ⟨(hin b h1).1, by have := hlow b h1; omega, of_decide_eq_true h2⟩
    have hR : ∀ b ∈ l.filter (fun x => !p x), inB v F (2 * K + 1) b := fun b hb => by
     obtain ⟨h1, h2⟩ := List.mem_filter.1 hb
     rcases hside b h1 with h | h
     ·rw [show p b = true from decide_eq_true h.2.2] at h2; cases h2
     ·exact h
    have e1 := dblA K F
    have e2 := dblB K F
    have e3 := dblD K F
    have e4 := dblC K F
    have hcl : ∀ n, (2 * K) * 2 ^ F ≤ n → n < (2 * K + 1) * 2 ^ F → (covB (l.filter p) v n ↔ S n) := fun n h1 h2 => by
     rw [← hc n (by omega) (by omega)]
     constructor
     ·rintro ⟨b, hb, hh⟩; exact ⟨b, (List.mem_filter.1 hb).1, hh⟩
     ·rintro ⟨b, hb, hh⟩
      rw [hsplit] at hb
      rcases List.mem_append.1 hb with hb | hb
      ·exact ⟨b, hb, hh⟩
      ·have := (inB_range (hR b hb)).1
       have := hh.2.1
       omega
    have hcr : ∀ n, (2 * K + 1) * 2 ^ F ≤ n → n < (2 * K + 1 + 1) * 2 ^ F → (covB (l.filter (fun x => !p x)) v n ↔ S n) := fun n h1 h2 => by
     rw [← hc n (by omega) (by omega)]
     constructor
     ·rintro ⟨b, hb, hh⟩; exact ⟨b, (List.mem_filter.1 hb).1, hh⟩
     ·rintro ⟨b, hb, hh⟩
      rw [hsplit] at hb
      rcases List.mem_append.1 hb with hb | hb
      ·have := (inB_range (hL b hb)).2
       have := hh.2.2
       omega
      ·exact ⟨b, hb, hh⟩
    have il := canon_uniq v S F (2 * K) (l.filter p) (hn.sub List.filter_sublist) hL hcl
    have ir := canon_uniq v S F (2 * K + 1) (l.filter fun x => !p x) (hn.sub List.filter_sublist) hR hcr
    rw [hsplit, il, ir]
    conv => rhs; unfold canon
    by_cases hall : ∀ n, K * 2 ^ (F + 1) ≤ n → n < (K + 1) * 2 ^ (F + 1) → S n
    ·exfalso
     have a1 := canon_all (v := v) (S := S) (F := F) (K := 2 * K) fun n h1 h2 => hall n (by omega) (by omega)
     have a2 := canon_all (v := v) (S := S) (F := F) (K := 2 * K + 1) fun n h1 h2 => hall n (by omega) (by omega)
     rw [a1] at il
     rw [a2] at ir
     refine hn.nos ⟨v, F, 2 * K⟩ ?_ ⟨v, F, 2 * K + 1⟩ ?_ ⟨rfl, rfl, by simp, rfl⟩
     ·rw [hsplit, il]; simp
     ·rw [hsplit, ir]; simp
    ·rw [if_neg hall]
 termination_by F => F
end Go.Ma
namespace Go.Ma
open Go
instance (a b : Bk) : Decidable (sib a b) := by unfold sib; exact inferInstance
def upB (t : Bk) : Bk := ⟨t.v, t.f + 1, t.k / 2⟩
def overBk (a b : Bk) : Bool := decide (a.v = b.v) && (decide (b.f ≤ a.f) && decide (b.k / 2 ^ (a.f - b.f) = a.k))
def joinS : List Bk → Bk → List Bk
 | [], p => [p]
 | t :: r, p => if sib t p then joinS r (upB t) else p :: t :: r
def putS (rs : List Bk) (p : Bk) : List Bk := match rs with | [] => [p] | t :: r => if overBk t p = true then t :: r else joinS (t :: r) p
def shortS (l : List Bk) : List Bk := (l.foldl putS []).reverse
def ordB (a b : Bk) : Prop := (a.v = false ∧ b.v = true) ∨ (a.v = b.v ∧ (a.lo < b.lo ∨ (a.lo = b.lo ∧ b.f < a.f)))
theorem befB_trans {a b c : Bk} (h1 : befB a b) (h2 : befB b c) : befB a c := by
 have := b.lo_lt_hi
 rcases h1 with ⟨p1, p2⟩ | ⟨p1, p2⟩ <;> rcases h2 with ⟨q1, q2⟩ | ⟨q1, q2⟩
 ·rw [p2] at q1; cases q1
 ·exact .inl ⟨p1, by rw [← q1]; exact p2⟩
 ·exact .inl ⟨by rw [p1]; exact q1, q2⟩
 ·exact .inr ⟨p1.trans q1, by omega⟩
theorem overBk_iff {a b : Bk} : overBk a b = true ↔ a.v = b.v ∧ b.f ≤ a.f ∧ b.k / 2 ^ (a.f - b.f) = a.k := by simp [overBk]
theorem overBk_range {a b : Bk} (h : overBk a b = true) : a.v = b.v ∧ a.lo ≤ b.lo ∧ b.hi ≤ a.hi := by
 obtain ⟨h1, h2, h3⟩ := overBk_iff.1 h
 obtain ⟨r1, r2⟩ := inB_range (v := b.v) (F := a.f) (K := a.k) (b := b) ⟨rfl, h2, h3⟩
 exact ⟨h1, r1, r2⟩
theorem over_of_meet {a b : Bk} (hv : a.v = b.v) (hf : b.f ≤ a.f) {n : Nat} (h1 : a.lo ≤ n) (h2 : n < a.hi) (h3 : b.lo ≤ n) (h4 : n < b.hi) : overBk a b = true := by
 have key : ∀ {c : Bk} {m : Nat}, c.lo ≤ m → m < c.hi → m / 2 ^ c.f = c.k := fun {c m} g1 g2 => by
  unfold Bk.lo at g1
  unfold Bk.hi at g2
  exact Nat.div_eq_of_lt_le g1 g2
 refine overBk_iff.2 ⟨hv, hf, ?_⟩
 rw [← key h3 h4, Nat.div_div_eq_div_mul, ← Nat.pow_add, show b.f + (a.f - b.f) = a.f by omega]
 exact key h1 h2
theorem sib_parts {t p : Bk} (h : sib t p) : (upB t).lo = t.lo ∧ t.hi = p.lo ∧ (upB t).hi = p.hi := by
 obtain ⟨_, h2, h3, h4⟩ := h
 unfold upB Bk.lo Bk.hi
 simp only
 rw [h4, ← h2, Nat.pow_succ, Nat.mul_comm (2 ^ t.f) 2]
 have e1 : t.k / 2 * (2 * 2 ^ t.f) = t.k * 2 ^ t.f := by rw [← Nat.mul_assoc]; congr 1; omega
 have e2 : (t.k / 2 + 1) * (2 * 2 ^ t.f) = (t.k + 1 + 1) * 2 ^ t.f := by rw [← Nat.mul_assoc]; congr 1; omega
 exact ⟨e1, rfl, e2⟩
structure StkB (rs : List Bk) : Prop where
 asc : rs.Pairwise fun a b => befB b a
 nos : ∀ a ∈ rs, ∀ b ∈ rs, ¬ sib a b
theorem joinS_ok : ∀ (rs : List Bk) (p : Bk), StkB rs → (∀ x ∈ rs, befB x p) → StkB (joinS rs p) ∧ (∀ v n, covB (joinS rs p) v n ↔ covB rs v n ∨ p.has v n) ∧ (∀ x ∈ joinS rs p, x ∈ rs ∨ (x.v = p.v ∧ x.lo = p.lo ∧ p.f ≤ x.f) ∨ ∃ t ∈ rs, x.v = t.v ∧ x.lo = t.lo ∧ t.f ≤ x.f)
 | [], p, h, _ => by
  unfold joinS
  refine ⟨⟨by simp, fun a ha b hb => ?_⟩, fun v n => ?_, fun x hx => ?_⟩
  ·simp only [List.mem_singleton] at ha hb
   subst ha hb
   rintro ⟨_, _, _, h4⟩
   omega
  ·simp [covB]
  ·simp only [List.mem_singleton] at hx
   subst hx
   exact .inr (.inl ⟨rfl, rfl, Nat.le_refl _⟩)
 | t :: r, p, h, hb => by
  unfold joinS
  obtain ⟨h1, h2⟩ := List.pairwise_cons.1 h.asc
  have hr : StkB r := ⟨h2, fun a ha b hb => h.nos a (List.mem_cons_of_mem _ ha) b (List.mem_cons_of_mem _ hb)⟩
  by_cases hs : sib t p
  ·rw [if_pos hs]
   obtain ⟨s1, s2, s3⟩ := sib_parts hs
   have hup : (upB t).v = t.v := rfl
   obtain ⟨i1, i2, i3⟩ := joinS_ok r (upB t) hr fun x hx => by
    rcases h1 x hx with ⟨p1, p2⟩ | ⟨p1, p2⟩
    ·exact .inl ⟨p1, p2⟩
    ·exact .inr ⟨p1, by rw [s1]; exact p2⟩
   refine ⟨i1, fun v n => ?_, fun x hx => ?_⟩
   ·rw [i2]
    have e : (upB t).has v n ↔ t.has v n ∨ p.has v n := by
     unfold Bk.has
     rw [hup, s1, s3, ← s2, ← hs.1]
     have q1 := t.lo_lt_hi
     have q2 := p.lo_lt_hi
     rw [← s2] at q2
     constructor
     ·rintro ⟨a1, a2, a3⟩
      rcases Nat.lt_or_ge n t.hi with g | g
      ·exact .inl ⟨a1, a2, g⟩
      ·exact .inr ⟨a1, g, a3⟩
     ·rintro (⟨a1, a2, a3⟩ | ⟨a1, a2, a3⟩)
      ·exact ⟨a1, a2, by omega⟩
      ·exact ⟨a1, by omega, a3⟩
    rw [e]
    have : covB (t :: r) v n ↔ t.has v n ∨ covB r v n := by simp [covB]
    rw [this]
    constructor
    ·rintro (g | g | g)
     ·exact .inl (.inr g)
     ·exact .inl (.inl g)
     ·exact .inr g
    ·rintro ((g | g) | g)
     ·exact .inr (.inl g)
     ·exact .inl g
     ·exact .inr (.inr g)
   ·rcases i3 x hx with g | ⟨g1, g2, g3⟩ | ⟨u, hu, g1, g2, g3⟩
    ·exact .inl (List.mem_cons_of_mem _ g)
    ·exact .inr (.inr ⟨t, List.mem_cons_self, g1, by rw [g2, s1], by unfold upB at g3; simp only at g3; omega⟩)
    ·exact .inr (.inr ⟨u, List.mem_cons_of_mem _ hu, g1, g2, g3⟩)
  ·rw [if_neg hs]
   refine ⟨⟨List.pairwise_cons.2 ⟨hb, h.asc⟩, fun a ha b hb' => ?_⟩, fun v n => ?_, fun x hx => ?_⟩
   ·have htp := hb t List.mem_cons_self
    have bef_sib : ∀ {c d : Bk}, befB c d → ¬ sib d c := fun {c d} hcd hsib => by
     obtain ⟨_, g2, _⟩ := sib_parts hsib
     have q1 := c.lo_lt_hi
     have q2 := d.lo_lt_hi
     rcases hcd with ⟨p1, p2⟩ | ⟨_, p2⟩
     ·rw [← hsib.1, p2] at p1; cases p1
     ·omega
    rcases List.mem_cons.1 ha with rfl | ha2
    ·rcases List.mem_cons.1 hb' with rfl | hb'
     ·rintro ⟨_, _, _, h4⟩; omega
     ·exact bef_sib (hb b hb')
    ·rcases List.mem_cons.1 hb' with rfl | hb'
     ·rcases List.mem_cons.1 ha2 with rfl | ha3
      ·exact hs
      ·intro hsib
       obtain ⟨_, g2, _⟩ := sib_parts hsib
       have hat := h1 a ha3
       have q1 := t.lo_lt_hi
       rcases hat with ⟨p1, p2⟩ | ⟨p1, p2⟩ <;> rcases htp with ⟨p3, p4⟩ | ⟨p3, p4⟩
       ·rw [p2] at p3; cases p3
       ·rw [hsib.1, ← p3, p2] at p1; cases p1
       ·rw [← p1, hsib.1, p4] at p3; cases p3
       ·omega
     ·exact h.nos a ha2 b hb'
   ·have : covB (p :: t :: r) v n ↔ p.has v n ∨ covB (t :: r) v n := by simp [covB]
    rw [this, or_comm]
   ·rcases List.mem_cons.1 hx with rfl | hx
    ·exact .inr (.inl ⟨rfl, rfl, Nat.le_refl _⟩)
    ·exact .inl hx
structure ShB (done rs : List Bk) : Prop where
 stk : StkB rs
 cov : ∀ v n, covB rs v n ↔ covB done v n
 low : ∀ t ∈ rs, ∃ q ∈ done, q.v = t.v ∧ q.lo = t.lo ∧ q.f ≤ t.f
theorem putS_ok {done rs : List Bk} (h : ShB done rs) {p : Bk} (hp : ∀ q ∈ done, ¬ ordB p q) : ShB (done ++ [p]) (putS rs p) := by
 have hcov : ∀ v n, covB (done ++ [p]) v n ↔ covB done v n ∨ p.has v n := fun v n => by
  constructor
  ·rintro ⟨b, hb, hh⟩
   rcases List.mem_append.1 hb with hb | hb
   ·exact .inl ⟨b, hb, hh⟩
   ·simp only [List.mem_singleton] at hb
    subst hb
    exact .inr hh
  ·rintro (⟨b, hb, hh⟩ | hh)
   ·exact ⟨b, List.mem_append_left _ hb, hh⟩
   ·exact ⟨p, by simp, hh⟩
 have hlow : ∀ t ∈ rs, ∃ q ∈ done ++ [p], q.v = t.v ∧ q.lo = t.lo ∧ q.f ≤ t.f := fun t ht => by
  obtain ⟨q, hq, g⟩ := h.low t ht
  exact ⟨q, List.mem_append_left _ hq, g⟩
 unfold putS
 match rs, h, hlow with
 | [], h, _ =>
  have j := joinS_ok [] p ⟨List.Pairwise.nil, fun a ha => by cases ha⟩ (fun x hx => by cases hx)
  refine ⟨j.1, fun v n => ?_, fun t ht => ?_⟩
  ·rw [hcov, ← h.cov]
   exact j.2.1 v n
  ·simp only [List.mem_singleton] at ht
   subst ht
   exact ⟨t, by simp, rfl, rfl, Nat.le_refl _⟩
 | t :: r, h, hlow =>
  simp only
  by_cases ho : overBk t p = true
  ·rw [if_pos ho]
   refine ⟨h.stk, fun v n => ?_, hlow⟩
   rw [hcov, h.cov]
   constructor
   ·exact .inl
   ·rintro (g | ⟨g1, g2, g3⟩)
    ·exact g
    ·obtain ⟨o1, o2, o3⟩ := overBk_range ho
     exact (h.cov v n).1 ⟨t, List.mem_cons_self, o1.trans g1, by omega, by omega⟩
  ·rw [if_neg ho]
   obtain ⟨q, hq, q1, q2, q3⟩ := h.low t List.mem_cons_self
   have hqp := hp q hq
   have htp : befB t p := by
    unfold ordB at hqp
    cases htv : t.v <;> cases hpv : p.v
    ·refine .inr ⟨by rw [htv, hpv], ?_⟩
     rcases Nat.lt_or_ge p.lo t.hi with g | g
     ·exfalso
      have hle : t.lo ≤ p.lo := by
       rcases Nat.lt_or_ge p.lo q.lo with g2 | g2
       ·exact absurd (.inr ⟨by rw [q1, htv, hpv], .inl g2⟩) hqp
       ·omega
      have hpl := p.lo_lt_hi
      rcases Nat.lt_or_ge t.f p.f with g3 | g3
      ·have ho2 := over_of_meet (a := p) (b := t) (by rw [htv, hpv]) (by omega) (Nat.le_refl _) hpl hle g
       obtain ⟨_, o2, _⟩ := overBk_range ho2
       exact hqp (.inr ⟨by rw [q1, htv, hpv], .inr ⟨by omega, by omega⟩⟩)
      ·exact ho (over_of_meet (by rw [htv, hpv]) g3 hle g (Nat.le_refl _) hpl)
     ·exact g
    ·exact .inl ⟨htv, hpv⟩
    ·exact absurd (.inl ⟨hpv, by rw [q1, htv]⟩) hqp
    ·refine .inr ⟨by rw [htv, hpv], ?_⟩
     rcases Nat.lt_or_ge p.lo t.hi with g | g
     ·exfalso
      have hle : t.lo ≤ p.lo := by
       rcases Nat.lt_or_ge p.lo q.lo with g2 | g2
       ·exact absurd (.inr ⟨by rw [q1, htv, hpv], .inl g2⟩) hqp
       ·omega
      have hpl := p.lo_lt_hi
      rcases Nat.lt_or_ge t.f p.f with g3 | g3
      ·have ho2 := over_of_meet (a := p) (b := t) (by rw [htv, hpv]) (by omega) (Nat.le_refl _) hpl hle g
       obtain ⟨_, o2, _⟩ := overBk_range ho2
       exact hqp (.inr ⟨by rw [q1, htv, hpv], .inr ⟨by omega, by omega⟩⟩)
      ·exact ho (over_of_meet (by rw [htv, hpv]) g3 hle g (Nat.le_refl _) hpl)
     ·exact g
   obtain ⟨a1, _⟩ := List.pairwise_cons.1 h.stk.asc
   have j := joinS_ok (t :: r) p h.stk fun x hx => by
    rcases List.mem_cons.1 hx with rfl | hx
    ·exact htp
    ·exact befB_trans (a1 x hx) htp
   refine ⟨j.1, fun v n => ?_, fun x hx => ?_⟩
   ·rw [hcov, ← h.cov]
    exact j.2.1 v n
   ·rcases j.2.2 x hx with g | ⟨g1, g2, g3⟩ | ⟨u, hu, g1, g2, g3⟩
    ·exact hlow x g
    ·exact ⟨p, by simp, g1.symm, g2.symm, g3⟩
    ·obtain ⟨z, hz, z1, z2, z3⟩ := hlow u hu
     exact ⟨z, hz, z1.trans g1.symm, z2.trans g2.symm, by omega⟩
theorem fold_ok : ∀ (l done rs : List Bk), ShB done rs → (done ++ l).Pairwise (fun a b => ¬ ordB b a) → ShB (done ++ l) (l.foldl putS rs)
 | [], done, rs, h, _ => by simpa using h
 | p :: l, done, rs, h, hs => by
  have h1 : ∀ q ∈ done, ¬ ordB p q := fun q hq => (List.pairwise_append.1 hs).2.2 q hq p List.mem_cons_self
  have e : done ++ p :: l = (done ++ [p]) ++ l := by simp
  rw [e] at hs ⊢
  exact fold_ok l (done ++ [p]) (putS rs p) (putS_ok h h1) hs
theorem short_ok {l : List Bk} (hs : l.Pairwise fun a b => ¬ ordB b a) : NormB (shortS l) ∧ ∀ v n, covB (shortS l) v n ↔ covB l v n := by
 have h := fold_ok l [] [] ⟨⟨List.Pairwise.nil, fun a ha => by cases ha⟩, fun v n => Iff.rfl, fun t ht => by cases ht⟩ (by simpa using hs)
 rw [List.nil_append] at h
 unfold shortS
 refine ⟨⟨List.pairwise_reverse.2 h.stk.asc, fun a ha b hb => h.stk.nos a (List.mem_reverse.1 ha) b (List.mem_reverse.1 hb)⟩, fun v n => ?_⟩
 rw [← h.cov]
 simp [covB]
theorem joinS_len : ∀ (rs : List Bk) (p : Bk), (joinS rs p).length ≤ rs.length + 1
 | [], _ => by simp [joinS]
 | t :: r, p => by
  unfold joinS
  split
  ·have := joinS_len r (upB t)
   simp only [List.length_cons]; omega
  ·simp
theorem putS_len (rs : List Bk) (p : Bk) : (putS rs p).length ≤ rs.length + 1 := by
 unfold putS
 split
 ·simp
 ·split
  ·omega
  ·exact joinS_len _ _
theorem short_len (l : List Bk) : (shortS l).length ≤ l.length := by
 have key : ∀ (l rs : List Bk), (l.foldl putS rs).length ≤ rs.length + l.length := by
  intro l
  induction l with
  | nil => intro rs; simp
  | cons p r ih =>
   intro rs
   have h1 := ih (putS rs p)
   have h2 := putS_len rs p
   simp only [List.foldl_cons, List.length_cons]
   omega
 unfold shortS
 have := key l []
 simpa using this
end Go.Ma
namespace Go.Ma
open Go
def Ad.wf (a : Ad) : Prop := 0 ≤ a.hi ∧ a.hi < 18446744073709551616 ∧ 0 ≤ a.lo ∧ a.lo < 18446744073709551616
theorem Ad.In.wf {a : Ad} (h : a.In) : a.wf := ⟨h.1.1, h.1.2, h.2.1, h.2.2⟩
def chkA (a : Ad) : Int := if a.v6 = false ∧ (a.hi ≠ 0 ∨ 4294967296 ≤ a.lo) then 3 else 0
def wid (v6 : Bool) : Nat := if v6 then 128 else 32
def Ad.num (a : Ad) : Nat := a.hi.toNat * 18446744073709551616 + a.lo.toNat
def ofNum (v6 : Bool) (n : Nat) : Ad := ⟨v6, (n / 18446744073709551616 : Nat), (n % 18446744073709551616 : Nat)⟩
def Ad.right (a : Ad) : Prop := a.wf ∧ chkA a = 0
theorem wrap_u64 {n : Int} (h : 0 ≤ n) (h' : n < 18446744073709551616) : IntKind.u64.wrap n = n := by
 simp only [IntKind.wrap, IntKind.bits, IntKind.signed, Bool.false_and]
 simp
 omega
theorem wrap_u64_mod (n : Int) : IntKind.u64.wrap n = n % 18446744073709551616 := by
 simp only [IntKind.wrap, IntKind.bits, IntKind.signed, Bool.false_and]
 simp
theorem right_num (a : Ad) (h : a.right) : a.num < 2 ^ wid a.v6 := by
 obtain ⟨⟨h1, h2, h3, h4⟩, hc⟩ := h
 unfold chkA at hc
 unfold Ad.num wid
 cases hv : a.v6
 ·simp only [hv] at hc ⊢
  split at hc
  ·cases hc
  ·rename_i hn
   simp only [Bool.false_eq_true, if_false]
   simp only [true_and, not_or, Decidable.not_not] at hn
   omega
 ·simp only [if_true]
  omega
theorem ofNum_num (a : Ad) (h : a.wf) : ofNum a.v6 a.num = a := by
 obtain ⟨h1, h2, h3, h4⟩ := h
 unfold ofNum Ad.num
 cases a with
 | mk v hi lo =>
  simp only at h1 h2 h3 h4
  simp only [Ad.mk.injEq, true_and]
  constructor <;> omega
theorem num_ofNum (v6 : Bool) (n : Nat) : (ofNum v6 n).num = n := by
 unfold ofNum Ad.num
 simp only [Int.toNat_natCast]
 omega
theorem num_inj {a b : Ad} (ha : a.wf) (hb : b.wf) (hv : a.v6 = b.v6) (h : a.num = b.num) : a = b := by
 rw [← ofNum_num a ha, ← ofNum_num b hb, hv, h]
theorem pow_split {r : Nat} (h : 64 ≤ r) : 2 ^ r = 2 ^ (r - 64) * 18446744073709551616 := by
 have : r = (r - 64) + 64 := by omega
 rw [this, Nat.pow_add]
 simp
theorem pow_lt64 {r : Nat} (h : r < 64) : 2 ^ r ≤ 9223372036854775808 := by
 have := Nat.pow_le_pow_right (n := 2) (by omega) (show r ≤ 63 by omega)
 simpa using this
theorem mask_small {r : Nat} (h : r < 64) : (2 ^ r - 1) / 18446744073709551616 = 0 ∧ (2 ^ r - 1) % 18446744073709551616 = 2 ^ r - 1 := by
 have := pow_lt64 h
 constructor <;> omega
theorem mask_big {r : Nat} (h : 64 ≤ r) : (2 ^ r - 1) / 18446744073709551616 = 2 ^ (r - 64) - 1 ∧ (2 ^ r - 1) % 18446744073709551616 = 18446744073709551615 := by
 have h1 := pow_split h
 have h2 := Nat.two_pow_pos (r - 64)
 generalize 2 ^ (r - 64) = q at h1 h2 ⊢
 rw [h1]
 constructor <;> omega
theorem shl_one {r : Nat} (h : r < 64) : aop .sub .u64 (aop .shl .u64 1 (r : Int)) 1 = ((2 ^ r - 1 : Nat) : Int) := by
 have h1 := pow_lt64 h
 have h2 := Nat.two_pow_pos r
 have e1 : aop .shl .u64 1 (r : Int) = ((2 ^ r : Nat) : Int) := by
  simp only [aop, IntKind.bits, Int.toNat_natCast, Nat.min_eq_left (show r ≤ 64 by omega)]
  rw [wrap_u64_mod]
  have hc : (2 : Int) ^ r = ((2 ^ r : Nat) : Int) := by push_cast; rfl
  rw [Int.one_mul, hc]
  generalize 2 ^ r = q at h1 h2 ⊢
  omega
 rw [e1]
 simp only [aop]
 rw [wrap_u64 (by omega) (by omega)]
 omega
def cutN (n k : Nat) : Nat := n / 2 ^ k * 2 ^ k
theorem andNot_mask (x : Nat) (k : Nat) (hx : x < 18446744073709551616) (hk : k ≤ 64) : aop .andNot .u64 (x : Int) ((2 ^ k - 1 : Nat) : Int) = ((x / 2 ^ k * 2 ^ k : Nat) : Int) := by
 have hp : 2 ^ k ≤ 18446744073709551616 := by
  have := Nat.pow_le_pow_right (n := 2) (by omega) hk
  simpa using this
 have hpos := Nat.two_pow_pos k
 have e1 : (BitVec.ofInt 64 (x : Int)).toNat = x := by
  rw [BitVec.ofInt_natCast, BitVec.toNat_ofNat]
  exact Nat.mod_eq_of_lt (by simpa using hx)
 have e2 : (BitVec.ofInt 64 ((2 ^ k - 1 : Nat) : Int)).toNat = 2 ^ k - 1 := by
  rw [BitVec.ofInt_natCast, BitVec.toNat_ofNat]
  exact Nat.mod_eq_of_lt (by simp only [Nat.reducePow]; omega)
 have e3 : (BitVec.ofInt 64 (x : Int) &&& ~~~ BitVec.ofInt 64 ((2 ^ k - 1 : Nat) : Int)).toNat = x / 2 ^ k * 2 ^ k := by
  rw [BitVec.toNat_and, BitVec.toNat_not, e1, e2]
  apply Nat.eq_of_testBit_eq
  intro i
  rw [Nat.testBit_and, show 2 ^ 64 - 1 - (2 ^ k - 1) = 2 ^ 64 - ((2 ^ k - 1) + 1) by omega, Nat.testBit_two_pow_sub_succ (by simp only [Nat.reducePow]; omega), Nat.testBit_two_pow_sub_one, Nat.testBit_mul_two_pow, Nat.testBit_div_two_pow]
  by_cases hi : k ≤ i
  ·rw [Nat.sub_add_cancel hi]
   by_cases h64 : i < 64
   ·simp [hi, h64, Nat.not_lt.2 hi]
   ·have : x.testBit i = false := Nat.testBit_lt_two_pow (Nat.lt_of_lt_of_le (by simpa using hx : x < 2 ^ 64) (Nat.pow_le_pow_right (by omega) (by omega)))
    simp [this]
  ·simp [hi, Nat.lt_of_not_le hi]
 simp only [aop]
 show IntKind.u64.wrap ((BitVec.ofInt 64 (x : Int) &&& ~~~ BitVec.ofInt 64 ((2 ^ k - 1 : Nat) : Int)).toNat : Int) = _
 rw [e3]
 have : x / 2 ^ k * 2 ^ k ≤ x := Nat.div_mul_le_self x _
 exact wrap_u64 (by omega) (by omega)
theorem mask_parts (k : Nat) : (2 ^ k - 1) / 18446744073709551616 = 2 ^ (k - 64) - 1 ∧ (2 ^ k - 1) % 18446744073709551616 = 2 ^ (min k 64) - 1 := by
 by_cases h : k < 64
 ·obtain ⟨h1, h2⟩ := mask_small h
  rw [show k - 64 = 0 by omega, Nat.min_eq_left (by omega)]
  exact ⟨h1, h2⟩
 ·obtain ⟨h1, h2⟩ := mask_big (r := k) (by omega)
  rw [Nat.min_eq_right (by omega)]
  exact ⟨h1, h2⟩
theorem cut_parts' (Q hi lo k : Nat) (hQ : Q = 2 ^ 64) (hlo : lo < Q) : (hi * Q + lo) / 2 ^ k * 2 ^ k = (hi / 2 ^ (k - 64) * 2 ^ (k - 64)) * Q + lo / 2 ^ (min k 64) * 2 ^ (min k 64) := by
 by_cases h : k ≤ 64
 ·have e0 : k - 64 = 0 := by omega
  rw [e0, Nat.min_eq_left h]
  have e : Q = 2 ^ k * 2 ^ (64 - k) := by
   rw [hQ, ← Nat.pow_add, show k + (64 - k) = 64 by omega]
  have hpos := Nat.two_pow_pos k
  have e2 : hi * Q + lo = 2 ^ k * (hi * 2 ^ (64 - k)) + lo := by rw [e, Nat.mul_left_comm]
  rw [e2, Nat.mul_add_div hpos, Nat.add_mul, Nat.pow_zero, Nat.div_one, Nat.mul_one, e]
  have e3 : hi * 2 ^ (64 - k) * 2 ^ k = hi * (2 ^ k * 2 ^ (64 - k)) := by rw [Nat.mul_assoc, Nat.mul_comm (2 ^ (64 - k))]
  rw [e3]
 ·have e : 2 ^ k = 2 ^ (k - 64) * Q := by
   rw [hQ, ← Nat.pow_add, show k - 64 + 64 = k by omega]
  have hpos := Nat.two_pow_pos (k - 64)
  have hQ0 : 0 < Q := by omega
  rw [Nat.min_eq_right (by omega), ← hQ, e, Nat.mul_comm (2 ^ (k - 64)) Q, ← Nat.div_div_eq_div_mul]
  have e1 : (hi * Q + lo) / Q = hi := by rw [Nat.mul_comm, Nat.mul_add_div hQ0, Nat.div_eq_of_lt hlo, Nat.add_zero]
  rw [e1, Nat.div_eq_of_lt hlo, Nat.zero_mul, Nat.add_zero, Nat.mul_comm Q, Nat.mul_assoc]
theorem cut_parts (hi lo k : Nat) (hlo : lo < 18446744073709551616) : cutN (hi * 18446744073709551616 + lo) k = (hi / 2 ^ (k - 64) * 2 ^ (k - 64)) * 18446744073709551616 + lo / 2 ^ (min k 64) * 2 ^ (min k 64) :=
 cut_parts' 18446744073709551616 hi lo k (by decide) hlo
def cutA (a : Ad) (bits : Int) : Ad := ofNum a.v6 (cutN a.num (wid a.v6 - bits.toNat))
def maskA (v6 : Bool) (bits : Int) : Ad := ofNum v6 (2 ^ (wid v6 - bits.toNat) - 1)
def lastA (p : Pf) : Ad := ofNum p.ad.v6 (p.ad.num + (2 ^ (wid p.ad.v6 - p.bits.toNat) - 1))
theorem cutA_parts (a : Ad) (h : a.wf) (bits : Int) : cutA a bits =
  ⟨a.v6, ((a.hi.toNat / 2 ^ (wid a.v6 - bits.toNat - 64) * 2 ^ (wid a.v6 - bits.toNat - 64) : Nat) : Int), ((a.lo.toNat / 2 ^ (min (wid a.v6 - bits.toNat) 64) * 2 ^ (min (wid a.v6 - bits.toNat) 64) : Nat) : Int)⟩ := by
 obtain ⟨h1, h2, h3, h4⟩ := h
 unfold cutA Ad.num
 rw [cut_parts _ _ _ (by omega)]
 have hlt : a.lo.toNat / 2 ^ (min (wid a.v6 - bits.toNat) 64) * 2 ^ (min (wid a.v6 - bits.toNat) 64) < 18446744073709551616 := Nat.lt_of_le_of_lt (Nat.div_mul_le_self _ _) (by omega)
 generalize a.lo.toNat / 2 ^ (min (wid a.v6 - bits.toNat) 64) * 2 ^ (min (wid a.v6 - bits.toNat) 64) = lo at hlt ⊢
 generalize a.hi.toNat / 2 ^ (wid a.v6 - bits.toNat - 64) * 2 ^ (wid a.v6 - bits.toNat - 64) = hi
 unfold ofNum
 simp only [Ad.mk.injEq, true_and]
 constructor <;> omega
theorem maskA_parts (v6 : Bool) (bits : Int) : maskA v6 bits = ⟨v6, ((2 ^ (wid v6 - bits.toNat - 64) - 1 : Nat) : Int), ((2 ^ (min (wid v6 - bits.toNat) 64) - 1 : Nat) : Int)⟩ := by
 unfold maskA ofNum
 rw [(mask_parts _).1, (mask_parts _).2]
def chkP (p : Pf) : Int :=
 if chkA p.ad ≠ 0 then chkA p.ad else if p.bits < 0 ∨ p.bits > wid p.ad.v6 then 3 else if cutA p.ad p.bits ≠ p.ad then 4 else 0
theorem chkP_bits {p : Pf} (h : chkP p = 0) : 0 ≤ p.bits ∧ p.bits ≤ (wid p.ad.v6 : Nat) := by
 unfold chkP at h
 split at h
 ·rename_i h1; exact absurd h h1
 split at h
 ·cases h
 ·rename_i h1; simp only [not_or] at h1; omega
def ordI (x y : Int) : Int := if x < y then -1 else if x > y then 1 else 0
def ordA (a b : Ad) : Int := if a.v6 ≠ b.v6 ∧ b.v6 then -1 else if a.v6 ≠ b.v6 then 1 else if a.hi ≠ b.hi then ordI a.hi b.hi else ordI a.lo b.lo
def ordP (p q : Pf) : Int := if ordA p.ad q.ad ≠ 0 then ordA p.ad q.ad else p.bits - q.bits
def holds (p : Pf) (a : Ad) : Bool := p.ad.v6 == a.v6 && decide (cutA a p.bits = p.ad)
def over (p q : Pf) : Bool := decide (p.bits ≤ q.bits) && holds p q.ad
def bitV (n i : Nat) : UInt8 := if n.testBit i then 49 else 48
def bitsTo (n top cnt : Nat) : List UInt8 := (List.range cnt).map fun j => bitV n (top - j)
theorem bitsTo_succ (n top c : Nat) : bitsTo n top (c + 1) = bitsTo n top c ++ [bitV n (top - c)] := by
 simp [bitsTo, List.range_succ]
theorem bitsTo_length (n top c : Nat) : (bitsTo n top c).length = c := by simp [bitsTo]
def bitsA (a : Ad) : List UInt8 := if a.v6 then bitsTo a.hi.toNat 63 64 ++ bitsTo a.lo.toNat 63 64 else (bitsTo a.hi.toNat 63 64 ++ bitsTo a.lo.toNat 63 64).drop 96
def ofBytes (l : List UInt8) : ByteArray := ⟨l.toArray⟩
theorem bit_step (x i : Int) (hx : 0 ≤ x) (hx' : x < 18446744073709551616) (hi : 0 ≤ i) (hi' : i ≤ 63) :
  IntKind.u8.wrap (aop .add .u64 48 (aop .rem .u64 (aop .shr .u64 x i) 2)) = ((bitV x.toNat i.toNat).toNat : Int) := by
 obtain ⟨n, rfl⟩ := Int.eq_ofNat_of_zero_le hx
 obtain ⟨k, rfl⟩ := Int.eq_ofNat_of_zero_le hi
 have e1 : aop .shr .u64 (n : Int) (k : Int) = ((n / 2 ^ k : Nat) : Int) := by
  simp only [aop, Int.toNat_natCast, IntKind.bits, Nat.min_eq_left (show k ≤ 64 by omega)]
  rw [show ((2 : Int) ^ k) = ((2 ^ k : Nat) : Int) by push_cast; rfl, Int.fdiv_eq_ediv_of_nonneg _ (Int.natCast_nonneg _)]
  rfl
 have e2 : aop .rem .u64 ((n / 2 ^ k : Nat) : Int) 2 = ((n / 2 ^ k % 2 : Nat) : Int) := by
  simp only [aop]
  rw [Int.tmod_eq_emod_of_nonneg (Int.natCast_nonneg _)]
  rfl
 rw [e1, e2]
 have hb : n.testBit k = decide (n / 2 ^ k % 2 = 1) := Nat.testBit_eq_decide_div_mod_eq ..
 simp only [Int.toNat_natCast, bitV, hb]
 have hlt : n / 2 ^ k % 2 < 2 := Nat.mod_lt _ (by omega)
 generalize n / 2 ^ k % 2 = q at hlt ⊢
 match q, hlt with
 | 0, _ => decide
 | 1, _ => decide
end Go.Ma
namespace Go.Ma
open Go Go.RowKit
end Go.Ma
namespace Go.Ma
open Go Go.RowKit
section
variable {W : World} {ρ : Nat → Value} {m : Mem} {w : World} (hm : RelM W ρ m w)
include hm
end
end Go.Ma
namespace Go.Ma
open Go Go.RowKit
def takeA (args : List SV) (m : Mem) : Option (Bool × List SV × Mem) :=
 match args with
 | .inn jb i :: r => (takeM m jb i).map fun m' => (decide (0 ≤ i), .row (m.length + 1) :: r, m')
 | _ => none
def delArgs (k : K) (e : TypeId) (args : List SV) (m : Mem) : Option (Nat × List k.T × Int × Int) :=
 match args with
 | [.row j, .i .i64 a, .i .i64 b] => (match m[j]? with | some (.row (.ty k1 l) bt true) => if h : k1 = k then (if bt == e then some (j, castL h l, a, b) else none) else none | _ => none)
 | _ => none
def adLt (a b : Ad) : Bool := (!a.v6 && b.v6) || (a.v6 == b.v6 && (decide (a.hi < b.hi) || (decide (a.hi = b.hi) && decide (a.lo < b.lo))))
theorem RelM.rewritten {W : World} {ρ : Nat → Value} {m : Mem} {w w' : World} (hm : RelM W ρ m w) {j : Nat} {c : C} {bt : TypeId} (hj : m[j]? = some (.row c bt true)) {k : K} {l : List k.T} {e : TypeId}
  (hown' : w'.ownsRow W.heap.size e k.sz (ρ j) l.length (l.flatMap fun a => denL ρ (k.enc a))) (hgb : w.grownBy w' (ρ j).ownBlock) : RelM W ρ (m.set j (.row (.ty k l) e true)) w' := by
 have hjl : j < m.length := (List.getElem?_eq_some_iff.1 hj).1
 have hset : ∀ (i : Nat) (x : Obj), (m.set j (.row (.ty k l) e true))[i]? = some x → (i = j ∧ x = .row (.ty k l) e true) ∨ (i ≠ j ∧ m[i]? = some x) := by
  intro i x hi
  by_cases hij : i = j
  ·subst hij
   rw [List.getElem?_set_self hjl] at hi
   injection hi with hi
   exact .inl ⟨rfl, hi.symm⟩
  ·rw [List.getElem?_set_ne (by omega)] at hi
   exact .inr ⟨hij, hi⟩
 have hjow : ∀ b, (ρ j).ownBlock = some b → b ∈ valBlocks (ρ j) := by
  intro b hb
  refine mem_blocks ?_
  revert hb
  cases ρ j <;> simp [Value.ownBlock, valBlock]
  rename_i A1 _ _
  cases A1 <;> simp
 have hbase : ∀ b, (ρ j).ownBlock = some b → W.heap.size ≤ b := by
  intro b hb
  obtain ⟨_, _, hown⟩ := hm.obj j _ hj
  rw [if_pos rfl] at hown
  rcases hown.2 with ⟨h, _⟩ | ⟨g, cp, cur, h, h2, _⟩
  ·rw [h] at hb; cases hb
  ·rw [h] at hb
   simp only [Value.ownBlock, Option.some.injEq] at hb
   omega
 refine ⟨hm.below.grown hgb hm.below.size hbase, fun i o hi => ?_, fun i q o1 o2 hiq hi hq hmu hd => ?_, fun i o hi => ?_⟩
 ·rcases hset i o hi with ⟨rfl, rfl⟩ | ⟨hne, hi⟩
  ·refine ⟨(sz_pos k : 0 < k.sz), fun u hu => flat_one' hu, ?_⟩
   rw [if_pos rfl]
   exact hown'
  ·cases hdd : o.deadB
   ·exact (hm.obj i o hi).keep (fun b hb hlt => hgb.block b hlt (fun e => hm.sep j i _ o (by omega) hj hi rfl (deadB_iff.2 hdd) b (hjow b e.symm) hb)) hgb.size
   ·exact (hm.obj i o hi).still hdd
 ·have hi' : ∃ o1', m[i]? = some o1' ∧ o1'.mutB = true := by
   rcases hset i o1 hi with ⟨rfl, rfl⟩ | ⟨hne, hi⟩
   ·exact ⟨_, hj, rfl⟩
   ·exact ⟨_, hi, hmu⟩
  have hq' : ∃ o2', m[q]? = some o2' ∧ (o2' matches .dead _) = false ∧ o2.blocks = o2'.blocks := by
   rcases hset q o2 hq with ⟨rfl, rfl⟩ | ⟨hne, hq⟩
   ·exact ⟨_, hj, rfl, rfl⟩
   ·exact ⟨_, hq, hd, rfl⟩
  obtain ⟨o1', hi', hm'⟩ := hi'
  obtain ⟨o2', hq', hd', hbl⟩ := hq'
  rw [hbl]
  exact hm.sep i q o1' o2' hiq hi' hq' hm' hd'
 ·rw [List.length_set]
  rcases hset i o hi with ⟨rfl, rfl⟩ | ⟨_, hi⟩
  ·rfl
  ·exact hm.lt i o hi
def sortArgs (k : K) (e : TypeId) (g : FuncId) (args : List SV) (m : Mem) : Option (Nat × List k.T) :=
 match args with
 | [.row j, .fn g' []] => (match m[j]? with | some (.row (.ty k1 l) bt true) => if h : k1 = k then (if bt == e && g' == g then some (j, castL h l) else none) else none | _ => none)
 | _ => none
def sortCon (k : K) (ok : List k.T → Bool) (srt : List k.T → List k.T) (e : TypeId) (g : FuncId) : Con :=
 {tr := fun _ args m kk => match sortArgs k e g args m with
   | some (j, l) => req (ok l) (kk (.tup []) (m.set j (.row (.ty k (srt l)) e true)))
   | none => none
  q := false, law := false, det := true }
theorem sortArgs_ok {k : K} {e : TypeId} {g : FuncId} {args : List SV} {m : Mem} {j : Nat} {l : List k.T} (h : sortArgs k e g args m = some (j, l)) : args = [.row j, .fn g []] ∧ m[j]? = some (.row (.ty k l) e true) := by
 unfold sortArgs at h
 split at h
 ·split at h
  ·rename_i hj
   split at h
   ·rename_i hk
    subst hk
    split at h
    ·rename_i hc
     simp only [Bool.and_eq_true, beq_iff_eq] at hc
     obtain ⟨rfl, rfl⟩ := hc
     simp only [Option.some.injEq, Prod.mk.injEq] at h
     obtain ⟨rfl, rfl⟩ := h
     exact ⟨rfl, hj⟩
    ·cases h
   ·cases h
  ·cases h
 ·cases h
theorem sort_ok {P : Program} {f : FuncId} (k : K) (ok : List k.T → Bool) (srt : List k.T → List k.T) (e : TypeId) (g : FuncId)
  (h : ∀ (W : World), Glob P W → ∀ (base : Nat) (w : World) (v : Value) (l : List k.T) (ρ : Nat → Value), Below W.heap.size W w → w.ownsRow base e k.sz v l.length (l.flatMap fun a => denL ρ (k.enc a)) → base ≤ w.heap.size → ok l = true →
   Calls P f #[v, .func (.func g) #[] #[]] w fun r w' => r = .returned (.tuple #[]) ∧ w'.ownsRow base e k.sz v (srt l).length ((srt l).flatMap fun a => denL ρ (k.enc a)) ∧ w.grownBy w' v.ownBlock) : TrOk P f (sortCon k ok srt e g) := by
 have inv : ∀ {X : Type} {args : List SV} {m : Mem} {kk : SV → Mem → Option X} {x : X}, (sortCon k ok srt e g).tr X args m kk = some x → ∃ (j : Nat) (l : List k.T), sortArgs k e g args m = some (j, l) ∧ ok l = true ∧ kk (.tup []) (m.set j (.row (.ty k (srt l)) e true)) = some x := by
  intro X args m kk x hk
  simp only [sortCon] at hk
  split at hk
  ·rename_i j l ha
   obtain ⟨h1, h2⟩ := req_some hk
   exact ⟨j, l, ha, h1, h2⟩
  ·cases hk
 refine ⟨fun W hG X args m kk x hk _ => ⟨fun _ ρ w hm => ?_⟩, (fun hq => by cases hq), fun _ X args m kk x hk => ?_⟩
 ·obtain ⟨j, l, ha, hap, hk2⟩ := inv hk
  clear hk
  obtain ⟨rfl, hj⟩ := sortArgs_ok ha
  obtain ⟨_, hc1, ho1⟩ := hm.obj j _ hj
  rw [if_pos rfl] at ho1
  have hd1 : den ρ (.row j) = ρ j := row_val hm hj
  have ed : (denL ρ [.row j, .fn g []]).toArray = #[ρ j, .func (.func g) #[] #[]] := by
   show #[den ρ (.row j), den ρ (.fn g [])] = _
   rw [hd1]
   rfl
  rw [ed]
  refine (h W hG W.heap.size w (ρ j) l ρ hm.below ho1 hm.below.size hap).mono ?_
  rintro r w' ⟨rfl, hown, hgb⟩
  exact ⟨ρ, .tup [], _, rfl, hm.rewritten (k := k) hj hown hgb, Agree.refl _ _, by simp, fun _ => rfl, hk2⟩
 ·obtain ⟨j, l, ha, hap, hk2⟩ := inv hk
  refine ⟨.tup [], _, ?_, hk2, fun hl => by cases hl⟩
  simp only [sortCon, ha]
  rw [hap]
  rfl
theorem adLt_iff (a b : Ad) : adLt a b = true ↔ (a.v6 = false ∧ b.v6 = true) ∨ (a.v6 = b.v6 ∧ (a.hi < b.hi ∨ (a.hi = b.hi ∧ a.lo < b.lo))) := by
 unfold adLt
 cases a.v6 <;> cases b.v6 <;> simp
theorem adLt_not {a b : Ad} : adLt a b = false ↔ ¬ adLt a b = true := by cases adLt a b <;> simp
theorem adLt_irrefl (a : Ad) : adLt a a = false := by
 rw [adLt_not, adLt_iff]
 rintro (⟨h1, h2⟩ | ⟨_, h | ⟨_, h⟩⟩)
 ·rw [h1] at h2; cases h2
 ·omega
 ·omega
theorem adLt_trans {a b c : Ad} (h1 : adLt a b = true) (h2 : adLt b c = true) : adLt a c = true := by
 rw [adLt_iff] at *
 rcases h1 with ⟨p1, p2⟩ | ⟨p1, p2⟩ <;> rcases h2 with ⟨q1, q2⟩ | ⟨q1, q2⟩
 ·rw [p2] at q1; cases q1
 ·exact .inl ⟨p1, by rw [← q1]; exact p2⟩
 ·exact .inl ⟨by rw [p1]; exact q1, q2⟩
 ·exact .inr ⟨p1.trans q1, by omega⟩
theorem adLt_tri (a b : Ad) (h1 : adLt a b = false) (h2 : adLt b a = false) : a = b := by
 rw [adLt_not, adLt_iff] at h1 h2
 obtain ⟨av, ah, al⟩ := a
 obtain ⟨bv, bh, bl⟩ := b
 simp only at h1 h2
 have hv : av = bv := by cases av <;> cases bv <;> simp_all
 subst hv
 have e1 : ah = bh := by
  rcases Int.lt_trichotomy ah bh with h | h | h
  ·exact absurd (.inr ⟨rfl, .inl h⟩) h1
  ·exact h
  ·exact absurd (.inr ⟨rfl, .inl h⟩) h2
 subst e1
 have e2 : al = bl := by
  rcases Int.lt_trichotomy al bl with h | h | h
  ·exact absurd (.inr ⟨rfl, .inr ⟨rfl, h⟩⟩) h1
  ·exact h
  ·exact absurd (.inr ⟨rfl, .inr ⟨rfl, h⟩⟩) h2
 subst e2
 rfl
end Go.Ma
namespace Go.Ma
open Go
def pfLt (p q : Pf) : Bool := adLt p.ad q.ad || (decide (p.ad = q.ad) && decide (p.bits < q.bits))
def insP (x : Pf) : List Pf → List Pf
 | [] => [x]
 | y :: r => if pfLt y x then y :: insP x r else x :: y :: r
def sortP : List Pf → List Pf
 | [] => []
 | x :: r => insP x (sortP r)
def sortOkP (l : List Pf) : Bool := room (lenL l) 0 && l.all (fun p => decide (0 ≤ p.bits) && decide (p.bits ≤ 128))
theorem pfLt_irrefl (p : Pf) : pfLt p p = false := by
 unfold pfLt
 rw [adLt_irrefl, decide_eq_false (show ¬ p.bits < p.bits by omega), Bool.and_false]
 rfl
theorem pfLt_iff (p q : Pf) : pfLt p q = true ↔ adLt p.ad q.ad = true ∨ (p.ad = q.ad ∧ p.bits < q.bits) := by
 unfold pfLt
 simp
theorem pfLt_trans {a b c : Pf} (h1 : pfLt a b = true) (h2 : pfLt b c = true) : pfLt a c = true := by
 rw [pfLt_iff] at *
 rcases h1 with p | ⟨p1, p2⟩ <;> rcases h2 with q | ⟨q1, q2⟩
 ·exact .inl (adLt_trans p q)
 ·exact .inl (by rw [← q1]; exact p)
 ·exact .inl (by rw [p1]; exact q)
 ·exact .inr ⟨p1.trans q1, by omega⟩
theorem pfLt_tri (a b : Pf) (h1 : pfLt a b = false) (h2 : pfLt b a = false) : a = b := by
 have h1 : ¬ pfLt a b = true := by simp [h1]
 have h2 : ¬ pfLt b a = true := by simp [h2]
 rw [pfLt_iff] at h1 h2
 have e1 : a.ad = b.ad := adLt_tri _ _ (by simpa using fun h => h1 (.inl h)) (by simpa using fun h => h2 (.inl h))
 have e2 : a.bits = b.bits := by
  rcases Int.lt_trichotomy a.bits b.bits with h | h | h
  ·exact absurd (.inr ⟨e1, h⟩) h1
  ·exact h
  ·exact absurd (.inr ⟨e1.symm, h⟩) h2
 obtain ⟨aa, ab⟩ := a
 obtain ⟨ba, bb⟩ := b
 simp only at e1 e2
 rw [e1, e2]
theorem pfLt_ntrans {a b c : Pf} (h1 : pfLt a b = false) (h2 : pfLt b c = false) : pfLt a c = false := by
 cases h : pfLt a c
 ·rfl
 ·exfalso
  cases hb : pfLt b a
  ·have := pfLt_tri a b h1 hb
   subst this
   rw [h2] at h; cases h
  ·have := pfLt_trans hb h
   rw [h2] at this; cases this
theorem pfLt_asymm {a b : Pf} (h : pfLt a b = true) : pfLt b a = false := by
 cases hb : pfLt b a
 ·rfl
 ·have := pfLt_trans h hb
  rw [pfLt_irrefl] at this; cases this
theorem insP_perm (x : Pf) : ∀ l : List Pf, (insP x l).Perm (x :: l)
 | [] => .refl _
 | y :: r => by
  unfold insP
  split
  ·exact ((insP_perm x r).cons y).trans (.swap x y r)
  ·exact .refl _
theorem sortP_perm : ∀ l : List Pf, (sortP l).Perm l
 | [] => .refl _
 | x :: r => (insP_perm x (sortP r)).trans ((sortP_perm r).cons x)
def leP (a b : Pf) : Prop := pfLt b a = false
theorem insP_pw (x : Pf) : ∀ l : List Pf, l.Pairwise leP → (insP x l).Pairwise leP
 | [], _ => by simp [insP]
 | y :: r, h => by
  have h' := List.pairwise_cons.1 h
  unfold insP
  split
  ·rename_i hlt
   refine List.pairwise_cons.2 ⟨fun z hz => ?_, insP_pw x r h'.2⟩
   rcases List.mem_cons.1 ((insP_perm x r).mem_iff.1 hz) with rfl | hz
   ·exact pfLt_asymm hlt
   ·exact h'.1 z hz
  ·rename_i hlt
   have hyx : pfLt y x = false := by simpa using hlt
   refine List.pairwise_cons.2 ⟨fun z hz => ?_, h⟩
   rcases List.mem_cons.1 hz with rfl | hz
   ·exact hyx
   ·exact pfLt_ntrans (h'.1 z hz) hyx
theorem sortP_pw : ∀ l : List Pf, (sortP l).Pairwise leP
 | [] => .nil
 | x :: r => insP_pw x _ (sortP_pw r)
theorem sortP_uniq {l l' : List Pf} (hp : l'.Perm l) (hs : l'.Pairwise leP) : l' = sortP l :=
 List.Perm.eq_of_pairwise (le := leP) (fun _ _ _ _ h1 h2 => pfLt_tri _ _ h2 h1) hs (sortP_pw l) (hp.trans (sortP_perm l).symm)
end Go.Ma
